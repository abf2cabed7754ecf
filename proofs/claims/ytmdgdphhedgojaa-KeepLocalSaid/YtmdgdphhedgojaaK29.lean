import Derived.Test.YtmdgdphhedgojaaK28
namespace Go.Proofs.Ytmdgdphhedgojaa
open Go.RowKit Go.Maps

/-- Weights and lengths of one part have changed. -/
structure Lch (Fl : List Int) (ws ws' : List Int) (ns ns' : List (Int × Int × Int)) : Prop where
  lw : ws'.length = ws.length
  ln : ns'.length = ns.length
  w : ∀ f : Nat, (f : Int) ∉ Fl → ws'.getD f 0 = ws.getD f 0
  n : ∀ (j : Nat) t t', ns[j]? = some t → ns'[j]? = some t' → t'.1 = t.1 ∧ t'.2.1 = t.2.1 ∧ (t.1 ∉ Fl → t' = t)
theorem Lch.refl (Fl ws : List Int) (ns : List (Int × Int × Int)) : Lch Fl ws ws ns ns := ⟨rfl, rfl, fun _ _ => rfl, fun j t t' h h' => by
  obtain rfl := Option.some.inj (h.symm.trans h')
  exact ⟨rfl, rfl, fun _ => rfl⟩⟩
theorem Lch.setW {Fl ws ws' : List Int} {ns ns' : List (Int × Int × Int)} (h : Lch Fl ws ws' ns ns') {f : Nat} (hf : (f : Int) ∈ Fl) (x : Int) : Lch Fl ws (ws'.set f x) ns ns' := ⟨by rw [List.length_set]; exact h.lw, h.ln, fun g hg => by
  have hne : f ≠ g := fun e => hg (e ▸ hf)
  rw [← h.w g hg, List.getD, List.getD, List.getElem?_set_ne hne], h.n⟩
theorem Lch.setN {Fl ws ws' : List Int} {ns ns' : List (Int × Int × Int)} (h : Lch Fl ws ws' ns ns') {j : Nat} {a b c : Int} (hj : ns'[j]? = some (a, b, c)) (ha : a ∈ Fl) (x : Int) : Lch Fl ws ws' ns (ns'.set j (a, b, x)) := ⟨h.lw, by rw [List.length_set]; exact h.ln, h.w, fun i t t' ht ht' => by
  by_cases e : j = i
  · subst e
    have hl : j < ns'.length := (List.getElem?_eq_some_iff.1 hj).1
    rw [List.getElem?_set_self hl] at ht'
    obtain rfl := Option.some.inj ht'
    obtain ⟨h1, h2, _⟩ := h.n j t _ ht hj
    exact ⟨h1, h2, fun hn => absurd (h1 ▸ ha) hn⟩
  · rw [List.getElem?_set_ne e] at ht'
    exact h.n i t t' ht ht'⟩
theorem GV.setW {ws : List Int} {ns : List (Int × Int × Int)} (h : GV ws ns) {x : Int} (hx : 0 ≤ x ∧ x ≤ 1099511627776) (f : Nat) : GV (ws.set f x) ns := ⟨by rw [List.length_set]; exact h.n1, h.n2, fun z hz => by
  rcases List.mem_or_eq_of_mem_set hz with hz | rfl
  · exact h.w z hz
  · exact hx, fun u hu => by rw [List.length_set]; exact h.t u hu, h.s⟩
theorem GV.setN {ws : List Int} {ns : List (Int × Int × Int)} (h : GV ws ns) {j : Nat} {a b c x : Int} (hj : ns[j]? = some (a, b, c)) (hx : 1 ≤ x ∧ x ≤ 1099511627776) : GV ws (ns.set j (a, b, x)) := ⟨h.n1, by rw [List.length_set]; exact h.n2, h.w, fun u hu => by
  rcases List.mem_or_eq_of_mem_set hu with hu | rfl
  · exact h.t u hu
  · have := h.t _ (List.mem_of_getElem? hj)
    exact ⟨this.1, this.2.1, this.2.2.1, hx⟩, by
  have hs := h.s
  obtain ⟨hl, he⟩ := List.getElem?_eq_some_iff.1 hj
  rw [List.pairwise_iff_getElem] at hs ⊢
  intro i k hi hk hik
  rw [List.length_set] at hi hk
  have h1 := hs i k hi hk hik
  rw [List.getElem_set, List.getElem_set]
  split
  · rename_i e
    subst e
    rw [if_neg (by omega)]
    rw [he] at h1
    simpa [lexT] using h1
  · split
    · rename_i e
      subst e
      rw [he] at h1
      simpa [lexT] using h1
    · exact h1⟩
theorem fold_pairs : ∀ (ns ns' : List (Int × Int × Int)) (of : List Int), ns'.length = ns.length → (∀ (j : Nat) t t', ns[j]? = some t → ns'[j]? = some t' → t'.1 = t.1 ∧ t'.2.1 = t.2.1) → ns'.foldl joined of = ns.foldl joined of
  | [], [], _, _, _ => rfl
  | [], _ :: _, _, h, _ => by simp at h
  | _ :: _, [], _, h, _ => by simp at h
  | t :: ns, t' :: ns', of, hl, h => by
    obtain ⟨h1, h2⟩ := h 0 t t' rfl rfl
    rw [List.foldl_cons, List.foldl_cons, show joined of t' = joined of t by rw [joined, joined, h1, h2]]
    exact fold_pairs ns ns' _ (by simpa using hl) (fun j u u' hu hu' => h (j + 1) u u' (by simpa using hu) (by simpa using hu'))
theorem inN_eq (p : Nat → Bool) : ∀ (ns ns' : List (Int × Int × Int)), ns'.length = ns.length → (∀ (j : Nat) t t', ns[j]? = some t → ns'[j]? = some t' → t'.1 = t.1 ∧ (p t.1.toNat = true → t' = t)) → inN ns' p = inN ns p
  | [], [], _, _ => rfl
  | [], _ :: _, h, _ => by simp at h
  | _ :: _, [], h, _ => by simp at h
  | t :: ns, t' :: ns', hl, h => by
    obtain ⟨h1, h2⟩ := h 0 t t' rfl rfl
    have ih := inN_eq p ns ns' (by simpa using hl) (fun j u u' hu hu' => h (j + 1) u u' (by simpa using hu) (by simpa using hu'))
    unfold inN at ih ⊢
    rw [List.filter_cons, List.filter_cons, h1]
    by_cases hp : p t.1.toNat = true
    · rw [if_pos hp, if_pos hp, List.map_cons, List.map_cons, ih, h2 hp]
    · rw [if_neg hp, if_neg hp, ih]
theorem filter_one {α : Type} {P : α → Bool} : ∀ (L : List α) (k : Nat), (∀ (i : Nat) d, i ≠ k → L[i]? = some d → P d = false) → L.filter P = [] ∨ ∃ d, L[k]? = some d ∧ L.filter P = [d]
  | [], _, _ => .inl rfl
  | a :: L, 0, h => by
    have hn : L.filter P = [] := by
      rw [List.filter_eq_nil_iff]
      intro d hd
      obtain ⟨i, hi⟩ := List.getElem?_of_mem hd
      simp [h (i + 1) d (by omega) (by simpa using hi)]
    rw [List.filter_cons, hn]
    split
    · exact .inr ⟨a, rfl, rfl⟩
    · exact .inl rfl
  | a :: L, k + 1, h => by
    have ha := h 0 a (by omega) rfl
    rw [List.filter_cons, ha]
    simp only [Bool.false_eq_true, if_false, List.getElem?_cons_succ]
    exact filter_one L k fun i d hi hd => h (i + 1) d (by omega) (by simpa using hd)

theorem Lch.news {Fl ws ws' Wl : List Int} {ns ns' Nl : List (Int × Int × Int)} (h : Lch Fl ws ws' ns ns') (hv : GV ws ns) {kp : Nat} (hd : (partsD ws ns)[kp]? = some (Fl, Wl, Nl)) :
    (newsD (partsD ws ns) (partsD ws' ns')).length = 0 ∧ incD (newsD (partsD ws ns) (partsD ws' ns')) = 0 ∨ (newsD (partsD ws ns) (partsD ws' ns')).length = 1 ∧ incD (newsD (partsD ws ns) (partsD ws' ns')) = Fl.length ∧ 1 ≤ Fl.length := by
  obtain ⟨r, hr, hF, _, _⟩ := partsD_at hd
  have hc : comp ns' ws'.length = comp ns ws.length := by
    rw [comp, comp, h.lw]
    exact fold_pairs ns ns' _ h.ln fun j t t' ht ht' => ⟨(h.n j t t' ht ht').1, (h.n j t t' ht ht').2.1⟩
  have hmF : ∀ f : Nat, (f : Int) ∈ Fl → inP (comp ns ws.length) r f = true := fun f hf => by
    rw [hF] at hf
    obtain ⟨g, hg, e⟩ := List.mem_map.1 hf
    obtain rfl : g = f := by omega
    exact (List.mem_filter.1 hg).2
  have hm := mem_rts.1 (List.mem_of_getElem? hr)
  have hat : ∀ (i : Nat) d, i ≠ kp → (partsD ws' ns')[i]? = some d → (partsD ws ns)[i]? = some d := fun i d hi hd' => by
    rw [partsD, partsO, hc, h.lw, List.getElem?_map] at hd'
    rw [partsD, partsO, List.getElem?_map]
    cases hx : (rts (comp ns ws.length) ws.length)[i]? with
    | none => rw [hx] at hd'; cases hd'
    | some r' =>
      rw [hx] at hd'
      rw [← hd']
      have hrr : r' ≠ r := fun e => hi ((List.getElem?_inj (List.getElem?_eq_some_iff.1 hx).1 (rts_nodup _ _)).1 (by rw [hx, hr, e]))
      have hno : ∀ f : Nat, inP (comp ns ws.length) r' f = true → (f : Int) ∉ Fl := fun f hf hc' => by
        have h1 := hmF f hc'
        simp [inP] at h1 hf
        omega
      simp only [Option.map_some]
      congr 2
      congr 1
      · unfold inW
        congr 1
        refine List.map_congr_left fun f hf => ?_
        exact (h.w f (hno f (List.mem_filter.1 hf).2)).symm
      · refine (inN_eq _ ns ns' h.ln fun j t t' ht ht' => ⟨(h.n j t t' ht ht').1, fun hp => (h.n j t t' ht ht').2.2 fun hc' => ?_⟩).symm
        have h0 := (hv.t t (List.mem_of_getElem? ht)).1
        refine hno t.1.toNat hp ?_
        rw [Int.toNat_of_nonneg h0]
        exact hc'
  have hk : ∀ d, (partsD ws' ns')[kp]? = some d → d.1 = Fl := fun d hd' => by
    rw [partsD, partsO, hc, h.lw, List.getElem?_map, hr] at hd'
    rw [← Option.some.inj hd', hF]
  have h1 : 1 ≤ Fl.length := by
    rw [hF, List.length_map]
    have : r ∈ fcs (inP (comp ns ws.length) r) ws.length := List.mem_filter.2 ⟨List.mem_range.2 hm.1, by simpa [inP, hm.2.1] using hm.2.2⟩
    exact List.length_pos_of_mem this
  have hf := filter_one (P := fun d : List Int × List Int × List (Int × Int × Int) => decide (d.2 ∉ (partsD ws ns).map fun e => e.2)) (partsD ws' ns') kp (fun i d hi hd' => by
    have hm' : d.2 ∈ (partsD ws ns).map fun e => e.2 := List.mem_map.2 ⟨d, List.mem_of_getElem? (hat i d hi hd'), rfl⟩
    exact decide_eq_false (fun hc' => hc' hm'))
  change newsD (partsD ws ns) (partsD ws' ns') = [] ∨ ∃ d, (partsD ws' ns')[kp]? = some d ∧ newsD (partsD ws ns) (partsD ws' ns') = [d] at hf
  rcases hf with e | ⟨d, hd', e⟩
  · exact .inl (by rw [e]; exact ⟨rfl, rfl⟩)
  · refine .inr ?_
    rw [e]
    refine ⟨rfl, ?_, h1⟩
    simp [incD, hk d hd']
/-- The walk's own list of cells. -/
theorem triC_set {ns : List (Int × Int × Int)} {j : Nat} {a b c : Int} (hj : ns[j]? = some (a, b, c)) (x : Int) : (triC ns).set (3 * j + 2) (.int .i64 x) = triC (ns.set j (a, b, x)) := by
  induction ns generalizing j with
  | nil => cases hj
  | cons t ns ih =>
    cases j with
    | zero =>
      obtain rfl : t = (a, b, c) := by simpa using hj
      rfl
    | succ j =>
      have e : 3 * (j + 1) + 2 = 3 * j + 2 + 1 + 1 + 1 := by omega
      rw [e, List.set_cons_succ]
      show _ :: (_ :: _ :: triC ns).set (3 * j + 2 + 1 + 1) _ = _
      rw [List.set_cons_succ, List.set_cons_succ, ih (by simpa using hj)]
      rfl
theorem part_ne {Fl ws Wl : List Int} {ns Nl : List (Int × Int × Int)} {kp : Nat} (hd : (partsD ws ns)[kp]? = some (Fl, Wl, Nl)) : 1 ≤ Fl.length := by
  obtain ⟨r, hr, hF, _, _⟩ := partsD_at hd
  have hm := mem_rts.1 (List.mem_of_getElem? hr)
  rw [hF, List.length_map]
  have : r ∈ fcs (inP (comp ns ws.length) r) ws.length := List.mem_filter.2 ⟨List.mem_range.2 hm.1, by simpa [inP, hm.2.1] using hm.2.2⟩
  exact List.length_pos_of_mem this
/-- A copy of a graph of which one part is changed. -/
structure LW (w0 w : World) (T : Nat) (A B : Option Addr) (c d : Nat) (Fl ws ws' : List Int) (ns ns' : List (Int × Int × Int)) : Prop where
  bk : Bk w T 36 #[.slice A ws.length c, .slice B ns.length d]
  a : w.ownsRow w0.heap.size 3 1 (.slice A ws.length c) ws.length (ws'.map (Value.int .i64))
  b : w.ownsRow w0.heap.size 52 3 (.slice B ns.length d) ns.length (triC ns')
  lc : Lch Fl ws ws' ns ns'
  gv : GV ws' ns'
  bl : Below w0.heap.size w0 w
theorem LW.setW {w0 w : World} {T g : Nat} {B : Option Addr} {c d : Nat} {Fl ws ws' : List Int} {ns ns' : List (Int × Int × Int)} (h : LW w0 w T (some ⟨g, 0, none⟩) B c d Fl ws ws' ns ns') {f : Nat} (hf : (f : Int) ∈ Fl) {x : Int} (hx : 0 ≤ x ∧ x ≤ 1099511627776) :
    LW w0 (w.setCell ⟨g, f, none⟩ (.int .i64 x)) T (some ⟨g, 0, none⟩) B c d Fl ws (ws'.set f x) ns ns' := by
  obtain ⟨cur, hcur, _⟩ := own_bk2 h.a
  have ha := own_put (i := f) h.a (.int .i64 x)
  rw [← List.map_set] at ha
  exact ⟨h.bk.far (p := ⟨g, f, none⟩) (Bk.ne_ h.bk hcur (by decide)) _, ha, own_set (i := f) h.b (hcur.ne_own h.b (by decide)) _, h.lc.setW hf x, h.gv.setW hx f, h.bl.setCell (p := ⟨g, f, none⟩) (h.a.lt g rfl).1 _⟩
theorem LW.setN {w0 w : World} {T g : Nat} {A : Option Addr} {c d : Nat} {Fl ws ws' : List Int} {ns ns' : List (Int × Int × Int)} (h : LW w0 w T A (some ⟨g, 0, none⟩) c d Fl ws ws' ns ns') {j : Nat} {p q z : Int} (hj : ns'[j]? = some (p, q, z)) (hf : p ∈ Fl) {x : Int} (hx : 1 ≤ x ∧ x ≤ 1099511627776) :
    LW w0 (w.setCell ⟨g, j * 3 + 2, none⟩ (.int .i64 x)) T A (some ⟨g, 0, none⟩) c d Fl ws ws' ns (ns'.set j (p, q, x)) := by
  obtain ⟨cur, hcur, _⟩ := own_bk2 h.b
  have hb := own_put (i := j * 3 + 2) h.b (.int .i64 x)
  rw [Nat.mul_comm j 3, triC_set hj] at hb
  rw [Nat.mul_comm j 3]
  exact ⟨h.bk.far (p := ⟨g, 3 * j + 2, none⟩) (Bk.ne_ h.bk hcur (by decide)) _, own_set (i := 3 * j + 2) h.a (hcur.ne_own h.a (by decide)) _, hb, h.lc.setN hj hf x, h.gv.setN hj hx, h.bl.setCell (p := ⟨g, 3 * j + 2, none⟩) (h.b.lt g rfl).1 _⟩
end Go.Proofs.Ytmdgdphhedgojaa

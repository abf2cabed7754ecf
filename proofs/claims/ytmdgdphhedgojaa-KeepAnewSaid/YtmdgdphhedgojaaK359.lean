import Derived.Test.YtmdgdphhedgojaaK28
import Derived.Deep.DeepCutAuto
namespace Go.Proofs.Ytmdgdphhedgojaa
open Go.RowKit Go.Maps

/-- Weights and lengths of one part have changed. -/
structure Lch (Fl : List Int) (ws ws' : List Int) (ns ns' : List (Int × Int × Int)) : Prop where
  lw : ws'.length = ws.length
  ln : ns'.length = ns.length
  w : ∀ f : Nat, (f : Int) ∉ Fl → ws'.getD f 0 = ws.getD f 0
  n : ∀ (j : Nat) t t', ns[j]? = some t → ns'[j]? = some t' → t'.1 = t.1 ∧ t'.2.1 = t.2.1 ∧ (t.1 ∉ Fl → t' = t)
theorem Lch.refl (Fl ws : List Int) (ns : List (Int × Int × Int)) : Lch Fl ws ws ns ns := ⟨rfl, rfl, fun _ _ => rfl, fun j t t' h h' => by
  obtain rfl := Option.some.inj (h.symm.trans h')
  exact ⟨rfl, rfl, fun _ => rfl⟩⟩
theorem Lch.setW {Fl ws ws' : List Int} {ns ns' : List (Int × Int × Int)} (h : Lch Fl ws ws' ns ns') {f : Nat} (hf : (f : Int) ∈ Fl) (x : Int) : Lch Fl ws (ws'.set f x) ns ns' := ⟨by rw [List.length_set]; exact h.lw, h.ln, fun g hg => by
  have hne : f ≠ g := fun e => hg (e ▸ hf)
  rw [← h.w g hg, List.getD, List.getD, List.getElem?_set_ne hne], h.n⟩
theorem Lch.setN {Fl ws ws' : List Int} {ns ns' : List (Int × Int × Int)} (h : Lch Fl ws ws' ns ns') {j : Nat} {a b c : Int} (hj : ns'[j]? = some (a, b, c)) (ha : a ∈ Fl) (x : Int) : Lch Fl ws ws' ns (ns'.set j (a, b, x)) := ⟨h.lw, by rw [List.length_set]; exact h.ln, h.w, fun i t t' ht ht' => by
  by_cases e : j = i
  · subst e
    have hl : j < ns'.length := (List.getElem?_eq_some_iff.1 hj).1
    rw [List.getElem?_set_self hl] at ht'
    obtain rfl := Option.some.inj ht'
    obtain ⟨h1, h2, _⟩ := h.n j t _ ht hj
    exact ⟨h1, h2, fun hn => absurd (h1 ▸ ha) hn⟩
  · rw [List.getElem?_set_ne e] at ht'
    exact h.n i t t' ht ht'⟩
theorem GV.setW {ws : List Int} {ns : List (Int × Int × Int)} (h : GV ws ns) {x : Int} (hx : 0 ≤ x ∧ x ≤ 1099511627776) (f : Nat) : GV (ws.set f x) ns := ⟨by rw [List.length_set]; exact h.n1, h.n2, fun z hz => by
  rcases List.mem_or_eq_of_mem_set hz with hz | rfl
  · exact h.w z hz
  · exact hx, fun u hu => by rw [List.length_set]; exact h.t u hu, h.s⟩
theorem GV.setN {ws : List Int} {ns : List (Int × Int × Int)} (h : GV ws ns) {j : Nat} {a b c x : Int} (hj : ns[j]? = some (a, b, c)) (hx : 1 ≤ x ∧ x ≤ 1099511627776) : GV ws (ns.set j (a, b, x)) := ⟨h.n1, by rw [List.length_set]; exact h.n2, h.w, fun u hu => by
  rcases List.mem_or_eq_of_mem_set hu with hu | rfl
  · exact h.t u hu
  · have := h.t _ (List.mem_of_getElem? hj)
    exact ⟨this.1, this.2.1, this.2.2.1, hx⟩, by
  have hs := h.s
  obtain ⟨hl, he⟩ := List.getElem?_eq_some_iff.1 hj
  rw [List.pairwise_iff_getElem] at hs ⊢
  intro i k hi hk hik
  rw [List.length_set] at hi hk
  have h1 := hs i k hi hk hik
  rw [List.getElem_set, List.getElem_set]
  split
  · rename_i e
    subst e
    rw [if_neg (by omega)]
    rw [he] at h1
    simpa [lexT] using h1
  · split
    · rename_i e
      subst e
      rw [he] at h1
      simpa [lexT] using h1
    · exact h1⟩
theorem fold_pairs : ∀ (ns ns' : List (Int × Int × Int)) (of : List Int), ns'.length = ns.length → (∀ (j : Nat) t t', ns[j]? = some t → ns'[j]? = some t' → t'.1 = t.1 ∧ t'.2.1 = t.2.1) → ns'.foldl joined of = ns.foldl joined of
  | [], [], _, _, _ => rfl
  | [], _ :: _, _, h, _ => by simp at h
  | _ :: _, [], _, h, _ => by simp at h
  | t :: ns, t' :: ns', of, hl, h => by
    obtain ⟨h1, h2⟩ := h 0 t t' rfl rfl
    rw [List.foldl_cons, List.foldl_cons, show joined of t' = joined of t by rw [joined, joined, h1, h2]]
    exact fold_pairs ns ns' _ (by simpa using hl) (fun j u u' hu hu' => h (j + 1) u u' (by simpa using hu) (by simpa using hu'))
theorem inN_eq (p : Nat → Bool) : ∀ (ns ns' : List (Int × Int × Int)), ns'.length = ns.length → (∀ (j : Nat) t t', ns[j]? = some t → ns'[j]? = some t' → t'.1 = t.1 ∧ (p t.1.toNat = true → t' = t)) → inN ns' p = inN ns p
  | [], [], _, _ => rfl
  | [], _ :: _, h, _ => by simp at h
  | _ :: _, [], h, _ => by simp at h
  | t :: ns, t' :: ns', hl, h => by
    obtain ⟨h1, h2⟩ := h 0 t t' rfl rfl
    have ih := inN_eq p ns ns' (by simpa using hl) (fun j u u' hu hu' => h (j + 1) u u' (by simpa using hu) (by simpa using hu'))
    unfold inN at ih ⊢
    rw [List.filter_cons, List.filter_cons, h1]
    by_cases hp : p t.1.toNat = true
    · rw [if_pos hp, if_pos hp, List.map_cons, List.map_cons, ih, h2 hp]
    · rw [if_neg hp, if_neg hp, ih]
theorem filter_one {α : Type} {P : α → Bool} : ∀ (L : List α) (k : Nat), (∀ (i : Nat) d, i ≠ k → L[i]? = some d → P d = false) → L.filter P = [] ∨ ∃ d, L[k]? = some d ∧ L.filter P = [d]
  | [], _, _ => .inl rfl
  | a :: L, 0, h => by
    have hn : L.filter P = [] := by
      rw [List.filter_eq_nil_iff]
      intro d hd
      obtain ⟨i, hi⟩ := List.getElem?_of_mem hd
      simp [h (i + 1) d (by omega) (by simpa using hi)]
    rw [List.filter_cons, hn]
    split
    · exact .inr ⟨a, rfl, rfl⟩
    · exact .inl rfl
  | a :: L, k + 1, h => by
    have ha := h 0 a (by omega) rfl
    rw [List.filter_cons, ha]
    simp only [Bool.false_eq_true, if_false, List.getElem?_cons_succ]
    exact filter_one L k fun i d hi hd => h (i + 1) d (by omega) (by simpa using hd)

theorem Lch.news {Fl ws ws' Wl : List Int} {ns ns' Nl : List (Int × Int × Int)} (h : Lch Fl ws ws' ns ns') (hv : GV ws ns) {kp : Nat} (hd : (partsD ws ns)[kp]? = some (Fl, Wl, Nl)) :
    (newsD (partsD ws ns) (partsD ws' ns')).length = 0 ∧ incD (newsD (partsD ws ns) (partsD ws' ns')) = 0 ∨ (newsD (partsD ws ns) (partsD ws' ns')).length = 1 ∧ incD (newsD (partsD ws ns) (partsD ws' ns')) = Fl.length ∧ 1 ≤ Fl.length := by
  obtain ⟨r, hr, hF, _, _⟩ := partsD_at hd
  have hc : comp ns' ws'.length = comp ns ws.length := by
    rw [comp, comp, h.lw]
    exact fold_pairs ns ns' _ h.ln fun j t t' ht ht' => ⟨(h.n j t t' ht ht').1, (h.n j t t' ht ht').2.1⟩
  have hmF : ∀ f : Nat, (f : Int) ∈ Fl → inP (comp ns ws.length) r f = true := fun f hf => by
    rw [hF] at hf
    obtain ⟨g, hg, e⟩ := List.mem_map.1 hf
    obtain rfl : g = f := by omega
    exact (List.mem_filter.1 hg).2
  have hm := mem_rts.1 (List.mem_of_getElem? hr)
  have hat : ∀ (i : Nat) d, i ≠ kp → (partsD ws' ns')[i]? = some d → (partsD ws ns)[i]? = some d := fun i d hi hd' => by
    rw [partsD, partsO, hc, h.lw, List.getElem?_map] at hd'
    rw [partsD, partsO, List.getElem?_map]
    cases hx : (rts (comp ns ws.length) ws.length)[i]? with
    | none => rw [hx] at hd'; cases hd'
    | some r' =>
      rw [hx] at hd'
      rw [← hd']
      have hrr : r' ≠ r := fun e => hi ((List.getElem?_inj (List.getElem?_eq_some_iff.1 hx).1 (rts_nodup _ _)).1 (by rw [hx, hr, e]))
      have hno : ∀ f : Nat, inP (comp ns ws.length) r' f = true → (f : Int) ∉ Fl := fun f hf hc' => by
        have h1 := hmF f hc'
        simp [inP] at h1 hf
        omega
      simp only [Option.map_some]
      congr 2
      congr 1
      · unfold inW
        congr 1
        refine List.map_congr_left fun f hf => ?_
        exact (h.w f (hno f (List.mem_filter.1 hf).2)).symm
      · refine (inN_eq _ ns ns' h.ln fun j t t' ht ht' => ⟨(h.n j t t' ht ht').1, fun hp => (h.n j t t' ht ht').2.2 fun hc' => ?_⟩).symm
        have h0 := (hv.t t (List.mem_of_getElem? ht)).1
        refine hno t.1.toNat hp ?_
        rw [Int.toNat_of_nonneg h0]
        exact hc'
  have hk : ∀ d, (partsD ws' ns')[kp]? = some d → d.1 = Fl := fun d hd' => by
    rw [partsD, partsO, hc, h.lw, List.getElem?_map, hr] at hd'
    rw [← Option.some.inj hd', hF]
  have h1 : 1 ≤ Fl.length := by
    rw [hF, List.length_map]
    have : r ∈ fcs (inP (comp ns ws.length) r) ws.length := List.mem_filter.2 ⟨List.mem_range.2 hm.1, by simpa [inP, hm.2.1] using hm.2.2⟩
    exact List.length_pos_of_mem this
  have hf := filter_one (P := fun d : List Int × List Int × List (Int × Int × Int) => decide (d.2 ∉ (partsD ws ns).map fun e => e.2)) (partsD ws' ns') kp (fun i d hi hd' => by
    have hm' : d.2 ∈ (partsD ws ns).map fun e => e.2 := List.mem_map.2 ⟨d, List.mem_of_getElem? (hat i d hi hd'), rfl⟩
    exact decide_eq_false (fun hc' => hc' hm'))
  change newsD (partsD ws ns) (partsD ws' ns') = [] ∨ ∃ d, (partsD ws' ns')[kp]? = some d ∧ newsD (partsD ws ns) (partsD ws' ns') = [d] at hf
  rcases hf with e | ⟨d, hd', e⟩
  · exact .inl (by rw [e]; exact ⟨rfl, rfl⟩)
  · refine .inr ?_
    rw [e]
    refine ⟨rfl, ?_, h1⟩
    simp [incD, hk d hd']
/-- The walk's own list of cells. -/
theorem triC_set {ns : List (Int × Int × Int)} {j : Nat} {a b c : Int} (hj : ns[j]? = some (a, b, c)) (x : Int) : (triC ns).set (3 * j + 2) (.int .i64 x) = triC (ns.set j (a, b, x)) := by
  induction ns generalizing j with
  | nil => cases hj
  | cons t ns ih =>
    cases j with
    | zero =>
      obtain rfl : t = (a, b, c) := by simpa using hj
      rfl
    | succ j =>
      have e : 3 * (j + 1) + 2 = 3 * j + 2 + 1 + 1 + 1 := by omega
      rw [e, List.set_cons_succ]
      show _ :: (_ :: _ :: triC ns).set (3 * j + 2 + 1 + 1) _ = _
      rw [List.set_cons_succ, List.set_cons_succ, ih (by simpa using hj)]
      rfl
theorem part_ne {Fl ws Wl : List Int} {ns Nl : List (Int × Int × Int)} {kp : Nat} (hd : (partsD ws ns)[kp]? = some (Fl, Wl, Nl)) : 1 ≤ Fl.length := by
  obtain ⟨r, hr, hF, _, _⟩ := partsD_at hd
  have hm := mem_rts.1 (List.mem_of_getElem? hr)
  rw [hF, List.length_map]
  have : r ∈ fcs (inP (comp ns ws.length) r) ws.length := List.mem_filter.2 ⟨List.mem_range.2 hm.1, by simpa [inP, hm.2.1] using hm.2.2⟩
  exact List.length_pos_of_mem this
/-- A copy of a graph of which one part is changed. -/
structure LW (w0 w : World) (T : Nat) (A B : Option Addr) (c d : Nat) (Fl ws ws' : List Int) (ns ns' : List (Int × Int × Int)) : Prop where
  bk : Bk w T 36 #[.slice A ws.length c, .slice B ns.length d]
  a : w.ownsRow w0.heap.size 3 1 (.slice A ws.length c) ws.length (ws'.map (Value.int .i64))
  b : w.ownsRow w0.heap.size 52 3 (.slice B ns.length d) ns.length (triC ns')
  lc : Lch Fl ws ws' ns ns'
  gv : GV ws' ns'
  bl : Below w0.heap.size w0 w
theorem LW.setW {w0 w : World} {T g : Nat} {B : Option Addr} {c d : Nat} {Fl ws ws' : List Int} {ns ns' : List (Int × Int × Int)} (h : LW w0 w T (some ⟨g, 0, none⟩) B c d Fl ws ws' ns ns') {f : Nat} (hf : (f : Int) ∈ Fl) {x : Int} (hx : 0 ≤ x ∧ x ≤ 1099511627776) :
    LW w0 (w.setCell ⟨g, f, none⟩ (.int .i64 x)) T (some ⟨g, 0, none⟩) B c d Fl ws (ws'.set f x) ns ns' := by
  obtain ⟨cur, hcur, _⟩ := own_bk2 h.a
  have ha := own_put (i := f) h.a (.int .i64 x)
  rw [← List.map_set] at ha
  exact ⟨h.bk.far (p := ⟨g, f, none⟩) (Bk.ne_ h.bk hcur (by decide)) _, ha, own_set (i := f) h.b (hcur.ne_own h.b (by decide)) _, h.lc.setW hf x, h.gv.setW hx f, h.bl.setCell (p := ⟨g, f, none⟩) (h.a.lt g rfl).1 _⟩
theorem LW.setN {w0 w : World} {T g : Nat} {A : Option Addr} {c d : Nat} {Fl ws ws' : List Int} {ns ns' : List (Int × Int × Int)} (h : LW w0 w T A (some ⟨g, 0, none⟩) c d Fl ws ws' ns ns') {j : Nat} {p q z : Int} (hj : ns'[j]? = some (p, q, z)) (hf : p ∈ Fl) {x : Int} (hx : 1 ≤ x ∧ x ≤ 1099511627776) :
    LW w0 (w.setCell ⟨g, j * 3 + 2, none⟩ (.int .i64 x)) T A (some ⟨g, 0, none⟩) c d Fl ws ws' ns (ns'.set j (p, q, x)) := by
  obtain ⟨cur, hcur, _⟩ := own_bk2 h.b
  have hb := own_put (i := j * 3 + 2) h.b (.int .i64 x)
  rw [Nat.mul_comm j 3, triC_set hj] at hb
  rw [Nat.mul_comm j 3]
  exact ⟨h.bk.far (p := ⟨g, 3 * j + 2, none⟩) (Bk.ne_ h.bk hcur (by decide)) _, own_set (i := 3 * j + 2) h.a (hcur.ne_own h.a (by decide)) _, hb, h.lc.setN hj hf x, h.gv.setN hj hx, h.bl.setCell (p := ⟨g, 3 * j + 2, none⟩) (h.b.lt g rfl).1 _⟩
end Go.Proofs.Ytmdgdphhedgojaa

namespace Go.Proofs.Ytmdgdphhedgojaa
open Go.RowKit Go.Maps

/-- The number of a face behind a face put in. -/
def sN (f g : Nat) : Nat := if g < f then g else g + 1
def sI (f : Nat) (z : Int) : Int := if z < f then z else z + 1
def putW (ws : List Int) (f : Nat) (x : Int) : List Int := ws.take f ++ x :: ws.drop f
def shT (f : Nat) (t : Int × Int × Int) : Int × Int × Int := (sI f t.1, sI f t.2.1, t.2.2)
def putN (ns : List (Int × Int × Int)) (f : Nat) : List (Int × Int × Int) := ns.map (shT f)
theorem sI_nat (f g : Nat) : sI f (g : Int) = (sN f g : Nat) := by unfold sI sN; split <;> split <;> omega
theorem sI_inj {f : Nat} {a b : Int} : sI f a = sI f b ↔ a = b := by unfold sI; split <;> split <;> omega
theorem sI_lt {f : Nat} {a b : Int} : sI f a < sI f b ↔ a < b := by unfold sI; split <;> split <;> omega
theorem sI_ne (f : Nat) (a : Int) : sI f a ≠ f := by unfold sI; split <;> omega
theorem sI_zero {f : Nat} (hf : 1 ≤ f) {a : Int} : sI f a = 0 ↔ a = 0 := by unfold sI; split <;> omega
theorem sN_toNat {f : Nat} {z : Int} (h : 0 ≤ z) : (sI f z).toNat = sN f z.toNat := by unfold sI sN; split <;> split <;> omega
theorem sN_ne (f g : Nat) : sN f g ≠ f := by unfold sN; split <;> omega
theorem sN_le (f g : Nat) : sN f g ≤ g + 1 := by unfold sN; split <;> omega
theorem putW_len {ws : List Int} {f : Nat} (x : Int) (hf : f ≤ ws.length) : (putW ws f x).length = ws.length + 1 := by simp [putW]; omega
theorem putW_at {ws : List Int} {f g : Nat} (x : Int) (hf : f ≤ ws.length) : (putW ws f x).getD (sN f g) 0 = ws.getD g 0 := by
  unfold putW sN
  rw [List.getD, List.getD]
  split
  · rw [List.getElem?_append_left (by simp; omega), List.getElem?_take_of_lt (by omega)]
  · rw [List.getElem?_append_right (by simp; omega), List.length_take, Nat.min_eq_left hf, show g + 1 - f = (g - f) + 1 by omega, List.getElem?_cons_succ, List.getElem?_drop, show f + (g - f) = g by omega]
theorem putW_self {ws : List Int} {f : Nat} (x : Int) (hf : f ≤ ws.length) : (putW ws f x).getD f 0 = x := by
  unfold putW
  rw [List.getD, List.getElem?_append_right (by rw [List.length_take]; omega), List.length_take, Nat.min_eq_left hf, Nat.sub_self]
  rfl

/-- The groups behind a face put in. -/
structure Ren (f n : Nat) (of of' : List Int) : Prop where
  l : of.length = n
  l' : of'.length = n + 1
  a : ∀ g, g < n → of'.getD (sN f g) 0 = sI f (of.getD g 0)
  b : of'.getD f 0 = f
theorem alone_at' {n g : Nat} (h : g < n) : (alone n).getD g 0 = (g : Int) := by simp [alone, List.getD, h]
theorem Ren.alone {f n : Nat} (hf : f ≤ n) : Ren f n (alone n) (alone (n + 1)) := ⟨alone_len n, alone_len _, fun g hg => by
  have := sN_le f g
  rw [alone_at' hg, alone_at' (by omega), sI_nat], alone_at' (by omega)⟩
theorem Ren.join {f n : Nat} {of of' : List Int} (h : Ren f n of of') (hf : 1 ≤ f) (hfn : f ≤ n) {t : Int × Int × Int} (ht : 0 ≤ t.1 ∧ t.1 < t.2.1 ∧ t.2.1 < n) : Ren f n (joined of t) (joined of' (shT f t)) := by
  obtain ⟨t1, t2, t3⟩ := ht
  refine ⟨by rw [joined_len]; exact h.l, by rw [joined_len]; exact h.l', ?_, ?_⟩
  · intro g hg
    unfold joined
    by_cases h0 : t.1 = 0
    · rw [if_pos h0, if_pos (by rw [shT, (sI_zero hf)]; exact h0)]
      exact h.a g hg
    · rw [if_neg h0, if_neg (by rw [shT, (sI_zero hf)]; omega)]
      have := sN_le f g
      have e1 : of'.getD (shT f t).1.toNat 0 = sI f (of.getD t.1.toNat 0) := by rw [shT, sN_toNat t1]; exact h.a _ (by omega)
      have e2 : of'.getD (shT f t).2.1.toNat 0 = sI f (of.getD t.2.1.toNat 0) := by rw [shT, sN_toNat (by omega)]; exact h.a _ (by omega)
      rw [e1, e2, getD_merged _ _ _ (by rw [h.l']; omega), getD_merged _ _ _ (by rw [h.l]; exact hg), h.a g hg]
      generalize of.getD t.1.toNat 0 = a
      generalize of.getD t.2.1.toNat 0 = b
      generalize of.getD g 0 = x
      simp only [Bool.or_eq_true, beq_iff_eq, sI_inj, sI_lt]
      split
      · split <;> rfl
      · rfl
  · unfold joined
    by_cases h0 : t.1 = 0
    · rw [if_pos (by rw [shT, (sI_zero hf)]; exact h0)]
      exact h.b
    · rw [if_neg (by rw [shT, (sI_zero hf)]; omega)]
      have e1 : of'.getD (shT f t).1.toNat 0 = sI f (of.getD t.1.toNat 0) := by rw [shT, sN_toNat t1]; exact h.a _ (by omega)
      have e2 : of'.getD (shT f t).2.1.toNat 0 = sI f (of.getD t.2.1.toNat 0) := by rw [shT, sN_toNat (by omega)]; exact h.a _ (by omega)
      rw [e1, e2, getD_merged _ _ _ (by rw [h.l']; omega), h.b, if_neg]
      simp only [Bool.or_eq_true, beq_iff_eq]
      rintro (e | e)
      · exact sI_ne f _ e.symm
      · exact sI_ne f _ e.symm
theorem Ren.fold {f n : Nat} (hf : 1 ≤ f) (hfn : f ≤ n) : ∀ (ns : List (Int × Int × Int)) (of of' : List Int), Ren f n of of' → (∀ t ∈ ns, 0 ≤ t.1 ∧ t.1 < t.2.1 ∧ t.2.1 < n) → Ren f n (ns.foldl joined of) ((putN ns f).foldl joined of')
  | [], _, _, h, _ => h
  | t :: ns, _, _, h, ht => Ren.fold hf hfn ns _ _ (h.join hf hfn (ht t (List.mem_cons_self ..))) fun u hu => ht u (List.mem_cons_of_mem _ hu)
theorem Ren.comp {f n : Nat} {ns : List (Int × Int × Int)} (hf : 1 ≤ f) (hfn : f ≤ n) (ht : ∀ t ∈ ns, 0 ≤ t.1 ∧ t.1 < t.2.1 ∧ t.2.1 < n) : Ren f n (comp ns n) (comp (putN ns f) (n + 1)) := Ren.fold hf hfn ns _ _ (Ren.alone hfn) ht

theorem fcs_put {f : Nat} {p p' : Nat → Bool} (hpf : p' f = false) : ∀ n, (∀ g, g < n → p' (sN f g) = p g) → (n ≤ f → fcs p' n = (fcs p n).map (sN f)) ∧ (f ≤ n → fcs p' (n + 1) = (fcs p n).map (sN f))
  | 0, _ => ⟨fun _ => rfl, fun h => by
    obtain rfl : f = 0 := by omega
    rw [fcs_succ, hpf]; rfl⟩
  | n + 1, h => by
    obtain ⟨h1, h2⟩ := fcs_put hpf n fun g hg => h g (by omega)
    have hn := h n (by omega)
    constructor
    · intro hl
      have e : sN f n = n := by unfold sN; rw [if_pos (by omega)]
      rw [e] at hn
      rw [fcs_succ, fcs_succ, List.map_append, h1 (by omega), hn]
      cases p n <;> simp [e]
    · intro hl
      by_cases e0 : f = n + 1
      · subst e0
        have e : sN (n + 1) n = n := by unfold sN; rw [if_pos (by omega)]
        rw [e] at hn
        rw [fcs_succ, hpf, fcs_succ, fcs_succ, List.map_append, h1 (by omega), hn]
        cases p n <;> simp [e]
      · have e : sN f n = n + 1 := by unfold sN; rw [if_neg (by omega)]
        rw [e] at hn
        rw [fcs_succ p' (n + 1), fcs_succ p n, List.map_append, h2 (by omega), hn]
        cases p n <;> simp [e]
theorem loc_put {f n g : Nat} {p p' : Nat → Bool} (hpf : p' f = false) (hp : ∀ g, g < n → p' (sN f g) = p g) (hg : g < n) : loc p' (sN f g) = loc p g := by
  obtain ⟨h1, h2⟩ := fcs_put hpf g fun k hk => hp k (by omega)
  unfold loc
  by_cases e : g < f
  · rw [show sN f g = g by unfold sN; rw [if_pos e], h1 (by omega), List.length_map]
  · rw [show sN f g = g + 1 by unfold sN; rw [if_neg e], h2 (by omega), List.length_map]
theorem inW_put {ws : List Int} {f : Nat} {x : Int} {p p' : Nat → Bool} (hf : f ≤ ws.length) (hpf : p' f = false) (hp : ∀ g, g < ws.length → p' (sN f g) = p g) : inW (putW ws f x) p' (ws.length + 1) = inW ws p ws.length := by
  unfold inW
  rw [(fcs_put hpf ws.length hp).2 hf, List.map_map]
  congr 1
  refine List.map_congr_left fun g _ => ?_
  exact putW_at x hf
theorem inN_put {f n : Nat} {p p' : Nat → Bool} (hpf : p' f = false) (hp : ∀ g, g < n → p' (sN f g) = p g) : ∀ (ns : List (Int × Int × Int)), (∀ t ∈ ns, 0 ≤ t.1 ∧ t.1 < t.2.1 ∧ t.2.1 < n) → inN (putN ns f) p' = inN ns p
  | [], _ => rfl
  | t :: ns, ht => by
    have ih := inN_put hpf hp ns fun u hu => ht u (List.mem_cons_of_mem _ hu)
    obtain ⟨t1, t2, t3⟩ := ht t (List.mem_cons_self ..)
    unfold inN putN at ih ⊢
    have e1 : (shT f t).1.toNat = sN f t.1.toNat := sN_toNat t1
    have e2 : (shT f t).2.1.toNat = sN f t.2.1.toNat := sN_toNat (by omega)
    rw [List.map_cons, List.filter_cons, List.filter_cons, e1, hp _ (by omega)]
    have er : reN p' (shT f t) = reN p t := by
      unfold reN
      rw [e1, e2, loc_put hpf hp (by omega), loc_put hpf hp (by omega)]
      rfl
    by_cases hq : p t.1.toNat = true
    · rw [if_pos hq, if_pos hq, List.map_cons, List.map_cons, ih, er]
    · rw [if_neg hq, if_neg hq, ih]
theorem range_put (f : Nat) : ∀ k, (List.range (f + k + 1)).Perm (f :: (List.range (f + k)).map (sN f))
  | 0 => by
    show (List.range (f + 1)).Perm (f :: (List.range f).map (sN f))
    rw [List.range_succ]
    have e : (List.range f).map (sN f) = List.range f := by
      conv => rhs; rw [← List.map_id (List.range f)]
      refine List.map_congr_left fun g hg => ?_
      have := List.mem_range.1 hg
      unfold sN
      rw [if_pos this]; rfl
    rw [e]
    exact List.perm_append_singleton _ _
  | k + 1 => by
    have h := (range_put f k).append_right [f + k + 1]
    rw [← List.range_succ (n := f + k + 1)] at h
    have e : sN f (f + k) = f + k + 1 := by unfold sN; rw [if_neg (by omega)]
    show (List.range (f + k + 1 + 1)).Perm (f :: (List.range (f + k + 1)).map (sN f))
    rw [List.range_succ (n := f + k), List.map_append]
    simp only [List.map_cons, List.map_nil, e]
    exact h
theorem Ren.inP {f n : Nat} {of of' : List Int} (h : Ren f n of of') (hf : 1 ≤ f) (r g : Nat) (hg : g < n) : inP of' (sN f r) (sN f g) = inP of r g := by
  unfold Go.Proofs.Ytmdgdphhedgojaa.inP
  rw [h.a g hg]
  have e1 : (sI f (of.getD g 0) == ((sN f r : Nat) : Int)) = (of.getD g 0 == (r : Int)) := by
    rw [← sI_nat, Bool.eq_iff_iff, beq_iff_eq, beq_iff_eq, sI_inj]
  have e2 : (sN f g != 0) = (g != 0) := by
    rw [Bool.eq_iff_iff, bne_iff_ne, bne_iff_ne]
    unfold sN
    split <;> omega
  rw [e1, e2]
theorem Ren.inP_f {f n : Nat} {of of' : List Int} (h : Ren f n of of') (r : Nat) : Go.Proofs.Ytmdgdphhedgojaa.inP of' (sN f r) f = false := by
  unfold Go.Proofs.Ytmdgdphhedgojaa.inP
  rw [h.b]
  have := sN_ne f r
  have e : ((f : Int) == ((sN f r : Nat) : Int)) = false := beq_eq_false_iff_ne.2 (by omega)
  rw [e, Bool.and_false]
theorem Ren.rts {f n : Nat} {of of' : List Int} (h : Ren f n of of') (hf : 1 ≤ f) (hfn : f ≤ n) : (rts of' (n + 1)).Perm (f :: (Go.Proofs.Ytmdgdphhedgojaa.rts of n).map (sN f)) := by
  obtain ⟨k, rfl⟩ : ∃ k, n = f + k := ⟨n - f, by omega⟩
  have h1 := (range_put f k).filter (fun r => r != 0 && of'.getD r 0 == (r : Int))
  unfold Go.Proofs.Ytmdgdphhedgojaa.rts
  refine h1.trans (List.Perm.of_eq ?_)
  rw [List.filter_cons, if_pos (by rw [h.b]; simp; omega), List.filter_map]
  congr 2
  refine List.filter_congr fun g hg => ?_
  have hg := List.mem_range.1 hg
  exact h.inP hf g g hg
theorem Ren.own {f n : Nat} {of of' : List Int} (h : Ren f n of of') (hf : 1 ≤ f) (hfn : f ≤ n) : fcs (Go.Proofs.Ytmdgdphhedgojaa.inP of' f) (n + 1) = [f] := by
  have hp : ∀ g, g < n → Go.Proofs.Ytmdgdphhedgojaa.inP of' f (sN f g) = false := fun g hg => by
    unfold Go.Proofs.Ytmdgdphhedgojaa.inP
    rw [h.a g hg, beq_eq_false_iff_ne.2 (sI_ne f _), Bool.and_false]
  have hf' : Go.Proofs.Ytmdgdphhedgojaa.inP of' f f = true := by
    unfold Go.Proofs.Ytmdgdphhedgojaa.inP
    rw [h.b]
    simp
    omega
  obtain ⟨k, rfl⟩ : ∃ k, n = f + k := ⟨n - f, by omega⟩
  have h1 := (range_put f k).filter (Go.Proofs.Ytmdgdphhedgojaa.inP of' f)
  rw [List.filter_cons, if_pos hf', List.filter_map, show (List.range (f + k)).filter (Go.Proofs.Ytmdgdphhedgojaa.inP of' f ∘ sN f) = [] from List.filter_eq_nil_iff.2 fun g hg => by simp [hp g (List.mem_range.1 hg)]] at h1
  exact List.perm_singleton.1 h1
theorem put_parts {ws : List Int} {ns : List (Int × Int × Int)} {f : Nat} (x : Int) (hf : 1 ≤ f) (hfn : f ≤ ws.length) (ht : ∀ t ∈ ns, 0 ≤ t.1 ∧ t.1 < t.2.1 ∧ t.2.1 < ws.length) :
    ((partsD (putW ws f x) (putN ns f)).map fun d => d.2).Perm (([0, x], []) :: (partsD ws ns).map fun d => d.2) := by
  have h := Ren.comp hf hfn ht
  unfold partsD partsO
  rw [putW_len x hfn]
  generalize comp ns ws.length = of at *
  generalize comp (putN ns f) (ws.length + 1) = of' at *
  rw [List.map_map, List.map_map]
  refine ((h.rts hf hfn).map _).trans (List.Perm.of_eq ?_)
  rw [List.map_cons, List.map_map]
  congr 1
  · refine Prod.ext ?_ ?_
    · show inW _ _ _ = _
      rw [inW, h.own hf hfn]
      show [0, (putW ws f x).getD f 0] = _
      rw [putW_self x hfn]
    · show inN _ _ = _
      unfold inN putN
      rw [List.filter_eq_nil_iff.2]
      · rfl
      · intro u hu
        obtain ⟨t, htm, rfl⟩ := List.mem_map.1 hu
        obtain ⟨t1, t2, t3⟩ := ht t htm
        have e : (shT f t).1.toNat = sN f t.1.toNat := sN_toNat t1
        have hp : Go.Proofs.Ytmdgdphhedgojaa.inP of' f (sN f t.1.toNat) = false := by
          unfold Go.Proofs.Ytmdgdphhedgojaa.inP
          rw [h.a _ (by omega), beq_eq_false_iff_ne.2 (sI_ne f _), Bool.and_false]
        rw [e, hp]
        simp
  · refine List.map_congr_left fun r _ => ?_
    refine Prod.ext ?_ ?_
    · exact inW_put hfn (h.inP_f r) fun g hg => h.inP hf r g hg
    · exact inN_put (h.inP_f r) (fun g hg => h.inP hf r g hg) ns ht
end Go.Proofs.Ytmdgdphhedgojaa

namespace Go.Proofs.Ytmdgdphhedgojaa
open Go.RowKit Go.Maps

theorem GV.put {ws : List Int} {ns : List (Int × Int × Int)} (h : GV ws ns) {f : Nat} {x : Int} (hfn : f ≤ ws.length) (hl : ws.length + 1 ≤ 4096) (hx : 0 ≤ x ∧ x ≤ 1099511627776) : GV (putW ws f x) (putN ns f) := by
  refine ⟨by rw [putW_len x hfn]; exact hl, by rw [putN, List.length_map]; exact h.n2, fun z hz => ?_, fun u hu => ?_, ?_⟩
  · unfold putW at hz
    rcases List.mem_append.1 hz with hz | hz
    · exact h.w z (List.mem_of_mem_take hz)
    · rcases List.mem_cons.1 hz with rfl | hz
      · exact hx
      · exact h.w z (List.mem_of_mem_drop hz)
  · obtain ⟨t, ht, rfl⟩ := List.mem_map.1 hu
    obtain ⟨h1, h2, h3, h4⟩ := h.t t ht
    rw [putW_len x hfn]
    refine ⟨?_, sI_lt.2 h2, ?_, h4⟩
    · unfold shT sI; dsimp only; split <;> omega
    · unfold shT sI; dsimp only; split <;> omega
  · rw [putN, List.pairwise_map]
    refine h.s.imp fun {a b} hab => ?_
    unfold lexT shT at *
    dsimp only
    rw [sI_lt, sI_inj, sI_lt]
    exact hab
theorem partsD_len1 {ws : List Int} {ns : List (Int × Int × Int)} : ∀ d ∈ partsD ws ns, d.2.1.length = d.1.length + 1 := fun d hd => by
  unfold partsD partsO at hd
  obtain ⟨r, _, rfl⟩ := List.mem_map.1 hd
  simp [inW]
/-- What is new among the inputs: at most k, each of one face; none is lost. -/
structure NI (E E' : List (List Int × List (Int × Int × Int))) (k : Nat) : Prop where
  c : (E'.filter fun e => decide (e ∉ E)).length ≤ k
  s : ∀ e ∈ E', e ∉ E → e.1.length = 2
  b : ∀ e ∈ E, e ∈ E'
theorem NI.refl (E : List (List Int × List (Int × Int × Int))) : NI E E 0 := ⟨by
  rw [List.filter_eq_nil_iff.2 (fun e he => by simp [he])]
  exact Nat.le_refl _, fun e he hn => absurd he hn, fun _ h => h⟩
theorem NI.step {E E' E'' : List (List Int × List (Int × Int × Int))} {k : Nat} (h : NI E E' k) {x : Int} (hp : E''.Perm (([0, x], []) :: E')) : NI E E'' (k + 1) := by
  refine ⟨?_, fun e he hn => ?_, fun e he => hp.mem_iff.2 (List.mem_cons_of_mem _ (h.b e he))⟩
  · rw [(hp.filter _).length_eq, List.filter_cons]
    have := h.c
    split
    · rw [List.length_cons]; omega
    · omega
  · rcases List.mem_cons.1 (hp.mem_iff.1 he) with rfl | he
    · rfl
    · exact h.s e he hn
theorem NI.news {ds ds' : List (List Int × List Int × List (Int × Int × Int))} {k : Nat} (h : NI (ds.map fun d => d.2) (ds'.map fun d => d.2) k) (hs : ∀ d ∈ ds', d.2.1.length = d.1.length + 1) :
    (newsD ds ds').length ≤ k ∧ incD (newsD ds ds') = (newsD ds ds').length ∧ newsD ds' ds = [] := by
  refine ⟨?_, ?_, ?_⟩
  · have hc := h.c
    rw [List.filter_map, List.length_map] at hc
    exact hc
  · have h1 : ∀ d ∈ newsD ds ds', d.1.length = 1 := fun d hd => by
      obtain ⟨hm, hn⟩ := List.mem_filter.1 hd
      have h2 := h.s d.2 (List.mem_map.2 ⟨d, hm, rfl⟩) (of_decide_eq_true hn)
      have h3 := hs d hm
      omega
    generalize newsD ds ds' = L at h1
    unfold incD
    induction L with
    | nil => rfl
    | cons d L ih =>
      rw [List.map_cons, List.sum_cons, ih fun u hu => h1 u (List.mem_cons_of_mem _ hu), h1 d (List.mem_cons_self ..), List.length_cons]
      omega
  · unfold newsD
    rw [List.filter_eq_nil_iff]
    intro d hd
    have := h.b d.2 (List.mem_map.2 ⟨d, hd, rfl⟩)
    simpa using this
end Go.Proofs.Ytmdgdphhedgojaa

namespace Go.Proofs.Ytmdgdphhedgojaa
open Go.RowKit Go.Maps

/-- The weights so far, ahead of the round of face k and behind its first half. -/
def pW (ws : List Int) (f : Nat) (x : Int) (k : Nat) : List Int := if k ≤ f then ws.take k else putW (ws.take k) f x
def qW (ws : List Int) (f : Nat) (x : Int) (k : Nat) : List Int := if k < f then ws.take k else putW (ws.take k) f x
theorem qW_ne {ws : List Int} {f k : Nat} {x : Int} (h : k ≠ f) : qW ws f x k = pW ws f x k := by
  unfold qW pW
  by_cases h1 : k < f
  · rw [if_pos h1, if_pos (by omega)]
  · rw [if_neg h1, if_neg (by omega)]
theorem qW_eq {ws : List Int} {f : Nat} {x : Int} (h : f ≤ ws.length) : qW ws f x f = pW ws f x f ++ [x] := by
  unfold qW pW
  rw [if_neg (by omega), if_pos (Nat.le_refl _)]
  unfold putW
  rw [List.take_take, Nat.min_self, List.drop_eq_nil_of_le (by rw [List.length_take]; omega)]
theorem pW_succ {ws : List Int} {f k : Nat} {x y : Int} (h : ws[k]? = some y) : pW ws f x (k + 1) = qW ws f x k ++ [y] := by
  have hk := (List.getElem?_eq_some_iff.1 h).1
  unfold qW pW
  by_cases h1 : k < f
  · rw [if_pos h1, if_pos (by omega), take_snoc' h]
  · rw [if_neg h1, if_neg (by omega), take_snoc' h]
    unfold putW
    rw [List.take_append_of_le_length (by rw [List.length_take]; omega), List.drop_append_of_le_length (by rw [List.length_take]; omega), List.append_assoc, List.cons_append]
theorem pW_all {ws : List Int} {f : Nat} {x : Int} (h : f < ws.length) : pW ws f x ws.length = putW ws f x := by
  unfold pW
  rw [if_neg (by omega), List.take_length]
theorem pW_len {ws : List Int} {f k : Nat} {x : Int} (h : k ≤ ws.length) : (pW ws f x k).length ≤ k + 1 := by
  unfold pW putW
  split <;> simp <;> omega
theorem qW_len {ws : List Int} {f k : Nat} {x : Int} (h : k ≤ ws.length) : (qW ws f x k).length ≤ k + 1 := by
  unfold qW putW
  split <;> simp <;> omega
/-- What the region of the weights reads. -/
def S7 (o g : Nat) (v u : Value) (bA oA : Nat) (y : Int) (W : World) : Prop := W.cell? ⟨o, 0, none⟩ = some v ∧ W.cell? ⟨g, 0, none⟩ = some u ∧ W.cell? ⟨bA, oA, none⟩ = some (.int .i64 y)

set_option linter.unusedSimpArgs false in
set_option maxHeartbeats 8000000 in
set_option maxRecDepth 100000 in
theorem put_any (A B : Option Addr) (a b f : Nat) (x : Int) (ws : List Int) (ns : List (Int × Int × Int)) (w : World) (hA : SI w A ws) (hB : ST w B ns) (hf : 1 ≤ f) (hfn : f < ws.length) (hl : ws.length ≤ 4096) (hl2 : ns.length ≤ 16384) (ht : ∀ t ∈ ns, 0 ≤ t.1 ∧ t.1 < t.2.1 ∧ t.2.1 < ws.length) :
    Calls Try.prog 23 #[.agg #[.slice A ws.length a, .slice B ns.length b], .int .i64 f, .int .i64 x] w fun e w' => ∃ A' a' B' b', e = .returned (.agg #[.slice A' (putW ws f x).length a', .slice B' (putN ns f).length b']) ∧
      w'.ownsRow w.heap.size 3 1 (.slice A' (putW ws f x).length a') (putW ws f x).length ((putW ws f x).map (Value.int .i64)) ∧ w'.ownsRow w.heap.size 52 3 (.slice B' (putN ns f).length b') (putN ns f).length (triC (putN ns f)) ∧ Below w.heap.size w w' := by
  obtain ⟨S, hSz⟩ : ∃ S, w.heap.size = S := ⟨_, rfl⟩
  have HA := Lib.hid (fun (W : World) (hW : Below S w W) => (hA.below (hSz.symm ▸ hW) : SI W A ws))
  have HB := Lib.hid (fun (W : World) (hW : Below S w W) => (hB.below (hSz.symm ▸ hW) : ST W B ns))
  have Hbz := Lib.hid (fun (W : World) (hW : Below S w W) => (show S ≤ W.heap.size by have := hW.size; omega))
  have Ht := Lib.hid ht
  clear hA hB ht
  go_enter Try.func23, Try.ntmps23
  go_wp2_with fail
  have hb0 : Below S w (((w.alloc (.cells #[.slice A ws.length a, .slice B ns.length b] 30)).alloc (.cells #[.slice none 0 0, .slice none 0 0] 30)).alloc (.cells #[.slice none 0 0, .slice none 0 0] 30)) := hSz ▸ (((Below.refl _ _).alloc (Nat.le_refl _) _).alloc (by simp) _).alloc (by simp; omega) _
  have hbG : Bk (((w.alloc (.cells #[.slice A ws.length a, .slice B ns.length b] 30)).alloc (.cells #[.slice none 0 0, .slice none 0 0] 30)).alloc (.cells #[.slice none 0 0, .slice none 0 0] 30)) S 30 #[.slice A ws.length a, .slice B ns.length b] := ((Bk.new' _ _ _ hSz).alloc _).alloc _
  have hbR : Bk (((w.alloc (.cells #[.slice A ws.length a, .slice B ns.length b] 30)).alloc (.cells #[.slice none 0 0, .slice none 0 0] 30)).alloc (.cells #[.slice none 0 0, .slice none 0 0] 30)) (S + 1) 30 #[.slice none 0 0, .slice none 0 0] := (Bk.new' _ _ _ (by simp [hSz])).alloc _
  have hbO : Bk (((w.alloc (.cells #[.slice A ws.length a, .slice B ns.length b] 30)).alloc (.cells #[.slice none 0 0, .slice none 0 0] 30)).alloc (.cells #[.slice none 0 0, .slice none 0 0] 30)) (S + 1 + 1) 30 #[.slice none 0 0, .slice none 0 0] := Bk.new' _ _ _ (by simp [hSz])
  generalize ((w.alloc (.cells #[.slice A ws.length a, .slice B ns.length b] 30)).alloc (.cells #[.slice none 0 0, .slice none 0 0] 30)).alloc (.cells #[.slice none 0 0, .slice none 0 0] 30) = W0 at *
  have Hb0 := Lib.hid hb0
  have HG0 := Lib.hid hbG
  have HR0 := Lib.hid hbR
  have HO0 := Lib.hid hbO
  have HSz := Lib.hid hSz
  clear hb0 hbG hbR hbO hSz
  go_loopw [8] (fun i wr => ∃ (k : Nat) (v : Value), k ≤ ws.length ∧ i = .int .i64 k ∧ Bk wr (S + 1 + 1) 30 #[v, .slice none 0 0] ∧ wr.ownsRow S 3 1 v (pW ws f x k).length ((pW ws f x k).map (Value.int .i64)) ∧ Bk wr S 30 #[.slice A ws.length a, .slice B ns.length b] ∧ Bk wr (S + 1) 30 #[.slice none 0 0, .slice none 0 0] ∧ Below S w wr) (fun i _ => ws.length - (intOf i).toNat)
  case atStart => exact ⟨0, _, by omega, rfl, HO0.out, World.ownsRow_nil _ _ _ _, HG0.out, HR0.out, Hb0.out⟩
  case round =>
    clear HO0 HG0 HR0 Hb0
    obtain ⟨k, v, hk, rfl, hO, ho, hG, hR, hb⟩ := hrel
    have HO := Lib.hid hO
    have Ho := Lib.hid ho
    have HG := Lib.hid hG
    have HR := Lib.hid hR
    have Hb := Lib.hid hb
    clear hO ho hG hR hb
    have hg0 : wr.cell? ⟨S, 0, none⟩ = some (.slice A ws.length a) := HG.out.cell 0
    by_cases hlt : k < ws.length
    · have k0 : (0 : Int) ≤ (k : Int) := by omega
      have hpl := pW_len (ws := ws) (f := f) (x := x) (k := k) (by omega)
      go_upto_if 21 with fail
      go_cut [] (fun wx => ∃ v, Bk wx (S + 1 + 1) 30 #[v, .slice none 0 0] ∧ wx.ownsRow S 3 1 v (qW ws f x k).length ((qW ws f x k).map (Value.int .i64)) ∧ Bk wx S 30 #[.slice A ws.length a, .slice B ns.length b] ∧ Bk wx (S + 1) 30 #[.slice none 0 0, .slice none 0 0] ∧ Below S w wx)
      case first =>
        as_aux_lemma =>
        by_cases hkf : k = f
        · subst hkf
          have hc0 : wr.cell? ⟨S + 1 + 1, 0, none⟩ = some v := HO.out.cell 0
          have hz := Hbz.out _ Hb.out
          have hrow := HO.out.ne_own Ho.out (by decide)
          go_wp2_with (at_builtin; refine wpList_app2 (w := wr) rfl _ _ rfl elt_int Ho.out hz rfl rfl (by simp) rfl rfl (by omega) ?_; intro v3 w4 hown4 hg4 hz4; obtain ⟨A2, c2, rfl⟩ := own_slice hown4; have hg5 := HO.out.grown hg4 hrow; have hq0 : w4.cell? ⟨S + 1 + 1, 0, none⟩ = some v := hg5.cell 0; have hq3 := hg5.frozen 0; have Hg5 := Lib.hid hg5; clear hg5)
          go_meet
          have hr4 := (HR.out.grown hg4 (HR.out.ne_own Ho.out (by decide))).far (p := ⟨S + 1 + 1, 0, none⟩) (by show S + 1 ≠ S + 1 + 1; omega) (.slice A2 ((pW ws k x k).length + 1) c2)
          have hG4 := (HG.out.grown hg4 (HG.out.ne_own Ho.out (by decide))).far (p := ⟨S + 1 + 1, 0, none⟩) (by show S ≠ S + 1 + 1; omega) (.slice A2 ((pW ws k x k).length + 1) c2)
          have hb4 := (Hb.out.grown hg4 hz (fun q hq => (Ho.out.lt q hq).1)).setCell (p := ⟨S + 1 + 1, 0, none⟩) (by show S ≤ S + 1 + 1; omega) (.slice A2 ((pW ws k x k).length + 1) c2)
          have ho4 := own_set (i := 0) hown4 (Hg5.out.ne_own hown4 (by decide)) (.slice A2 ((pW ws k x k).length + 1) c2)
          exact ⟨.slice A2 ((pW ws k x k).length + 1) c2, Hg5.out.set_ 0 _, by rw [qW_eq (by omega), List.length_append, List.map_append]; exact ho4, hG4, hr4, hb4⟩
        · go_wp2_with fail
          go_meet
          exact ⟨v, HO.out, by rw [qW_ne hkf]; exact Ho.out, HG.out, HR.out, Hb.out⟩
      case rest =>
      obtain ⟨v, hO, ho, hG, hR, hb⟩ := hcut
      obtain ⟨W1, rfl⟩ : ∃ z, z = wc := ⟨wc, rfl⟩
      obtain ⟨bA, oA, y, rfl, hcy, hy⟩ := (HA.out _ hb).get (k := k) hlt
      have hqe := pW_succ (f := f) (x := x) hy.out
      have hql := qW_len (ws := ws) (f := f) (x := x) (k := k) (by omega)
      obtain ⟨Q, hQ⟩ : ∃ Q, Hid (qW ws f x k = Q) := ⟨_, Lib.hid rfl⟩
      rw [hQ.out] at ho hqe hql
      obtain ⟨AV, cV, hvV⟩ := own_slice ho
      subst hvV
      have Hqe := Lib.hid hqe
      have HO := Lib.hid hO
      have Ho := Lib.hid ho
      have HG := Lib.hid hG
      have HR := Lib.hid hR
      have Hb := Lib.hid hb
      have Hy := Lib.hid hy.out
      clear hO ho hG hR hb hqe hg0 hy
      have hz := Hbz.out _ Hb.out
      have hbW : S ≤ (W1.drew.alloc (.cells #[.int .i64 y] 3)).heap.size := by simp; exact Nat.le_trans hz (Nat.le_succ _)
      have Hwn := Lib.hid (fun (W : World) (hW : Below S w W) => show W.cell? ⟨bA, oA + k, none⟩ = some (.int .i64 y) from by
        obtain ⟨b3, o3, x3, e3, h3, h4⟩ := (HA.out W hW).get (k := k) hlt
        injection e3 with e3
        injection e3 with e31 e32
        subst e31 e32
        have e6 := Option.some.inj (h4.out.symm.trans Hy.out)
        rw [e6] at h3
        exact h3)
      have HS0 := Lib.hid (show S7 (S + 1 + 1) S (.slice AV Q.length cV) (.slice (some ⟨bA, oA, none⟩) ws.length a) bA (oA + k) y W1.drew from ⟨HO.out.cell 0, HG.out.cell 0, hcy⟩)
      have HOa := Lib.hid (show Bk (W1.drew.alloc (.cells #[.int .i64 y] 3)) (S + 1 + 1) _ _ from (show Bk W1.drew _ _ _ from HO.out).alloc _)
      have HGa := Lib.hid (show Bk (W1.drew.alloc (.cells #[.int .i64 y] 3)) S _ _ from (show Bk W1.drew _ _ _ from HG.out).alloc _)
      have HRa := Lib.hid (show Bk (W1.drew.alloc (.cells #[.int .i64 y] 3)) (S + 1) _ _ from (show Bk W1.drew _ _ _ from HR.out).alloc _)
      have Hba := Lib.hid (show Below S w (W1.drew.alloc (.cells #[.int .i64 y] 3)) from (Hb.out.drew).alloc hz _)
      have Hoa := Lib.hid (show (W1.drew.alloc (.cells #[.int .i64 y] 3)).ownsRow _ _ _ _ _ _ from (show W1.drew.ownsRow _ _ _ _ _ _ from Ho.out).alloc _)
      have Hnew := Lib.hid (Bk.new W1.drew 3 #[.int .i64 y])
      have HS1 := Lib.hid (show S7 (S + 1 + 1) S (.slice AV Q.length cV) (.slice (some ⟨bA, oA, none⟩) ws.length a) bA (oA + k) y (W1.drew.alloc (.cells #[.int .i64 y] 3)) from ⟨HOa.out.cell 0, HGa.out.cell 0, Hwn.out _ Hba.out⟩)
      clear hcy
      go_wp2_with fail
      refine wp_region_noPanic ?_
      refine region_T (s := 10) (S := S7 (S + 1 + 1) S (.slice AV Q.length cV) (.slice (some ⟨bA, oA, none⟩) ws.length a) bA (oA + k) y) (by kernel_rfl) ?_
      change wpT _ _ _ _ _ 11 _ _ W1.drew
      refine T_take (k := 0) (v := .pointer (some ⟨S + 1 + 1, 0, none⟩)) rfl (by decide +kernel) (fun _ _ _ h => h) (Or.inl ⟨by rfl, fun W hW => by obtain ⟨s0, s1, s2⟩ := hW; go_simp⟩) HS0.out ?_
      try simp only [Act.put, List.setIfInBounds_toArray, List.set_cons_zero, List.set_cons_succ]
      refine T_take (k := 1) (v := .slice AV Q.length cV) rfl (by decide +kernel) (fun _ _ _ h => h) (Or.inl ⟨by rfl, fun W hW => by obtain ⟨s0, s1, s2⟩ := hW; go_simp⟩) HS0.out ?_
      try simp only [Act.put, List.setIfInBounds_toArray, List.set_cons_zero, List.set_cons_succ]
      refine T_take (k := 2) (v := .pointer (some ⟨S, 0, none⟩)) rfl (by decide +kernel) (fun _ _ _ h => h) (Or.inl ⟨by rfl, fun W hW => by obtain ⟨s0, s1, s2⟩ := hW; go_simp⟩) HS0.out ?_
      try simp only [Act.put, List.setIfInBounds_toArray, List.set_cons_zero, List.set_cons_succ]
      refine T_take (k := 3) (v := .slice (some ⟨bA, oA, none⟩) ws.length a) rfl (by decide +kernel) (fun _ _ _ h => h) (Or.inl ⟨by rfl, fun W hW => by obtain ⟨s0, s1, s2⟩ := hW; go_simp⟩) HS0.out ?_
      try simp only [Act.put, List.setIfInBounds_toArray, List.set_cons_zero, List.set_cons_succ]
      refine T_take (k := 4) (v := .int .i64 k) rfl (by decide +kernel) (fun _ _ _ h => h) (Or.inl ⟨by rfl, fun W hW => by obtain ⟨s0, s1, s2⟩ := hW; go_simp⟩) HS0.out ?_
      try simp only [Act.put, List.setIfInBounds_toArray, List.set_cons_zero, List.set_cons_succ]
      refine T_take (k := 5) (v := .pointer (some ⟨bA, oA + k, none⟩)) rfl (by decide +kernel) (fun _ _ _ h => h) (Or.inl ⟨by rfl, fun W hW => by obtain ⟨s0, s1, s2⟩ := hW; go_simp⟩) HS0.out ?_
      try simp only [Act.put, List.setIfInBounds_toArray, List.set_cons_zero, List.set_cons_succ]
      refine T_take (k := 6) (v := .int .i64 y) rfl (by decide +kernel) (fun _ _ _ h => h) (Or.inl ⟨by rfl, fun W hW => by obtain ⟨s0, s1, s2⟩ := hW; go_simp⟩) HS0.out ?_
      try simp only [Act.put, List.setIfInBounds_toArray, List.set_cons_zero, List.set_cons_succ]
      refine T_one (i := 7) (by decide +kernel) rfl rfl (fun K hK7 => ?_)
      have hK7 := Lib.hid hK7
      go_simp
      refine hK7.out _ _ HS1.out ?_
      try simp only [Act.put, List.setIfInBounds_toArray, List.set_cons_zero, List.set_cons_succ]
      refine T_one (i := 8) (by decide +kernel) rfl rfl (fun K hK8 => ?_)
      have hK8 := Lib.hid hK8
      refine app_wp3 (us := [.int .i64 y]) (c := 1) (H := W1.heap.size) (v := .slice AV Q.length cV) (.tmp 29) (.tmp 35) rfl elt_int.big (by simp [Act.eval]) (by simp [Act.eval]) Hoa.out Hnew.out rfl rfl (by omega) hbW ?_
      intro v8 w8 hown8 hg8 hv8
      obtain ⟨A8, c8, rfl⟩ := own_slice hown8
      have HO8 := Lib.hid (HOa.out.grown hg8 (HOa.out.ne_own Hoa.out (by decide)))
      have HG8 := Lib.hid (HGa.out.grown hg8 (HGa.out.ne_own Hoa.out (by decide)))
      have HR8 := Lib.hid (HRa.out.grown hg8 (HRa.out.ne_own Hoa.out (by decide)))
      have Hb8 := Lib.hid (Hba.out.grown hg8 hbW (fun q hq => (Hoa.out.lt q hq).1))
      have d4 := HO8.out.frozen 0
      have d3 : w8.cell? ⟨S + 1 + 1, 0, none⟩ = some (.slice AV Q.length cV) := HO8.out.cell 0
      have HS2 := Lib.hid (show S7 (S + 1 + 1) S (.slice AV Q.length cV) (.slice (some ⟨bA, oA, none⟩) ws.length a) bA (oA + k) y w8 from ⟨HO8.out.cell 0, HG8.out.cell 0, Hwn.out _ Hb8.out⟩)
      refine hK8.out _ _ HS2.out ?_
      try simp only [Act.put, List.setIfInBounds_toArray, List.set_cons_zero, List.set_cons_succ]
      refine T_take (k := 9) (v := .pointer (some ⟨S + 1 + 1, 0, none⟩)) rfl (by decide +kernel) (fun _ _ _ h => h) (Or.inl ⟨by rfl, fun W hW => by obtain ⟨s0, s1, s2⟩ := hW; go_simp⟩) HS2.out ?_
      try simp only [Act.put, List.setIfInBounds_toArray, List.set_cons_zero, List.set_cons_succ]
      refine T_last (by decide +kernel) (by decide +kernel) (by decide +kernel) rfl rfl (fun K hKl => ?_)
      have hKl := Lib.hid hKl
      go_simp
      refine hKl.out _ _ (NoPanic.normal ?_)
      try simp only [Act.put, List.setIfInBounds_toArray, List.set_cons_zero, List.set_cons_succ]
      clear hK7 hK8 hKl HS0 HS1 HS2
      have HO9 := Lib.hid (HO8.out.set_ 0 (.slice A8 (Q.length + 1) c8))
      have HG9 := Lib.hid (HG8.out.far (p := ⟨S + 1 + 1, 0, none⟩) (by show S ≠ S + 1 + 1; omega) (.slice A8 (Q.length + 1) c8))
      have HR9 := Lib.hid (HR8.out.far (p := ⟨S + 1 + 1, 0, none⟩) (by show S + 1 ≠ S + 1 + 1; omega) (.slice A8 (Q.length + 1) c8))
      have Ho9 := Lib.hid (own_set (i := 0) hown8 (HO8.out.ne_own hown8 (by decide)) (.slice A8 (Q.length + 1) c8))
      have Hb9 := Lib.hid (Hb8.out.setCell (p := ⟨S + 1 + 1, 0, none⟩) (by show S ≤ S + 1 + 1; omega) (.slice A8 (Q.length + 1) c8))
      go_wp2_with fail
      go_roundw
      case rel => exact ⟨k + 1, _, by omega, by go_num, HO9.out, by rw [Hqe.out, List.length_append, List.map_append]; exact Ho9.out, HG9.out, HR9.out, Hb9.out⟩
      case measure => simp [intOf]; omega
    · obtain rfl : k = ws.length := by omega
      have ho := Ho.out
      rw [pW_all hfn] at ho
      obtain ⟨PW, hPW⟩ : ∃ Q, Hid (putW ws f x = Q) := ⟨_, Lib.hid rfl⟩
      rw [hPW.out] at ho
      obtain ⟨A1, a1, hvA⟩ := own_slice ho
      subst hvA
      have Ho := Lib.hid ho
      clear ho
      go_wp2_with fail
      clear hg0
      go_loopw [9] (fun i wr => ∃ (k : Nat) (v : Value), k ≤ ns.length ∧ i = .int .i64 k ∧ Bk wr (S + 1 + 1) 30 #[.slice A1 PW.length a1, v] ∧ wr.ownsRow S 3 1 (.slice A1 PW.length a1) PW.length (PW.map (Value.int .i64)) ∧ wr.ownsRow S 52 3 v k (triC (putN (ns.take k) f)) ∧
         Bk wr S 30 #[.slice A ws.length a, .slice B ns.length b] ∧ Bk wr (S + 1) 30 #[.slice none 0 0, .slice none 0 0] ∧ Below S w wr) (fun i _ => ns.length - (intOf i).toNat)
      case atStart => exact ⟨0, _, by omega, rfl, HO.out, Ho.out, World.ownsRow_nil _ _ _ _, HG.out, HR.out, Hb.out⟩
      case round =>
        clear HO Ho HG HR Hb
        obtain ⟨k, v, hk, rfl, hO, ho, hn, hG, hR, hb⟩ := hrel
        have HO := Lib.hid hO
        have Ho := Lib.hid ho
        have Hn := Lib.hid hn
        have HG := Lib.hid hG
        have HR := Lib.hid hR
        have Hb := Lib.hid hb
        clear hO ho hn hG hR hb
        have hg1 : wr.cell? ⟨S, 1, none⟩ = some (.slice B ns.length b) := HG.out.cell 1
        by_cases hlt : k < ns.length
        · obtain ⟨b1, o1, x1, y1, z1, rfl, e0, e1, e2, hxy⟩ := (HB.out _ Hb.out).get (k := k) hlt
          have hbd := Ht.out _ (List.mem_of_getElem? hxy.out)
          dsimp only at hbd
          have k0 : (0 : Int) ≤ (k : Int) := by omega
          go_upto_if 53 with fail
          have hz := Hbz.out _ Hb.out
          have hOl := HO.out.lt
          have HT := Lib.hid (Bk.new wr 52 #[.int .i64 x1, .int .i64 y1, .int .i64 z1])
          have HO := Lib.hid (HO.out.alloc (.cells #[.int .i64 x1, .int .i64 y1, .int .i64 z1] 52))
          have HG := Lib.hid (HG.out.alloc (.cells #[.int .i64 x1, .int .i64 y1, .int .i64 z1] 52))
          have HR := Lib.hid (HR.out.alloc (.cells #[.int .i64 x1, .int .i64 y1, .int .i64 z1] 52))
          have Hnl := Lib.hid (show ∀ g, v.ownBlock = some g → g < wr.heap.size from fun g hg => (Hn.out.lt g hg).2)
          have Hol := Lib.hid (show ∀ g, (Value.slice A1 PW.length a1).ownBlock = some g → g < wr.heap.size from fun g hg => (Ho.out.lt g hg).2)
          have Ho := Lib.hid (Ho.out.alloc (.cells #[.int .i64 x1, .int .i64 y1, .int .i64 z1] 52))
          have Hn := Lib.hid (Hn.out.alloc (.cells #[.int .i64 x1, .int .i64 y1, .int .i64 z1] 52))
          have Hb := Lib.hid (Hb.out.alloc hz (.cells #[.int .i64 x1, .int .i64 y1, .int .i64 z1] 52))
          clear hg1 e0 e1 e2
          generalize wr.alloc (.cells #[.int .i64 x1, .int .i64 y1, .int .i64 z1] 52) = W1 at *
          generalize wr.heap.size = T at *
          go_cut [] (fun wx => Bk wx T 52 #[.int .i64 (sI f x1), .int .i64 y1, .int .i64 z1] ∧ Turn W1 wx T)
          case first =>
            as_aux_lemma =>
            by_cases h1 : x1 < f
            · have h2 : ¬ (f : Int) ≤ x1 := by omega
              go_wp2_with fail
              go_meet
              exact ⟨by rw [show sI f x1 = x1 by unfold sI; rw [if_pos h1]]; exact HT.out, Turn.refl _ _⟩
            · have h2 : (f : Int) ≤ x1 := by omega
              have c0 : W1.cell? ⟨T, 0, none⟩ = some (.int .i64 x1) := HT.out.cell 0
              have f0 := HT.out.frozen 0
              go_wp2_with fail
              go_meet
              exact ⟨by rw [show sI f x1 = x1 + 1 by unfold sI; rw [if_neg (by omega)]]; exact HT.out.set_ 0 (.int .i64 (x1 + 1)), (Turn.refl _ _).setCell_ 0 _⟩
          case rest =>
          obtain ⟨W2, rfl⟩ : ∃ z, z = wc := ⟨wc, rfl⟩
          obtain ⟨hT2, ht2⟩ := hcut
          have HT2 := Lib.hid hT2
          have Ht2 := Lib.hid ht2
          clear hT2 ht2 HT
          have c1 : W2.cell? ⟨T, 1, none⟩ = some (.int .i64 y1) := HT2.out.cell 1
          go_upto_if 61 with fail
          go_cut [] (fun wx => Bk wx T 52 #[.int .i64 (sI f x1), .int .i64 (sI f y1), .int .i64 z1] ∧ Turn W1 wx T)
          case first =>
            as_aux_lemma =>
            by_cases h1 : y1 < f
            · have h2 : ¬ (f : Int) ≤ y1 := by omega
              go_wp2_with fail
              go_meet
              exact ⟨by rw [show sI f y1 = y1 by unfold sI; rw [if_pos h1]]; exact HT2.out, Ht2.out⟩
            · have h2 : (f : Int) ≤ y1 := by omega
              have f1 := HT2.out.frozen 1
              go_wp2_with fail
              go_meet
              exact ⟨by rw [show sI f y1 = y1 + 1 by unfold sI; rw [if_neg (by omega)]]; exact HT2.out.set_ 1 (.int .i64 (y1 + 1)), Ht2.out.setCell_ 1 _⟩
          case rest =>
          obtain ⟨W3, rfl⟩ : ∃ z, z = wc := ⟨wc, rfl⟩
          obtain ⟨hT3, ht3⟩ := hcut
          have HT3 := Lib.hid hT3
          have hoT : T ≠ S + 1 + 1 := by omega
          have HO := Lib.hid (ht3.bk HO.out (by omega))
          have HG := Lib.hid (ht3.bk HG.out (by omega))
          have HR := Lib.hid (ht3.bk HR.out (by omega))
          have Ho := Lib.hid (own_turn' Ho.out ht3 (fun e => by have := Hol.out T e.symm; omega))
          have Hn := Lib.hid (own_turn' Hn.out ht3 (fun e => by have := Hnl.out T e.symm; omega))
          have Hb := Lib.hid (ht3.below Hb.out (by omega))
          have hz3 := Hbz.out _ Hb.out
          have hst := Lib.hid (take_snoc' hxy.out)
          clear hT3 ht3 HT2 Ht2 c1
          have d0 : W3.cell? ⟨T, 0, none⟩ = some (.int .i64 (sI f x1)) := HT3.out.cell 0
          have d1 : W3.cell? ⟨T, 1, none⟩ = some (.int .i64 (sI f y1)) := HT3.out.cell 1
          have d2 : W3.cell? ⟨T, 2, none⟩ = some (.int .i64 z1) := HT3.out.cell 2
          have hc0 : W3.cell? ⟨S + 1 + 1, 1, none⟩ = some v := HO.out.cell 1
          have hrow := HO.out.ne_own Hn.out (by decide)
          go_wp2_with (at_builtin; refine wpList_app2 (w := W3) rfl _ _ rfl elt_tri Hn.out hz3 rfl rfl (by simp) rfl rfl (by omega) ?_; intro v3 w4 hown4 hg4 hz4; obtain ⟨A2, c2, rfl⟩ := own_slice hown4; have hg5 := HO.out.grown hg4 hrow; have hq0 : w4.cell? ⟨S + 1 + 1, 1, none⟩ = some v := hg5.cell 1; have hq3 := hg5.frozen 1; have Hg5 := Lib.hid hg5; clear hg5)
          have hr4 := (HR.out.grown hg4 (HR.out.ne_own Hn.out (by decide))).far (p := ⟨S + 1 + 1, 1, none⟩) (by show S + 1 ≠ S + 1 + 1; omega) (.slice A2 (k + 1) c2)
          have hG4 := (HG.out.grown hg4 (HG.out.ne_own Hn.out (by decide))).far (p := ⟨S + 1 + 1, 1, none⟩) (by show S ≠ S + 1 + 1; omega) (.slice A2 (k + 1) c2)
          have hb4 := (Hb.out.grown hg4 hz3 (fun q hq => (Hn.out.lt q hq).1)).setCell (p := ⟨S + 1 + 1, 1, none⟩) (by show S ≤ S + 1 + 1; omega) (.slice A2 (k + 1) c2)
          have hn4 := own_set (i := 1) hown4 (Hg5.out.ne_own hown4 (by decide)) (.slice A2 (k + 1) c2)
          have ho4 := own_grown Ho.out hg4 (own_ne Ho.out Hn.out (by decide))
          have ho5 := own_set (i := 1) ho4 (Hg5.out.ne_own ho4 (by decide)) (.slice A2 (k + 1) c2)
          go_roundw
          case rel =>
            refine ⟨k + 1, _, by omega, by go_num, Hg5.out.set_ 1 (.slice A2 (k + 1) c2), ho5, ?_, hG4, hr4, hb4⟩
            rw [hst.out, putN, List.map_append, triC_append]
            exact hn4
          case measure => simp [intOf]; omega
        · obtain rfl : k = ns.length := by omega
          rw [List.take_length] at Hn
          have hnl : ns.length = (putN ns f).length := by rw [putN, List.length_map]
          have hn := Hn.out
          rw [hnl] at hn
          obtain ⟨B1, b1, hvB⟩ := own_slice hn
          subst hvB
          have Hn := Lib.hid hn
          have hc0 : wr.cell? ⟨S + 1 + 1, 0, none⟩ = some (.slice A1 PW.length a1) := HO.out.cell 0
          have hc1 : wr.cell? ⟨S + 1 + 1, 1, none⟩ = some (.slice B1 (putN ns f).length b1) := HO.out.cell 1
          have hr0 : wr.cell? ⟨S + 1, 0, none⟩ = some (.slice none 0 0) := HR.out.cell 0
          have hr1 : wr.cell? ⟨S + 1, 1, none⟩ = some (.slice none 0 0) := HR.out.cell 1
          have hf0 := HR.out.frozen 0
          have hf1 := HR.out.frozen 1
          have hz0 := ((HR.out.set_ 0 (.slice A1 PW.length a1)).set_ 1 (.slice B1 (putN ns f).length b1)).cell 0
          have hz1 := ((HR.out.set_ 0 (.slice A1 PW.length a1)).set_ 1 (.slice B1 (putN ns f).length b1)).cell 1
          clear hnl hn
          go_wp2_with fail
          refine bodyPost_ret (v := .agg #[.slice A1 PW.length a1, .slice B1 (putN ns f).length b1]) (by simp [results, Try.results23, go_sem, hz0, hz1]) rfl ⟨A1, a1, B1, b1, by rw [hPW.out], ?_, ?_, ?_⟩
          · rw [HSz.out, hPW.out]; exact own_set (i := 1) (own_set (i := 0) Ho.out (HR.out.ne_own Ho.out (by decide)) _) (HR.out.ne_own Ho.out (by decide)) _
          · rw [HSz.out]; exact own_set (i := 1) (own_set (i := 0) Hn.out (HR.out.ne_own Hn.out (by decide)) _) (HR.out.ne_own Hn.out (by decide)) _
          · rw [HSz.out]; exact (Hb.out.setCell (p := ⟨S + 1, 0, none⟩) (by show S ≤ S + 1; omega) _).setCell (p := ⟨S + 1, 1, none⟩) (by show S ≤ S + 1; omega) _
end Go.Proofs.Ytmdgdphhedgojaa

namespace Go.Proofs.Ytmdgdphhedgojaa
open Go.RowKit Go.Maps

/-- A row's beginning is a row. -/
theorem own_take {w : World} {base g n c k : Nat} {e : TypeId} {size : Nat} {xs : List Value} (h : w.ownsRow base e size (.slice (some ⟨g, 0, none⟩) n c) n xs) (hk : k ≤ n) : w.ownsRow base e size (.slice (some ⟨g, 0, none⟩) k c) k (xs.take (k * size)) := by
  obtain ⟨hx, h2⟩ := h
  have hkn : k * size ≤ n * size := Nat.mul_le_mul_right _ hk
  rcases h2 with ⟨h0, _⟩ | ⟨g', cap', cur, hv, hg, hh, hn, hcap, hsz, htake⟩
  · cases h0
  · cases hv
    refine ⟨by rw [List.length_take, hx]; omega, .inr ⟨g, c, cur, rfl, hg, hh, by omega, hcap, hsz, ?_⟩⟩
    rw [← htake, List.take_take, Nat.min_eq_left hkn]
theorem own_cap2 {w : World} {base g n c : Nat} {e : TypeId} {size : Nat} {xs : List Value} (h : w.ownsRow base e size (.slice (some ⟨g, 0, none⟩) n c) n xs) : n ≤ c := by
  rcases h.2 with ⟨h0, _⟩ | ⟨g', cap', cur, hv, hg, hh, hn, hcap, hsz, htake⟩
  · cases h0
  · cases hv; exact hn
theorem triC_take (ns : List (Int × Int × Int)) : ∀ k, (triC ns).take (k * 3) = triC (ns.take k) := by
  induction ns with
  | nil => intro k; simp [triC]
  | cons t ns ih =>
    intro k
    cases k with
    | zero => simp [triC]
    | succ k =>
      have := ih k
      simp only [triC] at this
      simp only [triC, List.flatMap_cons, List.take_succ_cons, Nat.succ_mul, List.cons_append, List.nil_append]
      simp only [this]
theorem triC_drop (ns : List (Int × Int × Int)) : ∀ k, (triC ns).drop (k * 3) = triC (ns.drop k) := by
  induction ns with
  | nil => intro k; simp [triC]
  | cons t ns ih =>
    intro k
    cases k with
    | zero => simp [triC]
    | succ k =>
      have := ih k
      simp only [triC] at this
      simp only [triC, List.flatMap_cons, List.drop_succ_cons, Nat.succ_mul, List.cons_append, List.nil_append]
      simp only [this]
theorem triC_app (a b : List (Int × Int × Int)) : triC a ++ triC b = triC (a ++ b) := by simp [triC]
theorem GV.del {ws : List Int} {ns : List (Int × Int × Int)} (h : GV ws ns) (i : Nat) : GV ws (ns.take i ++ ns.drop (i + 1)) := by
  have hs : (ns.take i ++ ns.drop (i + 1)).Sublist ns := by
    have h1 : (ns.drop (i + 1)).Sublist (ns.drop i) := by
      rw [← List.drop_drop]
      exact List.drop_sublist 1 _
    have h2 := List.Sublist.append (List.Sublist.refl (ns.take i)) h1
    rwa [List.take_append_drop] at h2
  exact ⟨h.n1, Nat.le_trans hs.length_le h.n2, h.w, fun u hu => h.t u (hs.subset hu), h.s.sublist hs⟩
theorem st_dropT {w : World} {b o : Nat} {l : List (Int × Int × Int)} (h : ST w (some ⟨b, o, none⟩) l) (n : Nat) : ST w (some ⟨b, o + n * 3, none⟩) (l.drop n) := fun j u hu => by
  rw [← triC_drop, List.getElem?_drop] at hu
  obtain ⟨b', o', e, hc⟩ := h (n * 3 + j) u hu
  injection e with e
  injection e with e1 e2
  subst e1 e2
  exact ⟨_, _, rfl, by rw [Nat.add_assoc]; exact hc⟩

/-- A changed graph so far: the argument, the result, the graph that is made. -/
structure ChR (S : Nat) (w W : World) (A B : Option Addr) (a b n m : Nat) (ws : List Int) (ns : List (Int × Int × Int)) (C D : Option Addr) (c d : Nat) : Prop where
  g : Bk W S 30 #[.slice A n a, .slice B m b]
  r : Bk W (S + 1) 30 #[.slice none 0 0, .slice none 0 0]
  o : Bk W (S + 1 + 1) 30 #[.slice C ws.length c, .slice D ns.length d]
  ra : W.ownsRow S 3 1 (.slice C ws.length c) ws.length (ws.map (Value.int .i64))
  rb : W.ownsRow S 52 3 (.slice D ns.length d) ns.length (triC ns)
  bl : Below S w W

theorem ChR.res {S : Nat} {w W : World} {A B : Option Addr} {a b n m : Nat} {ws : List Int} {ns : List (Int × Int × Int)} {C D : Option Addr} {c d : Nat} (h : ChR S w W A B a b n m ws ns C D c d) {U V : Value} :
    ((W.setCell ⟨S + 1, 0, none⟩ U).setCell ⟨S + 1, 1, none⟩ V).ownsRow S 3 1 (.slice C ws.length c) ws.length (ws.map (Value.int .i64)) ∧ ((W.setCell ⟨S + 1, 0, none⟩ U).setCell ⟨S + 1, 1, none⟩ V).ownsRow S 52 3 (.slice D ns.length d) ns.length (triC ns) ∧
      Below S w ((W.setCell ⟨S + 1, 0, none⟩ U).setCell ⟨S + 1, 1, none⟩ V) :=
  ⟨own_set (i := 1) (own_set (i := 0) h.ra (h.r.ne_own h.ra (by decide)) _) (h.r.ne_own h.ra (by decide)) _, own_set (i := 1) (own_set (i := 0) h.rb (h.r.ne_own h.rb (by decide)) _) (h.r.ne_own h.rb (by decide)) _, (h.bl.setCell (p := ⟨S + 1, 0, none⟩) (by show S ≤ S + 1; omega) _).setCell (p := ⟨S + 1, 1, none⟩) (by show S ≤ S + 1; omega) _⟩
theorem ChR.setW {S : Nat} {w W : World} {A B : Option Addr} {a b n m g : Nat} {ws : List Int} {ns : List (Int × Int × Int)} {D : Option Addr} {c d : Nat} (h : ChR S w W A B a b n m ws ns (some ⟨g, 0, none⟩) D c d) (f : Nat) (x : Int) :
    ChR S w (W.setCell ⟨g, f, none⟩ (.int .i64 x)) A B a b n m (ws.set f x) ns (some ⟨g, 0, none⟩) D c d := by
  obtain ⟨cur, hcur, _⟩ := own_bk2 h.ra
  have ha := own_put (i := f) h.ra (.int .i64 x)
  rw [← List.map_set] at ha
  exact ⟨h.g.far (p := ⟨g, f, none⟩) (Bk.ne_ h.g hcur (by decide)) _, h.r.far (p := ⟨g, f, none⟩) (Bk.ne_ h.r hcur (by decide)) _, by rw [List.length_set]; exact h.o.far (p := ⟨g, f, none⟩) (Bk.ne_ h.o hcur (by decide)) _,
    by rw [List.length_set]; exact ha, own_set (i := f) h.rb (hcur.ne_own h.rb (by decide)) _, h.bl.setCell (p := ⟨g, f, none⟩) (h.ra.lt g rfl).1 _⟩
theorem ChR.setN {S : Nat} {w W : World} {A B : Option Addr} {a b n m g : Nat} {ws : List Int} {ns : List (Int × Int × Int)} {C : Option Addr} {c d : Nat} (h : ChR S w W A B a b n m ws ns C (some ⟨g, 0, none⟩) c d) {j : Nat} {p q z : Int} (hj : ns[j]? = some (p, q, z)) (x : Int) :
    ChR S w (W.setCell ⟨g, j * 3 + 2, none⟩ (.int .i64 x)) A B a b n m ws (ns.set j (p, q, x)) C (some ⟨g, 0, none⟩) c d := by
  obtain ⟨cur, hcur, _⟩ := own_bk2 h.rb
  have hb := own_put (i := j * 3 + 2) h.rb (.int .i64 x)
  rw [Nat.mul_comm j 3, triC_set hj] at hb
  rw [Nat.mul_comm j 3]
  exact ⟨h.g.far (p := ⟨g, 3 * j + 2, none⟩) (Bk.ne_ h.g hcur (by decide)) _, h.r.far (p := ⟨g, 3 * j + 2, none⟩) (Bk.ne_ h.r hcur (by decide)) _, by rw [List.length_set]; exact h.o.far (p := ⟨g, 3 * j + 2, none⟩) (Bk.ne_ h.o hcur (by decide)) _,
    own_set (i := 3 * j + 2) h.ra (hcur.ne_own h.ra (by decide)) _, by rw [List.length_set]; exact hb, h.bl.setCell (p := ⟨g, 3 * j + 2, none⟩) (h.rb.lt g rfl).1 _⟩
theorem ChR.setD {S : Nat} {w W W2 : World} {A B : Option Addr} {a b n m g k : Nat} {ws : List Int} {ns ms : List (Int × Int × Int)} {C E : Option Addr} {c d e : Nat} (h : ChR S w W A B a b n m ws ns C (some ⟨g, 0, none⟩) c d) (hz : S ≤ W.heap.size) (hg : W.grownBy W2 (Value.slice (some ⟨g, 0, none⟩) k d).ownBlock)
    (ho : W2.ownsRow S 52 3 (.slice E ms.length e) ms.length (triC ms)) : ChR S w (W2.setCell ⟨S + 1 + 1, 1, none⟩ (.slice E ms.length e)) A B a b n m ws ms C E c e := by
  have hg : W.grownBy W2 (some g) := hg
  have e1 := h.o.grown hg (h.o.ne_own h.rb (by decide))
  have e2 := own_grown h.ra hg (own_ne h.ra h.rb (by decide))
  exact ⟨(h.g.grown hg (h.g.ne_own h.rb (by decide))).far (p := ⟨S + 1 + 1, 1, none⟩) (by show S ≠ S + 1 + 1; omega) _, (h.r.grown hg (h.r.ne_own h.rb (by decide))).far (p := ⟨S + 1 + 1, 1, none⟩) (by show S + 1 ≠ S + 1 + 1; omega) _,
    e1.set_ 1 (.slice E ms.length e), own_set (i := 1) e2 (e1.ne_own e2 (by decide)) _, own_set (i := 1) ho (e1.ne_own ho (by decide)) _, (h.bl.grown hg hz (fun q hq => (h.rb.lt q hq).1)).setCell (p := ⟨S + 1 + 1, 1, none⟩) (by show S ≤ S + 1 + 1; omega) _⟩

set_option linter.unusedSimpArgs false in
set_option maxHeartbeats 8000000 in
set_option maxRecDepth 100000 in
theorem changed_any (A B : Option Addr) (a b : Nat) (q1 q2 q3 : Int) (ws : List Int) (ns : List (Int × Int × Int)) (w : World) (hA : SI w A ws) (hB : ST w B ns) (hv : GV ws ns) (hl : ws.length + 1 ≤ 4096) (hb : ns.length ≤ b) (h1 : i64 q1) (h2 : i64 q2) (h3 : i64 q3) :
    Calls Try.prog 12 #[.agg #[.slice A ws.length a, .slice B ns.length b], .int .i64 q1, .int .i64 q2, .int .i64 q3] w fun e w' => ∃ ws' ns' A' a' B' b', e = .returned (.agg #[.slice A' ws'.length a', .slice B' ns'.length b']) ∧ GV ws' ns' ∧ ws'.length ≤ ws.length + 1 ∧
      w'.ownsRow w.heap.size 3 1 (.slice A' ws'.length a') ws'.length (ws'.map (Value.int .i64)) ∧ w'.ownsRow w.heap.size 52 3 (.slice B' ns'.length b') ns'.length (triC ns') ∧ Below w.heap.size w w' := by
  obtain ⟨S, hSz⟩ : ∃ S, w.heap.size = S := ⟨_, rfl⟩
  have HA := Lib.hid (fun (W : World) (hW : Below S w W) => (hA.below (hSz.symm ▸ hW) : SI W A ws))
  have HB := Lib.hid (fun (W : World) (hW : Below S w W) => (hB.below (hSz.symm ▸ hW) : ST W B ns))
  have Hbz := Lib.hid (fun (W : World) (hW : Below S w W) => (show S ≤ W.heap.size by have := hW.size; omega))
  have Hv := Lib.hid hv
  have Hq := Lib.hid (show i64 q1 ∧ i64 q2 ∧ i64 q3 from ⟨h1, h2, h3⟩)
  have n2 := hv.n2
  clear hA hB hv h1 h2 h3
  go_enter Try.func12, Try.ntmps12
  go_upto_region 2 with fail
  have hb0 : Below S w (((w.alloc (.cells #[.slice A ws.length a, .slice B ns.length b] 30)).alloc (.cells #[.slice none 0 0, .slice none 0 0] 30)).alloc (.cells #[.slice none 0 0, .slice none 0 0] 30)) := hSz ▸ (((Below.refl _ _).alloc (Nat.le_refl _) _).alloc (by simp) _).alloc (by simp; omega) _
  have hbG : Bk (((w.alloc (.cells #[.slice A ws.length a, .slice B ns.length b] 30)).alloc (.cells #[.slice none 0 0, .slice none 0 0] 30)).alloc (.cells #[.slice none 0 0, .slice none 0 0] 30)) S 30 #[.slice A ws.length a, .slice B ns.length b] := ((Bk.new' _ _ _ hSz).alloc _).alloc _
  have hbR : Bk (((w.alloc (.cells #[.slice A ws.length a, .slice B ns.length b] 30)).alloc (.cells #[.slice none 0 0, .slice none 0 0] 30)).alloc (.cells #[.slice none 0 0, .slice none 0 0] 30)) (S + 1) 30 #[.slice none 0 0, .slice none 0 0] := (Bk.new' _ _ _ (by simp [hSz])).alloc _
  have hbO : Bk (((w.alloc (.cells #[.slice A ws.length a, .slice B ns.length b] 30)).alloc (.cells #[.slice none 0 0, .slice none 0 0] 30)).alloc (.cells #[.slice none 0 0, .slice none 0 0] 30)) (S + 1 + 1) 30 #[.slice none 0 0, .slice none 0 0] := Bk.new' _ _ _ (by simp [hSz])
  generalize ((w.alloc (.cells #[.slice A ws.length a, .slice B ns.length b] 30)).alloc (.cells #[.slice none 0 0, .slice none 0 0] 30)).alloc (.cells #[.slice none 0 0, .slice none 0 0] 30) = W0 at *
  have Hb0 := Lib.hid hb0
  have HG0 := Lib.hid hbG
  have HR0 := Lib.hid hbR
  have HO0 := Lib.hid hbO
  have HSz := Lib.hid hSz
  clear hb0 hbG hbR hbO hSz
  have g0 : W0.cell? ⟨S, 0, none⟩ = some (.slice A ws.length a) := HG0.out.cell 0
  have o0 : W0.cell? ⟨S + 1 + 1, 0, none⟩ = some (.slice none 0 0) := HO0.out.cell 0
  have hz0 := Hbz.out _ Hb0.out
  go_upto_region 3 with (at_builtin; refine wpList_appM (w := W0) rfl _ _ rfl elt_int (World.ownsRow_nil _ S _ _) hz0 rfl rfl (HA.out _ Hb0.out) (by simp) (ints_all ws) (by omega) ?_; intro v4 w4 hown4 hg4; rw [Nat.zero_add, List.nil_append] at hown4; obtain ⟨A4, a4, rfl⟩ := own_slice hown4; have Hg4 := Lib.hid hg4; have Ho4 := Lib.hid hown4; have hO4 := HO0.out.grown hg4 (by simp [Value.ownBlock]); have p0 := hO4.frozen 0; have p1 : w4.cell? ⟨S + 1 + 1, 0, none⟩ = some (.slice none 0 0) := hO4.cell 0; clear hown4 hg4 o0 g0)
  have HO4 := Lib.hid (hO4.set_ 0 (.slice A4 ws.length a4))
  have HG4 := Lib.hid ((HG0.out.grown Hg4.out (by simp [Value.ownBlock])).far (p := ⟨S + 1 + 1, 0, none⟩) (by show S ≠ S + 1 + 1; omega) (.slice A4 ws.length a4))
  have HR4 := Lib.hid ((HR0.out.grown Hg4.out (by simp [Value.ownBlock])).far (p := ⟨S + 1 + 1, 0, none⟩) (by show S + 1 ≠ S + 1 + 1; omega) (.slice A4 ws.length a4))
  have Hb4 := Lib.hid ((Hb0.out.grown Hg4.out hz0 (fun q hq => by simp [Value.ownBlock] at hq)).setCell (p := ⟨S + 1 + 1, 0, none⟩) (by show S ≤ S + 1 + 1; omega) (.slice A4 ws.length a4))
  have HoA := Lib.hid (own_set (i := 0) Ho4.out (hO4.ne_own Ho4.out (by decide)) (.slice A4 ws.length a4))
  clear hO4 p0 p1 Ho4 Hg4 hz0 HO0 HG0 HR0 Hb0
  generalize w4.setCell ⟨S + 1 + 1, 0, none⟩ (.slice A4 ws.length a4) = W1 at *
  have g0 : W1.cell? ⟨S, 1, none⟩ = some (.slice B ns.length b) := HG4.out.cell 1
  have o0 : W1.cell? ⟨S + 1 + 1, 1, none⟩ = some (.slice none 0 0) := HO4.out.cell 1
  have hz1 := Hbz.out _ Hb4.out
  go_upto_region 4 with (at_builtin; refine wpList_appM (w := W1) rfl _ _ rfl elt_tri (World.ownsRow_nil _ S _ _) hz1 rfl rfl (HB.out _ Hb4.out) (by rw [triC_len]) (triC_all ns) (by omega) ?_; intro v6 w6 hown6 hg6; rw [Nat.zero_add, List.nil_append] at hown6; obtain ⟨B4, b4, rfl⟩ := own_slice hown6; have Hg6 := Lib.hid hg6; have Ho6 := Lib.hid hown6; have hO6 := HO4.out.grown hg6 (by simp [Value.ownBlock]); have p0 := hO6.frozen 1; have p1 : w6.cell? ⟨S + 1 + 1, 1, none⟩ = some (.slice none 0 0) := hO6.cell 1; clear hown6 hg6 o0 g0)
  have HC := Lib.hid (⟨(HG4.out.grown Hg6.out (by simp [Value.ownBlock])).far (p := ⟨S + 1 + 1, 1, none⟩) (by show S ≠ S + 1 + 1; omega) (.slice B4 ns.length b4),
    (HR4.out.grown Hg6.out (by simp [Value.ownBlock])).far (p := ⟨S + 1 + 1, 1, none⟩) (by show S + 1 ≠ S + 1 + 1; omega) (.slice B4 ns.length b4),
    hO6.set_ 1 (.slice B4 ns.length b4),
    own_set (i := 1) (own_grown HoA.out Hg6.out (Classical.em _)) (hO6.ne_own (own_grown HoA.out Hg6.out (Classical.em _)) (by decide)) (.slice B4 ns.length b4),
    own_set (i := 1) Ho6.out (hO6.ne_own Ho6.out (by decide)) (.slice B4 ns.length b4),
    (Hb4.out.grown Hg6.out hz1 (fun q hq => by simp [Value.ownBlock] at hq)).setCell (p := ⟨S + 1 + 1, 1, none⟩) (by show S ≤ S + 1 + 1; omega) (.slice B4 ns.length b4)⟩ : ChR S w (w6.setCell ⟨S + 1 + 1, 1, none⟩ (.slice B4 ns.length b4)) A B a b ws.length ns.length ws ns A4 B4 a4 b4)
  clear hO6 p0 p1 Ho6 Hg6 hz1 HO4 HG4 HR4 Hb4 HoA
  generalize w6.setCell ⟨S + 1 + 1, 1, none⟩ (.slice B4 ns.length b4) = W1 at *
  by_cases hs : ws.length < 2
  · skip
    have o0 : W1.cell? ⟨S + 1 + 1, 0, none⟩ = some (.slice A4 ws.length a4) := HC.out.o.cell 0
    have o1 : W1.cell? ⟨S + 1 + 1, 1, none⟩ = some (.slice B4 ns.length b4) := HC.out.o.cell 1
    have r0 : W1.cell? ⟨S + 1, 0, none⟩ = some (.slice none 0 0) := HC.out.r.cell 0
    have r1 : W1.cell? ⟨S + 1, 1, none⟩ = some (.slice none 0 0) := HC.out.r.cell 1
    have r2 := HC.out.r.frozen 0
    have r3 := HC.out.r.frozen 1
    have z0 := ((HC.out.r.set_ 0 (.slice A4 ws.length a4)).set_ 1 (.slice B4 ns.length b4)).cell 0
    have z1 := ((HC.out.r.set_ 0 (.slice A4 ws.length a4)).set_ 1 (.slice B4 ns.length b4)).cell 1
    obtain ⟨e1, e2, e3⟩ := HC.out.res (U := .slice A4 ws.length a4) (V := .slice B4 ns.length b4)
    have E1 := Lib.hid e1
    have E2 := Lib.hid e2
    have E3 := Lib.hid e3
    clear e1 e2 e3
    go_wp2_with fail
    refine bodyPost_ret (v := .agg #[.slice A4 ws.length a4, .slice B4 ns.length b4]) (by simp [results, Try.results12, go_sem, z0, z1]) rfl ⟨ws, ns, _, _, _, _, rfl, Hv.out, by omega, by rw [HSz.out]; exact E1.out, by rw [HSz.out]; exact E2.out, by rw [HSz.out]; exact E3.out⟩
  · obtain ⟨qa, hqa⟩ : ∃ z, Hid (around q1 ((ws.length : Int) - 1) = z) := ⟨_, Lib.hid rfl⟩
    obtain ⟨qb, hqb⟩ : ∃ z, Hid (around q2 4 = z) := ⟨_, Lib.hid rfl⟩
    obtain ⟨y12, hy⟩ : ∃ z, Hid (around q3 12 = z) := ⟨_, Lib.hid rfl⟩
    have Ka := Lib.hid (fun W => hqa.out ▸ around_any q1 ((ws.length : Int) - 1) W Hq.out.1.1 Hq.out.1.2 (by omega) (by omega))
    have Kb := Lib.hid (fun W => hqb.out ▸ around_any q2 4 W Hq.out.2.1.1 Hq.out.2.1.2 (by omega) (by omega))
    have Ky := Lib.hid (fun W => hy.out ▸ around_any q3 12 W Hq.out.2.2.1 Hq.out.2.2.2 (by omega) (by omega))
    obtain ⟨a1, a2⟩ := hqa.out ▸ around_bd q1 ((ws.length : Int) - 1) (by omega)
    obtain ⟨b1, b2⟩ := hqb.out ▸ around_bd q2 4 (by omega)
    obtain ⟨y1, y2⟩ := hy.out ▸ around_bd q3 12 (by omega)
    clear hqa hqb hy
    obtain ⟨q, rfl⟩ := Int.eq_ofNat_of_zero_le a1
    obtain ⟨f, hf⟩ : ∃ f : Nat, Hid (1 + q = f) := ⟨_, Lib.hid rfl⟩
    have hfc : (1 + (q : Int)) = (f : Int) := by rw [← hf.out]; omega
    have hf1 : 1 ≤ f := by omega
    have hf2 : f < ws.length := by omega
    have hw1 : IntKind.i64.wrap ((ws.length : Int) - 1) = (ws.length : Int) - 1 := IntWalk.i64_in _ (by omega)
    have hw2 : IntKind.i64.wrap (1 + (q : Int)) = (f : Int) := by rw [hfc]; exact IntWalk.i64_in _ (by omega)
    clear hfc hf
    obtain ⟨gA, cA, hvA, hgA, _⟩ := HC.out.ra.form (by omega)
    injection hvA with e1 _ e3
    subst e1 e3
    obtain ⟨curA, hcA, -⟩ := own_bk2 HC.out.ra
    have HP := Lib.hid (fun (W : World) (hW : Below W1.heap.size W1 W) => put_any A B a b f y12 ws ns W (HA.out _ (HC.out.bl.trans (hW.mono (Hbz.out _ HC.out.bl)))) (HB.out _ (HC.out.bl.trans (hW.mono (Hbz.out _ HC.out.bl)))) hf1 hf2 (by omega) n2 (fun t ht => by have := Hv.out.t t ht; omega))
    have hcase : qb = 0 ∨ qb = 1 ∨ qb = 2 ∨ qb = 3 := by omega
    clear a1 a2 b1 b2
    have o0 : W1.cell? ⟨S + 1 + 1, 0, none⟩ = some (.slice (some ⟨gA, 0, none⟩) ws.length a4) := HC.out.o.cell 0
    go_wp2_with fail
    refine (Ka.out _).mono ?_
    rintro e wz ⟨rfl, rfl⟩
    clear Ka hw1
    go_wp2_with fail
    refine (Kb.out _).mono ?_
    rintro e wz ⟨rfl, rfl⟩
    clear Kb hw2
    have HCd := Lib.hid (show ChR S w W1.drew A B a b ws.length ns.length ws ns (some ⟨gA, 0, none⟩) B4 a4 b4 from ⟨HC.out.g, HC.out.r, HC.out.o, HC.out.ra, HC.out.rb, HC.out.bl.drew⟩)
    rcases hcase with rfl | rfl | rfl | rfl
    · obtain ⟨xA, oA', xv, he, hcx, hxv⟩ := (own_si HCd.out.ra).get (k := f) hf2
      injection he with he
      injection he with he1 he2
      subst he1 he2
      rw [Nat.zero_add] at hcx
      have hfx := (show Bk W1.drew gA _ _ from hcA).frozen f
      have HS0 := Lib.hid (show W1.drew.cell? ⟨S + 1 + 1, 0, none⟩ = some (.slice (some ⟨gA, 0, none⟩) ws.length a4) from HCd.out.o.cell 0)
      go_wp2_with fail
      refine wp_region_noPanic ?_
      refine region_T (s := 6) (S := fun W => W.cell? ⟨S + 1 + 1, 0, none⟩ = some (.slice (some ⟨gA, 0, none⟩) ws.length a4)) (by kernel_rfl) ?_
      change wpT _ _ _ _ _ 7 _ _ W1.drew
      refine T_take (k := 0) (v := .pointer (some ⟨S + 1 + 1, 0, none⟩)) rfl (by decide +kernel) (fun _ _ _ h => h) (Or.inl ⟨by rfl, fun W hW => by have s0 := hW; go_simp⟩) HS0.out ?_
      try simp only [Act.put, List.setIfInBounds_toArray, List.set_cons_zero, List.set_cons_succ]
      refine T_take (k := 1) (v := .slice (some ⟨gA, 0, none⟩) ws.length a4) rfl (by decide +kernel) (fun _ _ _ h => h) (Or.inl ⟨by rfl, fun W hW => by have s0 := hW; go_simp⟩) HS0.out ?_
      try simp only [Act.put, List.setIfInBounds_toArray, List.set_cons_zero, List.set_cons_succ]
      refine T_take (k := 2) (v := .int .i64 f) rfl (by decide +kernel) (fun _ _ _ h => h) (Or.inl ⟨by rfl, fun W hW => by have s0 := hW; go_simp⟩) HS0.out ?_
      try simp only [Act.put, List.setIfInBounds_toArray, List.set_cons_zero, List.set_cons_succ]
      refine T_take (k := 3) (v := .int .i64 q3) rfl (by decide +kernel) (fun _ _ _ h => h) (Or.inl ⟨by rfl, fun W hW => by have s0 := hW; go_simp⟩) HS0.out ?_
      try simp only [Act.put, List.setIfInBounds_toArray, List.set_cons_zero, List.set_cons_succ]
      refine T_one (i := 4) (by decide +kernel) rfl rfl (fun K hK4 => ?_)
      have hK4 := Lib.hid hK4
      go_simp
      go_at_call 20
      refine (Ky.out _).mono ?_
      rintro e w8 ⟨rfl, rfl⟩
      refine hK4.out _ _ HS0.out ?_
      try simp only [Act.put, List.setIfInBounds_toArray, List.set_cons_zero, List.set_cons_succ]
      refine T_take (k := 5) (v := .pointer (some ⟨gA, f, none⟩)) rfl (by decide +kernel) (fun _ _ _ h => h) (Or.inl ⟨by rfl, fun W hW => by have s0 := hW; go_simp⟩) HS0.out ?_
      try simp only [Act.put, List.setIfInBounds_toArray, List.set_cons_zero, List.set_cons_succ]
      refine T_last (by decide +kernel) (by decide +kernel) (by decide +kernel) rfl rfl (fun K hKl => ?_)
      have hKl := Lib.hid hKl
      go_simp
      refine hKl.out _ _ (NoPanic.normal ?_)
      try simp only [Act.put, List.setIfInBounds_toArray, List.set_cons_zero, List.set_cons_succ]
      have HC5 := Lib.hid (show ChR S w ((W1.setCell ⟨gA, f, none⟩ (.int .i64 y12)).drew) A B a b ws.length ns.length (ws.set f y12) ns (some ⟨gA, 0, none⟩) B4 a4 b4 from (HCd.out.setW f y12))
      have hlw : (ws.set f y12).length = ws.length := by rw [List.length_set]
      have HV5 := Lib.hid (Hv.out.setW (x := y12) (by omega) f)
      have hl5 : (ws.set f y12).length ≤ ws.length + 1 := by omega
      clear hK4 hKl HS0 HC HCd o0 HP Ky hlw
      generalize (W1.setCell ⟨gA, f, none⟩ (.int .i64 y12)).drew = W5 at *
      generalize ws.set f y12 = ws2 at *
      have o0 : W5.cell? ⟨S + 1 + 1, 0, none⟩ = some (.slice (some ⟨gA, 0, none⟩) ws2.length a4) := HC5.out.o.cell 0
      have o1 : W5.cell? ⟨S + 1 + 1, 1, none⟩ = some (.slice B4 ns.length b4) := HC5.out.o.cell 1
      have r0 : W5.cell? ⟨S + 1, 0, none⟩ = some (.slice none 0 0) := HC5.out.r.cell 0
      have r1 : W5.cell? ⟨S + 1, 1, none⟩ = some (.slice none 0 0) := HC5.out.r.cell 1
      have r2 := HC5.out.r.frozen 0
      have r3 := HC5.out.r.frozen 1
      have z0 := ((HC5.out.r.set_ 0 (.slice (some ⟨gA, 0, none⟩) ws2.length a4)).set_ 1 (.slice B4 ns.length b4)).cell 0
      have z1 := ((HC5.out.r.set_ 0 (.slice (some ⟨gA, 0, none⟩) ws2.length a4)).set_ 1 (.slice B4 ns.length b4)).cell 1
      obtain ⟨e1, e2, e3⟩ := HC5.out.res (U := .slice (some ⟨gA, 0, none⟩) ws2.length a4) (V := .slice B4 ns.length b4)
      have E1 := Lib.hid e1
      have E2 := Lib.hid e2
      have E3 := Lib.hid e3
      clear e1 e2 e3
      go_wp2_with fail
      refine bodyPost_ret (v := .agg #[.slice (some ⟨gA, 0, none⟩) ws2.length a4, .slice B4 ns.length b4]) (by simp [results, Try.results12, go_sem, z0, z1]) rfl ⟨ws2, ns, _, _, _, _, rfl, HV5.out, hl5, by rw [HSz.out]; exact E1.out, by rw [HSz.out]; exact E2.out, by rw [HSz.out]; exact E3.out⟩
    · by_cases hn0 : ns.length = 0
      · have hnz : ¬ (0 : Int) < (ns.length : Int) := by omega
        clear hn0
        have o0 : W1.cell? ⟨S + 1 + 1, 0, none⟩ = some (.slice (some ⟨gA, 0, none⟩) ws.length a4) := HC.out.o.cell 0
        have o1 : W1.cell? ⟨S + 1 + 1, 1, none⟩ = some (.slice B4 ns.length b4) := HC.out.o.cell 1
        have r0 : W1.cell? ⟨S + 1, 0, none⟩ = some (.slice none 0 0) := HC.out.r.cell 0
        have r1 : W1.cell? ⟨S + 1, 1, none⟩ = some (.slice none 0 0) := HC.out.r.cell 1
        have r2 := HC.out.r.frozen 0
        have r3 := HC.out.r.frozen 1
        have z0 := ((HC.out.r.set_ 0 (.slice (some ⟨gA, 0, none⟩) ws.length a4)).set_ 1 (.slice B4 ns.length b4)).cell 0
        have z1 := ((HC.out.r.set_ 0 (.slice (some ⟨gA, 0, none⟩) ws.length a4)).set_ 1 (.slice B4 ns.length b4)).cell 1
        obtain ⟨e1, e2, e3⟩ := HC.out.res (U := .slice (some ⟨gA, 0, none⟩) ws.length a4) (V := .slice B4 ns.length b4)
        have E1 := Lib.hid e1
        have E2 := Lib.hid e2
        have E3 := Lib.hid e3
        clear e1 e2 e3
        go_wp2_with fail
        refine bodyPost_ret (v := .agg #[.slice (some ⟨gA, 0, none⟩) ws.length a4, .slice B4 ns.length b4]) (by simp [results, Try.results12, go_sem, z0, z1]) rfl ⟨ws, ns, _, _, _, _, rfl, Hv.out, by omega, by rw [HSz.out]; exact E1.out, by rw [HSz.out]; exact E2.out, by rw [HSz.out]; exact E3.out⟩
      · obtain ⟨gB, cB, hvB, hgB, _⟩ := HC.out.rb.form (by omega)
        injection hvB with e1 _ e3
        subst e1 e3
        obtain ⟨jj, hjj⟩ : ∃ z, Hid (around q1 (ns.length : Int) = z) := ⟨_, Lib.hid rfl⟩
        obtain ⟨y6, hy6⟩ : ∃ z, Hid (around q3 6 = z) := ⟨_, Lib.hid rfl⟩
        have Kj := Lib.hid (fun W => hjj.out ▸ around_any q1 (ns.length : Int) W Hq.out.1.1 Hq.out.1.2 (by omega) (by omega))
        have K6 := Lib.hid (fun W => hy6.out ▸ around_any q3 6 W Hq.out.2.2.1 Hq.out.2.2.2 (by omega) (by omega))
        obtain ⟨j1, j2⟩ := hjj.out ▸ around_bd q1 (ns.length : Int) (by omega)
        obtain ⟨z1, z2⟩ := hy6.out ▸ around_bd q3 6 (by omega)
        clear hjj hy6
        obtain ⟨j, rfl⟩ := Int.eq_ofNat_of_zero_le j1
        have hjl : j < ns.length := by omega
        obtain ⟨n0, n1, n2', hj⟩ : ∃ x y z, Hid (ns[j]? = some (x, y, z)) := ⟨_, _, _, Lib.hid (List.getElem?_eq_getElem hjl)⟩
        have hw3 : IntKind.i64.wrap (1 + y6) = 1 + y6 := IntWalk.i64_in _ (by omega)
        have HCd := Lib.hid (show ChR S w W1.drew A B a b ws.length ns.length ws ns (some ⟨gA, 0, none⟩) (some ⟨gB, 0, none⟩) a4 b4 from HCd.out)
        have hst : ST W1.drew (some ⟨gB, 0, none⟩) ns := SL.of_own HCd.out.rb
        obtain ⟨xB, oB', v1, v2, v3, he, hc0, _, hcx, _⟩ := hst.get (k := j) hjl
        injection he with he
        injection he with he1 he2
        subst he1 he2
        rw [Nat.zero_add] at hc0 hcx
        obtain ⟨curB, hcB, -⟩ := own_bk2 HC.out.rb
        have hfx := (show Bk W1.drew gB _ _ from hcB).frozen (j * 3 + 2)
        have o1 : W1.cell? ⟨S + 1 + 1, 1, none⟩ = some (.slice (some ⟨gB, 0, none⟩) ns.length b4) := HC.out.o.cell 1
        have HS0 := Lib.hid (show W1.drew.cell? ⟨S + 1 + 1, 1, none⟩ = some (.slice (some ⟨gB, 0, none⟩) ns.length b4) from HCd.out.o.cell 1)
        have hnz : (0 : Int) < (ns.length : Int) := by omega
        clear hst hcB j1 j2
        go_wp2_with fail
        refine wp_region_noPanic ?_
        refine region_H (S := fun W => W.cell? ⟨S + 1 + 1, 1, none⟩ = some (.slice (some ⟨gB, 0, none⟩) ns.length b4)) (by kernel_rfl) ?_
        change wpH _ _ _ _ 13 _ _ W1.drew
        refine H_takeD (k := 0) (v := .pointer (some ⟨S + 1 + 1, 1, none⟩)) (d := some 58) rfl rfl (by decide +kernel) (fun _ _ _ h => h) (Or.inl ⟨by rfl, fun W hW => by have s0 := hW; go_simp⟩) HS0.out ?_
        try simp only [Act.put, List.setIfInBounds_toArray, List.set_cons_zero, List.set_cons_succ]
        refine H_takeD (k := 1) (v := .slice (some ⟨gB, 0, none⟩) ns.length b4) (d := some 59) rfl rfl (by decide +kernel) (fun _ _ _ h => h) (Or.inl ⟨by rfl, fun W hW => by have s0 := hW; go_simp⟩) HS0.out ?_
        try simp only [Act.put, List.setIfInBounds_toArray, List.set_cons_zero, List.set_cons_succ]
        refine H_takeD (k := 2) (v := .int .i64 q1) (d := some 60) rfl rfl (by decide +kernel) (fun _ _ _ h => h) (Or.inl ⟨by rfl, fun W hW => by have s0 := hW; go_simp⟩) HS0.out ?_
        try simp only [Act.put, List.setIfInBounds_toArray, List.set_cons_zero, List.set_cons_succ]
        refine H_takeD (k := 3) (v := .pointer (some ⟨S + 1 + 1, 1, none⟩)) (d := some 61) rfl rfl (by decide +kernel) (fun _ _ _ h => h) (Or.inl ⟨by rfl, fun W hW => by have s0 := hW; go_simp⟩) HS0.out ?_
        try simp only [Act.put, List.setIfInBounds_toArray, List.set_cons_zero, List.set_cons_succ]
        refine H_takeD (k := 4) (v := .slice (some ⟨gB, 0, none⟩) ns.length b4) (d := some 62) rfl rfl (by decide +kernel) (fun _ _ _ h => h) (Or.inl ⟨by rfl, fun W hW => by have s0 := hW; go_simp⟩) HS0.out ?_
        try simp only [Act.put, List.setIfInBounds_toArray, List.set_cons_zero, List.set_cons_succ]
        refine H_takeD (k := 5) (v := .int .i64 ns.length) (d := some 63) rfl rfl (by decide +kernel) (fun _ _ _ h => h) (Or.inl ⟨by rfl, fun W hW => by have s0 := hW; go_simp⟩) HS0.out ?_
        try simp only [Act.put, List.setIfInBounds_toArray, List.set_cons_zero, List.set_cons_succ]
        refine H_takeD (k := 7) (v := .int .i64 q3) (d := some 65) rfl rfl (by decide +kernel) (fun _ _ _ h => h) (Or.inl ⟨by rfl, fun W hW => by have s0 := hW; go_simp⟩) HS0.out ?_
        try simp only [Act.put, List.setIfInBounds_toArray, List.set_cons_zero, List.set_cons_succ]
        refine H_one (i := 6) (by decide +kernel) (H_step rfl rfl (fun K hK7 => ?_))
        have hK7 := Lib.hid hK7
        go_simp
        go_at_call 20
        refine (Kj.out _).mono ?_
        rintro e w8 ⟨rfl, rfl⟩
        refine hK7.out _ _ HS0.out ?_
        try simp only [Act.put, List.setIfInBounds_toArray, List.set_cons_zero, List.set_cons_succ]
        refine H_takeD (k := 10) (v := .pointer (some ⟨gB, j * 3, none⟩)) (d := some 68) rfl rfl (by decide +kernel) (fun _ _ _ h => h) (Or.inl ⟨by rfl, fun W hW => by have s0 := hW; go_simp⟩) HS0.out ?_
        try simp only [Act.put, List.setIfInBounds_toArray, List.set_cons_zero, List.set_cons_succ]
        refine H_one (i := 8) (by decide +kernel) (H_step rfl rfl (fun K hK9 => ?_))
        have hK9 := Lib.hid hK9
        go_simp
        go_at_call 20
        refine (K6.out _).mono ?_
        rintro e w8 ⟨rfl, rfl⟩
        refine hK9.out _ _ HS0.out ?_
        try simp only [Act.put, List.setIfInBounds_toArray, List.set_cons_zero, List.set_cons_succ]
        refine H_takeD (k := 9) (v := .int .i64 (1 + y6)) (d := some 67) rfl rfl (by decide +kernel) (fun _ _ _ h => h) (Or.inl ⟨by rfl, fun W hW => by have s0 := hW; go_simp⟩) HS0.out ?_
        try simp only [Act.put, List.setIfInBounds_toArray, List.set_cons_zero, List.set_cons_succ]
        refine H_takeD (k := 11) (v := .pointer (some ⟨gB, j * 3 + 2, none⟩)) (d := some 69) rfl rfl (by decide +kernel) (fun _ _ _ h => h) (Or.inl ⟨by rfl, fun W hW => by have s0 := hW; go_simp⟩) HS0.out ?_
        try simp only [Act.put, List.setIfInBounds_toArray, List.set_cons_zero, List.set_cons_succ]
        refine H_one (i := 12) (by decide +kernel) (H_step rfl rfl (fun K hK12 => ?_))
        have hK12 := Lib.hid hK12
        go_simp
        have HV5 := Lib.hid (Hv.out.setN hj.out (x := 1 + y6) (by omega))
        have HC5 := Lib.hid (show ChR S w ((W1.setCell ⟨gB, j * 3 + 2, none⟩ (.int .i64 (1 + y6))).drew) A B a b ws.length ns.length ws (ns.set j (n0, n1, 1 + y6)) (some ⟨gA, 0, none⟩) (some ⟨gB, 0, none⟩) a4 b4 from (HCd.out.setN hj.out (1 + y6)))
        have HS1 := Lib.hid (show ((W1.setCell ⟨gB, j * 3 + 2, none⟩ (.int .i64 (1 + y6))).drew).cell? ⟨S + 1 + 1, 1, none⟩ = some (.slice (some ⟨gB, 0, none⟩) ns.length b4) from by have := HC5.out.o.cell 1; rwa [List.length_set] at this)
        refine hK12.out _ _ HS1.out ?_
        try simp only [Act.put, List.setIfInBounds_toArray, List.set_cons_zero, List.set_cons_succ]
        refine H_end (by decide +kernel) (NoPanic.normal ?_)
        try simp only [Act.put, List.setIfInBounds_toArray, List.set_cons_zero, List.set_cons_succ]
        clear HS0 HS1 HC HCd o0 o1 HP Ky
        generalize (W1.setCell ⟨gB, j * 3 + 2, none⟩ (.int .i64 (1 + y6))).drew = W5 at *
        generalize ns.set j (n0, n1, 1 + y6) = ns2 at *
        have o0 : W5.cell? ⟨S + 1 + 1, 0, none⟩ = some (.slice (some ⟨gA, 0, none⟩) ws.length a4) := HC5.out.o.cell 0
        have o1 : W5.cell? ⟨S + 1 + 1, 1, none⟩ = some (.slice (some ⟨gB, 0, none⟩) ns2.length b4) := HC5.out.o.cell 1
        have r0 : W5.cell? ⟨S + 1, 0, none⟩ = some (.slice none 0 0) := HC5.out.r.cell 0
        have r1 : W5.cell? ⟨S + 1, 1, none⟩ = some (.slice none 0 0) := HC5.out.r.cell 1
        have r2 := HC5.out.r.frozen 0
        have r3 := HC5.out.r.frozen 1
        have z0 := ((HC5.out.r.set_ 0 (.slice (some ⟨gA, 0, none⟩) ws.length a4)).set_ 1 (.slice (some ⟨gB, 0, none⟩) ns2.length b4)).cell 0
        have z1 := ((HC5.out.r.set_ 0 (.slice (some ⟨gA, 0, none⟩) ws.length a4)).set_ 1 (.slice (some ⟨gB, 0, none⟩) ns2.length b4)).cell 1
        obtain ⟨e1, e2, e3⟩ := HC5.out.res (U := .slice (some ⟨gA, 0, none⟩) ws.length a4) (V := .slice (some ⟨gB, 0, none⟩) ns2.length b4)
        have E1 := Lib.hid e1
        have E2 := Lib.hid e2
        have E3 := Lib.hid e3
        clear e1 e2 e3
        go_wp2_with fail
        refine bodyPost_ret (v := .agg #[.slice (some ⟨gA, 0, none⟩) ws.length a4, .slice (some ⟨gB, 0, none⟩) ns2.length b4]) (by simp [results, Try.results12, go_sem, z0, z1]) rfl ⟨ws, ns2, _, _, _, _, rfl, HV5.out, by omega, by rw [HSz.out]; exact E1.out, by rw [HSz.out]; exact E2.out, by rw [HSz.out]; exact E3.out⟩
    · by_cases hn0 : ns.length = 0
      · have hnz : ¬ (0 : Int) < (ns.length : Int) := by omega
        clear hn0
        have o0 : W1.cell? ⟨S + 1 + 1, 0, none⟩ = some (.slice (some ⟨gA, 0, none⟩) ws.length a4) := HC.out.o.cell 0
        have o1 : W1.cell? ⟨S + 1 + 1, 1, none⟩ = some (.slice B4 ns.length b4) := HC.out.o.cell 1
        have r0 : W1.cell? ⟨S + 1, 0, none⟩ = some (.slice none 0 0) := HC.out.r.cell 0
        have r1 : W1.cell? ⟨S + 1, 1, none⟩ = some (.slice none 0 0) := HC.out.r.cell 1
        have r2 := HC.out.r.frozen 0
        have r3 := HC.out.r.frozen 1
        have z0 := ((HC.out.r.set_ 0 (.slice (some ⟨gA, 0, none⟩) ws.length a4)).set_ 1 (.slice B4 ns.length b4)).cell 0
        have z1 := ((HC.out.r.set_ 0 (.slice (some ⟨gA, 0, none⟩) ws.length a4)).set_ 1 (.slice B4 ns.length b4)).cell 1
        obtain ⟨e1, e2, e3⟩ := HC.out.res (U := .slice (some ⟨gA, 0, none⟩) ws.length a4) (V := .slice B4 ns.length b4)
        have E1 := Lib.hid e1
        have E2 := Lib.hid e2
        have E3 := Lib.hid e3
        clear e1 e2 e3
        go_wp2_with fail
        refine bodyPost_ret (v := .agg #[.slice (some ⟨gA, 0, none⟩) ws.length a4, .slice B4 ns.length b4]) (by simp [results, Try.results12, go_sem, z0, z1]) rfl ⟨ws, ns, _, _, _, _, rfl, Hv.out, by omega, by rw [HSz.out]; exact E1.out, by rw [HSz.out]; exact E2.out, by rw [HSz.out]; exact E3.out⟩
      · obtain ⟨gB, cB, hvB, hgB, _⟩ := HC.out.rb.form (by omega)
        injection hvB with e1 _ e3
        subst e1 e3
        have hcap := own_cap2 HC.out.rb
        obtain ⟨jj, hjj⟩ : ∃ z, Hid (around q1 (ns.length : Int) = z) := ⟨_, Lib.hid rfl⟩
        have Kj := Lib.hid (fun W => hjj.out ▸ around_any q1 (ns.length : Int) W Hq.out.1.1 Hq.out.1.2 (by omega) (by omega))
        obtain ⟨k1, k2⟩ := hjj.out ▸ around_bd q1 (ns.length : Int) (by omega)
        clear hjj
        obtain ⟨j, rfl⟩ := Int.eq_ofNat_of_zero_le k1
        have hjl : j < ns.length := by omega
        have j0 : (0 : Int) ≤ (j : Int) := by omega
        obtain ⟨j1, hj1⟩ : ∃ z, Hid (j + 1 = z) := ⟨_, Lib.hid rfl⟩
        have hj2 : j1 ≤ ns.length := by have := hj1.out; omega
        have hj3 : j1 ≤ b := by omega
        have hj4 : j ≤ b4 := by omega
        have hw3 : IntKind.i64.wrap ((j : Int) + 1) = (j1 : Int) := by have := hj1.out; rw [IntWalk.i64_in _ (by omega)]; omega
        obtain ⟨bB, oB, _, _, _, rfl, _⟩ := (HB.out _ HC.out.bl).get (k := j) hjl
        have HCd := Lib.hid (show ChR S w W1.drew A (some ⟨bB, oB, none⟩) a b ws.length ns.length ws ns (some ⟨gA, 0, none⟩) (some ⟨gB, 0, none⟩) a4 b4 from HCd.out)
        obtain ⟨kk, hkk⟩ : ∃ kk, Hid ((if b = j1 then some (⟨bB, oB, none⟩ : Addr) else some ⟨bB, oB + j1 * 3, none⟩) = some ⟨bB, oB + kk, none⟩ ∧ (b ≠ j1 → kk = j1 * 3)) := by
          by_cases hbj : b = j1
          · exact ⟨0, Lib.hid ⟨by rw [if_pos hbj]; rfl, fun h => absurd hbj h⟩⟩
          · exact ⟨j1 * 3, Lib.hid ⟨by rw [if_neg hbj], fun _ => rfl⟩⟩
        have HBd : Hid (ST W1.drew (some ⟨bB, oB + kk, none⟩) (ns.drop j1)) := by
          have h1 := st_dropT (HB.out _ HCd.out.bl) j1
          by_cases hbj : b = j1
          · rw [List.drop_eq_nil_of_le (by omega)]
            exact Lib.hid (fun i u hu => by simp [triC] at hu)
          · rw [hkk.out.2 hbj]
            exact Lib.hid h1
        have hml := Lib.hid (show (ns.take j ++ ns.drop j1).length = j + (ns.length - j1) from by rw [List.length_append, List.length_take, List.length_drop]; omega)
        have hzd := Hbz.out _ HCd.out.bl
        have o1 : W1.cell? ⟨S + 1 + 1, 1, none⟩ = some (.slice (some ⟨gB, 0, none⟩) ns.length b4) := HC.out.o.cell 1
        have HS0 := Lib.hid (show W1.drew.cell? ⟨S + 1 + 1, 1, none⟩ = some (.slice (some ⟨gB, 0, none⟩) ns.length b4) ∧ W1.drew.cell? ⟨S, 1, none⟩ = some (.slice (some ⟨bB, oB, none⟩) ns.length b) from ⟨HCd.out.o.cell 1, HCd.out.g.cell 1⟩)
        have hnz : (0 : Int) < (ns.length : Int) := by omega
        clear k1 k2
        go_wp2_with fail
        refine (Kj.out _).mono ?_
        rintro e wz ⟨rfl, rfl⟩
        clear Kj
        go_wp2_with fail
        refine wp_region_noPanic ?_
        refine region_T (s := 11) (S := fun W => W.cell? ⟨S + 1 + 1, 1, none⟩ = some (.slice (some ⟨gB, 0, none⟩) ns.length b4) ∧ W.cell? ⟨S, 1, none⟩ = some (.slice (some ⟨bB, oB, none⟩) ns.length b)) (by kernel_rfl) ?_
        change wpT _ _ _ _ _ 12 _ _ W1.drew
        refine T_take (k := 0) (v := .pointer (some ⟨S + 1 + 1, 1, none⟩)) rfl (by decide +kernel) (fun _ _ _ h => h) (Or.inl ⟨by rfl, fun W hW => by obtain ⟨s0, s1⟩ := hW; go_simp⟩) HS0.out ?_
        try simp only [Act.put, List.setIfInBounds_toArray, List.set_cons_zero, List.set_cons_succ]
        refine T_take (k := 1) (v := .slice (some ⟨gB, 0, none⟩) ns.length b4) rfl (by decide +kernel) (fun _ _ _ h => h) (Or.inl ⟨by rfl, fun W hW => by obtain ⟨s0, s1⟩ := hW; go_simp⟩) HS0.out ?_
        try simp only [Act.put, List.setIfInBounds_toArray, List.set_cons_zero, List.set_cons_succ]
        refine T_take (k := 2) (v := .int .i64 j) rfl (by decide +kernel) (fun _ _ _ h => h) (Or.inl ⟨by rfl, fun W hW => by obtain ⟨s0, s1⟩ := hW; go_simp⟩) HS0.out ?_
        try simp only [Act.put, List.setIfInBounds_toArray, List.set_cons_zero, List.set_cons_succ]
        refine T_take (k := 3) (v := .slice (some ⟨gB, 0, none⟩) j b4) rfl (by decide +kernel) (fun _ _ _ h => h) (Or.inl ⟨by rfl, fun W hW => by obtain ⟨s0, s1⟩ := hW; go_simp⟩) HS0.out ?_
        try simp only [Act.put, List.setIfInBounds_toArray, List.set_cons_zero, List.set_cons_succ]
        refine T_take (k := 4) (v := .pointer (some ⟨S, 1, none⟩)) rfl (by decide +kernel) (fun _ _ _ h => h) (Or.inl ⟨by rfl, fun W hW => by obtain ⟨s0, s1⟩ := hW; go_simp⟩) HS0.out ?_
        try simp only [Act.put, List.setIfInBounds_toArray, List.set_cons_zero, List.set_cons_succ]
        refine T_take (k := 5) (v := .slice (some ⟨bB, oB, none⟩) ns.length b) rfl (by decide +kernel) (fun _ _ _ h => h) (Or.inl ⟨by rfl, fun W hW => by obtain ⟨s0, s1⟩ := hW; go_simp⟩) HS0.out ?_
        try simp only [Act.put, List.setIfInBounds_toArray, List.set_cons_zero, List.set_cons_succ]
        refine T_take (k := 6) (v := .int .i64 j) rfl (by decide +kernel) (fun _ _ _ h => h) (Or.inl ⟨by rfl, fun W hW => by obtain ⟨s0, s1⟩ := hW; go_simp⟩) HS0.out ?_
        try simp only [Act.put, List.setIfInBounds_toArray, List.set_cons_zero, List.set_cons_succ]
        refine T_take (k := 7) (v := .int .i64 j1) rfl (by decide +kernel) (fun _ _ _ h => h) (Or.inl ⟨by rfl, fun W hW => by obtain ⟨s0, s1⟩ := hW; go_simp⟩) HS0.out ?_
        try simp only [Act.put, List.setIfInBounds_toArray, List.set_cons_zero, List.set_cons_succ]
        refine T_take (k := 8) (v := .slice (some ⟨bB, oB + kk, none⟩) (ns.length - j1) (b - j1)) rfl (by decide +kernel) (fun _ _ _ h => h) (Or.inl ⟨by rfl, fun W hW => by obtain ⟨s0, s1⟩ := hW; go_simp; exact hkk.out.1⟩) HS0.out ?_
        try simp only [Act.put, List.setIfInBounds_toArray, List.set_cons_zero, List.set_cons_succ]
        refine T_one (i := 9) (by decide +kernel) rfl rfl (fun K hK9 => ?_)
        have hK9 := Lib.hid hK9
        refine app_wpM (m := ns.length - j1) (c := b - j1) (B := some ⟨bB, oB + kk, none⟩) (us := triC (ns.drop j1)) (.tmp 84) (.tmp 89) rfl elt_tri (own_take HCd.out.rb (Nat.le_of_lt hjl)) hzd (by simp [Act.eval]) (by simp [Act.eval]) HBd.out (by rw [triC_len, List.length_drop]) (triC_all _) (by omega) ?_
        intro v8 W8 hown8 hg8
        rw [triC_take, triC_app, ← hml.out] at hown8
        have HV5 := Lib.hid (Hv.out.del j)
        rw [hj1.out] at HV5
        obtain ⟨ns2, hns2⟩ : ∃ z, Hid (ns.take j ++ ns.drop j1 = z) := ⟨_, Lib.hid rfl⟩
        rw [hns2.out] at hown8 HV5
        obtain ⟨E8, e8, rfl⟩ := own_slice hown8
        have HC5 := Lib.hid (HCd.out.setD hzd hg8 hown8)
        have x1 : W8.cell? ⟨S + 1 + 1, 1, none⟩ = some (.slice (some ⟨gB, 0, none⟩) ns.length b4) := (HCd.out.o.grown (row := some gB) hg8 (HCd.out.o.ne_own HCd.out.rb (by decide))).cell 1
        have x2 := (HCd.out.o.grown (row := some gB) hg8 (HCd.out.o.ne_own HCd.out.rb (by decide))).frozen 1
        have HS1 := Lib.hid (show W8.cell? ⟨S + 1 + 1, 1, none⟩ = some (.slice (some ⟨gB, 0, none⟩) ns.length b4) ∧ W8.cell? ⟨S, 1, none⟩ = some (.slice (some ⟨bB, oB, none⟩) ns.length b) from ⟨x1, (HCd.out.g.grown (row := some gB) hg8 (HCd.out.g.ne_own HCd.out.rb (by decide))).cell 1⟩)
        refine hK9.out _ _ HS1.out ?_
        try simp only [Act.put, List.setIfInBounds_toArray, List.set_cons_zero, List.set_cons_succ]
        refine T_take (k := 10) (v := .pointer (some ⟨S + 1 + 1, 1, none⟩)) rfl (by decide +kernel) (fun _ _ _ h => h) (Or.inl ⟨by rfl, fun W hW => by obtain ⟨s0, s1⟩ := hW; go_simp⟩) HS1.out ?_
        try simp only [Act.put, List.setIfInBounds_toArray, List.set_cons_zero, List.set_cons_succ]
        refine T_last (by decide +kernel) (by decide +kernel) (by decide +kernel) rfl rfl (fun K hKl => ?_)
        have hKl := Lib.hid hKl
        go_simp
        refine hKl.out _ _ (NoPanic.normal ?_)
        try simp only [Act.put, List.setIfInBounds_toArray, List.set_cons_zero, List.set_cons_succ]
        clear hK9 hKl HS0 HS1 HC HCd o0 o1 x1 x2 HP Ky hg8 hown8 hml hns2
        generalize W8.setCell ⟨S + 1 + 1, 1, none⟩ (.slice E8 ns2.length e8) = W5 at *
        have o0 : W5.cell? ⟨S + 1 + 1, 0, none⟩ = some (.slice (some ⟨gA, 0, none⟩) ws.length a4) := HC5.out.o.cell 0
        have o1 : W5.cell? ⟨S + 1 + 1, 1, none⟩ = some (.slice E8 ns2.length e8) := HC5.out.o.cell 1
        have r0 : W5.cell? ⟨S + 1, 0, none⟩ = some (.slice none 0 0) := HC5.out.r.cell 0
        have r1 : W5.cell? ⟨S + 1, 1, none⟩ = some (.slice none 0 0) := HC5.out.r.cell 1
        have r2 := HC5.out.r.frozen 0
        have r3 := HC5.out.r.frozen 1
        have z0 := ((HC5.out.r.set_ 0 (.slice (some ⟨gA, 0, none⟩) ws.length a4)).set_ 1 (.slice E8 ns2.length e8)).cell 0
        have z1 := ((HC5.out.r.set_ 0 (.slice (some ⟨gA, 0, none⟩) ws.length a4)).set_ 1 (.slice E8 ns2.length e8)).cell 1
        obtain ⟨e1, e2, e3⟩ := HC5.out.res (U := .slice (some ⟨gA, 0, none⟩) ws.length a4) (V := .slice E8 ns2.length e8)
        have E1 := Lib.hid e1
        have E2 := Lib.hid e2
        have E3 := Lib.hid e3
        clear e1 e2 e3
        go_wp2_with fail
        refine bodyPost_ret (v := .agg #[.slice (some ⟨gA, 0, none⟩) ws.length a4, .slice E8 ns2.length e8]) (by simp [results, Try.results12, go_sem, z0, z1]) rfl ⟨ws, ns2, _, _, _, _, rfl, HV5.out, by omega, by rw [HSz.out]; exact E1.out, by rw [HSz.out]; exact E2.out, by rw [HSz.out]; exact E3.out⟩
    · have HS0 := Lib.hid (show W1.drew.cell? ⟨S, 0, none⟩ = some (.slice A ws.length a) ∧ W1.drew.cell? ⟨S, 1, none⟩ = some (.slice B ns.length b) from ⟨HCd.out.g.cell 0, HCd.out.g.cell 1⟩)
      have HBe := Lib.hid ((Below.refl W1.heap.size W1).drew)
      go_wp2_with fail
      refine wp_region_noPanic ?_
      refine region_T (s := 5) (S := fun W => W.cell? ⟨S, 0, none⟩ = some (.slice A ws.length a) ∧ W.cell? ⟨S, 1, none⟩ = some (.slice B ns.length b)) (by kernel_rfl) ?_
      change wpT _ _ _ _ _ 6 _ _ W1.drew
      refine T_take (k := 0) (v := .agg #[.slice A ws.length a, .slice B ns.length b]) rfl (by decide +kernel) (fun _ _ _ h => h) (Or.inl ⟨by rfl, fun W hW => by obtain ⟨s0, s1⟩ := hW; go_simp⟩) HS0.out ?_
      try simp only [Act.put, List.setIfInBounds_toArray, List.set_cons_zero, List.set_cons_succ]
      refine T_take (k := 1) (v := .int .i64 f) rfl (by decide +kernel) (fun _ _ _ h => h) (Or.inl ⟨by rfl, fun W hW => by obtain ⟨s0, s1⟩ := hW; go_simp⟩) HS0.out ?_
      try simp only [Act.put, List.setIfInBounds_toArray, List.set_cons_zero, List.set_cons_succ]
      refine T_take (k := 2) (v := .int .i64 q3) rfl (by decide +kernel) (fun _ _ _ h => h) (Or.inl ⟨by rfl, fun W hW => by obtain ⟨s0, s1⟩ := hW; go_simp⟩) HS0.out ?_
      try simp only [Act.put, List.setIfInBounds_toArray, List.set_cons_zero, List.set_cons_succ]
      refine T_one (i := 3) (by decide +kernel) rfl rfl (fun K hK3 => ?_)
      have hK3 := Lib.hid hK3
      go_simp
      go_at_call 20
      refine (Ky.out _).mono ?_
      rintro e w8 ⟨rfl, rfl⟩
      refine hK3.out _ _ HS0.out ?_
      try simp only [Act.put, List.setIfInBounds_toArray, List.set_cons_zero, List.set_cons_succ]
      refine T_one (i := 4) (by decide +kernel) rfl rfl (fun K hK4 => ?_)
      have hK4 := Lib.hid hK4
      go_simp
      go_at_call 23
      refine (HP.out _ HBe.out).mono ?_
      rintro e w8 ⟨A6, a6, B6, b6, rfl, ho6, hn6, hb8⟩
      have Ho6 := Lib.hid (own_mono ho6 (Hbz.out _ HCd.out.bl))
      have Hn6 := Lib.hid (own_mono hn6 (Hbz.out _ HCd.out.bl))
      have HB8 := Lib.hid (HCd.out.bl.trans (hb8.mono (Hbz.out _ HCd.out.bl)))
      have HR8 := Lib.hid (HCd.out.r.below hb8 HCd.out.r.lt)
      have r0 : w8.cell? ⟨S + 1, 0, none⟩ = some (.slice none 0 0) := HR8.out.cell 0
      have r1 : w8.cell? ⟨S + 1, 1, none⟩ = some (.slice none 0 0) := HR8.out.cell 1
      have r2 := HR8.out.frozen 0
      have r3 := HR8.out.frozen 1
      have HS1 := Lib.hid (show w8.cell? ⟨S, 0, none⟩ = some (.slice A ws.length a) ∧ w8.cell? ⟨S, 1, none⟩ = some (.slice B ns.length b) from ⟨(HCd.out.g.below hb8 HCd.out.g.lt).cell 0, (HCd.out.g.below hb8 HCd.out.g.lt).cell 1⟩)
      have hpl := Lib.hid (putW_len (ws := ws) (f := f) y12 (Nat.le_of_lt hf2))
      clear ho6 hn6 hb8
      refine hK4.out _ _ HS1.out ?_
      try simp only [Act.put, List.setIfInBounds_toArray, List.set_cons_zero, List.set_cons_succ]
      refine T_last (by decide +kernel) (by decide +kernel) (by decide +kernel) rfl rfl (fun K hKl => ?_)
      have hKl := Lib.hid hKl
      go_simp
      refine hKl.out _ _ (NoPanic.normal ?_)
      try simp only [Act.put, List.setIfInBounds_toArray, List.set_cons_zero, List.set_cons_succ]
      have z0 := ((HR8.out.set_ 0 (.slice A6 (putW ws f y12).length a6)).set_ 1 (.slice B6 (putN ns f).length b6)).cell 0
      have z1 := ((HR8.out.set_ 0 (.slice A6 (putW ws f y12).length a6)).set_ 1 (.slice B6 (putN ns f).length b6)).cell 1
      have E1 := Lib.hid (own_set (i := 1) (own_set (i := 0) Ho6.out (HR8.out.ne_own Ho6.out (by decide)) (.slice A6 (putW ws f y12).length a6)) (HR8.out.ne_own Ho6.out (by decide)) (.slice B6 (putN ns f).length b6))
      have E2 := Lib.hid (own_set (i := 1) (own_set (i := 0) Hn6.out (HR8.out.ne_own Hn6.out (by decide)) (.slice A6 (putW ws f y12).length a6)) (HR8.out.ne_own Hn6.out (by decide)) (.slice B6 (putN ns f).length b6))
      have E3 := Lib.hid ((HB8.out.setCell (p := ⟨S + 1, 0, none⟩) (by show S ≤ S + 1; omega) (.slice A6 (putW ws f y12).length a6)).setCell (p := ⟨S + 1, 1, none⟩) (by show S ≤ S + 1; omega) (.slice B6 (putN ns f).length b6))
      clear hKl HS0 HS1 HC HCd HP Ky
      go_wp2_with fail
      refine bodyPost_ret (v := .agg #[.slice A6 (putW ws f y12).length a6, .slice B6 (putN ns f).length b6]) (by simp [results, Try.results12, go_sem, z0, z1]) rfl ⟨_, _, _, _, _, _, rfl, Hv.out.put (Nat.le_of_lt hf2) hl (by omega), by have := hpl.out; omega, by rw [HSz.out]; exact E1.out, by rw [HSz.out]; exact E2.out, by rw [HSz.out]; exact E3.out⟩
end Go.Proofs.Ytmdgdphhedgojaa

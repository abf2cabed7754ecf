import Derived.Test.YtmdgdphhedgojaaK80
import Derived.Deep.DeepCutAuto
import Derived.Test.YtmdgdphhedgojaaR33
import Derived.Deep.RegionLaw
import Derived.Deep.RegionHeld3
namespace Go.Proofs.Ytmdgdphhedgojaa
open Go.RowKit Go.Maps

/-- Weights and lengths of one part have changed. -/
structure Lch (Fl : List Int) (ws ws' : List Int) (ns ns' : List (Int × Int × Int)) : Prop where
  lw : ws'.length = ws.length
  ln : ns'.length = ns.length
  w : ∀ f : Nat, (f : Int) ∉ Fl → ws'.getD f 0 = ws.getD f 0
  n : ∀ (j : Nat) t t', ns[j]? = some t → ns'[j]? = some t' → t'.1 = t.1 ∧ t'.2.1 = t.2.1 ∧ (t.1 ∉ Fl → t' = t)
theorem Lch.refl (Fl ws : List Int) (ns : List (Int × Int × Int)) : Lch Fl ws ws ns ns := ⟨rfl, rfl, fun _ _ => rfl, fun j t t' h h' => by
  obtain rfl := Option.some.inj (h.symm.trans h')
  exact ⟨rfl, rfl, fun _ => rfl⟩⟩
theorem Lch.setW {Fl ws ws' : List Int} {ns ns' : List (Int × Int × Int)} (h : Lch Fl ws ws' ns ns') {f : Nat} (hf : (f : Int) ∈ Fl) (x : Int) : Lch Fl ws (ws'.set f x) ns ns' := ⟨by rw [List.length_set]; exact h.lw, h.ln, fun g hg => by
  have hne : f ≠ g := fun e => hg (e ▸ hf)
  rw [← h.w g hg, List.getD, List.getD, List.getElem?_set_ne hne], h.n⟩
theorem Lch.setN {Fl ws ws' : List Int} {ns ns' : List (Int × Int × Int)} (h : Lch Fl ws ws' ns ns') {j : Nat} {a b c : Int} (hj : ns'[j]? = some (a, b, c)) (ha : a ∈ Fl) (x : Int) : Lch Fl ws ws' ns (ns'.set j (a, b, x)) := ⟨h.lw, by rw [List.length_set]; exact h.ln, h.w, fun i t t' ht ht' => by
  by_cases e : j = i
  · subst e
    have hl : j < ns'.length := (List.getElem?_eq_some_iff.1 hj).1
    rw [List.getElem?_set_self hl] at ht'
    obtain rfl := Option.some.inj ht'
    obtain ⟨h1, h2, _⟩ := h.n j t _ ht hj
    exact ⟨h1, h2, fun hn => absurd (h1 ▸ ha) hn⟩
  · rw [List.getElem?_set_ne e] at ht'
    exact h.n i t t' ht ht'⟩
theorem GV.setW {ws : List Int} {ns : List (Int × Int × Int)} (h : GV ws ns) {x : Int} (hx : 0 ≤ x ∧ x ≤ 1099511627776) (f : Nat) : GV (ws.set f x) ns := ⟨by rw [List.length_set]; exact h.n1, h.n2, fun z hz => by
  rcases List.mem_or_eq_of_mem_set hz with hz | rfl
  · exact h.w z hz
  · exact hx, fun u hu => by rw [List.length_set]; exact h.t u hu, h.s⟩
theorem GV.setN {ws : List Int} {ns : List (Int × Int × Int)} (h : GV ws ns) {j : Nat} {a b c x : Int} (hj : ns[j]? = some (a, b, c)) (hx : 1 ≤ x ∧ x ≤ 1099511627776) : GV ws (ns.set j (a, b, x)) := ⟨h.n1, by rw [List.length_set]; exact h.n2, h.w, fun u hu => by
  rcases List.mem_or_eq_of_mem_set hu with hu | rfl
  · exact h.t u hu
  · have := h.t _ (List.mem_of_getElem? hj)
    exact ⟨this.1, this.2.1, this.2.2.1, hx⟩, by
  have hs := h.s
  obtain ⟨hl, he⟩ := List.getElem?_eq_some_iff.1 hj
  rw [List.pairwise_iff_getElem] at hs ⊢
  intro i k hi hk hik
  rw [List.length_set] at hi hk
  have h1 := hs i k hi hk hik
  rw [List.getElem_set, List.getElem_set]
  split
  · rename_i e
    subst e
    rw [if_neg (by omega)]
    rw [he] at h1
    simpa [lexT] using h1
  · split
    · rename_i e
      subst e
      rw [he] at h1
      simpa [lexT] using h1
    · exact h1⟩
theorem fold_pairs : ∀ (ns ns' : List (Int × Int × Int)) (of : List Int), ns'.length = ns.length → (∀ (j : Nat) t t', ns[j]? = some t → ns'[j]? = some t' → t'.1 = t.1 ∧ t'.2.1 = t.2.1) → ns'.foldl joined of = ns.foldl joined of
  | [], [], _, _, _ => rfl
  | [], _ :: _, _, h, _ => by simp at h
  | _ :: _, [], _, h, _ => by simp at h
  | t :: ns, t' :: ns', of, hl, h => by
    obtain ⟨h1, h2⟩ := h 0 t t' rfl rfl
    rw [List.foldl_cons, List.foldl_cons, show joined of t' = joined of t by rw [joined, joined, h1, h2]]
    exact fold_pairs ns ns' _ (by simpa using hl) (fun j u u' hu hu' => h (j + 1) u u' (by simpa using hu) (by simpa using hu'))
theorem inN_eq (p : Nat → Bool) : ∀ (ns ns' : List (Int × Int × Int)), ns'.length = ns.length → (∀ (j : Nat) t t', ns[j]? = some t → ns'[j]? = some t' → t'.1 = t.1 ∧ (p t.1.toNat = true → t' = t)) → inN ns' p = inN ns p
  | [], [], _, _ => rfl
  | [], _ :: _, h, _ => by simp at h
  | _ :: _, [], h, _ => by simp at h
  | t :: ns, t' :: ns', hl, h => by
    obtain ⟨h1, h2⟩ := h 0 t t' rfl rfl
    have ih := inN_eq p ns ns' (by simpa using hl) (fun j u u' hu hu' => h (j + 1) u u' (by simpa using hu) (by simpa using hu'))
    unfold inN at ih ⊢
    rw [List.filter_cons, List.filter_cons, h1]
    by_cases hp : p t.1.toNat = true
    · rw [if_pos hp, if_pos hp, List.map_cons, List.map_cons, ih, h2 hp]
    · rw [if_neg hp, if_neg hp, ih]
theorem filter_one {α : Type} {P : α → Bool} : ∀ (L : List α) (k : Nat), (∀ (i : Nat) d, i ≠ k → L[i]? = some d → P d = false) → L.filter P = [] ∨ ∃ d, L[k]? = some d ∧ L.filter P = [d]
  | [], _, _ => .inl rfl
  | a :: L, 0, h => by
    have hn : L.filter P = [] := by
      rw [List.filter_eq_nil_iff]
      intro d hd
      obtain ⟨i, hi⟩ := List.getElem?_of_mem hd
      simp [h (i + 1) d (by omega) (by simpa using hi)]
    rw [List.filter_cons, hn]
    split
    · exact .inr ⟨a, rfl, rfl⟩
    · exact .inl rfl
  | a :: L, k + 1, h => by
    have ha := h 0 a (by omega) rfl
    rw [List.filter_cons, ha]
    simp only [Bool.false_eq_true, if_false, List.getElem?_cons_succ]
    exact filter_one L k fun i d hi hd => h (i + 1) d (by omega) (by simpa using hd)

theorem Lch.news {Fl ws ws' Wl : List Int} {ns ns' Nl : List (Int × Int × Int)} (h : Lch Fl ws ws' ns ns') (hv : GV ws ns) {kp : Nat} (hd : (partsD ws ns)[kp]? = some (Fl, Wl, Nl)) :
    (newsD (partsD ws ns) (partsD ws' ns')).length = 0 ∧ incD (newsD (partsD ws ns) (partsD ws' ns')) = 0 ∨ (newsD (partsD ws ns) (partsD ws' ns')).length = 1 ∧ incD (newsD (partsD ws ns) (partsD ws' ns')) = Fl.length ∧ 1 ≤ Fl.length := by
  obtain ⟨r, hr, hF, _, _⟩ := partsD_at hd
  have hc : comp ns' ws'.length = comp ns ws.length := by
    rw [comp, comp, h.lw]
    exact fold_pairs ns ns' _ h.ln fun j t t' ht ht' => ⟨(h.n j t t' ht ht').1, (h.n j t t' ht ht').2.1⟩
  have hmF : ∀ f : Nat, (f : Int) ∈ Fl → inP (comp ns ws.length) r f = true := fun f hf => by
    rw [hF] at hf
    obtain ⟨g, hg, e⟩ := List.mem_map.1 hf
    obtain rfl : g = f := by omega
    exact (List.mem_filter.1 hg).2
  have hm := mem_rts.1 (List.mem_of_getElem? hr)
  have hat : ∀ (i : Nat) d, i ≠ kp → (partsD ws' ns')[i]? = some d → (partsD ws ns)[i]? = some d := fun i d hi hd' => by
    rw [partsD, partsO, hc, h.lw, List.getElem?_map] at hd'
    rw [partsD, partsO, List.getElem?_map]
    cases hx : (rts (comp ns ws.length) ws.length)[i]? with
    | none => rw [hx] at hd'; cases hd'
    | some r' =>
      rw [hx] at hd'
      rw [← hd']
      have hrr : r' ≠ r := fun e => hi ((List.getElem?_inj (List.getElem?_eq_some_iff.1 hx).1 (rts_nodup _ _)).1 (by rw [hx, hr, e]))
      have hno : ∀ f : Nat, inP (comp ns ws.length) r' f = true → (f : Int) ∉ Fl := fun f hf hc' => by
        have h1 := hmF f hc'
        simp [inP] at h1 hf
        omega
      simp only [Option.map_some]
      congr 2
      congr 1
      · unfold inW
        congr 1
        refine List.map_congr_left fun f hf => ?_
        exact (h.w f (hno f (List.mem_filter.1 hf).2)).symm
      · refine (inN_eq _ ns ns' h.ln fun j t t' ht ht' => ⟨(h.n j t t' ht ht').1, fun hp => (h.n j t t' ht ht').2.2 fun hc' => ?_⟩).symm
        have h0 := (hv.t t (List.mem_of_getElem? ht)).1
        refine hno t.1.toNat hp ?_
        rw [Int.toNat_of_nonneg h0]
        exact hc'
  have hk : ∀ d, (partsD ws' ns')[kp]? = some d → d.1 = Fl := fun d hd' => by
    rw [partsD, partsO, hc, h.lw, List.getElem?_map, hr] at hd'
    rw [← Option.some.inj hd', hF]
  have h1 : 1 ≤ Fl.length := by
    rw [hF, List.length_map]
    have : r ∈ fcs (inP (comp ns ws.length) r) ws.length := List.mem_filter.2 ⟨List.mem_range.2 hm.1, by simpa [inP, hm.2.1] using hm.2.2⟩
    exact List.length_pos_of_mem this
  have hf := filter_one (P := fun d : List Int × List Int × List (Int × Int × Int) => decide (d.2 ∉ (partsD ws ns).map fun e => e.2)) (partsD ws' ns') kp (fun i d hi hd' => by
    have hm' : d.2 ∈ (partsD ws ns).map fun e => e.2 := List.mem_map.2 ⟨d, List.mem_of_getElem? (hat i d hi hd'), rfl⟩
    exact decide_eq_false (fun hc' => hc' hm'))
  change newsD (partsD ws ns) (partsD ws' ns') = [] ∨ ∃ d, (partsD ws' ns')[kp]? = some d ∧ newsD (partsD ws ns) (partsD ws' ns') = [d] at hf
  rcases hf with e | ⟨d, hd', e⟩
  · exact .inl (by rw [e]; exact ⟨rfl, rfl⟩)
  · refine .inr ?_
    rw [e]
    refine ⟨rfl, ?_, h1⟩
    simp [incD, hk d hd']
/-- The walk's own list of cells. -/
theorem triC_set {ns : List (Int × Int × Int)} {j : Nat} {a b c : Int} (hj : ns[j]? = some (a, b, c)) (x : Int) : (triC ns).set (3 * j + 2) (.int .i64 x) = triC (ns.set j (a, b, x)) := by
  induction ns generalizing j with
  | nil => cases hj
  | cons t ns ih =>
    cases j with
    | zero =>
      obtain rfl : t = (a, b, c) := by simpa using hj
      rfl
    | succ j =>
      have e : 3 * (j + 1) + 2 = 3 * j + 2 + 1 + 1 + 1 := by omega
      rw [e, List.set_cons_succ]
      show _ :: (_ :: _ :: triC ns).set (3 * j + 2 + 1 + 1) _ = _
      rw [List.set_cons_succ, List.set_cons_succ, ih (by simpa using hj)]
      rfl
theorem part_ne {Fl ws Wl : List Int} {ns Nl : List (Int × Int × Int)} {kp : Nat} (hd : (partsD ws ns)[kp]? = some (Fl, Wl, Nl)) : 1 ≤ Fl.length := by
  obtain ⟨r, hr, hF, _, _⟩ := partsD_at hd
  have hm := mem_rts.1 (List.mem_of_getElem? hr)
  rw [hF, List.length_map]
  have : r ∈ fcs (inP (comp ns ws.length) r) ws.length := List.mem_filter.2 ⟨List.mem_range.2 hm.1, by simpa [inP, hm.2.1] using hm.2.2⟩
  exact List.length_pos_of_mem this
/-- A copy of a graph of which one part is changed. -/
structure LW (w0 w : World) (T : Nat) (A B : Option Addr) (c d : Nat) (Fl ws ws' : List Int) (ns ns' : List (Int × Int × Int)) : Prop where
  bk : Bk w T 36 #[.slice A ws.length c, .slice B ns.length d]
  a : w.ownsRow w0.heap.size 3 1 (.slice A ws.length c) ws.length (ws'.map (Value.int .i64))
  b : w.ownsRow w0.heap.size 52 3 (.slice B ns.length d) ns.length (triC ns')
  lc : Lch Fl ws ws' ns ns'
  gv : GV ws' ns'
  bl : Below w0.heap.size w0 w
theorem LW.setW {w0 w : World} {T g : Nat} {B : Option Addr} {c d : Nat} {Fl ws ws' : List Int} {ns ns' : List (Int × Int × Int)} (h : LW w0 w T (some ⟨g, 0, none⟩) B c d Fl ws ws' ns ns') {f : Nat} (hf : (f : Int) ∈ Fl) {x : Int} (hx : 0 ≤ x ∧ x ≤ 1099511627776) :
    LW w0 (w.setCell ⟨g, f, none⟩ (.int .i64 x)) T (some ⟨g, 0, none⟩) B c d Fl ws (ws'.set f x) ns ns' := by
  obtain ⟨cur, hcur, _⟩ := own_bk2 h.a
  have ha := own_put (i := f) h.a (.int .i64 x)
  rw [← List.map_set] at ha
  exact ⟨h.bk.far (p := ⟨g, f, none⟩) (Bk.ne_ h.bk hcur (by decide)) _, ha, own_set (i := f) h.b (hcur.ne_own h.b (by decide)) _, h.lc.setW hf x, h.gv.setW hx f, h.bl.setCell (p := ⟨g, f, none⟩) (h.a.lt g rfl).1 _⟩
theorem LW.setN {w0 w : World} {T g : Nat} {A : Option Addr} {c d : Nat} {Fl ws ws' : List Int} {ns ns' : List (Int × Int × Int)} (h : LW w0 w T A (some ⟨g, 0, none⟩) c d Fl ws ws' ns ns') {j : Nat} {p q z : Int} (hj : ns'[j]? = some (p, q, z)) (hf : p ∈ Fl) {x : Int} (hx : 1 ≤ x ∧ x ≤ 1099511627776) :
    LW w0 (w.setCell ⟨g, j * 3 + 2, none⟩ (.int .i64 x)) T A (some ⟨g, 0, none⟩) c d Fl ws ws' ns (ns'.set j (p, q, x)) := by
  obtain ⟨cur, hcur, _⟩ := own_bk2 h.b
  have hb := own_put (i := j * 3 + 2) h.b (.int .i64 x)
  rw [Nat.mul_comm j 3, triC_set hj] at hb
  rw [Nat.mul_comm j 3]
  exact ⟨h.bk.far (p := ⟨g, 3 * j + 2, none⟩) (Bk.ne_ h.bk hcur (by decide)) _, own_set (i := 3 * j + 2) h.a (hcur.ne_own h.a (by decide)) _, hb, h.lc.setN hj hf x, h.gv.setN hj hx, h.bl.setCell (p := ⟨g, 3 * j + 2, none⟩) (h.b.lt g rfl).1 _⟩
end Go.Proofs.Ytmdgdphhedgojaa

namespace Go.Proofs.Ytmdgdphhedgojaa
open Go.RowKit Go.Maps

/-- The number of a face behind a face put in. -/
def sN (f g : Nat) : Nat := if g < f then g else g + 1
def sI (f : Nat) (z : Int) : Int := if z < f then z else z + 1
def putW (ws : List Int) (f : Nat) (x : Int) : List Int := ws.take f ++ x :: ws.drop f
def shT (f : Nat) (t : Int × Int × Int) : Int × Int × Int := (sI f t.1, sI f t.2.1, t.2.2)
def putN (ns : List (Int × Int × Int)) (f : Nat) : List (Int × Int × Int) := ns.map (shT f)
theorem sI_nat (f g : Nat) : sI f (g : Int) = (sN f g : Nat) := by unfold sI sN; split <;> split <;> omega
theorem sI_inj {f : Nat} {a b : Int} : sI f a = sI f b ↔ a = b := by unfold sI; split <;> split <;> omega
theorem sI_lt {f : Nat} {a b : Int} : sI f a < sI f b ↔ a < b := by unfold sI; split <;> split <;> omega
theorem sI_ne (f : Nat) (a : Int) : sI f a ≠ f := by unfold sI; split <;> omega
theorem sI_zero {f : Nat} (hf : 1 ≤ f) {a : Int} : sI f a = 0 ↔ a = 0 := by unfold sI; split <;> omega
theorem sN_toNat {f : Nat} {z : Int} (h : 0 ≤ z) : (sI f z).toNat = sN f z.toNat := by unfold sI sN; split <;> split <;> omega
theorem sN_ne (f g : Nat) : sN f g ≠ f := by unfold sN; split <;> omega
theorem sN_le (f g : Nat) : sN f g ≤ g + 1 := by unfold sN; split <;> omega
theorem putW_len {ws : List Int} {f : Nat} (x : Int) (hf : f ≤ ws.length) : (putW ws f x).length = ws.length + 1 := by simp [putW]; omega
theorem putW_at {ws : List Int} {f g : Nat} (x : Int) (hf : f ≤ ws.length) : (putW ws f x).getD (sN f g) 0 = ws.getD g 0 := by
  unfold putW sN
  rw [List.getD, List.getD]
  split
  · rw [List.getElem?_append_left (by simp; omega), List.getElem?_take_of_lt (by omega)]
  · rw [List.getElem?_append_right (by simp; omega), List.length_take, Nat.min_eq_left hf, show g + 1 - f = (g - f) + 1 by omega, List.getElem?_cons_succ, List.getElem?_drop, show f + (g - f) = g by omega]
theorem putW_self {ws : List Int} {f : Nat} (x : Int) (hf : f ≤ ws.length) : (putW ws f x).getD f 0 = x := by
  unfold putW
  rw [List.getD, List.getElem?_append_right (by rw [List.length_take]; omega), List.length_take, Nat.min_eq_left hf, Nat.sub_self]
  rfl

/-- The groups behind a face put in. -/
structure Ren (f n : Nat) (of of' : List Int) : Prop where
  l : of.length = n
  l' : of'.length = n + 1
  a : ∀ g, g < n → of'.getD (sN f g) 0 = sI f (of.getD g 0)
  b : of'.getD f 0 = f
theorem alone_at' {n g : Nat} (h : g < n) : (alone n).getD g 0 = (g : Int) := by simp [alone, List.getD, h]
theorem Ren.alone {f n : Nat} (hf : f ≤ n) : Ren f n (alone n) (alone (n + 1)) := ⟨alone_len n, alone_len _, fun g hg => by
  have := sN_le f g
  rw [alone_at' hg, alone_at' (by omega), sI_nat], alone_at' (by omega)⟩
theorem Ren.join {f n : Nat} {of of' : List Int} (h : Ren f n of of') (hf : 1 ≤ f) (hfn : f ≤ n) {t : Int × Int × Int} (ht : 0 ≤ t.1 ∧ t.1 < t.2.1 ∧ t.2.1 < n) : Ren f n (joined of t) (joined of' (shT f t)) := by
  obtain ⟨t1, t2, t3⟩ := ht
  refine ⟨by rw [joined_len]; exact h.l, by rw [joined_len]; exact h.l', ?_, ?_⟩
  · intro g hg
    unfold joined
    by_cases h0 : t.1 = 0
    · rw [if_pos h0, if_pos (by rw [shT, (sI_zero hf)]; exact h0)]
      exact h.a g hg
    · rw [if_neg h0, if_neg (by rw [shT, (sI_zero hf)]; omega)]
      have := sN_le f g
      have e1 : of'.getD (shT f t).1.toNat 0 = sI f (of.getD t.1.toNat 0) := by rw [shT, sN_toNat t1]; exact h.a _ (by omega)
      have e2 : of'.getD (shT f t).2.1.toNat 0 = sI f (of.getD t.2.1.toNat 0) := by rw [shT, sN_toNat (by omega)]; exact h.a _ (by omega)
      rw [e1, e2, getD_merged _ _ _ (by rw [h.l']; omega), getD_merged _ _ _ (by rw [h.l]; exact hg), h.a g hg]
      generalize of.getD t.1.toNat 0 = a
      generalize of.getD t.2.1.toNat 0 = b
      generalize of.getD g 0 = x
      simp only [Bool.or_eq_true, beq_iff_eq, sI_inj, sI_lt]
      split
      · split <;> rfl
      · rfl
  · unfold joined
    by_cases h0 : t.1 = 0
    · rw [if_pos (by rw [shT, (sI_zero hf)]; exact h0)]
      exact h.b
    · rw [if_neg (by rw [shT, (sI_zero hf)]; omega)]
      have e1 : of'.getD (shT f t).1.toNat 0 = sI f (of.getD t.1.toNat 0) := by rw [shT, sN_toNat t1]; exact h.a _ (by omega)
      have e2 : of'.getD (shT f t).2.1.toNat 0 = sI f (of.getD t.2.1.toNat 0) := by rw [shT, sN_toNat (by omega)]; exact h.a _ (by omega)
      rw [e1, e2, getD_merged _ _ _ (by rw [h.l']; omega), h.b, if_neg]
      simp only [Bool.or_eq_true, beq_iff_eq]
      rintro (e | e)
      · exact sI_ne f _ e.symm
      · exact sI_ne f _ e.symm
theorem Ren.fold {f n : Nat} (hf : 1 ≤ f) (hfn : f ≤ n) : ∀ (ns : List (Int × Int × Int)) (of of' : List Int), Ren f n of of' → (∀ t ∈ ns, 0 ≤ t.1 ∧ t.1 < t.2.1 ∧ t.2.1 < n) → Ren f n (ns.foldl joined of) ((putN ns f).foldl joined of')
  | [], _, _, h, _ => h
  | t :: ns, _, _, h, ht => Ren.fold hf hfn ns _ _ (h.join hf hfn (ht t (List.mem_cons_self ..))) fun u hu => ht u (List.mem_cons_of_mem _ hu)
theorem Ren.comp {f n : Nat} {ns : List (Int × Int × Int)} (hf : 1 ≤ f) (hfn : f ≤ n) (ht : ∀ t ∈ ns, 0 ≤ t.1 ∧ t.1 < t.2.1 ∧ t.2.1 < n) : Ren f n (comp ns n) (comp (putN ns f) (n + 1)) := Ren.fold hf hfn ns _ _ (Ren.alone hfn) ht

theorem fcs_put {f : Nat} {p p' : Nat → Bool} (hpf : p' f = false) : ∀ n, (∀ g, g < n → p' (sN f g) = p g) → (n ≤ f → fcs p' n = (fcs p n).map (sN f)) ∧ (f ≤ n → fcs p' (n + 1) = (fcs p n).map (sN f))
  | 0, _ => ⟨fun _ => rfl, fun h => by
    obtain rfl : f = 0 := by omega
    rw [fcs_succ, hpf]; rfl⟩
  | n + 1, h => by
    obtain ⟨h1, h2⟩ := fcs_put hpf n fun g hg => h g (by omega)
    have hn := h n (by omega)
    constructor
    · intro hl
      have e : sN f n = n := by unfold sN; rw [if_pos (by omega)]
      rw [e] at hn
      rw [fcs_succ, fcs_succ, List.map_append, h1 (by omega), hn]
      cases p n <;> simp [e]
    · intro hl
      by_cases e0 : f = n + 1
      · subst e0
        have e : sN (n + 1) n = n := by unfold sN; rw [if_pos (by omega)]
        rw [e] at hn
        rw [fcs_succ, hpf, fcs_succ, fcs_succ, List.map_append, h1 (by omega), hn]
        cases p n <;> simp [e]
      · have e : sN f n = n + 1 := by unfold sN; rw [if_neg (by omega)]
        rw [e] at hn
        rw [fcs_succ p' (n + 1), fcs_succ p n, List.map_append, h2 (by omega), hn]
        cases p n <;> simp [e]
theorem loc_put {f n g : Nat} {p p' : Nat → Bool} (hpf : p' f = false) (hp : ∀ g, g < n → p' (sN f g) = p g) (hg : g < n) : loc p' (sN f g) = loc p g := by
  obtain ⟨h1, h2⟩ := fcs_put hpf g fun k hk => hp k (by omega)
  unfold loc
  by_cases e : g < f
  · rw [show sN f g = g by unfold sN; rw [if_pos e], h1 (by omega), List.length_map]
  · rw [show sN f g = g + 1 by unfold sN; rw [if_neg e], h2 (by omega), List.length_map]
theorem inW_put {ws : List Int} {f : Nat} {x : Int} {p p' : Nat → Bool} (hf : f ≤ ws.length) (hpf : p' f = false) (hp : ∀ g, g < ws.length → p' (sN f g) = p g) : inW (putW ws f x) p' (ws.length + 1) = inW ws p ws.length := by
  unfold inW
  rw [(fcs_put hpf ws.length hp).2 hf, List.map_map]
  congr 1
  refine List.map_congr_left fun g _ => ?_
  exact putW_at x hf
theorem inN_put {f n : Nat} {p p' : Nat → Bool} (hpf : p' f = false) (hp : ∀ g, g < n → p' (sN f g) = p g) : ∀ (ns : List (Int × Int × Int)), (∀ t ∈ ns, 0 ≤ t.1 ∧ t.1 < t.2.1 ∧ t.2.1 < n) → inN (putN ns f) p' = inN ns p
  | [], _ => rfl
  | t :: ns, ht => by
    have ih := inN_put hpf hp ns fun u hu => ht u (List.mem_cons_of_mem _ hu)
    obtain ⟨t1, t2, t3⟩ := ht t (List.mem_cons_self ..)
    unfold inN putN at ih ⊢
    have e1 : (shT f t).1.toNat = sN f t.1.toNat := sN_toNat t1
    have e2 : (shT f t).2.1.toNat = sN f t.2.1.toNat := sN_toNat (by omega)
    rw [List.map_cons, List.filter_cons, List.filter_cons, e1, hp _ (by omega)]
    have er : reN p' (shT f t) = reN p t := by
      unfold reN
      rw [e1, e2, loc_put hpf hp (by omega), loc_put hpf hp (by omega)]
      rfl
    by_cases hq : p t.1.toNat = true
    · rw [if_pos hq, if_pos hq, List.map_cons, List.map_cons, ih, er]
    · rw [if_neg hq, if_neg hq, ih]
theorem range_put (f : Nat) : ∀ k, (List.range (f + k + 1)).Perm (f :: (List.range (f + k)).map (sN f))
  | 0 => by
    show (List.range (f + 1)).Perm (f :: (List.range f).map (sN f))
    rw [List.range_succ]
    have e : (List.range f).map (sN f) = List.range f := by
      conv => rhs; rw [← List.map_id (List.range f)]
      refine List.map_congr_left fun g hg => ?_
      have := List.mem_range.1 hg
      unfold sN
      rw [if_pos this]; rfl
    rw [e]
    exact List.perm_append_singleton _ _
  | k + 1 => by
    have h := (range_put f k).append_right [f + k + 1]
    rw [← List.range_succ (n := f + k + 1)] at h
    have e : sN f (f + k) = f + k + 1 := by unfold sN; rw [if_neg (by omega)]
    show (List.range (f + k + 1 + 1)).Perm (f :: (List.range (f + k + 1)).map (sN f))
    rw [List.range_succ (n := f + k), List.map_append]
    simp only [List.map_cons, List.map_nil, e]
    exact h
theorem Ren.inP {f n : Nat} {of of' : List Int} (h : Ren f n of of') (hf : 1 ≤ f) (r g : Nat) (hg : g < n) : inP of' (sN f r) (sN f g) = inP of r g := by
  unfold Go.Proofs.Ytmdgdphhedgojaa.inP
  rw [h.a g hg]
  have e1 : (sI f (of.getD g 0) == ((sN f r : Nat) : Int)) = (of.getD g 0 == (r : Int)) := by
    rw [← sI_nat, Bool.eq_iff_iff, beq_iff_eq, beq_iff_eq, sI_inj]
  have e2 : (sN f g != 0) = (g != 0) := by
    rw [Bool.eq_iff_iff, bne_iff_ne, bne_iff_ne]
    unfold sN
    split <;> omega
  rw [e1, e2]
theorem Ren.inP_f {f n : Nat} {of of' : List Int} (h : Ren f n of of') (r : Nat) : Go.Proofs.Ytmdgdphhedgojaa.inP of' (sN f r) f = false := by
  unfold Go.Proofs.Ytmdgdphhedgojaa.inP
  rw [h.b]
  have := sN_ne f r
  have e : ((f : Int) == ((sN f r : Nat) : Int)) = false := beq_eq_false_iff_ne.2 (by omega)
  rw [e, Bool.and_false]
theorem Ren.rts {f n : Nat} {of of' : List Int} (h : Ren f n of of') (hf : 1 ≤ f) (hfn : f ≤ n) : (rts of' (n + 1)).Perm (f :: (Go.Proofs.Ytmdgdphhedgojaa.rts of n).map (sN f)) := by
  obtain ⟨k, rfl⟩ : ∃ k, n = f + k := ⟨n - f, by omega⟩
  have h1 := (range_put f k).filter (fun r => r != 0 && of'.getD r 0 == (r : Int))
  unfold Go.Proofs.Ytmdgdphhedgojaa.rts
  refine h1.trans (List.Perm.of_eq ?_)
  rw [List.filter_cons, if_pos (by rw [h.b]; simp; omega), List.filter_map]
  congr 2
  refine List.filter_congr fun g hg => ?_
  have hg := List.mem_range.1 hg
  exact h.inP hf g g hg
theorem Ren.own {f n : Nat} {of of' : List Int} (h : Ren f n of of') (hf : 1 ≤ f) (hfn : f ≤ n) : fcs (Go.Proofs.Ytmdgdphhedgojaa.inP of' f) (n + 1) = [f] := by
  have hp : ∀ g, g < n → Go.Proofs.Ytmdgdphhedgojaa.inP of' f (sN f g) = false := fun g hg => by
    unfold Go.Proofs.Ytmdgdphhedgojaa.inP
    rw [h.a g hg, beq_eq_false_iff_ne.2 (sI_ne f _), Bool.and_false]
  have hf' : Go.Proofs.Ytmdgdphhedgojaa.inP of' f f = true := by
    unfold Go.Proofs.Ytmdgdphhedgojaa.inP
    rw [h.b]
    simp
    omega
  obtain ⟨k, rfl⟩ : ∃ k, n = f + k := ⟨n - f, by omega⟩
  have h1 := (range_put f k).filter (Go.Proofs.Ytmdgdphhedgojaa.inP of' f)
  rw [List.filter_cons, if_pos hf', List.filter_map, show (List.range (f + k)).filter (Go.Proofs.Ytmdgdphhedgojaa.inP of' f ∘ sN f) = [] from List.filter_eq_nil_iff.2 fun g hg => by simp [hp g (List.mem_range.1 hg)]] at h1
  exact List.perm_singleton.1 h1
theorem put_parts {ws : List Int} {ns : List (Int × Int × Int)} {f : Nat} (x : Int) (hf : 1 ≤ f) (hfn : f ≤ ws.length) (ht : ∀ t ∈ ns, 0 ≤ t.1 ∧ t.1 < t.2.1 ∧ t.2.1 < ws.length) :
    ((partsD (putW ws f x) (putN ns f)).map fun d => d.2).Perm (([0, x], []) :: (partsD ws ns).map fun d => d.2) := by
  have h := Ren.comp hf hfn ht
  unfold partsD partsO
  rw [putW_len x hfn]
  generalize comp ns ws.length = of at *
  generalize comp (putN ns f) (ws.length + 1) = of' at *
  rw [List.map_map, List.map_map]
  refine ((h.rts hf hfn).map _).trans (List.Perm.of_eq ?_)
  rw [List.map_cons, List.map_map]
  congr 1
  · refine Prod.ext ?_ ?_
    · show inW _ _ _ = _
      rw [inW, h.own hf hfn]
      show [0, (putW ws f x).getD f 0] = _
      rw [putW_self x hfn]
    · show inN _ _ = _
      unfold inN putN
      rw [List.filter_eq_nil_iff.2]
      · rfl
      · intro u hu
        obtain ⟨t, htm, rfl⟩ := List.mem_map.1 hu
        obtain ⟨t1, t2, t3⟩ := ht t htm
        have e : (shT f t).1.toNat = sN f t.1.toNat := sN_toNat t1
        have hp : Go.Proofs.Ytmdgdphhedgojaa.inP of' f (sN f t.1.toNat) = false := by
          unfold Go.Proofs.Ytmdgdphhedgojaa.inP
          rw [h.a _ (by omega), beq_eq_false_iff_ne.2 (sI_ne f _), Bool.and_false]
        rw [e, hp]
        simp
  · refine List.map_congr_left fun r _ => ?_
    refine Prod.ext ?_ ?_
    · exact inW_put hfn (h.inP_f r) fun g hg => h.inP hf r g hg
    · exact inN_put (h.inP_f r) (fun g hg => h.inP hf r g hg) ns ht
end Go.Proofs.Ytmdgdphhedgojaa

namespace Go.Proofs.Ytmdgdphhedgojaa
open Go.RowKit Go.Maps

theorem GV.put {ws : List Int} {ns : List (Int × Int × Int)} (h : GV ws ns) {f : Nat} {x : Int} (hfn : f ≤ ws.length) (hl : ws.length + 1 ≤ 4096) (hx : 0 ≤ x ∧ x ≤ 1099511627776) : GV (putW ws f x) (putN ns f) := by
  refine ⟨by rw [putW_len x hfn]; exact hl, by rw [putN, List.length_map]; exact h.n2, fun z hz => ?_, fun u hu => ?_, ?_⟩
  · unfold putW at hz
    rcases List.mem_append.1 hz with hz | hz
    · exact h.w z (List.mem_of_mem_take hz)
    · rcases List.mem_cons.1 hz with rfl | hz
      · exact hx
      · exact h.w z (List.mem_of_mem_drop hz)
  · obtain ⟨t, ht, rfl⟩ := List.mem_map.1 hu
    obtain ⟨h1, h2, h3, h4⟩ := h.t t ht
    rw [putW_len x hfn]
    refine ⟨?_, sI_lt.2 h2, ?_, h4⟩
    · unfold shT sI; dsimp only; split <;> omega
    · unfold shT sI; dsimp only; split <;> omega
  · rw [putN, List.pairwise_map]
    refine h.s.imp fun {a b} hab => ?_
    unfold lexT shT at *
    dsimp only
    rw [sI_lt, sI_inj, sI_lt]
    exact hab
theorem partsD_len1 {ws : List Int} {ns : List (Int × Int × Int)} : ∀ d ∈ partsD ws ns, d.2.1.length = d.1.length + 1 := fun d hd => by
  unfold partsD partsO at hd
  obtain ⟨r, _, rfl⟩ := List.mem_map.1 hd
  simp [inW]
/-- What is new among the inputs: at most k, each of one face; none is lost. -/
structure NI (E E' : List (List Int × List (Int × Int × Int))) (k : Nat) : Prop where
  c : (E'.filter fun e => decide (e ∉ E)).length ≤ k
  s : ∀ e ∈ E', e ∉ E → e.1.length = 2
  b : ∀ e ∈ E, e ∈ E'
theorem NI.refl (E : List (List Int × List (Int × Int × Int))) : NI E E 0 := ⟨by
  rw [List.filter_eq_nil_iff.2 (fun e he => by simp [he])]
  exact Nat.le_refl _, fun e he hn => absurd he hn, fun _ h => h⟩
theorem NI.step {E E' E'' : List (List Int × List (Int × Int × Int))} {k : Nat} (h : NI E E' k) {x : Int} (hp : E''.Perm (([0, x], []) :: E')) : NI E E'' (k + 1) := by
  refine ⟨?_, fun e he hn => ?_, fun e he => hp.mem_iff.2 (List.mem_cons_of_mem _ (h.b e he))⟩
  · rw [(hp.filter _).length_eq, List.filter_cons]
    have := h.c
    split
    · rw [List.length_cons]; omega
    · omega
  · rcases List.mem_cons.1 (hp.mem_iff.1 he) with rfl | he
    · rfl
    · exact h.s e he hn
theorem NI.news {ds ds' : List (List Int × List Int × List (Int × Int × Int))} {k : Nat} (h : NI (ds.map fun d => d.2) (ds'.map fun d => d.2) k) (hs : ∀ d ∈ ds', d.2.1.length = d.1.length + 1) :
    (newsD ds ds').length ≤ k ∧ incD (newsD ds ds') = (newsD ds ds').length ∧ newsD ds' ds = [] := by
  refine ⟨?_, ?_, ?_⟩
  · have hc := h.c
    rw [List.filter_map, List.length_map] at hc
    exact hc
  · have h1 : ∀ d ∈ newsD ds ds', d.1.length = 1 := fun d hd => by
      obtain ⟨hm, hn⟩ := List.mem_filter.1 hd
      have h2 := h.s d.2 (List.mem_map.2 ⟨d, hm, rfl⟩) (of_decide_eq_true hn)
      have h3 := hs d hm
      omega
    generalize newsD ds ds' = L at h1
    unfold incD
    induction L with
    | nil => rfl
    | cons d L ih =>
      rw [List.map_cons, List.sum_cons, ih fun u hu => h1 u (List.mem_cons_of_mem _ hu), h1 d (List.mem_cons_self ..), List.length_cons]
      omega
  · unfold newsD
    rw [List.filter_eq_nil_iff]
    intro d hd
    have := h.b d.2 (List.mem_map.2 ⟨d, hd, rfl⟩)
    simpa using this
end Go.Proofs.Ytmdgdphhedgojaa

namespace Go.Proofs.Ytmdgdphhedgojaa
open Go.RowKit Go.Maps

/-- The weights so far, ahead of the round of face k and behind its first half. -/
def pW (ws : List Int) (f : Nat) (x : Int) (k : Nat) : List Int := if k ≤ f then ws.take k else putW (ws.take k) f x
def qW (ws : List Int) (f : Nat) (x : Int) (k : Nat) : List Int := if k < f then ws.take k else putW (ws.take k) f x
theorem qW_ne {ws : List Int} {f k : Nat} {x : Int} (h : k ≠ f) : qW ws f x k = pW ws f x k := by
  unfold qW pW
  by_cases h1 : k < f
  · rw [if_pos h1, if_pos (by omega)]
  · rw [if_neg h1, if_neg (by omega)]
theorem qW_eq {ws : List Int} {f : Nat} {x : Int} (h : f ≤ ws.length) : qW ws f x f = pW ws f x f ++ [x] := by
  unfold qW pW
  rw [if_neg (by omega), if_pos (Nat.le_refl _)]
  unfold putW
  rw [List.take_take, Nat.min_self, List.drop_eq_nil_of_le (by rw [List.length_take]; omega)]
theorem pW_succ {ws : List Int} {f k : Nat} {x y : Int} (h : ws[k]? = some y) : pW ws f x (k + 1) = qW ws f x k ++ [y] := by
  have hk := (List.getElem?_eq_some_iff.1 h).1
  unfold qW pW
  by_cases h1 : k < f
  · rw [if_pos h1, if_pos (by omega), take_snoc' h]
  · rw [if_neg h1, if_neg (by omega), take_snoc' h]
    unfold putW
    rw [List.take_append_of_le_length (by rw [List.length_take]; omega), List.drop_append_of_le_length (by rw [List.length_take]; omega), List.append_assoc, List.cons_append]
theorem pW_all {ws : List Int} {f : Nat} {x : Int} (h : f < ws.length) : pW ws f x ws.length = putW ws f x := by
  unfold pW
  rw [if_neg (by omega), List.take_length]
theorem pW_len {ws : List Int} {f k : Nat} {x : Int} (h : k ≤ ws.length) : (pW ws f x k).length ≤ k + 1 := by
  unfold pW putW
  split <;> simp <;> omega
theorem qW_len {ws : List Int} {f k : Nat} {x : Int} (h : k ≤ ws.length) : (qW ws f x k).length ≤ k + 1 := by
  unfold qW putW
  split <;> simp <;> omega
/-- What the region of the weights reads. -/
def S7 (o g : Nat) (v u : Value) (bA oA : Nat) (y : Int) (W : World) : Prop := W.cell? ⟨o, 0, none⟩ = some v ∧ W.cell? ⟨g, 0, none⟩ = some u ∧ W.cell? ⟨bA, oA, none⟩ = some (.int .i64 y)

set_option linter.unusedSimpArgs false in
set_option maxHeartbeats 8000000 in
set_option maxRecDepth 100000 in
theorem put_any (A B : Option Addr) (a b f : Nat) (x : Int) (ws : List Int) (ns : List (Int × Int × Int)) (w : World) (hA : SI w A ws) (hB : ST w B ns) (hf : 1 ≤ f) (hfn : f < ws.length) (hl : ws.length ≤ 4096) (hl2 : ns.length ≤ 16384) (ht : ∀ t ∈ ns, 0 ≤ t.1 ∧ t.1 < t.2.1 ∧ t.2.1 < ws.length) :
    Calls Try.prog 23 #[.agg #[.slice A ws.length a, .slice B ns.length b], .int .i64 f, .int .i64 x] w fun e w' => ∃ A' a' B' b', e = .returned (.agg #[.slice A' (putW ws f x).length a', .slice B' (putN ns f).length b']) ∧
      w'.ownsRow w.heap.size 3 1 (.slice A' (putW ws f x).length a') (putW ws f x).length ((putW ws f x).map (Value.int .i64)) ∧ w'.ownsRow w.heap.size 52 3 (.slice B' (putN ns f).length b') (putN ns f).length (triC (putN ns f)) ∧ Below w.heap.size w w' := by
  obtain ⟨S, hSz⟩ : ∃ S, w.heap.size = S := ⟨_, rfl⟩
  have HA := Lib.hid (fun (W : World) (hW : Below S w W) => (hA.below (hSz.symm ▸ hW) : SI W A ws))
  have HB := Lib.hid (fun (W : World) (hW : Below S w W) => (hB.below (hSz.symm ▸ hW) : ST W B ns))
  have Hbz := Lib.hid (fun (W : World) (hW : Below S w W) => (show S ≤ W.heap.size by have := hW.size; omega))
  have Ht := Lib.hid ht
  clear hA hB ht
  go_enter Try.func23, Try.ntmps23
  go_wp2_with fail
  have hb0 : Below S w (((w.alloc (.cells #[.slice A ws.length a, .slice B ns.length b] 30)).alloc (.cells #[.slice none 0 0, .slice none 0 0] 30)).alloc (.cells #[.slice none 0 0, .slice none 0 0] 30)) := hSz ▸ (((Below.refl _ _).alloc (Nat.le_refl _) _).alloc (by simp) _).alloc (by simp; omega) _
  have hbG : Bk (((w.alloc (.cells #[.slice A ws.length a, .slice B ns.length b] 30)).alloc (.cells #[.slice none 0 0, .slice none 0 0] 30)).alloc (.cells #[.slice none 0 0, .slice none 0 0] 30)) S 30 #[.slice A ws.length a, .slice B ns.length b] := ((Bk.new' _ _ _ hSz).alloc _).alloc _
  have hbR : Bk (((w.alloc (.cells #[.slice A ws.length a, .slice B ns.length b] 30)).alloc (.cells #[.slice none 0 0, .slice none 0 0] 30)).alloc (.cells #[.slice none 0 0, .slice none 0 0] 30)) (S + 1) 30 #[.slice none 0 0, .slice none 0 0] := (Bk.new' _ _ _ (by simp [hSz])).alloc _
  have hbO : Bk (((w.alloc (.cells #[.slice A ws.length a, .slice B ns.length b] 30)).alloc (.cells #[.slice none 0 0, .slice none 0 0] 30)).alloc (.cells #[.slice none 0 0, .slice none 0 0] 30)) (S + 1 + 1) 30 #[.slice none 0 0, .slice none 0 0] := Bk.new' _ _ _ (by simp [hSz])
  generalize ((w.alloc (.cells #[.slice A ws.length a, .slice B ns.length b] 30)).alloc (.cells #[.slice none 0 0, .slice none 0 0] 30)).alloc (.cells #[.slice none 0 0, .slice none 0 0] 30) = W0 at *
  have Hb0 := Lib.hid hb0
  have HG0 := Lib.hid hbG
  have HR0 := Lib.hid hbR
  have HO0 := Lib.hid hbO
  have HSz := Lib.hid hSz
  clear hb0 hbG hbR hbO hSz
  go_loopw [8] (fun i wr => ∃ (k : Nat) (v : Value), k ≤ ws.length ∧ i = .int .i64 k ∧ Bk wr (S + 1 + 1) 30 #[v, .slice none 0 0] ∧ wr.ownsRow S 3 1 v (pW ws f x k).length ((pW ws f x k).map (Value.int .i64)) ∧ Bk wr S 30 #[.slice A ws.length a, .slice B ns.length b] ∧ Bk wr (S + 1) 30 #[.slice none 0 0, .slice none 0 0] ∧ Below S w wr) (fun i _ => ws.length - (intOf i).toNat)
  case atStart => exact ⟨0, _, by omega, rfl, HO0.out, World.ownsRow_nil _ _ _ _, HG0.out, HR0.out, Hb0.out⟩
  case round =>
    clear HO0 HG0 HR0 Hb0
    obtain ⟨k, v, hk, rfl, hO, ho, hG, hR, hb⟩ := hrel
    have HO := Lib.hid hO
    have Ho := Lib.hid ho
    have HG := Lib.hid hG
    have HR := Lib.hid hR
    have Hb := Lib.hid hb
    clear hO ho hG hR hb
    have hg0 : wr.cell? ⟨S, 0, none⟩ = some (.slice A ws.length a) := HG.out.cell 0
    by_cases hlt : k < ws.length
    · have k0 : (0 : Int) ≤ (k : Int) := by omega
      have hpl := pW_len (ws := ws) (f := f) (x := x) (k := k) (by omega)
      go_upto_if 21 with fail
      go_cut [] (fun wx => ∃ v, Bk wx (S + 1 + 1) 30 #[v, .slice none 0 0] ∧ wx.ownsRow S 3 1 v (qW ws f x k).length ((qW ws f x k).map (Value.int .i64)) ∧ Bk wx S 30 #[.slice A ws.length a, .slice B ns.length b] ∧ Bk wx (S + 1) 30 #[.slice none 0 0, .slice none 0 0] ∧ Below S w wx)
      case first =>
        as_aux_lemma =>
        by_cases hkf : k = f
        · subst hkf
          have hc0 : wr.cell? ⟨S + 1 + 1, 0, none⟩ = some v := HO.out.cell 0
          have hz := Hbz.out _ Hb.out
          have hrow := HO.out.ne_own Ho.out (by decide)
          go_wp2_with (at_builtin; refine wpList_app2 (w := wr) rfl _ _ rfl elt_int Ho.out hz rfl rfl (by simp) rfl rfl (by omega) ?_; intro v3 w4 hown4 hg4 hz4; obtain ⟨A2, c2, rfl⟩ := own_slice hown4; have hg5 := HO.out.grown hg4 hrow; have hq0 : w4.cell? ⟨S + 1 + 1, 0, none⟩ = some v := hg5.cell 0; have hq3 := hg5.frozen 0; have Hg5 := Lib.hid hg5; clear hg5)
          go_meet
          have hr4 := (HR.out.grown hg4 (HR.out.ne_own Ho.out (by decide))).far (p := ⟨S + 1 + 1, 0, none⟩) (by show S + 1 ≠ S + 1 + 1; omega) (.slice A2 ((pW ws k x k).length + 1) c2)
          have hG4 := (HG.out.grown hg4 (HG.out.ne_own Ho.out (by decide))).far (p := ⟨S + 1 + 1, 0, none⟩) (by show S ≠ S + 1 + 1; omega) (.slice A2 ((pW ws k x k).length + 1) c2)
          have hb4 := (Hb.out.grown hg4 hz (fun q hq => (Ho.out.lt q hq).1)).setCell (p := ⟨S + 1 + 1, 0, none⟩) (by show S ≤ S + 1 + 1; omega) (.slice A2 ((pW ws k x k).length + 1) c2)
          have ho4 := own_set (i := 0) hown4 (Hg5.out.ne_own hown4 (by decide)) (.slice A2 ((pW ws k x k).length + 1) c2)
          exact ⟨.slice A2 ((pW ws k x k).length + 1) c2, Hg5.out.set_ 0 _, by rw [qW_eq (by omega), List.length_append, List.map_append]; exact ho4, hG4, hr4, hb4⟩
        · go_wp2_with fail
          go_meet
          exact ⟨v, HO.out, by rw [qW_ne hkf]; exact Ho.out, HG.out, HR.out, Hb.out⟩
      case rest =>
      obtain ⟨v, hO, ho, hG, hR, hb⟩ := hcut
      obtain ⟨W1, rfl⟩ : ∃ z, z = wc := ⟨wc, rfl⟩
      obtain ⟨bA, oA, y, rfl, hcy, hy⟩ := (HA.out _ hb).get (k := k) hlt
      have hqe := pW_succ (f := f) (x := x) hy.out
      have hql := qW_len (ws := ws) (f := f) (x := x) (k := k) (by omega)
      obtain ⟨Q, hQ⟩ : ∃ Q, Hid (qW ws f x k = Q) := ⟨_, Lib.hid rfl⟩
      rw [hQ.out] at ho hqe hql
      obtain ⟨AV, cV, hvV⟩ := own_slice ho
      subst hvV
      have Hqe := Lib.hid hqe
      have HO := Lib.hid hO
      have Ho := Lib.hid ho
      have HG := Lib.hid hG
      have HR := Lib.hid hR
      have Hb := Lib.hid hb
      have Hy := Lib.hid hy.out
      clear hO ho hG hR hb hqe hg0 hy
      have hz := Hbz.out _ Hb.out
      have hbW : S ≤ (W1.drew.alloc (.cells #[.int .i64 y] 3)).heap.size := by simp; exact Nat.le_trans hz (Nat.le_succ _)
      have Hwn := Lib.hid (fun (W : World) (hW : Below S w W) => show W.cell? ⟨bA, oA + k, none⟩ = some (.int .i64 y) from by
        obtain ⟨b3, o3, x3, e3, h3, h4⟩ := (HA.out W hW).get (k := k) hlt
        injection e3 with e3
        injection e3 with e31 e32
        subst e31 e32
        have e6 := Option.some.inj (h4.out.symm.trans Hy.out)
        rw [e6] at h3
        exact h3)
      have HS0 := Lib.hid (show S7 (S + 1 + 1) S (.slice AV Q.length cV) (.slice (some ⟨bA, oA, none⟩) ws.length a) bA (oA + k) y W1.drew from ⟨HO.out.cell 0, HG.out.cell 0, hcy⟩)
      have HOa := Lib.hid (show Bk (W1.drew.alloc (.cells #[.int .i64 y] 3)) (S + 1 + 1) _ _ from (show Bk W1.drew _ _ _ from HO.out).alloc _)
      have HGa := Lib.hid (show Bk (W1.drew.alloc (.cells #[.int .i64 y] 3)) S _ _ from (show Bk W1.drew _ _ _ from HG.out).alloc _)
      have HRa := Lib.hid (show Bk (W1.drew.alloc (.cells #[.int .i64 y] 3)) (S + 1) _ _ from (show Bk W1.drew _ _ _ from HR.out).alloc _)
      have Hba := Lib.hid (show Below S w (W1.drew.alloc (.cells #[.int .i64 y] 3)) from (Hb.out.drew).alloc hz _)
      have Hoa := Lib.hid (show (W1.drew.alloc (.cells #[.int .i64 y] 3)).ownsRow _ _ _ _ _ _ from (show W1.drew.ownsRow _ _ _ _ _ _ from Ho.out).alloc _)
      have Hnew := Lib.hid (Bk.new W1.drew 3 #[.int .i64 y])
      have HS1 := Lib.hid (show S7 (S + 1 + 1) S (.slice AV Q.length cV) (.slice (some ⟨bA, oA, none⟩) ws.length a) bA (oA + k) y (W1.drew.alloc (.cells #[.int .i64 y] 3)) from ⟨HOa.out.cell 0, HGa.out.cell 0, Hwn.out _ Hba.out⟩)
      clear hcy
      go_wp2_with fail
      refine wp_region_noPanic ?_
      refine region_T (s := 10) (S := S7 (S + 1 + 1) S (.slice AV Q.length cV) (.slice (some ⟨bA, oA, none⟩) ws.length a) bA (oA + k) y) (by kernel_rfl) ?_
      change wpT _ _ _ _ _ 11 _ _ W1.drew
      refine T_take (k := 0) (v := .pointer (some ⟨S + 1 + 1, 0, none⟩)) rfl (by decide +kernel) (fun _ _ _ h => h) (Or.inl ⟨by rfl, fun W hW => by obtain ⟨s0, s1, s2⟩ := hW; go_simp⟩) HS0.out ?_
      try simp only [Act.put, List.setIfInBounds_toArray, List.set_cons_zero, List.set_cons_succ]
      refine T_take (k := 1) (v := .slice AV Q.length cV) rfl (by decide +kernel) (fun _ _ _ h => h) (Or.inl ⟨by rfl, fun W hW => by obtain ⟨s0, s1, s2⟩ := hW; go_simp⟩) HS0.out ?_
      try simp only [Act.put, List.setIfInBounds_toArray, List.set_cons_zero, List.set_cons_succ]
      refine T_take (k := 2) (v := .pointer (some ⟨S, 0, none⟩)) rfl (by decide +kernel) (fun _ _ _ h => h) (Or.inl ⟨by rfl, fun W hW => by obtain ⟨s0, s1, s2⟩ := hW; go_simp⟩) HS0.out ?_
      try simp only [Act.put, List.setIfInBounds_toArray, List.set_cons_zero, List.set_cons_succ]
      refine T_take (k := 3) (v := .slice (some ⟨bA, oA, none⟩) ws.length a) rfl (by decide +kernel) (fun _ _ _ h => h) (Or.inl ⟨by rfl, fun W hW => by obtain ⟨s0, s1, s2⟩ := hW; go_simp⟩) HS0.out ?_
      try simp only [Act.put, List.setIfInBounds_toArray, List.set_cons_zero, List.set_cons_succ]
      refine T_take (k := 4) (v := .int .i64 k) rfl (by decide +kernel) (fun _ _ _ h => h) (Or.inl ⟨by rfl, fun W hW => by obtain ⟨s0, s1, s2⟩ := hW; go_simp⟩) HS0.out ?_
      try simp only [Act.put, List.setIfInBounds_toArray, List.set_cons_zero, List.set_cons_succ]
      refine T_take (k := 5) (v := .pointer (some ⟨bA, oA + k, none⟩)) rfl (by decide +kernel) (fun _ _ _ h => h) (Or.inl ⟨by rfl, fun W hW => by obtain ⟨s0, s1, s2⟩ := hW; go_simp⟩) HS0.out ?_
      try simp only [Act.put, List.setIfInBounds_toArray, List.set_cons_zero, List.set_cons_succ]
      refine T_take (k := 6) (v := .int .i64 y) rfl (by decide +kernel) (fun _ _ _ h => h) (Or.inl ⟨by rfl, fun W hW => by obtain ⟨s0, s1, s2⟩ := hW; go_simp⟩) HS0.out ?_
      try simp only [Act.put, List.setIfInBounds_toArray, List.set_cons_zero, List.set_cons_succ]
      refine T_one (i := 7) (by decide +kernel) rfl rfl (fun K hK7 => ?_)
      have hK7 := Lib.hid hK7
      go_simp
      refine hK7.out _ _ HS1.out ?_
      try simp only [Act.put, List.setIfInBounds_toArray, List.set_cons_zero, List.set_cons_succ]
      refine T_one (i := 8) (by decide +kernel) rfl rfl (fun K hK8 => ?_)
      have hK8 := Lib.hid hK8
      refine app_wp3 (us := [.int .i64 y]) (c := 1) (H := W1.heap.size) (v := .slice AV Q.length cV) (.tmp 29) (.tmp 35) rfl elt_int.big (by simp [Act.eval]) (by simp [Act.eval]) Hoa.out Hnew.out rfl rfl (by omega) hbW ?_
      intro v8 w8 hown8 hg8 hv8
      obtain ⟨A8, c8, rfl⟩ := own_slice hown8
      have HO8 := Lib.hid (HOa.out.grown hg8 (HOa.out.ne_own Hoa.out (by decide)))
      have HG8 := Lib.hid (HGa.out.grown hg8 (HGa.out.ne_own Hoa.out (by decide)))
      have HR8 := Lib.hid (HRa.out.grown hg8 (HRa.out.ne_own Hoa.out (by decide)))
      have Hb8 := Lib.hid (Hba.out.grown hg8 hbW (fun q hq => (Hoa.out.lt q hq).1))
      have d4 := HO8.out.frozen 0
      have d3 : w8.cell? ⟨S + 1 + 1, 0, none⟩ = some (.slice AV Q.length cV) := HO8.out.cell 0
      have HS2 := Lib.hid (show S7 (S + 1 + 1) S (.slice AV Q.length cV) (.slice (some ⟨bA, oA, none⟩) ws.length a) bA (oA + k) y w8 from ⟨HO8.out.cell 0, HG8.out.cell 0, Hwn.out _ Hb8.out⟩)
      refine hK8.out _ _ HS2.out ?_
      try simp only [Act.put, List.setIfInBounds_toArray, List.set_cons_zero, List.set_cons_succ]
      refine T_take (k := 9) (v := .pointer (some ⟨S + 1 + 1, 0, none⟩)) rfl (by decide +kernel) (fun _ _ _ h => h) (Or.inl ⟨by rfl, fun W hW => by obtain ⟨s0, s1, s2⟩ := hW; go_simp⟩) HS2.out ?_
      try simp only [Act.put, List.setIfInBounds_toArray, List.set_cons_zero, List.set_cons_succ]
      refine T_last (by decide +kernel) (by decide +kernel) (by decide +kernel) rfl rfl (fun K hKl => ?_)
      have hKl := Lib.hid hKl
      go_simp
      refine hKl.out _ _ (NoPanic.normal ?_)
      try simp only [Act.put, List.setIfInBounds_toArray, List.set_cons_zero, List.set_cons_succ]
      clear hK7 hK8 hKl HS0 HS1 HS2
      have HO9 := Lib.hid (HO8.out.set_ 0 (.slice A8 (Q.length + 1) c8))
      have HG9 := Lib.hid (HG8.out.far (p := ⟨S + 1 + 1, 0, none⟩) (by show S ≠ S + 1 + 1; omega) (.slice A8 (Q.length + 1) c8))
      have HR9 := Lib.hid (HR8.out.far (p := ⟨S + 1 + 1, 0, none⟩) (by show S + 1 ≠ S + 1 + 1; omega) (.slice A8 (Q.length + 1) c8))
      have Ho9 := Lib.hid (own_set (i := 0) hown8 (HO8.out.ne_own hown8 (by decide)) (.slice A8 (Q.length + 1) c8))
      have Hb9 := Lib.hid (Hb8.out.setCell (p := ⟨S + 1 + 1, 0, none⟩) (by show S ≤ S + 1 + 1; omega) (.slice A8 (Q.length + 1) c8))
      go_wp2_with fail
      go_roundw
      case rel => exact ⟨k + 1, _, by omega, by go_num, HO9.out, by rw [Hqe.out, List.length_append, List.map_append]; exact Ho9.out, HG9.out, HR9.out, Hb9.out⟩
      case measure => simp [intOf]; omega
    · obtain rfl : k = ws.length := by omega
      have ho := Ho.out
      rw [pW_all hfn] at ho
      obtain ⟨PW, hPW⟩ : ∃ Q, Hid (putW ws f x = Q) := ⟨_, Lib.hid rfl⟩
      rw [hPW.out] at ho
      obtain ⟨A1, a1, hvA⟩ := own_slice ho
      subst hvA
      have Ho := Lib.hid ho
      clear ho
      go_wp2_with fail
      clear hg0
      go_loopw [9] (fun i wr => ∃ (k : Nat) (v : Value), k ≤ ns.length ∧ i = .int .i64 k ∧ Bk wr (S + 1 + 1) 30 #[.slice A1 PW.length a1, v] ∧ wr.ownsRow S 3 1 (.slice A1 PW.length a1) PW.length (PW.map (Value.int .i64)) ∧ wr.ownsRow S 52 3 v k (triC (putN (ns.take k) f)) ∧
         Bk wr S 30 #[.slice A ws.length a, .slice B ns.length b] ∧ Bk wr (S + 1) 30 #[.slice none 0 0, .slice none 0 0] ∧ Below S w wr) (fun i _ => ns.length - (intOf i).toNat)
      case atStart => exact ⟨0, _, by omega, rfl, HO.out, Ho.out, World.ownsRow_nil _ _ _ _, HG.out, HR.out, Hb.out⟩
      case round =>
        clear HO Ho HG HR Hb
        obtain ⟨k, v, hk, rfl, hO, ho, hn, hG, hR, hb⟩ := hrel
        have HO := Lib.hid hO
        have Ho := Lib.hid ho
        have Hn := Lib.hid hn
        have HG := Lib.hid hG
        have HR := Lib.hid hR
        have Hb := Lib.hid hb
        clear hO ho hn hG hR hb
        have hg1 : wr.cell? ⟨S, 1, none⟩ = some (.slice B ns.length b) := HG.out.cell 1
        by_cases hlt : k < ns.length
        · obtain ⟨b1, o1, x1, y1, z1, rfl, e0, e1, e2, hxy⟩ := (HB.out _ Hb.out).get (k := k) hlt
          have hbd := Ht.out _ (List.mem_of_getElem? hxy.out)
          dsimp only at hbd
          have k0 : (0 : Int) ≤ (k : Int) := by omega
          go_upto_if 53 with fail
          have hz := Hbz.out _ Hb.out
          have hOl := HO.out.lt
          have HT := Lib.hid (Bk.new wr 52 #[.int .i64 x1, .int .i64 y1, .int .i64 z1])
          have HO := Lib.hid (HO.out.alloc (.cells #[.int .i64 x1, .int .i64 y1, .int .i64 z1] 52))
          have HG := Lib.hid (HG.out.alloc (.cells #[.int .i64 x1, .int .i64 y1, .int .i64 z1] 52))
          have HR := Lib.hid (HR.out.alloc (.cells #[.int .i64 x1, .int .i64 y1, .int .i64 z1] 52))
          have Hnl := Lib.hid (show ∀ g, v.ownBlock = some g → g < wr.heap.size from fun g hg => (Hn.out.lt g hg).2)
          have Hol := Lib.hid (show ∀ g, (Value.slice A1 PW.length a1).ownBlock = some g → g < wr.heap.size from fun g hg => (Ho.out.lt g hg).2)
          have Ho := Lib.hid (Ho.out.alloc (.cells #[.int .i64 x1, .int .i64 y1, .int .i64 z1] 52))
          have Hn := Lib.hid (Hn.out.alloc (.cells #[.int .i64 x1, .int .i64 y1, .int .i64 z1] 52))
          have Hb := Lib.hid (Hb.out.alloc hz (.cells #[.int .i64 x1, .int .i64 y1, .int .i64 z1] 52))
          clear hg1 e0 e1 e2
          generalize wr.alloc (.cells #[.int .i64 x1, .int .i64 y1, .int .i64 z1] 52) = W1 at *
          generalize wr.heap.size = T at *
          go_cut [] (fun wx => Bk wx T 52 #[.int .i64 (sI f x1), .int .i64 y1, .int .i64 z1] ∧ Turn W1 wx T)
          case first =>
            as_aux_lemma =>
            by_cases h1 : x1 < f
            · have h2 : ¬ (f : Int) ≤ x1 := by omega
              go_wp2_with fail
              go_meet
              exact ⟨by rw [show sI f x1 = x1 by unfold sI; rw [if_pos h1]]; exact HT.out, Turn.refl _ _⟩
            · have h2 : (f : Int) ≤ x1 := by omega
              have c0 : W1.cell? ⟨T, 0, none⟩ = some (.int .i64 x1) := HT.out.cell 0
              have f0 := HT.out.frozen 0
              go_wp2_with fail
              go_meet
              exact ⟨by rw [show sI f x1 = x1 + 1 by unfold sI; rw [if_neg (by omega)]]; exact HT.out.set_ 0 (.int .i64 (x1 + 1)), (Turn.refl _ _).setCell_ 0 _⟩
          case rest =>
          obtain ⟨W2, rfl⟩ : ∃ z, z = wc := ⟨wc, rfl⟩
          obtain ⟨hT2, ht2⟩ := hcut
          have HT2 := Lib.hid hT2
          have Ht2 := Lib.hid ht2
          clear hT2 ht2 HT
          have c1 : W2.cell? ⟨T, 1, none⟩ = some (.int .i64 y1) := HT2.out.cell 1
          go_upto_if 61 with fail
          go_cut [] (fun wx => Bk wx T 52 #[.int .i64 (sI f x1), .int .i64 (sI f y1), .int .i64 z1] ∧ Turn W1 wx T)
          case first =>
            as_aux_lemma =>
            by_cases h1 : y1 < f
            · have h2 : ¬ (f : Int) ≤ y1 := by omega
              go_wp2_with fail
              go_meet
              exact ⟨by rw [show sI f y1 = y1 by unfold sI; rw [if_pos h1]]; exact HT2.out, Ht2.out⟩
            · have h2 : (f : Int) ≤ y1 := by omega
              have f1 := HT2.out.frozen 1
              go_wp2_with fail
              go_meet
              exact ⟨by rw [show sI f y1 = y1 + 1 by unfold sI; rw [if_neg (by omega)]]; exact HT2.out.set_ 1 (.int .i64 (y1 + 1)), Ht2.out.setCell_ 1 _⟩
          case rest =>
          obtain ⟨W3, rfl⟩ : ∃ z, z = wc := ⟨wc, rfl⟩
          obtain ⟨hT3, ht3⟩ := hcut
          have HT3 := Lib.hid hT3
          have hoT : T ≠ S + 1 + 1 := by omega
          have HO := Lib.hid (ht3.bk HO.out (by omega))
          have HG := Lib.hid (ht3.bk HG.out (by omega))
          have HR := Lib.hid (ht3.bk HR.out (by omega))
          have Ho := Lib.hid (own_turn' Ho.out ht3 (fun e => by have := Hol.out T e.symm; omega))
          have Hn := Lib.hid (own_turn' Hn.out ht3 (fun e => by have := Hnl.out T e.symm; omega))
          have Hb := Lib.hid (ht3.below Hb.out (by omega))
          have hz3 := Hbz.out _ Hb.out
          have hst := Lib.hid (take_snoc' hxy.out)
          clear hT3 ht3 HT2 Ht2 c1
          have d0 : W3.cell? ⟨T, 0, none⟩ = some (.int .i64 (sI f x1)) := HT3.out.cell 0
          have d1 : W3.cell? ⟨T, 1, none⟩ = some (.int .i64 (sI f y1)) := HT3.out.cell 1
          have d2 : W3.cell? ⟨T, 2, none⟩ = some (.int .i64 z1) := HT3.out.cell 2
          have hc0 : W3.cell? ⟨S + 1 + 1, 1, none⟩ = some v := HO.out.cell 1
          have hrow := HO.out.ne_own Hn.out (by decide)
          go_wp2_with (at_builtin; refine wpList_app2 (w := W3) rfl _ _ rfl elt_tri Hn.out hz3 rfl rfl (by simp) rfl rfl (by omega) ?_; intro v3 w4 hown4 hg4 hz4; obtain ⟨A2, c2, rfl⟩ := own_slice hown4; have hg5 := HO.out.grown hg4 hrow; have hq0 : w4.cell? ⟨S + 1 + 1, 1, none⟩ = some v := hg5.cell 1; have hq3 := hg5.frozen 1; have Hg5 := Lib.hid hg5; clear hg5)
          have hr4 := (HR.out.grown hg4 (HR.out.ne_own Hn.out (by decide))).far (p := ⟨S + 1 + 1, 1, none⟩) (by show S + 1 ≠ S + 1 + 1; omega) (.slice A2 (k + 1) c2)
          have hG4 := (HG.out.grown hg4 (HG.out.ne_own Hn.out (by decide))).far (p := ⟨S + 1 + 1, 1, none⟩) (by show S ≠ S + 1 + 1; omega) (.slice A2 (k + 1) c2)
          have hb4 := (Hb.out.grown hg4 hz3 (fun q hq => (Hn.out.lt q hq).1)).setCell (p := ⟨S + 1 + 1, 1, none⟩) (by show S ≤ S + 1 + 1; omega) (.slice A2 (k + 1) c2)
          have hn4 := own_set (i := 1) hown4 (Hg5.out.ne_own hown4 (by decide)) (.slice A2 (k + 1) c2)
          have ho4 := own_grown Ho.out hg4 (own_ne Ho.out Hn.out (by decide))
          have ho5 := own_set (i := 1) ho4 (Hg5.out.ne_own ho4 (by decide)) (.slice A2 (k + 1) c2)
          go_roundw
          case rel =>
            refine ⟨k + 1, _, by omega, by go_num, Hg5.out.set_ 1 (.slice A2 (k + 1) c2), ho5, ?_, hG4, hr4, hb4⟩
            rw [hst.out, putN, List.map_append, triC_append]
            exact hn4
          case measure => simp [intOf]; omega
        · obtain rfl : k = ns.length := by omega
          rw [List.take_length] at Hn
          have hnl : ns.length = (putN ns f).length := by rw [putN, List.length_map]
          have hn := Hn.out
          rw [hnl] at hn
          obtain ⟨B1, b1, hvB⟩ := own_slice hn
          subst hvB
          have Hn := Lib.hid hn
          have hc0 : wr.cell? ⟨S + 1 + 1, 0, none⟩ = some (.slice A1 PW.length a1) := HO.out.cell 0
          have hc1 : wr.cell? ⟨S + 1 + 1, 1, none⟩ = some (.slice B1 (putN ns f).length b1) := HO.out.cell 1
          have hr0 : wr.cell? ⟨S + 1, 0, none⟩ = some (.slice none 0 0) := HR.out.cell 0
          have hr1 : wr.cell? ⟨S + 1, 1, none⟩ = some (.slice none 0 0) := HR.out.cell 1
          have hf0 := HR.out.frozen 0
          have hf1 := HR.out.frozen 1
          have hz0 := ((HR.out.set_ 0 (.slice A1 PW.length a1)).set_ 1 (.slice B1 (putN ns f).length b1)).cell 0
          have hz1 := ((HR.out.set_ 0 (.slice A1 PW.length a1)).set_ 1 (.slice B1 (putN ns f).length b1)).cell 1
          clear hnl hn
          go_wp2_with fail
          refine bodyPost_ret (v := .agg #[.slice A1 PW.length a1, .slice B1 (putN ns f).length b1]) (by simp [results, Try.results23, go_sem, hz0, hz1]) rfl ⟨A1, a1, B1, b1, by rw [hPW.out], ?_, ?_, ?_⟩
          · rw [HSz.out, hPW.out]; exact own_set (i := 1) (own_set (i := 0) Ho.out (HR.out.ne_own Ho.out (by decide)) _) (HR.out.ne_own Ho.out (by decide)) _
          · rw [HSz.out]; exact own_set (i := 1) (own_set (i := 0) Hn.out (HR.out.ne_own Hn.out (by decide)) _) (HR.out.ne_own Hn.out (by decide)) _
          · rw [HSz.out]; exact (Hb.out.setCell (p := ⟨S + 1, 0, none⟩) (by show S ≤ S + 1; omega) _).setCell (p := ⟨S + 1, 1, none⟩) (by show S ≤ S + 1; omega) _
end Go.Proofs.Ytmdgdphhedgojaa

namespace Go.Proofs.Ytmdgdphhedgojaa
open Go.RowKit Go.Maps

/-- A row's beginning is a row. -/
theorem own_take {w : World} {base g n c k : Nat} {e : TypeId} {size : Nat} {xs : List Value} (h : w.ownsRow base e size (.slice (some ⟨g, 0, none⟩) n c) n xs) (hk : k ≤ n) : w.ownsRow base e size (.slice (some ⟨g, 0, none⟩) k c) k (xs.take (k * size)) := by
  obtain ⟨hx, h2⟩ := h
  have hkn : k * size ≤ n * size := Nat.mul_le_mul_right _ hk
  rcases h2 with ⟨h0, _⟩ | ⟨g', cap', cur, hv, hg, hh, hn, hcap, hsz, htake⟩
  · cases h0
  · cases hv
    refine ⟨by rw [List.length_take, hx]; omega, .inr ⟨g, c, cur, rfl, hg, hh, by omega, hcap, hsz, ?_⟩⟩
    rw [← htake, List.take_take, Nat.min_eq_left hkn]
theorem own_cap2 {w : World} {base g n c : Nat} {e : TypeId} {size : Nat} {xs : List Value} (h : w.ownsRow base e size (.slice (some ⟨g, 0, none⟩) n c) n xs) : n ≤ c := by
  rcases h.2 with ⟨h0, _⟩ | ⟨g', cap', cur, hv, hg, hh, hn, hcap, hsz, htake⟩
  · cases h0
  · cases hv; exact hn
theorem triC_take (ns : List (Int × Int × Int)) : ∀ k, (triC ns).take (k * 3) = triC (ns.take k) := by
  induction ns with
  | nil => intro k; simp [triC]
  | cons t ns ih =>
    intro k
    cases k with
    | zero => simp [triC]
    | succ k =>
      have := ih k
      simp only [triC] at this
      simp only [triC, List.flatMap_cons, List.take_succ_cons, Nat.succ_mul, List.cons_append, List.nil_append]
      simp only [this]
theorem triC_drop (ns : List (Int × Int × Int)) : ∀ k, (triC ns).drop (k * 3) = triC (ns.drop k) := by
  induction ns with
  | nil => intro k; simp [triC]
  | cons t ns ih =>
    intro k
    cases k with
    | zero => simp [triC]
    | succ k =>
      have := ih k
      simp only [triC] at this
      simp only [triC, List.flatMap_cons, List.drop_succ_cons, Nat.succ_mul, List.cons_append, List.nil_append]
      simp only [this]
theorem triC_app (a b : List (Int × Int × Int)) : triC a ++ triC b = triC (a ++ b) := by simp [triC]
theorem GV.del {ws : List Int} {ns : List (Int × Int × Int)} (h : GV ws ns) (i : Nat) : GV ws (ns.take i ++ ns.drop (i + 1)) := by
  have hs : (ns.take i ++ ns.drop (i + 1)).Sublist ns := by
    have h1 : (ns.drop (i + 1)).Sublist (ns.drop i) := by
      rw [← List.drop_drop]
      exact List.drop_sublist 1 _
    have h2 := List.Sublist.append (List.Sublist.refl (ns.take i)) h1
    rwa [List.take_append_drop] at h2
  exact ⟨h.n1, Nat.le_trans hs.length_le h.n2, h.w, fun u hu => h.t u (hs.subset hu), h.s.sublist hs⟩
theorem st_dropT {w : World} {b o : Nat} {l : List (Int × Int × Int)} (h : ST w (some ⟨b, o, none⟩) l) (n : Nat) : ST w (some ⟨b, o + n * 3, none⟩) (l.drop n) := fun j u hu => by
  rw [← triC_drop, List.getElem?_drop] at hu
  obtain ⟨b', o', e, hc⟩ := h (n * 3 + j) u hu
  injection e with e
  injection e with e1 e2
  subst e1 e2
  exact ⟨_, _, rfl, by rw [Nat.add_assoc]; exact hc⟩

/-- A changed graph so far: the argument, the result, the graph that is made. -/
structure ChR (S : Nat) (w W : World) (A B : Option Addr) (a b n m : Nat) (ws : List Int) (ns : List (Int × Int × Int)) (C D : Option Addr) (c d : Nat) : Prop where
  g : Bk W S 30 #[.slice A n a, .slice B m b]
  r : Bk W (S + 1) 30 #[.slice none 0 0, .slice none 0 0]
  o : Bk W (S + 1 + 1) 30 #[.slice C ws.length c, .slice D ns.length d]
  ra : W.ownsRow S 3 1 (.slice C ws.length c) ws.length (ws.map (Value.int .i64))
  rb : W.ownsRow S 52 3 (.slice D ns.length d) ns.length (triC ns)
  bl : Below S w W

theorem ChR.res {S : Nat} {w W : World} {A B : Option Addr} {a b n m : Nat} {ws : List Int} {ns : List (Int × Int × Int)} {C D : Option Addr} {c d : Nat} (h : ChR S w W A B a b n m ws ns C D c d) {U V : Value} :
    ((W.setCell ⟨S + 1, 0, none⟩ U).setCell ⟨S + 1, 1, none⟩ V).ownsRow S 3 1 (.slice C ws.length c) ws.length (ws.map (Value.int .i64)) ∧ ((W.setCell ⟨S + 1, 0, none⟩ U).setCell ⟨S + 1, 1, none⟩ V).ownsRow S 52 3 (.slice D ns.length d) ns.length (triC ns) ∧
      Below S w ((W.setCell ⟨S + 1, 0, none⟩ U).setCell ⟨S + 1, 1, none⟩ V) :=
  ⟨own_set (i := 1) (own_set (i := 0) h.ra (h.r.ne_own h.ra (by decide)) _) (h.r.ne_own h.ra (by decide)) _, own_set (i := 1) (own_set (i := 0) h.rb (h.r.ne_own h.rb (by decide)) _) (h.r.ne_own h.rb (by decide)) _, (h.bl.setCell (p := ⟨S + 1, 0, none⟩) (by show S ≤ S + 1; omega) _).setCell (p := ⟨S + 1, 1, none⟩) (by show S ≤ S + 1; omega) _⟩
theorem ChR.setW {S : Nat} {w W : World} {A B : Option Addr} {a b n m g : Nat} {ws : List Int} {ns : List (Int × Int × Int)} {D : Option Addr} {c d : Nat} (h : ChR S w W A B a b n m ws ns (some ⟨g, 0, none⟩) D c d) (f : Nat) (x : Int) :
    ChR S w (W.setCell ⟨g, f, none⟩ (.int .i64 x)) A B a b n m (ws.set f x) ns (some ⟨g, 0, none⟩) D c d := by
  obtain ⟨cur, hcur, _⟩ := own_bk2 h.ra
  have ha := own_put (i := f) h.ra (.int .i64 x)
  rw [← List.map_set] at ha
  exact ⟨h.g.far (p := ⟨g, f, none⟩) (Bk.ne_ h.g hcur (by decide)) _, h.r.far (p := ⟨g, f, none⟩) (Bk.ne_ h.r hcur (by decide)) _, by rw [List.length_set]; exact h.o.far (p := ⟨g, f, none⟩) (Bk.ne_ h.o hcur (by decide)) _,
    by rw [List.length_set]; exact ha, own_set (i := f) h.rb (hcur.ne_own h.rb (by decide)) _, h.bl.setCell (p := ⟨g, f, none⟩) (h.ra.lt g rfl).1 _⟩
theorem ChR.setN {S : Nat} {w W : World} {A B : Option Addr} {a b n m g : Nat} {ws : List Int} {ns : List (Int × Int × Int)} {C : Option Addr} {c d : Nat} (h : ChR S w W A B a b n m ws ns C (some ⟨g, 0, none⟩) c d) {j : Nat} {p q z : Int} (hj : ns[j]? = some (p, q, z)) (x : Int) :
    ChR S w (W.setCell ⟨g, j * 3 + 2, none⟩ (.int .i64 x)) A B a b n m ws (ns.set j (p, q, x)) C (some ⟨g, 0, none⟩) c d := by
  obtain ⟨cur, hcur, _⟩ := own_bk2 h.rb
  have hb := own_put (i := j * 3 + 2) h.rb (.int .i64 x)
  rw [Nat.mul_comm j 3, triC_set hj] at hb
  rw [Nat.mul_comm j 3]
  exact ⟨h.g.far (p := ⟨g, 3 * j + 2, none⟩) (Bk.ne_ h.g hcur (by decide)) _, h.r.far (p := ⟨g, 3 * j + 2, none⟩) (Bk.ne_ h.r hcur (by decide)) _, by rw [List.length_set]; exact h.o.far (p := ⟨g, 3 * j + 2, none⟩) (Bk.ne_ h.o hcur (by decide)) _,
    own_set (i := 3 * j + 2) h.ra (hcur.ne_own h.ra (by decide)) _, by rw [List.length_set]; exact hb, h.bl.setCell (p := ⟨g, 3 * j + 2, none⟩) (h.rb.lt g rfl).1 _⟩
theorem ChR.setD {S : Nat} {w W W2 : World} {A B : Option Addr} {a b n m g k : Nat} {ws : List Int} {ns ms : List (Int × Int × Int)} {C E : Option Addr} {c d e : Nat} (h : ChR S w W A B a b n m ws ns C (some ⟨g, 0, none⟩) c d) (hz : S ≤ W.heap.size) (hg : W.grownBy W2 (Value.slice (some ⟨g, 0, none⟩) k d).ownBlock)
    (ho : W2.ownsRow S 52 3 (.slice E ms.length e) ms.length (triC ms)) : ChR S w (W2.setCell ⟨S + 1 + 1, 1, none⟩ (.slice E ms.length e)) A B a b n m ws ms C E c e := by
  have hg : W.grownBy W2 (some g) := hg
  have e1 := h.o.grown hg (h.o.ne_own h.rb (by decide))
  have e2 := own_grown h.ra hg (own_ne h.ra h.rb (by decide))
  exact ⟨(h.g.grown hg (h.g.ne_own h.rb (by decide))).far (p := ⟨S + 1 + 1, 1, none⟩) (by show S ≠ S + 1 + 1; omega) _, (h.r.grown hg (h.r.ne_own h.rb (by decide))).far (p := ⟨S + 1 + 1, 1, none⟩) (by show S + 1 ≠ S + 1 + 1; omega) _,
    e1.set_ 1 (.slice E ms.length e), own_set (i := 1) e2 (e1.ne_own e2 (by decide)) _, own_set (i := 1) ho (e1.ne_own ho (by decide)) _, (h.bl.grown hg hz (fun q hq => (h.rb.lt q hq).1)).setCell (p := ⟨S + 1 + 1, 1, none⟩) (by show S ≤ S + 1 + 1; omega) _⟩

set_option linter.unusedSimpArgs false in
set_option maxHeartbeats 8000000 in
set_option maxRecDepth 100000 in
theorem changed_any (A B : Option Addr) (a b : Nat) (q1 q2 q3 : Int) (ws : List Int) (ns : List (Int × Int × Int)) (w : World) (hA : SI w A ws) (hB : ST w B ns) (hv : GV ws ns) (hl : ws.length + 1 ≤ 4096) (hb : ns.length ≤ b) (h1 : i64 q1) (h2 : i64 q2) (h3 : i64 q3) :
    Calls Try.prog 12 #[.agg #[.slice A ws.length a, .slice B ns.length b], .int .i64 q1, .int .i64 q2, .int .i64 q3] w fun e w' => ∃ ws' ns' A' a' B' b', e = .returned (.agg #[.slice A' ws'.length a', .slice B' ns'.length b']) ∧ GV ws' ns' ∧ (ws.length ≤ ws'.length ∧ ws'.length ≤ ws.length + 1) ∧
      w'.ownsRow w.heap.size 3 1 (.slice A' ws'.length a') ws'.length (ws'.map (Value.int .i64)) ∧ w'.ownsRow w.heap.size 52 3 (.slice B' ns'.length b') ns'.length (triC ns') ∧ Below w.heap.size w w' := by
  obtain ⟨S, hSz⟩ : ∃ S, w.heap.size = S := ⟨_, rfl⟩
  have HA := Lib.hid (fun (W : World) (hW : Below S w W) => (hA.below (hSz.symm ▸ hW) : SI W A ws))
  have HB := Lib.hid (fun (W : World) (hW : Below S w W) => (hB.below (hSz.symm ▸ hW) : ST W B ns))
  have Hbz := Lib.hid (fun (W : World) (hW : Below S w W) => (show S ≤ W.heap.size by have := hW.size; omega))
  have Hv := Lib.hid hv
  have Hq := Lib.hid (show i64 q1 ∧ i64 q2 ∧ i64 q3 from ⟨h1, h2, h3⟩)
  have n2 := hv.n2
  clear hA hB hv h1 h2 h3
  go_enter Try.func12, Try.ntmps12
  go_upto_region 2 with fail
  have hb0 : Below S w (((w.alloc (.cells #[.slice A ws.length a, .slice B ns.length b] 30)).alloc (.cells #[.slice none 0 0, .slice none 0 0] 30)).alloc (.cells #[.slice none 0 0, .slice none 0 0] 30)) := hSz ▸ (((Below.refl _ _).alloc (Nat.le_refl _) _).alloc (by simp) _).alloc (by simp; omega) _
  have hbG : Bk (((w.alloc (.cells #[.slice A ws.length a, .slice B ns.length b] 30)).alloc (.cells #[.slice none 0 0, .slice none 0 0] 30)).alloc (.cells #[.slice none 0 0, .slice none 0 0] 30)) S 30 #[.slice A ws.length a, .slice B ns.length b] := ((Bk.new' _ _ _ hSz).alloc _).alloc _
  have hbR : Bk (((w.alloc (.cells #[.slice A ws.length a, .slice B ns.length b] 30)).alloc (.cells #[.slice none 0 0, .slice none 0 0] 30)).alloc (.cells #[.slice none 0 0, .slice none 0 0] 30)) (S + 1) 30 #[.slice none 0 0, .slice none 0 0] := (Bk.new' _ _ _ (by simp [hSz])).alloc _
  have hbO : Bk (((w.alloc (.cells #[.slice A ws.length a, .slice B ns.length b] 30)).alloc (.cells #[.slice none 0 0, .slice none 0 0] 30)).alloc (.cells #[.slice none 0 0, .slice none 0 0] 30)) (S + 1 + 1) 30 #[.slice none 0 0, .slice none 0 0] := Bk.new' _ _ _ (by simp [hSz])
  generalize ((w.alloc (.cells #[.slice A ws.length a, .slice B ns.length b] 30)).alloc (.cells #[.slice none 0 0, .slice none 0 0] 30)).alloc (.cells #[.slice none 0 0, .slice none 0 0] 30) = W0 at *
  have Hb0 := Lib.hid hb0
  have HG0 := Lib.hid hbG
  have HR0 := Lib.hid hbR
  have HO0 := Lib.hid hbO
  have HSz := Lib.hid hSz
  clear hb0 hbG hbR hbO hSz
  have g0 : W0.cell? ⟨S, 0, none⟩ = some (.slice A ws.length a) := HG0.out.cell 0
  have o0 : W0.cell? ⟨S + 1 + 1, 0, none⟩ = some (.slice none 0 0) := HO0.out.cell 0
  have hz0 := Hbz.out _ Hb0.out
  go_upto_region 3 with (at_builtin; refine wpList_appM (w := W0) rfl _ _ rfl elt_int (World.ownsRow_nil _ S _ _) hz0 rfl rfl (HA.out _ Hb0.out) (by simp) (ints_all ws) (by omega) ?_; intro v4 w4 hown4 hg4; rw [Nat.zero_add, List.nil_append] at hown4; obtain ⟨A4, a4, rfl⟩ := own_slice hown4; have Hg4 := Lib.hid hg4; have Ho4 := Lib.hid hown4; have hO4 := HO0.out.grown hg4 (by simp [Value.ownBlock]); have p0 := hO4.frozen 0; have p1 : w4.cell? ⟨S + 1 + 1, 0, none⟩ = some (.slice none 0 0) := hO4.cell 0; clear hown4 hg4 o0 g0)
  have HO4 := Lib.hid (hO4.set_ 0 (.slice A4 ws.length a4))
  have HG4 := Lib.hid ((HG0.out.grown Hg4.out (by simp [Value.ownBlock])).far (p := ⟨S + 1 + 1, 0, none⟩) (by show S ≠ S + 1 + 1; omega) (.slice A4 ws.length a4))
  have HR4 := Lib.hid ((HR0.out.grown Hg4.out (by simp [Value.ownBlock])).far (p := ⟨S + 1 + 1, 0, none⟩) (by show S + 1 ≠ S + 1 + 1; omega) (.slice A4 ws.length a4))
  have Hb4 := Lib.hid ((Hb0.out.grown Hg4.out hz0 (fun q hq => by simp [Value.ownBlock] at hq)).setCell (p := ⟨S + 1 + 1, 0, none⟩) (by show S ≤ S + 1 + 1; omega) (.slice A4 ws.length a4))
  have HoA := Lib.hid (own_set (i := 0) Ho4.out (hO4.ne_own Ho4.out (by decide)) (.slice A4 ws.length a4))
  clear hO4 p0 p1 Ho4 Hg4 hz0 HO0 HG0 HR0 Hb0
  generalize w4.setCell ⟨S + 1 + 1, 0, none⟩ (.slice A4 ws.length a4) = W1 at *
  have g0 : W1.cell? ⟨S, 1, none⟩ = some (.slice B ns.length b) := HG4.out.cell 1
  have o0 : W1.cell? ⟨S + 1 + 1, 1, none⟩ = some (.slice none 0 0) := HO4.out.cell 1
  have hz1 := Hbz.out _ Hb4.out
  go_upto_region 4 with (at_builtin; refine wpList_appM (w := W1) rfl _ _ rfl elt_tri (World.ownsRow_nil _ S _ _) hz1 rfl rfl (HB.out _ Hb4.out) (by rw [triC_len]) (triC_all ns) (by omega) ?_; intro v6 w6 hown6 hg6; rw [Nat.zero_add, List.nil_append] at hown6; obtain ⟨B4, b4, rfl⟩ := own_slice hown6; have Hg6 := Lib.hid hg6; have Ho6 := Lib.hid hown6; have hO6 := HO4.out.grown hg6 (by simp [Value.ownBlock]); have p0 := hO6.frozen 1; have p1 : w6.cell? ⟨S + 1 + 1, 1, none⟩ = some (.slice none 0 0) := hO6.cell 1; clear hown6 hg6 o0 g0)
  have HC := Lib.hid (⟨(HG4.out.grown Hg6.out (by simp [Value.ownBlock])).far (p := ⟨S + 1 + 1, 1, none⟩) (by show S ≠ S + 1 + 1; omega) (.slice B4 ns.length b4),
    (HR4.out.grown Hg6.out (by simp [Value.ownBlock])).far (p := ⟨S + 1 + 1, 1, none⟩) (by show S + 1 ≠ S + 1 + 1; omega) (.slice B4 ns.length b4),
    hO6.set_ 1 (.slice B4 ns.length b4),
    own_set (i := 1) (own_grown HoA.out Hg6.out (Classical.em _)) (hO6.ne_own (own_grown HoA.out Hg6.out (Classical.em _)) (by decide)) (.slice B4 ns.length b4),
    own_set (i := 1) Ho6.out (hO6.ne_own Ho6.out (by decide)) (.slice B4 ns.length b4),
    (Hb4.out.grown Hg6.out hz1 (fun q hq => by simp [Value.ownBlock] at hq)).setCell (p := ⟨S + 1 + 1, 1, none⟩) (by show S ≤ S + 1 + 1; omega) (.slice B4 ns.length b4)⟩ : ChR S w (w6.setCell ⟨S + 1 + 1, 1, none⟩ (.slice B4 ns.length b4)) A B a b ws.length ns.length ws ns A4 B4 a4 b4)
  clear hO6 p0 p1 Ho6 Hg6 hz1 HO4 HG4 HR4 Hb4 HoA
  generalize w6.setCell ⟨S + 1 + 1, 1, none⟩ (.slice B4 ns.length b4) = W1 at *
  by_cases hs : ws.length < 2
  · skip
    have o0 : W1.cell? ⟨S + 1 + 1, 0, none⟩ = some (.slice A4 ws.length a4) := HC.out.o.cell 0
    have o1 : W1.cell? ⟨S + 1 + 1, 1, none⟩ = some (.slice B4 ns.length b4) := HC.out.o.cell 1
    have r0 : W1.cell? ⟨S + 1, 0, none⟩ = some (.slice none 0 0) := HC.out.r.cell 0
    have r1 : W1.cell? ⟨S + 1, 1, none⟩ = some (.slice none 0 0) := HC.out.r.cell 1
    have r2 := HC.out.r.frozen 0
    have r3 := HC.out.r.frozen 1
    have z0 := ((HC.out.r.set_ 0 (.slice A4 ws.length a4)).set_ 1 (.slice B4 ns.length b4)).cell 0
    have z1 := ((HC.out.r.set_ 0 (.slice A4 ws.length a4)).set_ 1 (.slice B4 ns.length b4)).cell 1
    obtain ⟨e1, e2, e3⟩ := HC.out.res (U := .slice A4 ws.length a4) (V := .slice B4 ns.length b4)
    have E1 := Lib.hid e1
    have E2 := Lib.hid e2
    have E3 := Lib.hid e3
    clear e1 e2 e3
    go_wp2_with fail
    refine bodyPost_ret (v := .agg #[.slice A4 ws.length a4, .slice B4 ns.length b4]) (by simp [results, Try.results12, go_sem, z0, z1]) rfl ⟨ws, ns, _, _, _, _, rfl, Hv.out, by omega, by rw [HSz.out]; exact E1.out, by rw [HSz.out]; exact E2.out, by rw [HSz.out]; exact E3.out⟩
  · obtain ⟨qa, hqa⟩ : ∃ z, Hid (around q1 ((ws.length : Int) - 1) = z) := ⟨_, Lib.hid rfl⟩
    obtain ⟨qb, hqb⟩ : ∃ z, Hid (around q2 4 = z) := ⟨_, Lib.hid rfl⟩
    obtain ⟨y12, hy⟩ : ∃ z, Hid (around q3 12 = z) := ⟨_, Lib.hid rfl⟩
    have Ka := Lib.hid (fun W => hqa.out ▸ around_any q1 ((ws.length : Int) - 1) W Hq.out.1.1 Hq.out.1.2 (by omega) (by omega))
    have Kb := Lib.hid (fun W => hqb.out ▸ around_any q2 4 W Hq.out.2.1.1 Hq.out.2.1.2 (by omega) (by omega))
    have Ky := Lib.hid (fun W => hy.out ▸ around_any q3 12 W Hq.out.2.2.1 Hq.out.2.2.2 (by omega) (by omega))
    obtain ⟨a1, a2⟩ := hqa.out ▸ around_bd q1 ((ws.length : Int) - 1) (by omega)
    obtain ⟨b1, b2⟩ := hqb.out ▸ around_bd q2 4 (by omega)
    obtain ⟨y1, y2⟩ := hy.out ▸ around_bd q3 12 (by omega)
    clear hqa hqb hy
    obtain ⟨q, rfl⟩ := Int.eq_ofNat_of_zero_le a1
    obtain ⟨f, hf⟩ : ∃ f : Nat, Hid (1 + q = f) := ⟨_, Lib.hid rfl⟩
    have hfc : (1 + (q : Int)) = (f : Int) := by rw [← hf.out]; omega
    have hf1 : 1 ≤ f := by omega
    have hf2 : f < ws.length := by omega
    have hw1 : IntKind.i64.wrap ((ws.length : Int) - 1) = (ws.length : Int) - 1 := IntWalk.i64_in _ (by omega)
    have hw2 : IntKind.i64.wrap (1 + (q : Int)) = (f : Int) := by rw [hfc]; exact IntWalk.i64_in _ (by omega)
    clear hfc hf
    obtain ⟨gA, cA, hvA, hgA, _⟩ := HC.out.ra.form (by omega)
    injection hvA with e1 _ e3
    subst e1 e3
    obtain ⟨curA, hcA, -⟩ := own_bk2 HC.out.ra
    have HP := Lib.hid (fun (W : World) (hW : Below W1.heap.size W1 W) => put_any A B a b f y12 ws ns W (HA.out _ (HC.out.bl.trans (hW.mono (Hbz.out _ HC.out.bl)))) (HB.out _ (HC.out.bl.trans (hW.mono (Hbz.out _ HC.out.bl)))) hf1 hf2 (by omega) n2 (fun t ht => by have := Hv.out.t t ht; omega))
    have hcase : qb = 0 ∨ qb = 1 ∨ qb = 2 ∨ qb = 3 := by omega
    clear a1 a2 b1 b2
    have o0 : W1.cell? ⟨S + 1 + 1, 0, none⟩ = some (.slice (some ⟨gA, 0, none⟩) ws.length a4) := HC.out.o.cell 0
    go_wp2_with fail
    refine (Ka.out _).mono ?_
    rintro e wz ⟨rfl, rfl⟩
    clear Ka hw1
    go_wp2_with fail
    refine (Kb.out _).mono ?_
    rintro e wz ⟨rfl, rfl⟩
    clear Kb hw2
    have HCd := Lib.hid (show ChR S w W1.drew A B a b ws.length ns.length ws ns (some ⟨gA, 0, none⟩) B4 a4 b4 from ⟨HC.out.g, HC.out.r, HC.out.o, HC.out.ra, HC.out.rb, HC.out.bl.drew⟩)
    rcases hcase with rfl | rfl | rfl | rfl
    · obtain ⟨xA, oA', xv, he, hcx, hxv⟩ := (own_si HCd.out.ra).get (k := f) hf2
      injection he with he
      injection he with he1 he2
      subst he1 he2
      rw [Nat.zero_add] at hcx
      have hfx := (show Bk W1.drew gA _ _ from hcA).frozen f
      have HS0 := Lib.hid (show W1.drew.cell? ⟨S + 1 + 1, 0, none⟩ = some (.slice (some ⟨gA, 0, none⟩) ws.length a4) from HCd.out.o.cell 0)
      go_wp2_with fail
      refine wp_region_noPanic ?_
      refine region_T (s := 6) (S := fun W => W.cell? ⟨S + 1 + 1, 0, none⟩ = some (.slice (some ⟨gA, 0, none⟩) ws.length a4)) (by kernel_rfl) ?_
      change wpT _ _ _ _ _ 7 _ _ W1.drew
      refine T_take (k := 0) (v := .pointer (some ⟨S + 1 + 1, 0, none⟩)) rfl (by decide +kernel) (fun _ _ _ h => h) (Or.inl ⟨by rfl, fun W hW => by have s0 := hW; go_simp⟩) HS0.out ?_
      try simp only [Act.put, List.setIfInBounds_toArray, List.set_cons_zero, List.set_cons_succ]
      refine T_take (k := 1) (v := .slice (some ⟨gA, 0, none⟩) ws.length a4) rfl (by decide +kernel) (fun _ _ _ h => h) (Or.inl ⟨by rfl, fun W hW => by have s0 := hW; go_simp⟩) HS0.out ?_
      try simp only [Act.put, List.setIfInBounds_toArray, List.set_cons_zero, List.set_cons_succ]
      refine T_take (k := 2) (v := .int .i64 f) rfl (by decide +kernel) (fun _ _ _ h => h) (Or.inl ⟨by rfl, fun W hW => by have s0 := hW; go_simp⟩) HS0.out ?_
      try simp only [Act.put, List.setIfInBounds_toArray, List.set_cons_zero, List.set_cons_succ]
      refine T_take (k := 3) (v := .int .i64 q3) rfl (by decide +kernel) (fun _ _ _ h => h) (Or.inl ⟨by rfl, fun W hW => by have s0 := hW; go_simp⟩) HS0.out ?_
      try simp only [Act.put, List.setIfInBounds_toArray, List.set_cons_zero, List.set_cons_succ]
      refine T_one (i := 4) (by decide +kernel) rfl rfl (fun K hK4 => ?_)
      have hK4 := Lib.hid hK4
      go_simp
      go_at_call 20
      refine (Ky.out _).mono ?_
      rintro e w8 ⟨rfl, rfl⟩
      refine hK4.out _ _ HS0.out ?_
      try simp only [Act.put, List.setIfInBounds_toArray, List.set_cons_zero, List.set_cons_succ]
      refine T_take (k := 5) (v := .pointer (some ⟨gA, f, none⟩)) rfl (by decide +kernel) (fun _ _ _ h => h) (Or.inl ⟨by rfl, fun W hW => by have s0 := hW; go_simp⟩) HS0.out ?_
      try simp only [Act.put, List.setIfInBounds_toArray, List.set_cons_zero, List.set_cons_succ]
      refine T_last (by decide +kernel) (by decide +kernel) (by decide +kernel) rfl rfl (fun K hKl => ?_)
      have hKl := Lib.hid hKl
      go_simp
      refine hKl.out _ _ (NoPanic.normal ?_)
      try simp only [Act.put, List.setIfInBounds_toArray, List.set_cons_zero, List.set_cons_succ]
      have HC5 := Lib.hid (show ChR S w ((W1.setCell ⟨gA, f, none⟩ (.int .i64 y12)).drew) A B a b ws.length ns.length (ws.set f y12) ns (some ⟨gA, 0, none⟩) B4 a4 b4 from (HCd.out.setW f y12))
      have hlw : (ws.set f y12).length = ws.length := by rw [List.length_set]
      have HV5 := Lib.hid (Hv.out.setW (x := y12) (by omega) f)
      have hl5 : ws.length ≤ (ws.set f y12).length ∧ (ws.set f y12).length ≤ ws.length + 1 := by omega
      clear hK4 hKl HS0 HC HCd o0 HP Ky hlw
      generalize (W1.setCell ⟨gA, f, none⟩ (.int .i64 y12)).drew = W5 at *
      generalize ws.set f y12 = ws2 at *
      have o0 : W5.cell? ⟨S + 1 + 1, 0, none⟩ = some (.slice (some ⟨gA, 0, none⟩) ws2.length a4) := HC5.out.o.cell 0
      have o1 : W5.cell? ⟨S + 1 + 1, 1, none⟩ = some (.slice B4 ns.length b4) := HC5.out.o.cell 1
      have r0 : W5.cell? ⟨S + 1, 0, none⟩ = some (.slice none 0 0) := HC5.out.r.cell 0
      have r1 : W5.cell? ⟨S + 1, 1, none⟩ = some (.slice none 0 0) := HC5.out.r.cell 1
      have r2 := HC5.out.r.frozen 0
      have r3 := HC5.out.r.frozen 1
      have z0 := ((HC5.out.r.set_ 0 (.slice (some ⟨gA, 0, none⟩) ws2.length a4)).set_ 1 (.slice B4 ns.length b4)).cell 0
      have z1 := ((HC5.out.r.set_ 0 (.slice (some ⟨gA, 0, none⟩) ws2.length a4)).set_ 1 (.slice B4 ns.length b4)).cell 1
      obtain ⟨e1, e2, e3⟩ := HC5.out.res (U := .slice (some ⟨gA, 0, none⟩) ws2.length a4) (V := .slice B4 ns.length b4)
      have E1 := Lib.hid e1
      have E2 := Lib.hid e2
      have E3 := Lib.hid e3
      clear e1 e2 e3
      go_wp2_with fail
      refine bodyPost_ret (v := .agg #[.slice (some ⟨gA, 0, none⟩) ws2.length a4, .slice B4 ns.length b4]) (by simp [results, Try.results12, go_sem, z0, z1]) rfl ⟨ws2, ns, _, _, _, _, rfl, HV5.out, hl5, by rw [HSz.out]; exact E1.out, by rw [HSz.out]; exact E2.out, by rw [HSz.out]; exact E3.out⟩
    · by_cases hn0 : ns.length = 0
      · have hnz : ¬ (0 : Int) < (ns.length : Int) := by omega
        clear hn0
        have o0 : W1.cell? ⟨S + 1 + 1, 0, none⟩ = some (.slice (some ⟨gA, 0, none⟩) ws.length a4) := HC.out.o.cell 0
        have o1 : W1.cell? ⟨S + 1 + 1, 1, none⟩ = some (.slice B4 ns.length b4) := HC.out.o.cell 1
        have r0 : W1.cell? ⟨S + 1, 0, none⟩ = some (.slice none 0 0) := HC.out.r.cell 0
        have r1 : W1.cell? ⟨S + 1, 1, none⟩ = some (.slice none 0 0) := HC.out.r.cell 1
        have r2 := HC.out.r.frozen 0
        have r3 := HC.out.r.frozen 1
        have z0 := ((HC.out.r.set_ 0 (.slice (some ⟨gA, 0, none⟩) ws.length a4)).set_ 1 (.slice B4 ns.length b4)).cell 0
        have z1 := ((HC.out.r.set_ 0 (.slice (some ⟨gA, 0, none⟩) ws.length a4)).set_ 1 (.slice B4 ns.length b4)).cell 1
        obtain ⟨e1, e2, e3⟩ := HC.out.res (U := .slice (some ⟨gA, 0, none⟩) ws.length a4) (V := .slice B4 ns.length b4)
        have E1 := Lib.hid e1
        have E2 := Lib.hid e2
        have E3 := Lib.hid e3
        clear e1 e2 e3
        go_wp2_with fail
        refine bodyPost_ret (v := .agg #[.slice (some ⟨gA, 0, none⟩) ws.length a4, .slice B4 ns.length b4]) (by simp [results, Try.results12, go_sem, z0, z1]) rfl ⟨ws, ns, _, _, _, _, rfl, Hv.out, by omega, by rw [HSz.out]; exact E1.out, by rw [HSz.out]; exact E2.out, by rw [HSz.out]; exact E3.out⟩
      · obtain ⟨gB, cB, hvB, hgB, _⟩ := HC.out.rb.form (by omega)
        injection hvB with e1 _ e3
        subst e1 e3
        obtain ⟨jj, hjj⟩ : ∃ z, Hid (around q1 (ns.length : Int) = z) := ⟨_, Lib.hid rfl⟩
        obtain ⟨y6, hy6⟩ : ∃ z, Hid (around q3 6 = z) := ⟨_, Lib.hid rfl⟩
        have Kj := Lib.hid (fun W => hjj.out ▸ around_any q1 (ns.length : Int) W Hq.out.1.1 Hq.out.1.2 (by omega) (by omega))
        have K6 := Lib.hid (fun W => hy6.out ▸ around_any q3 6 W Hq.out.2.2.1 Hq.out.2.2.2 (by omega) (by omega))
        obtain ⟨j1, j2⟩ := hjj.out ▸ around_bd q1 (ns.length : Int) (by omega)
        obtain ⟨z1, z2⟩ := hy6.out ▸ around_bd q3 6 (by omega)
        clear hjj hy6
        obtain ⟨j, rfl⟩ := Int.eq_ofNat_of_zero_le j1
        have hjl : j < ns.length := by omega
        obtain ⟨n0, n1, n2', hj⟩ : ∃ x y z, Hid (ns[j]? = some (x, y, z)) := ⟨_, _, _, Lib.hid (List.getElem?_eq_getElem hjl)⟩
        have hw3 : IntKind.i64.wrap (1 + y6) = 1 + y6 := IntWalk.i64_in _ (by omega)
        have HCd := Lib.hid (show ChR S w W1.drew A B a b ws.length ns.length ws ns (some ⟨gA, 0, none⟩) (some ⟨gB, 0, none⟩) a4 b4 from HCd.out)
        have hst : ST W1.drew (some ⟨gB, 0, none⟩) ns := SL.of_own HCd.out.rb
        obtain ⟨xB, oB', v1, v2, v3, he, hc0, _, hcx, _⟩ := hst.get (k := j) hjl
        injection he with he
        injection he with he1 he2
        subst he1 he2
        rw [Nat.zero_add] at hc0 hcx
        obtain ⟨curB, hcB, -⟩ := own_bk2 HC.out.rb
        have hfx := (show Bk W1.drew gB _ _ from hcB).frozen (j * 3 + 2)
        have o1 : W1.cell? ⟨S + 1 + 1, 1, none⟩ = some (.slice (some ⟨gB, 0, none⟩) ns.length b4) := HC.out.o.cell 1
        have HS0 := Lib.hid (show W1.drew.cell? ⟨S + 1 + 1, 1, none⟩ = some (.slice (some ⟨gB, 0, none⟩) ns.length b4) from HCd.out.o.cell 1)
        have hnz : (0 : Int) < (ns.length : Int) := by omega
        clear hst hcB j1 j2
        go_wp2_with fail
        refine wp_region_noPanic ?_
        refine region_H (S := fun W => W.cell? ⟨S + 1 + 1, 1, none⟩ = some (.slice (some ⟨gB, 0, none⟩) ns.length b4)) (by kernel_rfl) ?_
        change wpH _ _ _ _ 13 _ _ W1.drew
        refine H_takeD (k := 0) (v := .pointer (some ⟨S + 1 + 1, 1, none⟩)) (d := some 58) rfl rfl (by decide +kernel) (fun _ _ _ h => h) (Or.inl ⟨by rfl, fun W hW => by have s0 := hW; go_simp⟩) HS0.out ?_
        try simp only [Act.put, List.setIfInBounds_toArray, List.set_cons_zero, List.set_cons_succ]
        refine H_takeD (k := 1) (v := .slice (some ⟨gB, 0, none⟩) ns.length b4) (d := some 59) rfl rfl (by decide +kernel) (fun _ _ _ h => h) (Or.inl ⟨by rfl, fun W hW => by have s0 := hW; go_simp⟩) HS0.out ?_
        try simp only [Act.put, List.setIfInBounds_toArray, List.set_cons_zero, List.set_cons_succ]
        refine H_takeD (k := 2) (v := .int .i64 q1) (d := some 60) rfl rfl (by decide +kernel) (fun _ _ _ h => h) (Or.inl ⟨by rfl, fun W hW => by have s0 := hW; go_simp⟩) HS0.out ?_
        try simp only [Act.put, List.setIfInBounds_toArray, List.set_cons_zero, List.set_cons_succ]
        refine H_takeD (k := 3) (v := .pointer (some ⟨S + 1 + 1, 1, none⟩)) (d := some 61) rfl rfl (by decide +kernel) (fun _ _ _ h => h) (Or.inl ⟨by rfl, fun W hW => by have s0 := hW; go_simp⟩) HS0.out ?_
        try simp only [Act.put, List.setIfInBounds_toArray, List.set_cons_zero, List.set_cons_succ]
        refine H_takeD (k := 4) (v := .slice (some ⟨gB, 0, none⟩) ns.length b4) (d := some 62) rfl rfl (by decide +kernel) (fun _ _ _ h => h) (Or.inl ⟨by rfl, fun W hW => by have s0 := hW; go_simp⟩) HS0.out ?_
        try simp only [Act.put, List.setIfInBounds_toArray, List.set_cons_zero, List.set_cons_succ]
        refine H_takeD (k := 5) (v := .int .i64 ns.length) (d := some 63) rfl rfl (by decide +kernel) (fun _ _ _ h => h) (Or.inl ⟨by rfl, fun W hW => by have s0 := hW; go_simp⟩) HS0.out ?_
        try simp only [Act.put, List.setIfInBounds_toArray, List.set_cons_zero, List.set_cons_succ]
        refine H_takeD (k := 7) (v := .int .i64 q3) (d := some 65) rfl rfl (by decide +kernel) (fun _ _ _ h => h) (Or.inl ⟨by rfl, fun W hW => by have s0 := hW; go_simp⟩) HS0.out ?_
        try simp only [Act.put, List.setIfInBounds_toArray, List.set_cons_zero, List.set_cons_succ]
        refine H_one (i := 6) (by decide +kernel) (H_step rfl rfl (fun K hK7 => ?_))
        have hK7 := Lib.hid hK7
        go_simp
        go_at_call 20
        refine (Kj.out _).mono ?_
        rintro e w8 ⟨rfl, rfl⟩
        refine hK7.out _ _ HS0.out ?_
        try simp only [Act.put, List.setIfInBounds_toArray, List.set_cons_zero, List.set_cons_succ]
        refine H_takeD (k := 10) (v := .pointer (some ⟨gB, j * 3, none⟩)) (d := some 68) rfl rfl (by decide +kernel) (fun _ _ _ h => h) (Or.inl ⟨by rfl, fun W hW => by have s0 := hW; go_simp⟩) HS0.out ?_
        try simp only [Act.put, List.setIfInBounds_toArray, List.set_cons_zero, List.set_cons_succ]
        refine H_one (i := 8) (by decide +kernel) (H_step rfl rfl (fun K hK9 => ?_))
        have hK9 := Lib.hid hK9
        go_simp
        go_at_call 20
        refine (K6.out _).mono ?_
        rintro e w8 ⟨rfl, rfl⟩
        refine hK9.out _ _ HS0.out ?_
        try simp only [Act.put, List.setIfInBounds_toArray, List.set_cons_zero, List.set_cons_succ]
        refine H_takeD (k := 9) (v := .int .i64 (1 + y6)) (d := some 67) rfl rfl (by decide +kernel) (fun _ _ _ h => h) (Or.inl ⟨by rfl, fun W hW => by have s0 := hW; go_simp⟩) HS0.out ?_
        try simp only [Act.put, List.setIfInBounds_toArray, List.set_cons_zero, List.set_cons_succ]
        refine H_takeD (k := 11) (v := .pointer (some ⟨gB, j * 3 + 2, none⟩)) (d := some 69) rfl rfl (by decide +kernel) (fun _ _ _ h => h) (Or.inl ⟨by rfl, fun W hW => by have s0 := hW; go_simp⟩) HS0.out ?_
        try simp only [Act.put, List.setIfInBounds_toArray, List.set_cons_zero, List.set_cons_succ]
        refine H_one (i := 12) (by decide +kernel) (H_step rfl rfl (fun K hK12 => ?_))
        have hK12 := Lib.hid hK12
        go_simp
        have HV5 := Lib.hid (Hv.out.setN hj.out (x := 1 + y6) (by omega))
        have HC5 := Lib.hid (show ChR S w ((W1.setCell ⟨gB, j * 3 + 2, none⟩ (.int .i64 (1 + y6))).drew) A B a b ws.length ns.length ws (ns.set j (n0, n1, 1 + y6)) (some ⟨gA, 0, none⟩) (some ⟨gB, 0, none⟩) a4 b4 from (HCd.out.setN hj.out (1 + y6)))
        have HS1 := Lib.hid (show ((W1.setCell ⟨gB, j * 3 + 2, none⟩ (.int .i64 (1 + y6))).drew).cell? ⟨S + 1 + 1, 1, none⟩ = some (.slice (some ⟨gB, 0, none⟩) ns.length b4) from by have := HC5.out.o.cell 1; rwa [List.length_set] at this)
        refine hK12.out _ _ HS1.out ?_
        try simp only [Act.put, List.setIfInBounds_toArray, List.set_cons_zero, List.set_cons_succ]
        refine H_end (by decide +kernel) (NoPanic.normal ?_)
        try simp only [Act.put, List.setIfInBounds_toArray, List.set_cons_zero, List.set_cons_succ]
        clear HS0 HS1 HC HCd o0 o1 HP Ky
        generalize (W1.setCell ⟨gB, j * 3 + 2, none⟩ (.int .i64 (1 + y6))).drew = W5 at *
        generalize ns.set j (n0, n1, 1 + y6) = ns2 at *
        have o0 : W5.cell? ⟨S + 1 + 1, 0, none⟩ = some (.slice (some ⟨gA, 0, none⟩) ws.length a4) := HC5.out.o.cell 0
        have o1 : W5.cell? ⟨S + 1 + 1, 1, none⟩ = some (.slice (some ⟨gB, 0, none⟩) ns2.length b4) := HC5.out.o.cell 1
        have r0 : W5.cell? ⟨S + 1, 0, none⟩ = some (.slice none 0 0) := HC5.out.r.cell 0
        have r1 : W5.cell? ⟨S + 1, 1, none⟩ = some (.slice none 0 0) := HC5.out.r.cell 1
        have r2 := HC5.out.r.frozen 0
        have r3 := HC5.out.r.frozen 1
        have z0 := ((HC5.out.r.set_ 0 (.slice (some ⟨gA, 0, none⟩) ws.length a4)).set_ 1 (.slice (some ⟨gB, 0, none⟩) ns2.length b4)).cell 0
        have z1 := ((HC5.out.r.set_ 0 (.slice (some ⟨gA, 0, none⟩) ws.length a4)).set_ 1 (.slice (some ⟨gB, 0, none⟩) ns2.length b4)).cell 1
        obtain ⟨e1, e2, e3⟩ := HC5.out.res (U := .slice (some ⟨gA, 0, none⟩) ws.length a4) (V := .slice (some ⟨gB, 0, none⟩) ns2.length b4)
        have E1 := Lib.hid e1
        have E2 := Lib.hid e2
        have E3 := Lib.hid e3
        clear e1 e2 e3
        go_wp2_with fail
        refine bodyPost_ret (v := .agg #[.slice (some ⟨gA, 0, none⟩) ws.length a4, .slice (some ⟨gB, 0, none⟩) ns2.length b4]) (by simp [results, Try.results12, go_sem, z0, z1]) rfl ⟨ws, ns2, _, _, _, _, rfl, HV5.out, by omega, by rw [HSz.out]; exact E1.out, by rw [HSz.out]; exact E2.out, by rw [HSz.out]; exact E3.out⟩
    · by_cases hn0 : ns.length = 0
      · have hnz : ¬ (0 : Int) < (ns.length : Int) := by omega
        clear hn0
        have o0 : W1.cell? ⟨S + 1 + 1, 0, none⟩ = some (.slice (some ⟨gA, 0, none⟩) ws.length a4) := HC.out.o.cell 0
        have o1 : W1.cell? ⟨S + 1 + 1, 1, none⟩ = some (.slice B4 ns.length b4) := HC.out.o.cell 1
        have r0 : W1.cell? ⟨S + 1, 0, none⟩ = some (.slice none 0 0) := HC.out.r.cell 0
        have r1 : W1.cell? ⟨S + 1, 1, none⟩ = some (.slice none 0 0) := HC.out.r.cell 1
        have r2 := HC.out.r.frozen 0
        have r3 := HC.out.r.frozen 1
        have z0 := ((HC.out.r.set_ 0 (.slice (some ⟨gA, 0, none⟩) ws.length a4)).set_ 1 (.slice B4 ns.length b4)).cell 0
        have z1 := ((HC.out.r.set_ 0 (.slice (some ⟨gA, 0, none⟩) ws.length a4)).set_ 1 (.slice B4 ns.length b4)).cell 1
        obtain ⟨e1, e2, e3⟩ := HC.out.res (U := .slice (some ⟨gA, 0, none⟩) ws.length a4) (V := .slice B4 ns.length b4)
        have E1 := Lib.hid e1
        have E2 := Lib.hid e2
        have E3 := Lib.hid e3
        clear e1 e2 e3
        go_wp2_with fail
        refine bodyPost_ret (v := .agg #[.slice (some ⟨gA, 0, none⟩) ws.length a4, .slice B4 ns.length b4]) (by simp [results, Try.results12, go_sem, z0, z1]) rfl ⟨ws, ns, _, _, _, _, rfl, Hv.out, by omega, by rw [HSz.out]; exact E1.out, by rw [HSz.out]; exact E2.out, by rw [HSz.out]; exact E3.out⟩
      · obtain ⟨gB, cB, hvB, hgB, _⟩ := HC.out.rb.form (by omega)
        injection hvB with e1 _ e3
        subst e1 e3
        have hcap := own_cap2 HC.out.rb
        obtain ⟨jj, hjj⟩ : ∃ z, Hid (around q1 (ns.length : Int) = z) := ⟨_, Lib.hid rfl⟩
        have Kj := Lib.hid (fun W => hjj.out ▸ around_any q1 (ns.length : Int) W Hq.out.1.1 Hq.out.1.2 (by omega) (by omega))
        obtain ⟨k1, k2⟩ := hjj.out ▸ around_bd q1 (ns.length : Int) (by omega)
        clear hjj
        obtain ⟨j, rfl⟩ := Int.eq_ofNat_of_zero_le k1
        have hjl : j < ns.length := by omega
        have j0 : (0 : Int) ≤ (j : Int) := by omega
        obtain ⟨j1, hj1⟩ : ∃ z, Hid (j + 1 = z) := ⟨_, Lib.hid rfl⟩
        have hj2 : j1 ≤ ns.length := by have := hj1.out; omega
        have hj3 : j1 ≤ b := by omega
        have hj4 : j ≤ b4 := by omega
        have hw3 : IntKind.i64.wrap ((j : Int) + 1) = (j1 : Int) := by have := hj1.out; rw [IntWalk.i64_in _ (by omega)]; omega
        obtain ⟨bB, oB, _, _, _, rfl, _⟩ := (HB.out _ HC.out.bl).get (k := j) hjl
        have HCd := Lib.hid (show ChR S w W1.drew A (some ⟨bB, oB, none⟩) a b ws.length ns.length ws ns (some ⟨gA, 0, none⟩) (some ⟨gB, 0, none⟩) a4 b4 from HCd.out)
        obtain ⟨kk, hkk⟩ : ∃ kk, Hid ((if b = j1 then some (⟨bB, oB, none⟩ : Addr) else some ⟨bB, oB + j1 * 3, none⟩) = some ⟨bB, oB + kk, none⟩ ∧ (b ≠ j1 → kk = j1 * 3)) := by
          by_cases hbj : b = j1
          · exact ⟨0, Lib.hid ⟨by rw [if_pos hbj]; rfl, fun h => absurd hbj h⟩⟩
          · exact ⟨j1 * 3, Lib.hid ⟨by rw [if_neg hbj], fun _ => rfl⟩⟩
        have HBd : Hid (ST W1.drew (some ⟨bB, oB + kk, none⟩) (ns.drop j1)) := by
          have h1 := st_dropT (HB.out _ HCd.out.bl) j1
          by_cases hbj : b = j1
          · rw [List.drop_eq_nil_of_le (by omega)]
            exact Lib.hid (fun i u hu => by simp [triC] at hu)
          · rw [hkk.out.2 hbj]
            exact Lib.hid h1
        have hml := Lib.hid (show (ns.take j ++ ns.drop j1).length = j + (ns.length - j1) from by rw [List.length_append, List.length_take, List.length_drop]; omega)
        have hzd := Hbz.out _ HCd.out.bl
        have o1 : W1.cell? ⟨S + 1 + 1, 1, none⟩ = some (.slice (some ⟨gB, 0, none⟩) ns.length b4) := HC.out.o.cell 1
        have HS0 := Lib.hid (show W1.drew.cell? ⟨S + 1 + 1, 1, none⟩ = some (.slice (some ⟨gB, 0, none⟩) ns.length b4) ∧ W1.drew.cell? ⟨S, 1, none⟩ = some (.slice (some ⟨bB, oB, none⟩) ns.length b) from ⟨HCd.out.o.cell 1, HCd.out.g.cell 1⟩)
        have hnz : (0 : Int) < (ns.length : Int) := by omega
        clear k1 k2
        go_wp2_with fail
        refine (Kj.out _).mono ?_
        rintro e wz ⟨rfl, rfl⟩
        clear Kj
        go_wp2_with fail
        refine wp_region_noPanic ?_
        refine region_T (s := 11) (S := fun W => W.cell? ⟨S + 1 + 1, 1, none⟩ = some (.slice (some ⟨gB, 0, none⟩) ns.length b4) ∧ W.cell? ⟨S, 1, none⟩ = some (.slice (some ⟨bB, oB, none⟩) ns.length b)) (by kernel_rfl) ?_
        change wpT _ _ _ _ _ 12 _ _ W1.drew
        refine T_take (k := 0) (v := .pointer (some ⟨S + 1 + 1, 1, none⟩)) rfl (by decide +kernel) (fun _ _ _ h => h) (Or.inl ⟨by rfl, fun W hW => by obtain ⟨s0, s1⟩ := hW; go_simp⟩) HS0.out ?_
        try simp only [Act.put, List.setIfInBounds_toArray, List.set_cons_zero, List.set_cons_succ]
        refine T_take (k := 1) (v := .slice (some ⟨gB, 0, none⟩) ns.length b4) rfl (by decide +kernel) (fun _ _ _ h => h) (Or.inl ⟨by rfl, fun W hW => by obtain ⟨s0, s1⟩ := hW; go_simp⟩) HS0.out ?_
        try simp only [Act.put, List.setIfInBounds_toArray, List.set_cons_zero, List.set_cons_succ]
        refine T_take (k := 2) (v := .int .i64 j) rfl (by decide +kernel) (fun _ _ _ h => h) (Or.inl ⟨by rfl, fun W hW => by obtain ⟨s0, s1⟩ := hW; go_simp⟩) HS0.out ?_
        try simp only [Act.put, List.setIfInBounds_toArray, List.set_cons_zero, List.set_cons_succ]
        refine T_take (k := 3) (v := .slice (some ⟨gB, 0, none⟩) j b4) rfl (by decide +kernel) (fun _ _ _ h => h) (Or.inl ⟨by rfl, fun W hW => by obtain ⟨s0, s1⟩ := hW; go_simp⟩) HS0.out ?_
        try simp only [Act.put, List.setIfInBounds_toArray, List.set_cons_zero, List.set_cons_succ]
        refine T_take (k := 4) (v := .pointer (some ⟨S, 1, none⟩)) rfl (by decide +kernel) (fun _ _ _ h => h) (Or.inl ⟨by rfl, fun W hW => by obtain ⟨s0, s1⟩ := hW; go_simp⟩) HS0.out ?_
        try simp only [Act.put, List.setIfInBounds_toArray, List.set_cons_zero, List.set_cons_succ]
        refine T_take (k := 5) (v := .slice (some ⟨bB, oB, none⟩) ns.length b) rfl (by decide +kernel) (fun _ _ _ h => h) (Or.inl ⟨by rfl, fun W hW => by obtain ⟨s0, s1⟩ := hW; go_simp⟩) HS0.out ?_
        try simp only [Act.put, List.setIfInBounds_toArray, List.set_cons_zero, List.set_cons_succ]
        refine T_take (k := 6) (v := .int .i64 j) rfl (by decide +kernel) (fun _ _ _ h => h) (Or.inl ⟨by rfl, fun W hW => by obtain ⟨s0, s1⟩ := hW; go_simp⟩) HS0.out ?_
        try simp only [Act.put, List.setIfInBounds_toArray, List.set_cons_zero, List.set_cons_succ]
        refine T_take (k := 7) (v := .int .i64 j1) rfl (by decide +kernel) (fun _ _ _ h => h) (Or.inl ⟨by rfl, fun W hW => by obtain ⟨s0, s1⟩ := hW; go_simp⟩) HS0.out ?_
        try simp only [Act.put, List.setIfInBounds_toArray, List.set_cons_zero, List.set_cons_succ]
        refine T_take (k := 8) (v := .slice (some ⟨bB, oB + kk, none⟩) (ns.length - j1) (b - j1)) rfl (by decide +kernel) (fun _ _ _ h => h) (Or.inl ⟨by rfl, fun W hW => by obtain ⟨s0, s1⟩ := hW; go_simp; exact hkk.out.1⟩) HS0.out ?_
        try simp only [Act.put, List.setIfInBounds_toArray, List.set_cons_zero, List.set_cons_succ]
        refine T_one (i := 9) (by decide +kernel) rfl rfl (fun K hK9 => ?_)
        have hK9 := Lib.hid hK9
        refine app_wpM (m := ns.length - j1) (c := b - j1) (B := some ⟨bB, oB + kk, none⟩) (us := triC (ns.drop j1)) (.tmp 84) (.tmp 89) rfl elt_tri (own_take HCd.out.rb (Nat.le_of_lt hjl)) hzd (by simp [Act.eval]) (by simp [Act.eval]) HBd.out (by rw [triC_len, List.length_drop]) (triC_all _) (by omega) ?_
        intro v8 W8 hown8 hg8
        rw [triC_take, triC_app, ← hml.out] at hown8
        have HV5 := Lib.hid (Hv.out.del j)
        rw [hj1.out] at HV5
        obtain ⟨ns2, hns2⟩ : ∃ z, Hid (ns.take j ++ ns.drop j1 = z) := ⟨_, Lib.hid rfl⟩
        rw [hns2.out] at hown8 HV5
        obtain ⟨E8, e8, rfl⟩ := own_slice hown8
        have HC5 := Lib.hid (HCd.out.setD hzd hg8 hown8)
        have x1 : W8.cell? ⟨S + 1 + 1, 1, none⟩ = some (.slice (some ⟨gB, 0, none⟩) ns.length b4) := (HCd.out.o.grown (row := some gB) hg8 (HCd.out.o.ne_own HCd.out.rb (by decide))).cell 1
        have x2 := (HCd.out.o.grown (row := some gB) hg8 (HCd.out.o.ne_own HCd.out.rb (by decide))).frozen 1
        have HS1 := Lib.hid (show W8.cell? ⟨S + 1 + 1, 1, none⟩ = some (.slice (some ⟨gB, 0, none⟩) ns.length b4) ∧ W8.cell? ⟨S, 1, none⟩ = some (.slice (some ⟨bB, oB, none⟩) ns.length b) from ⟨x1, (HCd.out.g.grown (row := some gB) hg8 (HCd.out.g.ne_own HCd.out.rb (by decide))).cell 1⟩)
        refine hK9.out _ _ HS1.out ?_
        try simp only [Act.put, List.setIfInBounds_toArray, List.set_cons_zero, List.set_cons_succ]
        refine T_take (k := 10) (v := .pointer (some ⟨S + 1 + 1, 1, none⟩)) rfl (by decide +kernel) (fun _ _ _ h => h) (Or.inl ⟨by rfl, fun W hW => by obtain ⟨s0, s1⟩ := hW; go_simp⟩) HS1.out ?_
        try simp only [Act.put, List.setIfInBounds_toArray, List.set_cons_zero, List.set_cons_succ]
        refine T_last (by decide +kernel) (by decide +kernel) (by decide +kernel) rfl rfl (fun K hKl => ?_)
        have hKl := Lib.hid hKl
        go_simp
        refine hKl.out _ _ (NoPanic.normal ?_)
        try simp only [Act.put, List.setIfInBounds_toArray, List.set_cons_zero, List.set_cons_succ]
        clear hK9 hKl HS0 HS1 HC HCd o0 o1 x1 x2 HP Ky hg8 hown8 hml hns2
        generalize W8.setCell ⟨S + 1 + 1, 1, none⟩ (.slice E8 ns2.length e8) = W5 at *
        have o0 : W5.cell? ⟨S + 1 + 1, 0, none⟩ = some (.slice (some ⟨gA, 0, none⟩) ws.length a4) := HC5.out.o.cell 0
        have o1 : W5.cell? ⟨S + 1 + 1, 1, none⟩ = some (.slice E8 ns2.length e8) := HC5.out.o.cell 1
        have r0 : W5.cell? ⟨S + 1, 0, none⟩ = some (.slice none 0 0) := HC5.out.r.cell 0
        have r1 : W5.cell? ⟨S + 1, 1, none⟩ = some (.slice none 0 0) := HC5.out.r.cell 1
        have r2 := HC5.out.r.frozen 0
        have r3 := HC5.out.r.frozen 1
        have z0 := ((HC5.out.r.set_ 0 (.slice (some ⟨gA, 0, none⟩) ws.length a4)).set_ 1 (.slice E8 ns2.length e8)).cell 0
        have z1 := ((HC5.out.r.set_ 0 (.slice (some ⟨gA, 0, none⟩) ws.length a4)).set_ 1 (.slice E8 ns2.length e8)).cell 1
        obtain ⟨e1, e2, e3⟩ := HC5.out.res (U := .slice (some ⟨gA, 0, none⟩) ws.length a4) (V := .slice E8 ns2.length e8)
        have E1 := Lib.hid e1
        have E2 := Lib.hid e2
        have E3 := Lib.hid e3
        clear e1 e2 e3
        go_wp2_with fail
        refine bodyPost_ret (v := .agg #[.slice (some ⟨gA, 0, none⟩) ws.length a4, .slice E8 ns2.length e8]) (by simp [results, Try.results12, go_sem, z0, z1]) rfl ⟨ws, ns2, _, _, _, _, rfl, HV5.out, by omega, by rw [HSz.out]; exact E1.out, by rw [HSz.out]; exact E2.out, by rw [HSz.out]; exact E3.out⟩
    · have HS0 := Lib.hid (show W1.drew.cell? ⟨S, 0, none⟩ = some (.slice A ws.length a) ∧ W1.drew.cell? ⟨S, 1, none⟩ = some (.slice B ns.length b) from ⟨HCd.out.g.cell 0, HCd.out.g.cell 1⟩)
      have HBe := Lib.hid ((Below.refl W1.heap.size W1).drew)
      go_wp2_with fail
      refine wp_region_noPanic ?_
      refine region_T (s := 5) (S := fun W => W.cell? ⟨S, 0, none⟩ = some (.slice A ws.length a) ∧ W.cell? ⟨S, 1, none⟩ = some (.slice B ns.length b)) (by kernel_rfl) ?_
      change wpT _ _ _ _ _ 6 _ _ W1.drew
      refine T_take (k := 0) (v := .agg #[.slice A ws.length a, .slice B ns.length b]) rfl (by decide +kernel) (fun _ _ _ h => h) (Or.inl ⟨by rfl, fun W hW => by obtain ⟨s0, s1⟩ := hW; go_simp⟩) HS0.out ?_
      try simp only [Act.put, List.setIfInBounds_toArray, List.set_cons_zero, List.set_cons_succ]
      refine T_take (k := 1) (v := .int .i64 f) rfl (by decide +kernel) (fun _ _ _ h => h) (Or.inl ⟨by rfl, fun W hW => by obtain ⟨s0, s1⟩ := hW; go_simp⟩) HS0.out ?_
      try simp only [Act.put, List.setIfInBounds_toArray, List.set_cons_zero, List.set_cons_succ]
      refine T_take (k := 2) (v := .int .i64 q3) rfl (by decide +kernel) (fun _ _ _ h => h) (Or.inl ⟨by rfl, fun W hW => by obtain ⟨s0, s1⟩ := hW; go_simp⟩) HS0.out ?_
      try simp only [Act.put, List.setIfInBounds_toArray, List.set_cons_zero, List.set_cons_succ]
      refine T_one (i := 3) (by decide +kernel) rfl rfl (fun K hK3 => ?_)
      have hK3 := Lib.hid hK3
      go_simp
      go_at_call 20
      refine (Ky.out _).mono ?_
      rintro e w8 ⟨rfl, rfl⟩
      refine hK3.out _ _ HS0.out ?_
      try simp only [Act.put, List.setIfInBounds_toArray, List.set_cons_zero, List.set_cons_succ]
      refine T_one (i := 4) (by decide +kernel) rfl rfl (fun K hK4 => ?_)
      have hK4 := Lib.hid hK4
      go_simp
      go_at_call 23
      refine (HP.out _ HBe.out).mono ?_
      rintro e w8 ⟨A6, a6, B6, b6, rfl, ho6, hn6, hb8⟩
      have Ho6 := Lib.hid (own_mono ho6 (Hbz.out _ HCd.out.bl))
      have Hn6 := Lib.hid (own_mono hn6 (Hbz.out _ HCd.out.bl))
      have HB8 := Lib.hid (HCd.out.bl.trans (hb8.mono (Hbz.out _ HCd.out.bl)))
      have HR8 := Lib.hid (HCd.out.r.below hb8 HCd.out.r.lt)
      have r0 : w8.cell? ⟨S + 1, 0, none⟩ = some (.slice none 0 0) := HR8.out.cell 0
      have r1 : w8.cell? ⟨S + 1, 1, none⟩ = some (.slice none 0 0) := HR8.out.cell 1
      have r2 := HR8.out.frozen 0
      have r3 := HR8.out.frozen 1
      have HS1 := Lib.hid (show w8.cell? ⟨S, 0, none⟩ = some (.slice A ws.length a) ∧ w8.cell? ⟨S, 1, none⟩ = some (.slice B ns.length b) from ⟨(HCd.out.g.below hb8 HCd.out.g.lt).cell 0, (HCd.out.g.below hb8 HCd.out.g.lt).cell 1⟩)
      have hpl := Lib.hid (putW_len (ws := ws) (f := f) y12 (Nat.le_of_lt hf2))
      clear ho6 hn6 hb8
      refine hK4.out _ _ HS1.out ?_
      try simp only [Act.put, List.setIfInBounds_toArray, List.set_cons_zero, List.set_cons_succ]
      refine T_last (by decide +kernel) (by decide +kernel) (by decide +kernel) rfl rfl (fun K hKl => ?_)
      have hKl := Lib.hid hKl
      go_simp
      refine hKl.out _ _ (NoPanic.normal ?_)
      try simp only [Act.put, List.setIfInBounds_toArray, List.set_cons_zero, List.set_cons_succ]
      have z0 := ((HR8.out.set_ 0 (.slice A6 (putW ws f y12).length a6)).set_ 1 (.slice B6 (putN ns f).length b6)).cell 0
      have z1 := ((HR8.out.set_ 0 (.slice A6 (putW ws f y12).length a6)).set_ 1 (.slice B6 (putN ns f).length b6)).cell 1
      have E1 := Lib.hid (own_set (i := 1) (own_set (i := 0) Ho6.out (HR8.out.ne_own Ho6.out (by decide)) (.slice A6 (putW ws f y12).length a6)) (HR8.out.ne_own Ho6.out (by decide)) (.slice B6 (putN ns f).length b6))
      have E2 := Lib.hid (own_set (i := 1) (own_set (i := 0) Hn6.out (HR8.out.ne_own Hn6.out (by decide)) (.slice A6 (putW ws f y12).length a6)) (HR8.out.ne_own Hn6.out (by decide)) (.slice B6 (putN ns f).length b6))
      have E3 := Lib.hid ((HB8.out.setCell (p := ⟨S + 1, 0, none⟩) (by show S ≤ S + 1; omega) (.slice A6 (putW ws f y12).length a6)).setCell (p := ⟨S + 1, 1, none⟩) (by show S ≤ S + 1; omega) (.slice B6 (putN ns f).length b6))
      clear hKl HS0 HS1 HC HCd HP Ky
      go_wp2_with fail
      refine bodyPost_ret (v := .agg #[.slice A6 (putW ws f y12).length a6, .slice B6 (putN ns f).length b6]) (by simp [results, Try.results12, go_sem, z0, z1]) rfl ⟨_, _, _, _, _, _, rfl, Hv.out.put (Nat.le_of_lt hf2) hl (by omega), by have := hpl.out; omega, by rw [HSz.out]; exact E1.out, by rw [HSz.out]; exact E2.out, by rw [HSz.out]; exact E3.out⟩
end Go.Proofs.Ytmdgdphhedgojaa

namespace Go.Proofs.Ytmdgdphhedgojaa
open Go.RowKit Go.Maps

theorem RI.at2 {S q : Nat} {w0 W W' : World} {AO : Option Addr} {k c : Nat} {ds : List (List Int × List Int × List (Int × Int × Int))} {vs : List Value} {cs : Array Value} (h : RI S w0 W (.slice AO k c) k ds vs) (hq : Bk W q 59 cs) (hg : W.grownBy W' (some q)) {j : Nat} {d : List Int × List Int × List (Int × Int × Int)} (hj : j < k) (hd : ds[j]? = some d) :
    ∃ g A a B b, AO = some ⟨g, 0, none⟩ ∧ W'.cell? ⟨g, j * 2, none⟩ = some (.slice A d.2.1.length a) ∧ W'.cell? ⟨g, j * 2 + 1, none⟩ = some (.slice B d.2.2.length b) ∧ SI W' A d.2.1 ∧ ST W' B d.2.2 := by
  obtain ⟨A, a, B, b, e1, e2, o1, o2⟩ := h.el j d hj hd
  obtain ⟨g, c', hv, _, _⟩ := h.out.form (by omega)
  injection hv with hv _ _
  subst hv
  have hs := SL.of_own (own_grown h.out hg (.inr (Ne.symm (hq.ne_own h.out (by decide)))))
  obtain ⟨b1, q1, f1, _, c1⟩ := hs _ _ e1
  obtain ⟨b2, q2, f2, _, c2⟩ := hs _ _ e2
  injection f1 with f1
  injection f1 with f1 f1'
  injection f2 with f2
  injection f2 with f2 f2'
  subst f1 f1' f2 f2'
  rw [Nat.zero_add] at c1 c2
  exact ⟨g, A, a, B, b, rfl, c1, c2, own_si (own_grown o1 hg (.inr (Ne.symm (hq.ne_own o1 (by decide))))), SL.of_own (own_grown o2 hg (.inr (Ne.symm (hq.ne_own o2 (by decide)))))⟩
theorem incD_le3 {ws ws' : List Int} {ns ns' : List (Int × Int × Int)} (hv : validE ws' ns' = 0) (i : Nat) : 0 ≤ incD (newsD (partsD ws ns) ((partsD ws' ns').take i)) ∧ incD (newsD (partsD ws ns) ((partsD ws' ns').take i)) ≤ 16777216 := by
  have h0 := incD_le2 (ws := ws) (ns := ns) hv
  have h1 : newsD (partsD ws ns) (partsD ws' ns') = newsD (partsD ws ns) ((partsD ws' ns').take i) ++ newsD (partsD ws ns) ((partsD ws' ns').drop i) := by
    rw [newsD, newsD, newsD, ← List.filter_append, List.take_append_drop]
  have h2 : ∀ l : List (List Int × List Int × List (Int × Int × Int)), 0 ≤ incD l := fun l => by
    induction l with
    | nil => exact Int.le_refl _
    | cons d l ih =>
      have : incD (d :: l) = (d.1.length : Int) + incD l := by simp [incD]
      omega
  have h3 : incD (newsD (partsD ws ns) (partsD ws' ns')) = incD (newsD (partsD ws ns) ((partsD ws' ns').take i)) + incD (newsD (partsD ws ns) ((partsD ws' ns').drop i)) := by
    rw [h1, incD, List.map_append, List.sum_append]; rfl
  have h4 := h2 (newsD (partsD ws ns) ((partsD ws' ns').take i))
  have h5 := h2 (newsD (partsD ws ns) ((partsD ws' ns').drop i))
  omega

theorem take_mem {α β : Type} {l : List α} {f : α → β} {j : Nat} {e : α} {x : β} [Decidable (x ∈ (l.take j).map f)] [Decidable (x ∈ (l.take (j + 1)).map f)] [Decidable (x = f e)] (h : l[j]? = some e) {kn s : Bool} (h1 : kn = decide (x ∈ (l.take j).map f)) (h2 : decide (x = f e) = s) : (kn || s) = decide (x ∈ (l.take (j + 1)).map f) := by
  have hm : x ∈ (l.take (j + 1)).map f ↔ x ∈ (l.take j).map f ∨ x = f e := by
    rw [take_snoc' h, List.map_append, List.mem_append, List.map_singleton, List.mem_singleton]
  rw [h1, ← h2]
  by_cases h3 : x ∈ (l.take j).map f
  · rw [decide_eq_true h3, decide_eq_true (hm.2 (.inl h3))]; rfl
  · by_cases h4 : x = f e
    · rw [decide_eq_false h3, decide_eq_true h4, decide_eq_true (hm.2 (.inr h4))]; rfl
    · rw [decide_eq_false h3, decide_eq_false h4, decide_eq_false (fun h5 => (hm.1 h5).elim h3 h4)]; rfl
set_option linter.unusedSimpArgs false in
set_option maxHeartbeats 8000000 in
set_option maxRecDepth 100000 in
theorem refSet_any (q z0 : Nat) (LS : Value) (A B A' B' : Option Addr) (a b a' b' : Nat) (ws ws' : List Int) (ns ns' : List (Int × Int × Int)) (work : Int) (w : World) (hq : Bk w q 59 #[LS, .slice A ws.length a, .slice B ns.length b, .int .i64 work])
    (hA : w.ownsRow z0 3 1 (.slice A ws.length a) ws.length (ws.map (Value.int .i64))) (hB : w.ownsRow z0 52 3 (.slice B ns.length b) ns.length (triC ns)) (hA' : w.ownsRow z0 3 1 (.slice A' ws'.length a') ws'.length (ws'.map (Value.int .i64))) (hB' : w.ownsRow z0 52 3 (.slice B' ns'.length b') ns'.length (triC ns'))
    (hv : validE ws ns = 0) (hl1 : ws'.length ≤ 4611686018427387904) (hl2 : ns'.length ≤ 4611686018427387904) (hw : 0 ≤ work ∧ work ≤ 1000000000000) :
    Calls Try.prog 25 #[.pointer (some ⟨q, 0, none⟩), .agg #[.slice A' ws'.length a', .slice B' ns'.length b']] w fun e w' =>
      (validE ws' ns' ≠ 0 → e = .returned (.tuple #[.int .i64 0, .int .i64 (validE ws' ns')]) ∧ Below w.heap.size w w') ∧
      (validE ws' ns' = 0 → e = .returned (.tuple #[.int .i64 (newsD (partsD ws ns) (partsD ws' ns')).length, .int .i64 0]) ∧ w.grownBy w' (some q) ∧ Bk w' q 59 #[LS, .slice A' ws'.length a', .slice B' ns'.length b', .int .i64 (work + incD (newsD (partsD ws ns) (partsD ws' ns')))]) := by
  obtain ⟨S, hSz⟩ : ∃ S, w.heap.size = S := ⟨_, rfl⟩
  have Hv := Lib.hid hv
  have Hg := Lib.hid (fun (W : World) (hW : Below S w W) => show Bk W q 59 #[LS, .slice A ws.length a, .slice B ns.length b, .int .i64 work] ∧ SI W A ws ∧ ST W B ns ∧ SI W A' ws' ∧ ST W B' ns' from
    ⟨hq.below (hSz ▸ hW) hq.lt, own_si (own_below hA (hSz.symm ▸ hW)), SL.of_own (own_below hB (hSz.symm ▸ hW)), own_si (own_below hA' (hSz.symm ▸ hW)), SL.of_own (own_below hB' (hSz.symm ▸ hW))⟩)
  have hqS : q < S := hSz ▸ hq.lt
  have hin := Lib.hid (fun i (h : validE ws' ns' = 0) => incD_le3 (ws := ws) (ns := ns) h i)
  have hib1 := Lib.hid (fun (k : Nat) d (h : (partsD ws ns)[k]? = some d) => partsD_ib hv h)
  have hib2 := Lib.hid (fun (k : Nat) d (h : (partsD ws' ns')[k]? = some d) (hv : validE ws' ns' = 0) => partsD_ib hv h)
  have hone := Lib.hid (fun d (h : d ∈ partsD ws' ns') => partsD_len1 d h)
  have hlO : validE ws ns = 0 → (partsD ws ns).length ≤ 4096 := fun hv => by rw [partsD, partsO, List.length_map]; have := rts_len (comp ns ws.length) ws.length; have := (GV.of hv).n1; omega
  have hlN : validE ws' ns' = 0 → (partsD ws' ns').length ≤ 4096 := fun hv => by rw [partsD, partsO, List.length_map]; have := rts_len (comp ns' ws'.length) ws'.length; have := (GV.of hv).n1; omega
  have hdlO := hlO hv
  have HlN := Lib.hid hlN
  obtain ⟨dsO, hO⟩ : ∃ z, Hid (partsD ws ns = z) := ⟨_, Lib.hid rfl⟩
  obtain ⟨dsN, hN⟩ : ∃ z, Hid (partsD ws' ns' = z) := ⟨_, Lib.hid rfl⟩
  rw [hO.out, hN.out]
  rw [hO.out] at hdlO hin hib1
  rw [hN.out] at hin hib2 hone HlN
  clear hq hA hB hA' hB' hv hlO hlN
  go_enter Try.func25, Try.ntmps25
  have hb0 : Below S w (w.alloc (.cells #[.slice A' ws'.length a', .slice B' ns'.length b'] 30)) := hSz ▸ (Below.refl _ _).alloc (Nat.le_refl _) _
  have hbG : Bk (w.alloc (.cells #[.slice A' ws'.length a', .slice B' ns'.length b'] 30)) S 30 #[.slice A' ws'.length a', .slice B' ns'.length b'] := Bk.new' _ _ _ hSz
  have hg0 : (w.alloc (.cells #[.slice A' ws'.length a', .slice B' ns'.length b'] 30)).cell? ⟨w.heap.size, 0, none⟩ = some (.slice A' ws'.length a') := hSz ▸ hbG.cell 0
  have hg1 : (w.alloc (.cells #[.slice A' ws'.length a', .slice B' ns'.length b'] 30)).cell? ⟨w.heap.size, 1, none⟩ = some (.slice B' ns'.length b') := hSz ▸ hbG.cell 1
  go_wp2_with fail
  generalize w.alloc (.cells #[.slice A' ws'.length a', .slice B' ns'.length b'] 30) = W0 at *
  clear hg0 hg1
  refine (refValid_any A' B' a' b' ws' ns' W0 (Hg.out _ hb0).2.2.2.1 (Hg.out _ hb0).2.2.2.2 hl1 hl2).mono ?_
  rintro e w1 ⟨rfl, hb1⟩
  have hz0 : S ≤ W0.heap.size := by have := hb0.size; omega
  have Hb1 := Lib.hid (hb0.trans (hb1.mono hz0))
  have Hg1 := Lib.hid (hbG.below hb1 hbG.lt)
  have HSz := Lib.hid hSz
  clear hb0 hbG hb1 hSz
  by_cases hv2 : validE ws' ns' = 0
  · have Hv2 := Lib.hid hv2
    rw [hv2]
    have hne : ((0 : Int) != 0) = false := rfl
    have q1 : w1.cell? ⟨q, 1, none⟩ = some (.slice A ws.length a) := (Hg.out _ Hb1.out).1.cell 1
    have q2 : w1.cell? ⟨q, 2, none⟩ = some (.slice B ns.length b) := (Hg.out _ Hb1.out).1.cell 2
    clear hv2
    go_wp2_with fail
    clear q1 q2
    refine (refInputs_any A B a b ws ns w1 (Hg.out _ Hb1.out).2.1 (Hg.out _ Hb1.out).2.2.1 Hv.out).mono ?_
    rintro e w2 ⟨D1, m1, vs1, rfl, hR1⟩
    rw [hO.out] at hR1 ⊢
    have hz1 : S ≤ w1.heap.size := by have := Hb1.out.size; have := HSz.out; omega
    have hdlN := HlN.out Hv2.out
    have Hb2 := Lib.hid (Hb1.out.trans (hR1.bl.mono hz1))
    have Hg2 := Lib.hid (Hg1.out.below hR1.bl Hg1.out.lt)
    have hz2 : S ≤ w2.heap.size := Nat.le_trans hz1 hR1.z
    have q1 : w2.cell? ⟨S, 0, none⟩ = some (.slice A' ws'.length a') := Hg2.out.cell 0
    have q2 : w2.cell? ⟨S, 1, none⟩ = some (.slice B' ns'.length b') := Hg2.out.cell 1
    have HR1 := Lib.hid hR1
    clear Hg1 hR1 HlN
    go_wp2_with fail
    clear q1 q2
    refine (refInputs_any A' B' a' b' ws' ns' w2 (Hg.out _ Hb2.out).2.2.2.1 (Hg.out _ Hb2.out).2.2.2.2 Hv2.out).mono ?_
    rintro e w3 ⟨D2, m2, vs2, rfl, hR2⟩
    rw [hN.out] at hR2 ⊢
    have HR1 := Lib.hid (HR1.out.below hR2.bl)
    have HR2 := Lib.hid hR2
    have Hb3 := Lib.hid (Hb2.out.trans (hR2.bl.mono hz2))
    have Hg3 := Lib.hid (Hg2.out.below hR2.bl Hg2.out.lt)
    have Hq3 := Lib.hid (Hg.out _ Hb3.out).1
    have hz3 : S ≤ w3.heap.size := Nat.le_trans hz2 hR2.z
    clear hR2 Hb2 Hg2 Hb1 hz1 hz2
    go_wp2_with fail
    go_loopw [9, 10] (fun vm vi wr => ∃ (i m : Nat) (wk : Int), i ≤ dsN.length ∧ vi = .int .i64 i ∧ vm = .int .i64 m ∧ m ≤ i ∧ 0 ≤ wk ∧ wk ≤ 2000000000000 ∧ Hid (m = (newsD dsO (dsN.take i)).length ∧ wk = work + incD (newsD dsO (dsN.take i))) ∧ w3.grownBy wr (some q) ∧ Bk wr q 59 #[LS, .slice A ws.length a, .slice B ns.length b, .int .i64 wk]) (fun _ v _ => dsN.length - (intOf v).toNat)
    case atStart => exact ⟨0, 0, work, by omega, rfl, rfl, by omega, by omega, by omega, Lib.hid ⟨rfl, by simp [newsD, incD]⟩, World.grownBy.refl _ _, Hq3.out⟩
    case round =>
      obtain ⟨i, m, wk, hi, rfl, rfl, hmi, hw0, hw1, hnw, hgr, hq⟩ := hrel
      have Hgr := Lib.hid hgr
      have HQ := Lib.hid hq
      have i0 : (0 : Int) ≤ (i : Int) := by omega
      by_cases hlt : i < dsN.length
      · obtain ⟨⟨Fl, Wl, Nl⟩, hd⟩ : ∃ d, dsN[i]? = some d := ⟨_, List.getElem?_eq_getElem hlt⟩
        obtain ⟨g2, A5, a5, B5, b5, rfl, c0, c1, s0, s1⟩ := HR2.out.at2 Hq3.out hgr hlt hd
        obtain ⟨_, _, bd1, bd2, _⟩ := hib2.out i _ hd Hv2.out
        have HSf := Lib.hid (fun (W : World) (hW : Below wr.heap.size wr W) => show W.cell? ⟨g2, i * 2, none⟩ = some (.slice A5 Wl.length a5) ∧ W.cell? ⟨g2, i * 2 + 1, none⟩ = some (.slice B5 Nl.length b5) ∧ SI W A5 Wl ∧ ST W B5 Nl from ⟨cell_far c0 hW, cell_far c1 hW, s0.below hW, s1.below hW⟩)
        have Hd := Lib.hid hd
        have Hbd := Lib.hid (show Wl.length ≤ 5000 ∧ Nl.length ≤ 16384 from ⟨bd1, bd2⟩)
        clear hgr hq hd c0 c1 s0 s1 bd1 bd2
        obtain ⟨w8, rfl⟩ : ∃ z, z = wr := ⟨wr, rfl⟩
        go_wp2_with fail
        go_loopw [11, 12] (fun vk vj w4 => ∃ (j : Nat) (kn : Bool), j ≤ dsO.length ∧ vj = .int .i64 j ∧ vk = .bool kn ∧ Hid (kn = decide ((Wl, Nl) ∈ (dsO.take j).map fun e => e.2)) ∧ Below w8.heap.size w8 w4) (fun _ v _ => dsO.length - (intOf v).toNat)
        case atStart => exact ⟨0, false, by omega, rfl, rfl, Lib.hid (by simp), Below.refl _ _⟩
        case round =>
          obtain ⟨j, kn, hj, rfl, rfl, hkn, hbj⟩ := hrel
          have Hbj := Lib.hid hbj
          have j0 : (0 : Int) ≤ (j : Int) := by omega
          by_cases hlj : j < dsO.length
          · obtain ⟨⟨Fo, Wo, No⟩, he⟩ : ∃ d, dsO[j]? = some d := ⟨_, List.getElem?_eq_getElem hlj⟩
            obtain ⟨g1, A6, a6, B6, b6, rfl, c2, c3, s2, s3⟩ := HR1.out.at2 Hq3.out Hgr.out hlj he
            obtain ⟨_, _, be1, be2, _⟩ := hib1.out j _ he
            have be3 : Wo.length ≤ 5000 := be1
            obtain ⟨sm, hsm⟩ : ∃ z, Hid (decide ((Wl, Nl) = (Wo, No)) = z) := ⟨_, Lib.hid rfl⟩
            have HSg := Lib.hid (fun (W : World) (hW : Below w8.heap.size w8 W) => show W.cell? ⟨g2, i * 2, none⟩ = some (.slice A5 Wl.length a5) ∧ W.cell? ⟨g2, i * 2 + 1, none⟩ = some (.slice B5 Nl.length b5) ∧ W.cell? ⟨g1, j * 2, none⟩ = some (.slice A6 Wo.length a6) ∧ W.cell? ⟨g1, j * 2 + 1, none⟩ = some (.slice B6 No.length b6) from ⟨(HSf.out _ hW).1, (HSf.out _ hW).2.1, cell_far c2 hW, cell_far c3 hW⟩)
            have HSm := Lib.hid (fun (W : World) (hW : Below w8.heap.size w8 W) => hsm.out ▸ same2_any A5 B5 A6 B6 a5 b5 a6 b6 Wl Wo Nl No W (HSf.out _ hW).2.2.1 (HSf.out _ hW).2.2.2 (s2.below hW) (s3.below hW) (by have := Hbd.out.1; omega) (by have := Hbd.out.2; omega) (by omega))
            have Hkn2 := Lib.hid (take_mem (f := fun e : List Int × List Int × List (Int × Int × Int) => e.2) he hkn.out hsm.out)
            have HB0 := Lib.hid (hbj.drew)
            clear hbj he c2 c3 s2 s3 be1 be2 be3 hsm hkn
            go_wp2_with fail
            refine wp_region_noPanic ?_
            refine region_H (S := fun W => W.cell? ⟨g2, i * 2, none⟩ = some (.slice A5 Wl.length a5) ∧ W.cell? ⟨g2, i * 2 + 1, none⟩ = some (.slice B5 Nl.length b5) ∧ W.cell? ⟨g1, j * 2, none⟩ = some (.slice A6 Wo.length a6) ∧ W.cell? ⟨g1, j * 2 + 1, none⟩ = some (.slice B6 No.length b6)) (by kernel_rfl) ?_
            change wpH _ _ _ _ 10 _ _ wr.drew
            refine H_takeD (k := 0) (v := .slice (some ⟨g2, 0, none⟩) dsN.length m2) (d := some 38) rfl rfl (by decide +kernel) (fun _ _ _ h => h) (Or.inl ⟨by rfl, fun W hW => by obtain ⟨s0, s1, s2, s3⟩ := hW; go_simp⟩) (HSg.out _ HB0.out) ?_
            try simp only [Act.put, List.setIfInBounds_toArray, List.set_cons_zero, List.set_cons_succ]
            refine H_takeD (k := 1) (v := .int .i64 i) (d := some 39) rfl rfl (by decide +kernel) (fun _ _ _ h => h) (Or.inl ⟨by rfl, fun W hW => by obtain ⟨s0, s1, s2, s3⟩ := hW; go_simp⟩) (HSg.out _ HB0.out) ?_
            try simp only [Act.put, List.setIfInBounds_toArray, List.set_cons_zero, List.set_cons_succ]
            refine H_takeD (k := 2) (v := .pointer (some ⟨g2, i * 2, none⟩)) (d := some 40) rfl rfl (by decide +kernel) (fun _ _ _ h => h) (Or.inl ⟨by rfl, fun W hW => by obtain ⟨s0, s1, s2, s3⟩ := hW; go_simp⟩) (HSg.out _ HB0.out) ?_
            try simp only [Act.put, List.setIfInBounds_toArray, List.set_cons_zero, List.set_cons_succ]
            refine H_takeD (k := 3) (v := .agg #[.slice A5 Wl.length a5, .slice B5 Nl.length b5]) (d := some 41) rfl rfl (by decide +kernel) (fun _ _ _ h => h) (Or.inl ⟨by rfl, fun W hW => by obtain ⟨s0, s1, s2, s3⟩ := hW; go_simp⟩) (HSg.out _ HB0.out) ?_
            try simp only [Act.put, List.setIfInBounds_toArray, List.set_cons_zero, List.set_cons_succ]
            refine H_takeD (k := 4) (v := .slice (some ⟨g1, 0, none⟩) dsO.length m1) (d := some 42) rfl rfl (by decide +kernel) (fun _ _ _ h => h) (Or.inl ⟨by rfl, fun W hW => by obtain ⟨s0, s1, s2, s3⟩ := hW; go_simp⟩) (HSg.out _ HB0.out) ?_
            try simp only [Act.put, List.setIfInBounds_toArray, List.set_cons_zero, List.set_cons_succ]
            refine H_takeD (k := 5) (v := .int .i64 j) (d := some 43) rfl rfl (by decide +kernel) (fun _ _ _ h => h) (Or.inl ⟨by rfl, fun W hW => by obtain ⟨s0, s1, s2, s3⟩ := hW; go_simp⟩) (HSg.out _ HB0.out) ?_
            try simp only [Act.put, List.setIfInBounds_toArray, List.set_cons_zero, List.set_cons_succ]
            refine H_takeD (k := 6) (v := .pointer (some ⟨g1, j * 2, none⟩)) (d := some 44) rfl rfl (by decide +kernel) (fun _ _ _ h => h) (Or.inl ⟨by rfl, fun W hW => by obtain ⟨s0, s1, s2, s3⟩ := hW; go_simp⟩) (HSg.out _ HB0.out) ?_
            try simp only [Act.put, List.setIfInBounds_toArray, List.set_cons_zero, List.set_cons_succ]
            refine H_takeD (k := 7) (v := .agg #[.slice A6 Wo.length a6, .slice B6 No.length b6]) (d := some 45) rfl rfl (by decide +kernel) (fun _ _ _ h => h) (Or.inl ⟨by rfl, fun W hW => by obtain ⟨s0, s1, s2, s3⟩ := hW; go_simp⟩) (HSg.out _ HB0.out) ?_
            try simp only [Act.put, List.setIfInBounds_toArray, List.set_cons_zero, List.set_cons_succ]
            refine H_one (i := 8) (by decide +kernel) (H_step rfl rfl (fun K hK8 => ?_))
            have hK8 := Lib.hid hK8
            go_simp
            go_at_call 28
            refine (HSm.out _ HB0.out).mono ?_
            rintro e w5 ⟨rfl, hb⟩
            have HB2 := Lib.hid (HB0.out.trans (hb.mono HB0.out.size))
            clear hb
            refine hK8.out _ _ (HSg.out _ HB2.out) ?_
            try simp only [Act.put, List.setIfInBounds_toArray, List.set_cons_zero, List.set_cons_succ]
            refine H_takeD (k := 9) (v := .bool sm) (d := some 13) rfl rfl (by decide +kernel) (fun _ _ _ h => h) (Or.inl ⟨by rfl, fun W hW => by obtain ⟨s0, s1, s2, s3⟩ := hW; go_simp⟩) (HSg.out _ HB2.out) ?_
            try simp only [Act.put, List.setIfInBounds_toArray, List.set_cons_zero, List.set_cons_succ]
            refine H_end (by decide +kernel) (NoPanic.normal ?_)
            try simp only [Act.put, List.setIfInBounds_toArray, List.set_cons_zero, List.set_cons_succ]
            have HB1 := HB2
            clear HB0 HB2 HSm HSg
            cases kn with
            | true =>
              go_wp2_with fail
              go_roundw
              case rel => exact ⟨j + 1, true, by omega, by go_num, rfl, Hkn2, HB1.out⟩
              case measure => simp [intOf]; omega
            | false =>
              go_wp2_with fail
              go_roundw
              case rel => exact ⟨j + 1, sm, by omega, by go_num, rfl, Hkn2, HB1.out⟩
              case measure => simp [intOf]; omega
          · obtain rfl : j = dsO.length := by omega
            have hkn2 := hkn.out
            rw [List.take_length] at hkn2
            have hsn := newsD_snoc dsO (dsN.take i) (Fl, Wl, Nl)
            rw [← take_snoc' Hd.out] at hsn
            have Hsn := Lib.hid hsn
            have Hkn2 := Lib.hid hkn2
            have hgj := Hgr.out.trans (grown_of_below hbj (some q))
            have Hgj := Lib.hid hgj
            have HQj := Lib.hid (HQ.out.below hbj HQ.out.lt)
            have HS4 := Lib.hid (HSf.out _ hbj)
            clear hbj hkn hkn2 hsn hgj
            cases kn with
            | true =>
              have Hn2 := Lib.hid (show m = (newsD dsO (dsN.take (i + 1))).length ∧ wk = work + incD (newsD dsO (dsN.take (i + 1))) from by
                rw [Hsn.out, if_pos (of_decide_eq_true Hkn2.out.symm), List.append_nil]; exact hnw.out)
              clear hnw Hsn Hkn2
              go_wp2_with fail
              go_roundw
              case rel => exact ⟨i + 1, m, wk, by omega, by go_num, rfl, by omega, hw0, hw1, Hn2, Hgj.out, HQj.out⟩
              case measure => simp [intOf]; omega
            | false =>
              have hlw := hone.out (Fl, Wl, Nl) (List.mem_of_getElem? Hd.out)
              have hin2 := hin.out (i + 1) Hv2.out
              have hnw2 : newsD dsO (dsN.take (i + 1)) = newsD dsO (dsN.take i) ++ [(Fl, Wl, Nl)] := by rw [Hsn.out, if_neg (of_decide_eq_false Hkn2.out.symm)]
              have hwk2 : wk + (Wl.length : Int) - 1 = work + incD (newsD dsO (dsN.take (i + 1))) := by
                rw [hnw2, incD_snoc, hnw.out.2]
                have h1 : (Wl.length : Int) = (Fl.length : Int) + 1 := by rw [show Wl.length = Fl.length + 1 from hlw]; omega
                show work + _ + (Wl.length : Int) - 1 = work + (_ + (Fl.length : Int))
                omega
              have Hn2 := Lib.hid (show m + 1 = (newsD dsO (dsN.take (i + 1))).length ∧ wk + (Wl.length : Int) - 1 = work + incD (newsD dsO (dsN.take (i + 1))) from ⟨by rw [hnw2, List.length_append, ← hnw.out.1]; rfl, hwk2⟩)
              have hwa : IntKind.i64.wrap (wk + (Wl.length : Int)) = wk + (Wl.length : Int) := IntWalk.i64_in _ (by have := Hbd.out.1; omega)
              have hwb : IntKind.i64.wrap (wk + (Wl.length : Int) - 1) = wk + (Wl.length : Int) - 1 := IntWalk.i64_in _ (by have := Hbd.out.1; omega)
              have hwc : 0 ≤ wk + (Wl.length : Int) - 1 ∧ wk + (Wl.length : Int) - 1 ≤ 2000000000000 := by rw [hwk2]; omega
              have Hwc := Lib.hid hwc
              have HS0 := Lib.hid (show wr.drew.cell? ⟨q, 3, none⟩ = some (.int .i64 wk) ∧ wr.drew.cell? ⟨g2, i * 2, none⟩ = some (.slice A5 Wl.length a5) from ⟨HQj.out.cell 3, HS4.out.1⟩)
              have d0 : wr.drew.cell? ⟨q, 3, none⟩ = some (.int .i64 wk) := HQj.out.cell 3
              have d1 : wr.drew.frozen? ⟨q, 3, none⟩ = false := HQj.out.frozen 3
              clear hnw Hsn Hkn2 hin2 hnw2 hwk2 hwc hlw
              go_wp2_with fail
              refine wp_region_noPanic ?_
              refine region_T (s := 15) (S := fun W => W.cell? ⟨q, 3, none⟩ = some (.int .i64 wk) ∧ W.cell? ⟨g2, i * 2, none⟩ = some (.slice A5 Wl.length a5)) (by kernel_rfl) ?_
              change wpT _ _ _ _ _ 16 _ _ wr.drew
              refine T_take (k := 0) (v := .pointer (some ⟨q, 0, none⟩)) rfl (by decide +kernel) (fun _ _ _ h => h) (Or.inl ⟨by rfl, fun W hW => by obtain ⟨s0, s1⟩ := hW; go_simp⟩) HS0.out ?_
              try simp only [Act.put, List.setIfInBounds_toArray, List.set_cons_zero, List.set_cons_succ]
              refine T_take (k := 1) (v := .pointer (some ⟨q, 0, none⟩)) rfl (by decide +kernel) (fun _ _ _ h => h) (Or.inl ⟨by rfl, fun W hW => by obtain ⟨s0, s1⟩ := hW; go_simp⟩) HS0.out ?_
              try simp only [Act.put, List.setIfInBounds_toArray, List.set_cons_zero, List.set_cons_succ]
              refine T_take (k := 2) (v := .pointer (some ⟨q, 0, none⟩)) rfl (by decide +kernel) (fun _ _ _ h => h) (Or.inl ⟨by rfl, fun W hW => by obtain ⟨s0, s1⟩ := hW; go_simp⟩) HS0.out ?_
              try simp only [Act.put, List.setIfInBounds_toArray, List.set_cons_zero, List.set_cons_succ]
              refine T_take (k := 3) (v := .pointer (some ⟨q, 3, none⟩)) rfl (by decide +kernel) (fun _ _ _ h => h) (Or.inl ⟨by rfl, fun W hW => by obtain ⟨s0, s1⟩ := hW; go_simp⟩) HS0.out ?_
              try simp only [Act.put, List.setIfInBounds_toArray, List.set_cons_zero, List.set_cons_succ]
              refine T_take (k := 4) (v := .int .i64 wk) rfl (by decide +kernel) (fun _ _ _ h => h) (Or.inl ⟨by rfl, fun W hW => by obtain ⟨s0, s1⟩ := hW; go_simp⟩) HS0.out ?_
              try simp only [Act.put, List.setIfInBounds_toArray, List.set_cons_zero, List.set_cons_succ]
              refine T_take (k := 5) (v := .slice (some ⟨g2, 0, none⟩) dsN.length m2) rfl (by decide +kernel) (fun _ _ _ h => h) (Or.inl ⟨by rfl, fun W hW => by obtain ⟨s0, s1⟩ := hW; go_simp⟩) HS0.out ?_
              try simp only [Act.put, List.setIfInBounds_toArray, List.set_cons_zero, List.set_cons_succ]
              refine T_take (k := 6) (v := .int .i64 i) rfl (by decide +kernel) (fun _ _ _ h => h) (Or.inl ⟨by rfl, fun W hW => by obtain ⟨s0, s1⟩ := hW; go_simp⟩) HS0.out ?_
              try simp only [Act.put, List.setIfInBounds_toArray, List.set_cons_zero, List.set_cons_succ]
              refine T_take (k := 7) (v := .pointer (some ⟨g2, i * 2, none⟩)) rfl (by decide +kernel) (fun _ _ _ h => h) (Or.inl ⟨by rfl, fun W hW => by obtain ⟨s0, s1⟩ := hW; go_simp⟩) HS0.out ?_
              try simp only [Act.put, List.setIfInBounds_toArray, List.set_cons_zero, List.set_cons_succ]
              refine T_take (k := 8) (v := .pointer (some ⟨g2, i * 2, none⟩)) rfl (by decide +kernel) (fun _ _ _ h => h) (Or.inl ⟨by rfl, fun W hW => by obtain ⟨s0, s1⟩ := hW; go_simp⟩) HS0.out ?_
              try simp only [Act.put, List.setIfInBounds_toArray, List.set_cons_zero, List.set_cons_succ]
              refine T_take (k := 9) (v := .slice A5 Wl.length a5) rfl (by decide +kernel) (fun _ _ _ h => h) (Or.inl ⟨by rfl, fun W hW => by obtain ⟨s0, s1⟩ := hW; go_simp⟩) HS0.out ?_
              try simp only [Act.put, List.setIfInBounds_toArray, List.set_cons_zero, List.set_cons_succ]
              refine T_take (k := 10) (v := .int .i64 Wl.length) rfl (by decide +kernel) (fun _ _ _ h => h) (Or.inl ⟨by rfl, fun W hW => by obtain ⟨s0, s1⟩ := hW; go_simp⟩) HS0.out ?_
              try simp only [Act.put, List.setIfInBounds_toArray, List.set_cons_zero, List.set_cons_succ]
              refine T_take (k := 11) (v := .int .i64 (wk + (Wl.length : Int))) rfl (by decide +kernel) (fun _ _ _ h => h) (Or.inl ⟨by rfl, fun W hW => by obtain ⟨s0, s1⟩ := hW; go_simp⟩) HS0.out ?_
              try simp only [Act.put, List.setIfInBounds_toArray, List.set_cons_zero, List.set_cons_succ]
              refine T_take (k := 12) (v := .int .i64 (wk + (Wl.length : Int) - 1)) rfl (by decide +kernel) (fun _ _ _ h => h) (Or.inl ⟨by rfl, fun W hW => by obtain ⟨s0, s1⟩ := hW; go_simp⟩) HS0.out ?_
              try simp only [Act.put, List.setIfInBounds_toArray, List.set_cons_zero, List.set_cons_succ]
              refine T_one (i := 13) (by decide +kernel) rfl rfl (fun K hK13 => ?_)
              have hK13 := Lib.hid hK13
              go_simp
              refine hK13.out _ _ HS0.out ?_
              try simp only [Act.put, List.setIfInBounds_toArray, List.set_cons_zero, List.set_cons_succ]
              refine T_take (k := 14) (v := .pointer (some ⟨q, 3, none⟩)) rfl (by decide +kernel) (fun _ _ _ h => h) (Or.inl ⟨by rfl, fun W hW => by obtain ⟨s0, s1⟩ := hW; go_simp⟩) HS0.out ?_
              try simp only [Act.put, List.setIfInBounds_toArray, List.set_cons_zero, List.set_cons_succ]
              refine T_last (by decide +kernel) (by decide +kernel) (by decide +kernel) rfl rfl (fun K hKl => ?_)
              have hKl := Lib.hid hKl
              go_simp
              refine hKl.out _ _ (NoPanic.normal ?_)
              try simp only [Act.put, List.setIfInBounds_toArray, List.set_cons_zero, List.set_cons_succ]
              have Hgk := Lib.hid ((Hgj.out.trans (grown_of_below ((Below.refl wr.heap.size wr).drew) (some q))).trans (grown_set wr.drew q 3 (.int .i64 (wk + (Wl.length : Int) - 1))))
              have HQk := Lib.hid ((show Bk wr.drew q _ _ from HQj.out).set_ 3 (.int .i64 (wk + (Wl.length : Int) - 1)))
              clear hK13 hKl HS0 HS4 Hgj HQj d0 d1
              go_wp2_with fail
              go_roundw
              case rel => exact ⟨i + 1, m + 1, wk + (Wl.length : Int) - 1, by omega, by go_num, by go_num, by omega, Hwc.out.1, Hwc.out.2, Hn2, Hgk.out, HQk.out⟩
              case measure => simp [intOf]; omega
      · obtain rfl : i = dsN.length := by omega
        have hnw2 := hnw.out
        rw [List.take_length] at hnw2
        have Hnw := Lib.hid hnw2
        have q0 : wr.cell? ⟨q, 1, none⟩ = some (.slice A ws.length a) := hq.cell 1
        have q1 : wr.cell? ⟨q, 2, none⟩ = some (.slice B ns.length b) := hq.cell 2
        have q2 := hq.frozen 1
        have q3 := hq.frozen 2
        have g0 : wr.cell? ⟨S, 0, none⟩ = some (.slice A' ws'.length a') := (Hg3.out.grown hgr (fun e => by injection e with e; omega)).cell 0
        have g1 : wr.cell? ⟨S, 1, none⟩ = some (.slice B' ns'.length b') := (Hg3.out.grown hgr (fun e => by injection e with e; omega)).cell 1
        clear hgr hq hnw hnw2
        go_wp2_with fail
        go_ret2
        refine ⟨fun h => absurd Hv2.out h, fun _ => ⟨by rw [← Hnw.out.1]; rfl, ?_, ?_⟩⟩
        · exact (((grown_of_below (HSz.out.symm ▸ Hb3.out) (some q)).trans Hgr.out).trans (grown_set wr q 1 _)).trans (grown_set _ q 2 _)
        · rw [← Hnw.out.2]
          exact (HQ.out.set_ 1 (.slice A' ws'.length a')).set_ 2 (.slice B' ns'.length b')
  · have Hv2 := Lib.hid hv2
    have hne : (validE ws' ns' != 0) = true := by simpa using hv2
    clear hv2
    go_wp2_with fail
    go_ret2
    exact ⟨fun _ => ⟨rfl, HSz.out ▸ Hb1.out⟩, fun h => absurd h Hv2.out⟩
end Go.Proofs.Ytmdgdphhedgojaa

namespace Go.Proofs.Ytmdgdphhedgojaa
open Go.RowKit Go.Maps
section
variable {P : Program} {ops : Array Oper} {Q : Exit → Act → World → Prop} {S : World → Prop} {s : Nat}

theorem T_first2 {k m : Nat} {ok : Oper} {v : Value} (hk : ops[k]? = some ok) (hsel : ∀ (j : Nat) (o : Oper) cs b, ops[j]? = some o → o.op ≠ .select cs b)
    (hQ : ∀ c a w, Q (.panic c) (a.put ok.dst v) w → Q (.panic c) a w) (hks : Region.waitsFor .any ops s m = true) (hkm : Region.waitsFor .any ops m k = true) (hne : k ≠ s) (hmk : m ≠ k) :
    ∀ (f : Nat) (listed : Array Bool) (a : Act) (w : World),
      (∀ j oj, ops[j]? = some oj → j ≠ k → listed.getD j true = false → (∀ e ∈ oj.after, Region.binds .any e = true → e.on ≠ k) → ok.apart ops oj = true) →
      k ∈ Region.ready .any ops listed → YieldsIf P ops S ok v a → S w → listed.getD s true = false → listed.getD m true = false →
      wpT P ops Q S s f (listed.setIfInBounds k true) (a.put ok.dst v) w → wpT P ops Q S s (f + 1) listed a w := by
  intro f
  induction f with
  | zero =>
    intro listed a w _ hr hy hS _ _ H
    refine ⟨fun h => (by rw [h] at hr; cases hr), fun j hj => ?_⟩
    by_cases hjk : j = k
    · subst hjk; exact hy.wpOp hk hS ⟨fun _ => hS, H⟩
    · have := ready_mono hj hjk
      rw [H.1] at this
      cases this
  | succ f ih =>
    intro listed a w hfree hr hy hS hsu hmu H
    refine ⟨fun h => (by rw [h] at hr; cases hr), fun j hj => ?_⟩
    by_cases hjk : j = k
    · subst hjk; exact hy.wpOp hk hS ⟨fun _ => hS, H⟩
    · have h1 := H.2 j (ready_mono hj hjk)
      obtain ⟨hju, oj, hoj, hall⟩ := mem_ready.1 hj
      have hku := unlisted_both (mem_ready.1 hr).1
      have hjs : j ≠ s := fun e => by
        subst e
        obtain ⟨os, ho, e, he, hb, hon⟩ := Region.waitsFor_spec hks
        rw [hoj] at ho
        injection ho with ho
        subst ho
        exact (unlisted_both hmu) (hon ▸ hall e he hb)
      have hjm : j ≠ m := fun e => by
        subst e
        obtain ⟨os, ho, e, he, hb, hon⟩ := Region.waitsFor_spec hkm
        rw [hoj] at ho
        injection ho with ho
        subst ho
        exact hku (hon ▸ hall e he hb)
      have hnot : ∀ e ∈ oj.after, Region.binds .any e = true → e.on ≠ k := fun e he hb hon => hku (hon ▸ hall e he hb)
      have h2 := wpOp_putIf hoj (hfree j oj hoj hjk hju hnot) (fun cs b => hsel k ok cs b hk) (fun cs b => hsel j oj cs b hoj) hQ hy h1
      refine wpOp_mono (fun a' w' h3 => ?_) h2
      have hu1 : (listed.setIfInBounds j true).getD s true = false := by rw [getD_set_ne true hjs]; exact hsu
      have hS' : S w' := h3.2.1 (by rw [getD_set_ne true hjs, getD_set_ne true hne]; exact hsu)
      refine ⟨fun _ => hS', ih (listed.setIfInBounds j true) a' w' (fun i oi hoi hik hun hno => ?_) (ready_mono hr (Ne.symm hjk)) h3.1 hS' hu1 (by rw [getD_set_ne true hjm]; exact hmu) ?_⟩
      · refine hfree i oi hoi hik ?_ hno
        by_cases hji : j = i
        · subst hji; exact hju
        · rw [getD_set_ne true hji] at hun; exact hun
      · rw [Array.setIfInBounds_comm _ _ hjk]
        exact h3.2.2

theorem T_take2 {k : Nat} (m : Nat) {ok : Oper} {v : Value} {f : Nat} {listed : Array Bool} {a : Act} {w : World} (hk : ops[k]? = some ok) (hB : (Region.noSelect ops && Region.free .any ops listed k && (Region.ready .any ops listed).contains k && Region.waitsFor .any ops s m && Region.waitsFor .any ops m k && decide (k ≠ s) && decide (m ≠ k) && !listed.getD s true && !listed.getD m true) = true)
    (hQ : ∀ c a w, Q (.panic c) (a.put ok.dst v) w → Q (.panic c) a w) (hy : YieldsIf P ops S ok v a) (hS : S w)
    (h : wpT P ops Q S s f (listed.setIfInBounds k true) (a.put ok.dst v) w) : wpT P ops Q S s (f + 1) listed a w := by
  simp only [Bool.and_eq_true, decide_eq_true_eq, Bool.not_eq_true'] at hB
  obtain ⟨⟨⟨⟨⟨⟨⟨⟨h1, h2⟩, h3⟩, h4⟩, h4m⟩, h5⟩, h5m⟩, h6⟩, h6m⟩ := hB
  exact T_first2 hk (Region.noSelect_spec h1) hQ h4 h4m h5 h5m f listed a w (Region.free_spec hk h2) (by simpa using h3) hy hS h6 h6m h


theorem T_step {i : Nat} {o : Oper} {f : Nat} {listed : Array Bool} {a : Act} {w : World} (ho : ops[i]? = some o) (hgd : o.guard = none)
    (h : ∀ K : Act → World → Prop, (∀ a' w', S w' → wpT P ops Q S s f (listed.setIfInBounds i true) a' w' → K a' w') → Oper.wp P o a w K Q) :
    wpOp P ops Q i (fun a' w' => ((listed.setIfInBounds i true).getD s true = false → S w') ∧ wpT P ops Q S s f (listed.setIfInBounds i true) a' w') a w := by
  refine wpOp_step ho fun K hK => ?_
  rw [if_pos (by simp [Region.wanted, hgd])]
  exact h K fun a' w' hS hT => hK a' w' ⟨fun _ => hS, hT⟩

/-- Any of two, of three operations comes next. -/
theorem T_two {i j : Nat} {f : Nat} {listed : Array Bool} {a : Act} {w : World} (hr : Region.ready .any ops listed = [i, j])
    (hi : wpOp P ops Q i (fun a' w' => ((listed.setIfInBounds i true).getD s true = false → S w') ∧ wpT P ops Q S s f (listed.setIfInBounds i true) a' w') a w)
    (hj : wpOp P ops Q j (fun a' w' => ((listed.setIfInBounds j true).getD s true = false → S w') ∧ wpT P ops Q S s f (listed.setIfInBounds j true) a' w') a w) : wpT P ops Q S s (f + 1) listed a w := by
  refine ⟨fun h0 => (by rw [hr] at h0; cases h0), fun x hx => ?_⟩
  rw [hr] at hx
  simp only [List.mem_cons, List.not_mem_nil, or_false] at hx
  rcases hx with rfl | rfl
  · exact hi
  · exact hj
theorem T_three {i j k : Nat} {f : Nat} {listed : Array Bool} {a : Act} {w : World} (hr : Region.ready .any ops listed = [i, j, k])
    (hi : wpOp P ops Q i (fun a' w' => ((listed.setIfInBounds i true).getD s true = false → S w') ∧ wpT P ops Q S s f (listed.setIfInBounds i true) a' w') a w)
    (hj : wpOp P ops Q j (fun a' w' => ((listed.setIfInBounds j true).getD s true = false → S w') ∧ wpT P ops Q S s f (listed.setIfInBounds j true) a' w') a w)
    (hk : wpOp P ops Q k (fun a' w' => ((listed.setIfInBounds k true).getD s true = false → S w') ∧ wpT P ops Q S s f (listed.setIfInBounds k true) a' w') a w) : wpT P ops Q S s (f + 1) listed a w := by
  refine ⟨fun h0 => (by rw [hr] at h0; cases h0), fun x hx => ?_⟩
  rw [hr] at hx
  simp only [List.mem_cons, List.not_mem_nil, or_false] at hx
  rcases hx with rfl | rfl | rfl
  · exact hi
  · exact hj
  · exact hk

end
/-- A piece of code that ends one way alone. -/
theorem wp_det {P : Program} {c : Code} {Q : Exit → Act → World → Prop} {a : Act} {w : World} (fin : Act) (wf : World) (now : c.wp P (NoPanic (fun e a' w' => Hid (e = Exit.normal ∧ a' = fin ∧ w' = wf))) a w) (later : Q .normal fin wf) : c.wp P Q a w :=
  Code.wp_mono (fun e a' w' h => by
    obtain ⟨rfl, rfl, rfl⟩ := Hid.out (NoPanic.imp e a' w' h)
    exact later) now
theorem hid_det {e : Exit} {a : Act} {w : World} : Hid (e = e ∧ a = a ∧ w = w) := Lib.hid ⟨rfl, rfl, rfl⟩
end Go.Proofs.Ytmdgdphhedgojaa

namespace Go.Proofs.Ytmdgdphhedgojaa
open Go.RowKit Go.Maps

/-- append of a slice at a step of a region that draws its order. -/
theorem step_appM {P : Program} {ops : Array Oper} {Q : Exit → Act → World → Prop} {E : Prop} {o : Oper} {a : Act} {w : World} {K : Act → World → Prop} {base : Nat} {us xs : List Value} {e t : TypeId} {z : Value} {size bytes n m c : Nat} {v : Value} {B : Option Addr} (hgd : o.guard = none) (s x : Operand)
    (ho : o.op = .call { callee := .builtin .append, args := #[s, x], argTypes := #[t, t] }) (hE : Elt P t e z size bytes) (hs : a.eval s = v) (hx : a.eval x = .slice B m c)
    (hown : w.ownsRow base e size v n xs) (hbs : base ≤ w.heap.size) (hB : SL w B us) (hl : us.length = m * size) (h1 : us.all (·.oneCell') = true) (hn : n + m < 1099511627776)
    (h : ∀ v' w1, w1.ownsRow base e size v' (n + m) (xs ++ us) → w.grownBy w1 v.ownBlock → K (a.put o.dst v') w1) :
    if Region.wanted o (yielded ops a.tmps) = true then Oper.wp P o a w K Q else E := by
  have hw : Region.wanted o (yielded ops a.tmps) = true := by simp [Region.wanted, hgd]
  rw [if_pos hw]
  exact app_wpM s x ho hE hown hbs hs hx hB hl h1 hn h

theorem own_bk {w : World} {base g n c : Nat} {e : TypeId} {size : Nat} {xs : List Value} (h : w.ownsRow base e size (.slice (some ⟨g, 0, none⟩) n c) n xs) : ∃ cur, Bk w g e cur ∧ cur.toList.take (n * size) = xs := by
  rcases h.2 with ⟨he, _⟩ | ⟨k, cap, cur, he, h1, hg, h2, h3, h4, h5⟩
  · cases he
  · injection he with e1 e2 e3
    injection e1 with e1
    injection e1 with e1
    subst e1
    exact ⟨cur, hg, h5⟩

theorem tdiv3 {x : Int} (h : -9223372036854775808 ≤ x ∧ x ≤ 9223372036854775807) : -9223372036854775808 ≤ x.tdiv 3 ∧ x.tdiv 3 ≤ 9223372036854775807 := by
  rcases Int.le_total 0 x with h0 | h0
  · rw [Int.tdiv_eq_ediv_of_nonneg h0]; omega
  · have : x.tdiv 3 = -((-x).tdiv 3) := by rw [Int.neg_tdiv, Int.neg_neg]
    rw [this, Int.tdiv_eq_ediv_of_nonneg (by omega)]
    omega

theorem triC_int : ∀ {ns : List (Int × Int × Int)} {i r : Nat}, i < ns.length → r < 3 → ∃ x, (triC ns)[i * 3 + r]? = some (.int .i64 x)
  | [], i, r, h, _ => by simp at h
  | t :: ns, 0, r, _, h => by
    rcases (by omega : r = 0 ∨ r = 1 ∨ r = 2) with rfl | rfl | rfl <;> simp [triC_cons]
  | t :: ns, i + 1, r, h1, h2 => by
    obtain ⟨x, hx⟩ := triC_int (ns := ns) (i := i) (r := r) (by simpa using h1) h2
    refine ⟨x, ?_⟩
    rw [triC_cons, show (i + 1) * 3 + r = (i * 3 + r) + 3 by omega, List.getElem?_append_right (by simp)]
    simpa using hx

theorem triC_setR : ∀ (ns : List (Int × Int × Int)) (i r : Nat) (v : Int), i < ns.length → r < 3 → ∃ ns', ns'.length = ns.length ∧ (triC ns).set (i * 3 + r) (.int .i64 v) = triC ns'
  | [], i, r, v, h, _ => by simp at h
  | t :: ns, 0, r, v, _, h => by
    rcases (by omega : r = 0 ∨ r = 1 ∨ r = 2) with rfl | rfl | rfl
    · exact ⟨(v, t.2.1, t.2.2) :: ns, rfl, by simp [triC_cons]⟩
    · exact ⟨(t.1, v, t.2.2) :: ns, rfl, by simp [triC_cons]⟩
    · exact ⟨(t.1, t.2.1, v) :: ns, rfl, by simp [triC_cons]⟩
  | t :: ns, i + 1, r, v, h1, h2 => by
    obtain ⟨ns', hl, he⟩ := triC_setR ns i r v (by simpa using h1) h2
    refine ⟨t :: ns', by simp [hl], ?_⟩
    rw [triC_cons, triC_cons, show (i + 1) * 3 + r = (i * 3 + r) + 3 by omega, ← he]
    simp

theorem own_lit {w : World} {base g : Nat} {e : TypeId} {size : Nat} {cs : Array Value} (h : Bk w g e cs) (hs : cs.size = size) (hb : base ≤ g) : w.ownsRow base e size (.slice (some ⟨g, 0, none⟩) 1 1) 1 cs.toList :=
  ⟨by simp [hs], .inr ⟨g, 1, cs, rfl, hb, h, Nat.le_refl _, by unfold maxLen; omega, by simp [hs], by rw [List.take_of_length_le (by simp [hs])]⟩⟩

set_option linter.unusedSimpArgs false in
set_option maxHeartbeats 16000000 in
set_option maxRecDepth 100000 in
theorem spoilt_rest (A B : Option Addr) (c d : Nat) (ws : List Int) (ns : List (Int × Int × Int)) (at_ how by_ : Int) (w : World) (hA : SI w A ws) (hB : ST w B ns) (hl0 : 1 ≤ ws.length) (hl1 : ws.length ≤ 4000) (hl2 : ns.length ≤ 16384)
    (h1 : -9223372036854775808 ≤ at_ ∧ at_ ≤ 9223372036854775807) (h2 : -9223372036854775808 ≤ how ∧ how ≤ 9223372036854775807) (h3 : -9223372036854775808 ≤ by_ ∧ by_ ≤ 9223372036854775807)
    (hne : around how 6 ≠ 3) :
    Calls Try.prog 24 #[.agg #[.slice A ws.length c, .slice B ns.length d], .int .i64 at_, .int .i64 how, .int .i64 by_] w fun e w' => ∃ A1 c1 A2 c2 ws' ns', e = .returned (.agg #[.slice A1 (ws' : List Int).length c1, .slice A2 (ns' : List (Int × Int × Int)).length c2]) ∧ w'.ownsRow w.heap.size 3 1 (.slice A1 ws'.length c1) ws'.length (ws'.map (Value.int .i64)) ∧ w'.ownsRow w.heap.size 52 3 (.slice A2 ns'.length c2) ns'.length (triC ns') ∧ ws'.length ≤ 4096 ∧ ns'.length ≤ 20000 ∧ Below w.heap.size w w' := by
  go_enter Try.func24, Try.ntmps24
  have hi1 : SI (((w.alloc (.cells #[.slice A ws.length c, .slice B ns.length d] 30)).alloc (.cells #[.slice none 0 0, .slice none 0 0] 30)).alloc (.cells #[.slice none 0 0, .slice none 0 0] 30)) A ws := ((hA.alloc _).alloc _).alloc _
  have hi2 : ST (((w.alloc (.cells #[.slice A ws.length c, .slice B ns.length d] 30)).alloc (.cells #[.slice none 0 0, .slice none 0 0] 30)).alloc (.cells #[.slice none 0 0, .slice none 0 0] 30)) B ns := ((hB.alloc _).alloc _).alloc _
  have hbk0 := ((Bk.new w 30 #[.slice A ws.length c, .slice B ns.length d]).alloc (.cells #[.slice none 0 0, .slice none 0 0] 30)).alloc (.cells #[.slice none 0 0, .slice none 0 0] 30)
  have hbk1 := (Bk.new' (w.alloc (.cells #[.slice A ws.length c, .slice B ns.length d] 30)) 30 #[.slice none 0 0, .slice none 0 0] (g := w.heap.size + 1) (by simp)).alloc (.cells #[.slice none 0 0, .slice none 0 0] 30)
  have hbk2 := Bk.new' ((w.alloc (.cells #[.slice A ws.length c, .slice B ns.length d] 30)).alloc (.cells #[.slice none 0 0, .slice none 0 0] 30)) 30 #[.slice none 0 0, .slice none 0 0] (g := w.heap.size + 1 + 1) (by simp)
  have hb0 := ((((Below.refl w.heap.size w).alloc (Nat.le_refl _) (.cells #[.slice A ws.length c, .slice B ns.length d] 30)).alloc (by simp) (.cells #[.slice none 0 0, .slice none 0 0] 30)).alloc (by simp; omega) (.cells #[.slice none 0 0, .slice none 0 0] 30))
  go_upto_region 2 with fail
  generalize ((w.alloc (.cells #[.slice A ws.length c, .slice B ns.length d] 30)).alloc (.cells #[.slice none 0 0, .slice none 0 0] 30)).alloc (.cells #[.slice none 0 0, .slice none 0 0] 30) = W at *
  have hc0 : W.cell? ⟨w.heap.size, 0, none⟩ = some (.slice A ws.length c) := hbk0.cell 0
  have ho0 : W.cell? ⟨w.heap.size + 1 + 1, 0, none⟩ = some (.slice none 0 0) := hbk2.cell 0
  have Hi1 := Lib.hid hi1
  have Hi2 := Lib.hid hi2
  have H0 := Lib.hid hbk0
  have H1 := Lib.hid hbk1
  have H2 := Lib.hid hbk2
  have Hb := Lib.hid hb0
  have hws := hb0.size
  clear hi1 hi2 hbk0 hbk1 hbk2 hb0
  go_upto_region 3 with (at_builtin; refine wpList_appM (w := W) rfl _ _ rfl elt_int (World.ownsRow_nil W w.heap.size _ _) hws rfl rfl Hi1.out (by simp) (ints_all ws) (by omega) ?_; intro v1 W1 hown1 hg1; obtain ⟨AW, cW, rfl⟩ := own_slice hown1; have ho0 : W1.cell? ⟨w.heap.size + 1 + 1, 0, none⟩ = some (.slice none 0 0) := (H2.out.grown hg1 (by simp [Value.ownBlock])).cell 0; have hof := (H2.out.grown hg1 (by simp [Value.ownBlock])).frozen 0)
  simp only [Nat.zero_add, List.nil_append] at hown1
  try simp only [Nat.zero_add]
  have hbx := (Hb.out.grown hg1 hws (fun k hk => by simp [Value.ownBlock] at hk)).setCell (p := ⟨w.heap.size + 1 + 1, 0, none⟩) (by show w.heap.size ≤ w.heap.size + 1 + 1; omega) (.slice AW ws.length cW)
  have h0 := (H0.out.grown hg1 (by simp [Value.ownBlock])).far (p := ⟨w.heap.size + 1 + 1, 0, none⟩) (by show w.heap.size ≠ w.heap.size + 1 + 1; omega) (.slice AW ws.length cW)
  have h1x := (H1.out.grown hg1 (by simp [Value.ownBlock])).far (p := ⟨w.heap.size + 1 + 1, 0, none⟩) (by show w.heap.size + 1 ≠ w.heap.size + 1 + 1; omega) (.slice AW ws.length cW)
  have h2a := H2.out.grown hg1 (by simp [Value.ownBlock])
  have h2x := h2a.set_ 0 (.slice AW ws.length cW)
  have hoW := own_set (i := 0) hown1 (h2a.ne_own hown1 (by decide)) (.slice AW ws.length cW)
  clear hown1 hg1 ho0 hof hc0 H0 H1 H2 Hb Hi1 Hi2 hws h2a
  generalize W1.setCell ⟨w.heap.size + 1 + 1, 0, none⟩ (.slice AW ws.length cW) = W2 at *
  have hc1 : W2.cell? ⟨w.heap.size, 1, none⟩ = some (.slice B ns.length d) := h0.cell 1
  have ho1 : W2.cell? ⟨w.heap.size + 1 + 1, 1, none⟩ = some (.slice none 0 0) := h2x.cell 1
  have hw2 := hbx.size
  have Hi2 := Lib.hid (ST.below hB hbx)
  have H0 := Lib.hid h0
  have H1 := Lib.hid h1x
  have H2 := Lib.hid h2x
  have Hb := Lib.hid hbx
  have HoW := Lib.hid hoW
  clear h0 h1x h2x hbx hoW
  go_upto_region 4 with (at_builtin; refine wpList_appM (w := W2) rfl _ _ rfl elt_tri (World.ownsRow_nil W2 w.heap.size _ _) hw2 rfl rfl Hi2.out (triC_len ns) (triC_all ns) (by omega) ?_; intro v1 W1 hown1 hg1; obtain ⟨AN, cN, rfl⟩ := own_slice hown1; have ho0 : W1.cell? ⟨w.heap.size + 1 + 1, 1, none⟩ = some (.slice none 0 0) := (H2.out.grown hg1 (by simp [Value.ownBlock])).cell 1; have hof := (H2.out.grown hg1 (by simp [Value.ownBlock])).frozen 1)
  simp only [Nat.zero_add, List.nil_append] at hown1
  try simp only [Nat.zero_add]
  have hbx := (Hb.out.grown hg1 hw2 (fun k hk => by simp [Value.ownBlock] at hk)).setCell (p := ⟨w.heap.size + 1 + 1, 1, none⟩) (by show w.heap.size ≤ w.heap.size + 1 + 1; omega) (.slice AN ns.length cN)
  have h1x := (H1.out.grown hg1 (by simp [Value.ownBlock])).far (p := ⟨w.heap.size + 1 + 1, 1, none⟩) (by show w.heap.size + 1 ≠ w.heap.size + 1 + 1; omega) (.slice AN ns.length cN)
  have h2a := H2.out.grown hg1 (by simp [Value.ownBlock])
  have h2x := h2a.set_ 1 (.slice AN ns.length cN)
  have hoN := own_set (i := 1) hown1 (h2a.ne_own hown1 (by decide)) (.slice AN ns.length cN)
  have hoW1 := own_grown HoW.out hg1 (.inr (by
    intro h
    have := (HoW.out.form (by omega))
    obtain ⟨g, cap, hv, _, _⟩ := this
    rw [hv] at h
    simp [Value.ownBlock] at h))
  have hoW := own_set (i := 1) hoW1 (h2a.ne_own hoW1 (by decide)) (.slice AN ns.length cN)
  clear hown1 hg1 ho0 hof hc1 ho1 H0 H1 H2 Hb Hi2 hw2 h2a hoW1 HoW
  generalize W1.setCell ⟨w.heap.size + 1 + 1, 1, none⟩ (.slice AN ns.length cN) = W3 at *
  have hc0 : W3.cell? ⟨w.heap.size + 1 + 1, 0, none⟩ = some (.slice AW ws.length cW) := h2x.cell 0
  have HR := Lib.hid h1x
  have HO := Lib.hid h2x
  have HB := Lib.hid hbx
  have HW := Lib.hid hoW
  have HN := Lib.hid hoN
  have Ha := Lib.hid (around_any at_ ws.length W3 h1.1 h1.2 (by omega) (by omega))
  have Hh := Lib.hid (around_any how 6 W3 h2.1 h2.2 (by omega) (by omega))
  obtain ⟨hk1, hk2⟩ := around_bd at_ ws.length (by omega)
  obtain ⟨k, hk⟩ := Int.eq_ofNat_of_zero_le hk1
  rw [hk] at Ha hk2
  obtain ⟨hh1, hh2⟩ := around_bd how 6 (by omega)
  clear h1x h2x hbx hoW hoN hk1 hk
  have hkl : k < ws.length := by omega
  go_wp2_with fail
  refine Ha.out.mono ?_
  rintro e w' ⟨rfl, rfl⟩
  go_wp2_with fail
  refine Hh.out.mono ?_
  rintro e w' ⟨rfl, rfl⟩
  generalize around how 6 = hw at *
  clear Ha Hh hc0
  rcases (by omega : hw = 0 ∨ hw = 1 ∨ hw = 2 ∨ hw = 4 ∨ hw = 5) with rfl | rfl | rfl | rfl | rfl
  · obtain ⟨hr1, hr2⟩ := around_bd by_ 5 (by omega)
    have Har := Lib.hid (fun W => around_any by_ 5 W h3.1 h3.2 (by omega) (by omega))
    generalize around by_ 5 = r' at *
    obtain ⟨r, rfl⟩ := Int.eq_ofNat_of_zero_le hr1
    obtain ⟨gW, cW', hv, hgb, hgl⟩ := HW.out.form (by omega)
    injection hv with hv1 hv2 hv3
    subst hv1 hv3
    have hc0 : W3.cell? ⟨w.heap.size + 1 + 1, 0, none⟩ = some (.slice (some ⟨gW, 0, none⟩) ws.length cW) := HO.out.cell 0
    obtain ⟨cur, hcur, htk⟩ := own_bk HW.out
    have hxk : cur[k]? = some (.int .i64 ws[k]) := by
      have h1 : (cur.toList.take (ws.length * 1))[k]? = some (.int .i64 ws[k]) := by rw [htk]; simp [hkl]
      rw [List.getElem?_take_of_lt (by omega)] at h1
      simpa using h1
    have hcw : W3.cell? ⟨gW, k, none⟩ = some (.int .i64 ws[k]) := (hcur.cell k).trans hxk
    have hfw := hcur.frozen k
    have hcura := hcur.alloc (.cells #[.int .i64 by_, .int .i64 (-1), .int .i64 0, .int .i64 1099511627776, .int .i64 1099511627777] 3)
    have hcwa : (W3.alloc (.cells #[.int .i64 by_, .int .i64 (-1), .int .i64 0, .int .i64 1099511627776, .int .i64 1099511627777] 3)).cell? ⟨gW, k, none⟩ = some (.int .i64 ws[k]) := (hcura.cell k).trans hxk
    have hfwa := hcura.frozen k
    have hc0a : (W3.alloc (.cells #[.int .i64 by_, .int .i64 (-1), .int .i64 0, .int .i64 1099511627776, .int .i64 1099511627777] 3)).cell? ⟨w.heap.size + 1 + 1, 0, none⟩ = some (.slice (some ⟨gW, 0, none⟩) ws.length cW) := (HO.out.alloc _).cell 0
    obtain ⟨val, hval⟩ : ∃ val, (W3.alloc (.cells #[.int .i64 by_, .int .i64 (-1), .int .i64 0, .int .i64 1099511627776, .int .i64 1099511627777] 3)).cell? ⟨W3.heap.size, r, none⟩ = some (.int .i64 val) := by
      have h := Bk.new W3 3 #[.int .i64 by_, .int .i64 (-1), .int .i64 0, .int .i64 1099511627776, .int .i64 1099511627777]
      rcases (by omega : r = 0 ∨ r = 1 ∨ r = 2 ∨ r = 3 ∨ r = 4) with rfl | rfl | rfl | rfl | rfl
      · exact ⟨_, h.cell 0⟩
      · exact ⟨_, h.cell 1⟩
      · exact ⟨_, h.cell 2⟩
      · exact ⟨_, h.cell 3⟩
      · exact ⟨_, h.cell 4⟩
    have hw3 := HB.out.size
    generalize ws[k] = xk at *
    have Hcur := Lib.hid (And.intro hcur htk)
    clear hcur hcura hxk htk
    have j0 : (0 : Int) ≤ (k : Int) := by omega
    have j1 : (0 : Int) ≤ (r : Int) := by omega
    have j2 : (r : Int) < 5 := by omega
    have j3 : r < 5 := by omega
    go_upto_region 10 with fail
    go_region_law (go_simp; go_at_call 20; refine (Har.out _).mono ?_; rintro e w' ⟨rfl, rfl⟩)
    all_goals
      have hneO := Bk.ne_ HO.out Hcur.out.1 (by decide)
      have hneR := Bk.ne_ HR.out Hcur.out.1 (by decide)
      have HO2 := Lib.hid ((HO.out.far (p := ⟨gW, k, none⟩) hneO (.int .i64 val)).alloc (.cells #[.int .i64 by_, .int .i64 (-1), .int .i64 0, .int .i64 1099511627776, .int .i64 1099511627777] 3))
      have HR2 := Lib.hid ((HR.out.far (p := ⟨gW, k, none⟩) hneR (.int .i64 val)).alloc (.cells #[.int .i64 by_, .int .i64 (-1), .int .i64 0, .int .i64 1099511627776, .int .i64 1099511627777] 3))
      have HB2 := Lib.hid ((HB.out.setCell (p := ⟨gW, k, none⟩) hgb (.int .i64 val)).alloc (by simp [World.setCell]; omega) (.cells #[.int .i64 by_, .int .i64 (-1), .int .i64 0, .int .i64 1099511627776, .int .i64 1099511627777] 3))
      have HN2 := Lib.hid ((own_set (i := k) HN.out (Bk.ne_own Hcur.out.1 HN.out (by decide)) (.int .i64 val)).alloc (.cells #[.int .i64 by_, .int .i64 (-1), .int .i64 0, .int .i64 1099511627776, .int .i64 1099511627777] 3))
      have hWp := (own_put (i := k) HW.out (.int .i64 val)).alloc (.cells #[.int .i64 by_, .int .i64 (-1), .int .i64 0, .int .i64 1099511627776, .int .i64 1099511627777] 3)
      rw [← List.map_set] at hWp
      have HW2 := Lib.hid hWp
      have Hlen : Hid ((ws.set k val).length = ws.length) := by show _ = _; simp
      clear hWp hc0 hcw hfw hcwa hfwa hc0a hval hneO hneR
      generalize hWF : (W3.setCell ⟨gW, k, none⟩ (.int .i64 val)).alloc (.cells #[.int .i64 by_, .int .i64 (-1), .int .i64 0, .int .i64 1099511627776, .int .i64 1099511627777] 3) = WX at *
      clear hWF
      have HO2 := Lib.hid (HO2.out.qt ⟨1, rfl⟩ : Bk WX.drew _ _ _)
      have HR2 := Lib.hid (HR2.out.qt ⟨1, rfl⟩ : Bk WX.drew _ _ _)
      have HB2 := Lib.hid (HB2.out.drew)
      have HN2 := Lib.hid (own_qt HN2.out ⟨1, rfl⟩ : WX.drew.ownsRow _ _ _ _ _ _)
      have HW2 := Lib.hid (own_qt HW2.out ⟨1, rfl⟩ : WX.drew.ownsRow _ _ _ _ _ _)
      go_upto_region 23 with fail
      generalize WX.drew = WF at *
      have hfc0 : WF.cell? ⟨w.heap.size + 1 + 1, 0, none⟩ = some (.slice (some ⟨gW, 0, none⟩) ws.length cW) := HO2.out.cell 0
      have hfc1 : WF.cell? ⟨w.heap.size + 1 + 1, 1, none⟩ = some (.slice AN ns.length cN) := HO2.out.cell 1
      have hr0 : WF.cell? ⟨w.heap.size + 1, 0, none⟩ = some (.slice none 0 0) := HR2.out.cell 0
      have hr1 : WF.cell? ⟨w.heap.size + 1, 1, none⟩ = some (.slice none 0 0) := HR2.out.cell 1
      have hf0 := HR2.out.frozen 0
      have hf1 := HR2.out.frozen 1
      have hz0 := ((HR2.out.set_ 0 (.slice (some ⟨gW, 0, none⟩) ws.length cW)).set_ 1 (.slice AN ns.length cN)).cell 0
      have hz1 := ((HR2.out.set_ 0 (.slice (some ⟨gW, 0, none⟩) ws.length cW)).set_ 1 (.slice AN ns.length cN)).cell 1
      have ho1 := Lib.hid (own_set (i := 1) (own_set (i := 0) HW2.out (HR2.out.ne_own HW2.out (by decide)) (.slice (some ⟨gW, 0, none⟩) ws.length cW)) (HR2.out.ne_own HW2.out (by decide)) (.slice AN ns.length cN))
      have ho2 := Lib.hid (own_set (i := 1) (own_set (i := 0) HN2.out (HR2.out.ne_own HN2.out (by decide)) (.slice (some ⟨gW, 0, none⟩) ws.length cW)) (HR2.out.ne_own HN2.out (by decide)) (.slice AN ns.length cN))
      have hbf := Lib.hid ((HB2.out.setCell (p := ⟨w.heap.size + 1, 0, none⟩) (by show w.heap.size ≤ w.heap.size + 1; omega) (.slice (some ⟨gW, 0, none⟩) ws.length cW)).setCell (p := ⟨w.heap.size + 1, 1, none⟩) (by show w.heap.size ≤ w.heap.size + 1; omega) (.slice AN ns.length cN))
      go_wp2_with fail
      refine bodyPost_ret (v := .agg #[.slice (some ⟨gW, 0, none⟩) ws.length cW, .slice AN ns.length cN]) (by simp [results, Try.results24, go_sem, hz0, hz1]) rfl ?_
      exact ⟨some ⟨gW, 0, none⟩, cW, AN, cN, ws.set k val, ns, by rw [Hlen.out], by rw [Hlen.out]; exact ho1.out, ho2.out, by rw [Hlen.out]; omega, by omega, hbf.out⟩
  · have hc0 : W3.cell? ⟨w.heap.size + 1 + 1, 0, none⟩ = some (.slice AW ws.length cW) := HO.out.cell 0
    have hc1 : W3.cell? ⟨w.heap.size + 1 + 1, 1, none⟩ = some (.slice AN ns.length cN) := HO.out.cell 1
    have hw3 := HB.out.size
    have hrow := HO.out.ne_own HN.out (by decide)
    have hwrap : IntKind.i64.wrap ((ws.length : Int) - 1) = (ws.length : Int) - 1 := IntWalk.i64_in _ (by omega)
    go_upto_region 23 with (at_builtin; refine wpList_app2 (w := W3) rfl _ _ rfl elt_tri HN.out hw3 rfl rfl (by simp) rfl rfl (by omega) ?_; intro v4 W4 hown4 hg4 hz4; obtain ⟨A4, c4, rfl⟩ := own_slice hown4; have ho0 : W4.cell? ⟨w.heap.size + 1 + 1, 1, none⟩ = some (.slice AN ns.length cN) := (HO.out.grown hg4 hrow).cell 1; have hof := (HO.out.grown hg4 hrow).frozen 1)
    have hO4 := HO.out.grown hg4 hrow
    have hR4 := HR.out.grown hg4 (HR.out.ne_own HN.out (by decide))
    have hB4 := HB.out.grown hg4 hw3 (fun k hk => (HN.out.lt k hk).1)
    have hW4 := own_grown HW.out hg4 (own_ne HW.out HN.out (by decide))
    have hN4 := hown4
    have HO2 := Lib.hid (hO4.set_ 1 (.slice A4 (ns.length + 1) c4))
    have HR2 := Lib.hid (hR4.far (p := ⟨w.heap.size + 1 + 1, 1, none⟩) (by show w.heap.size + 1 ≠ w.heap.size + 1 + 1; omega) (.slice A4 (ns.length + 1) c4))
    have HB2 := Lib.hid (hB4.setCell (p := ⟨w.heap.size + 1 + 1, 1, none⟩) (by show w.heap.size ≤ w.heap.size + 1 + 1; omega) (.slice A4 (ns.length + 1) c4))
    have HW2 := Lib.hid (own_set (i := 1) hW4 (hO4.ne_own hW4 (by decide)) (.slice A4 (ns.length + 1) c4))
    have HN2 := Lib.hid (own_set (i := 1) hN4 (hO4.ne_own hN4 (by decide)) (.slice A4 (ns.length + 1) c4))
    have Hlen : Hid ((ns ++ [((k : Int), (ws.length : Int) - 1, by_)]).length = ns.length + 1) := by show _ = _; simp
    clear hO4 hR4 hB4 hW4 hN4 hown4 hg4 ho0 hof hc0 hc1 hrow
    generalize W4.setCell ⟨w.heap.size + 1 + 1, 1, none⟩ (.slice A4 (ns.length + 1) c4) = WF at *
    have hfc0 : WF.cell? ⟨w.heap.size + 1 + 1, 0, none⟩ = some (.slice AW ws.length cW) := HO2.out.cell 0
    have hfc1 : WF.cell? ⟨w.heap.size + 1 + 1, 1, none⟩ = some (.slice A4 (ns.length + 1) c4) := HO2.out.cell 1
    have hr0 : WF.cell? ⟨w.heap.size + 1, 0, none⟩ = some (.slice none 0 0) := HR2.out.cell 0
    have hr1 : WF.cell? ⟨w.heap.size + 1, 1, none⟩ = some (.slice none 0 0) := HR2.out.cell 1
    have hf0 := HR2.out.frozen 0
    have hf1 := HR2.out.frozen 1
    have hz0 := ((HR2.out.set_ 0 (.slice AW ws.length cW)).set_ 1 (.slice A4 (ns.length + 1) c4)).cell 0
    have hz1 := ((HR2.out.set_ 0 (.slice AW ws.length cW)).set_ 1 (.slice A4 (ns.length + 1) c4)).cell 1
    have ho1 := Lib.hid (own_set (i := 1) (own_set (i := 0) HW2.out (HR2.out.ne_own HW2.out (by decide)) (.slice AW ws.length cW)) (HR2.out.ne_own HW2.out (by decide)) (.slice A4 (ns.length + 1) c4))
    have ho2 := Lib.hid (own_set (i := 1) (own_set (i := 0) HN2.out (HR2.out.ne_own HN2.out (by decide)) (.slice AW ws.length cW)) (HR2.out.ne_own HN2.out (by decide)) (.slice A4 (ns.length + 1) c4))
    have hbf := Lib.hid ((HB2.out.setCell (p := ⟨w.heap.size + 1, 0, none⟩) (by show w.heap.size ≤ w.heap.size + 1; omega) (.slice AW ws.length cW)).setCell (p := ⟨w.heap.size + 1, 1, none⟩) (by show w.heap.size ≤ w.heap.size + 1; omega) (.slice A4 (ns.length + 1) c4))
    go_wp2_with fail
    refine bodyPost_ret (v := .agg #[.slice AW ws.length cW, .slice A4 (ns.length + 1) c4]) (by simp [results, Try.results24, go_sem, hz0, hz1]) rfl ?_
    exact ⟨AW, cW, A4, c4, ws, ns ++ [((k : Int), (ws.length : Int) - 1, by_)], by rw [Hlen.out], ho1.out, by rw [Hlen.out, triC_append]; exact ho2.out, by omega, by simp; omega, hbf.out⟩
  · obtain ⟨hr1, hr2⟩ := around_bd by_ ((ws.length : Int) + 1) (by omega)
    have Har := Lib.hid (around_any by_ ((ws.length : Int) + 1) W3.drew h3.1 h3.2 (by omega) (by omega))
    generalize around by_ ((ws.length : Int) + 1) = r at *
    have hwrap : IntKind.i64.wrap ((ws.length : Int) + 1) = (ws.length : Int) + 1 := IntWalk.i64_in _ (by omega)
    have hc0 : W3.cell? ⟨w.heap.size + 1 + 1, 0, none⟩ = some (.slice AW ws.length cW) := HO.out.cell 0
    have hc1 : W3.cell? ⟨w.heap.size + 1 + 1, 1, none⟩ = some (.slice AN ns.length cN) := HO.out.cell 1
    have hw3 := HB.out.size
    go_upto_region 14 with fail
    have HS0 := Lib.hid (And.intro (show W3.drew.cell? ⟨w.heap.size + 1 + 1, 0, none⟩ = some (.slice AW ws.length cW) from hc0) (show W3.drew.cell? ⟨w.heap.size + 1 + 1, 1, none⟩ = some (.slice AN ns.length cN) from hc1))
    have hO3 : Bk ((W3.alloc (.cells #[.int .i64 k, .int .i64 r, .int .i64 1] 52)).drew) (w.heap.size + 1 + 1) 30 #[.slice AW ws.length cW, .slice AN ns.length cN] := HO.out.alloc _
    have hR3 : Bk ((W3.alloc (.cells #[.int .i64 k, .int .i64 r, .int .i64 1] 52)).drew) (w.heap.size + 1) 30 #[.slice none 0 0, .slice none 0 0] := HR.out.alloc _
    have hW3 : ((W3.alloc (.cells #[.int .i64 k, .int .i64 r, .int .i64 1] 52)).drew).ownsRow w.heap.size 3 1 (.slice AW ws.length cW) ws.length (ws.map (Value.int .i64)) := HW.out.alloc _
    have hB3 : Below w.heap.size w ((W3.alloc (.cells #[.int .i64 k, .int .i64 r, .int .i64 1] 52)).drew) := (HB.out.alloc hw3 _).drew
    have hown2 : ((W3.alloc (.cells #[.int .i64 k, .int .i64 r, .int .i64 1] 52)).drew).ownsRow w.heap.size 52 3 (.slice (some ⟨W3.heap.size, 0, none⟩) 1 1) 1 [.int .i64 k, .int .i64 r, .int .i64 1] := own_lit (Bk.new W3 52 #[.int .i64 k, .int .i64 r, .int .i64 1] : Bk ((W3.alloc (.cells #[.int .i64 k, .int .i64 r, .int .i64 1] 52)).drew) _ _ _) rfl hw3
    have hsl : SL ((W3.alloc (.cells #[.int .i64 k, .int .i64 r, .int .i64 1] 52)).drew) AN (triC ns) := SL.of_own (HN.out.alloc (.cells #[.int .i64 k, .int .i64 r, .int .i64 1] 52) : ((W3.alloc (.cells #[.int .i64 k, .int .i64 r, .int .i64 1] 52)).drew).ownsRow _ _ _ _ _ _)
    have hbb : w.heap.size ≤ ((W3.alloc (.cells #[.int .i64 k, .int .i64 r, .int .i64 1] 52)).drew).heap.size := hB3.size
    have hSa : ((W3.alloc (.cells #[.int .i64 k, .int .i64 r, .int .i64 1] 52)).drew).cell? ⟨w.heap.size + 1 + 1, 0, none⟩ = some (.slice AW ws.length cW) ∧ ((W3.alloc (.cells #[.int .i64 k, .int .i64 r, .int .i64 1] 52)).drew).cell? ⟨w.heap.size + 1 + 1, 1, none⟩ = some (.slice AN ns.length cN) := ⟨hO3.cell 0, hO3.cell 1⟩
    have Hall := Lib.hid (And.intro hown2 (And.intro hsl (And.intro hO3 (And.intro hR3 (And.intro hW3 hB3)))))
    clear hown2 hsl hO3 hR3 hW3 hB3
    refine wp_region_noPanic ?_
    refine region_T (s := 13) (S := fun W => W.cell? ⟨w.heap.size + 1 + 1, 0, none⟩ = some (.slice AW ws.length cW) ∧ W.cell? ⟨w.heap.size + 1 + 1, 1, none⟩ = some (.slice AN ns.length cN)) (by kernel_rfl) ?_
    change wpT _ _ _ _ _ 14 _ _ W3.drew
    refine T_take (k := 0) (v := .int .i64 k) rfl (by decide +kernel) (fun _ _ _ h => h) (Or.inl ⟨by rfl, fun W hW => by obtain ⟨s0, s1⟩ := hW; go_simp⟩) HS0.out ?_
    try simp only [Act.put, List.setIfInBounds_toArray, List.set_cons_zero, List.set_cons_succ]
    refine T_take (k := 1) (v := .int .i64 by_) rfl (by decide +kernel) (fun _ _ _ h => h) (Or.inl ⟨by rfl, fun W hW => by obtain ⟨s0, s1⟩ := hW; go_simp⟩) HS0.out ?_
    try simp only [Act.put, List.setIfInBounds_toArray, List.set_cons_zero, List.set_cons_succ]
    refine T_take (k := 2) (v := .pointer (some ⟨w.heap.size + 1 + 1, 0, none⟩)) rfl (by decide +kernel) (fun _ _ _ h => h) (Or.inl ⟨by rfl, fun W hW => by obtain ⟨s0, s1⟩ := hW; go_simp⟩) HS0.out ?_
    try simp only [Act.put, List.setIfInBounds_toArray, List.set_cons_zero, List.set_cons_succ]
    refine T_take (k := 3) (v := .slice AW ws.length cW) rfl (by decide +kernel) (fun _ _ _ h => h) (Or.inl ⟨by rfl, fun W hW => by obtain ⟨s0, s1⟩ := hW; go_simp⟩) HS0.out ?_
    try simp only [Act.put, List.setIfInBounds_toArray, List.set_cons_zero, List.set_cons_succ]
    refine T_take (k := 4) (v := .int .i64 ws.length) rfl (by decide +kernel) (fun _ _ _ h => h) (Or.inl ⟨by rfl, fun W hW => by obtain ⟨s0, s1⟩ := hW; go_simp⟩) HS0.out ?_
    try simp only [Act.put, List.setIfInBounds_toArray, List.set_cons_zero, List.set_cons_succ]
    refine T_take (k := 5) (v := .int .i64 ((ws.length : Int) + 1)) rfl (by decide +kernel) (fun _ _ _ h => h) (Or.inl ⟨by rfl, fun W hW => by obtain ⟨s0, s1⟩ := hW; go_simp⟩) HS0.out ?_
    try simp only [Act.put, List.setIfInBounds_toArray, List.set_cons_zero, List.set_cons_succ]
    refine T_take (k := 9) (v := .pointer (some ⟨w.heap.size + 1 + 1, 1, none⟩)) rfl (by decide +kernel) (fun _ _ _ h => h) (Or.inl ⟨by rfl, fun W hW => by obtain ⟨s0, s1⟩ := hW; go_simp⟩) HS0.out ?_
    try simp only [Act.put, List.setIfInBounds_toArray, List.set_cons_zero, List.set_cons_succ]
    refine T_take (k := 10) (v := .slice AN ns.length cN) rfl (by decide +kernel) (fun _ _ _ h => h) (Or.inl ⟨by rfl, fun W hW => by obtain ⟨s0, s1⟩ := hW; go_simp⟩) HS0.out ?_
    try simp only [Act.put, List.setIfInBounds_toArray, List.set_cons_zero, List.set_cons_succ]
    refine T_one (i := 6) (by decide +kernel) rfl rfl (fun K0 hK0 => ?_)
    have hK0 := Lib.hid hK0
    go_simp
    go_at_call 20
    refine Har.out.mono ?_
    rintro e w' ⟨rfl, rfl⟩
    refine hK0.out _ _ HS0.out ?_
    try simp only [Act.put, List.setIfInBounds_toArray, List.set_cons_zero, List.set_cons_succ]
    refine T_take (k := 7) (v := .agg #[.int .i64 k, .int .i64 r, .int .i64 1]) rfl (by decide +kernel) (fun _ _ _ h => h) (Or.inl ⟨by rfl, fun W hW => by obtain ⟨s0, s1⟩ := hW; go_simp⟩) HS0.out ?_
    try simp only [Act.put, List.setIfInBounds_toArray, List.set_cons_zero, List.set_cons_succ]
    refine T_one (i := 8) (by decide +kernel) rfl rfl (fun K hK => ?_)
    have hK := Lib.hid hK
    go_simp
    refine hK.out _ _ hSa ?_
    try simp only [Act.put, List.setIfInBounds_toArray, List.set_cons_zero, List.set_cons_succ]
    refine T_one (i := 11) (by decide +kernel) rfl rfl (fun K2 hK2 => ?_)
    have hK2 := Lib.hid hK2
    refine app_wpM (us := triC ns) (m := ns.length) (c := cN) (B := AN) (v := .slice (some ⟨W3.heap.size, 0, none⟩) 1 1) (.tmp 79) (.tmp 81) rfl elt_tri Hall.out.1 hbb (by simp [Act.eval]) (by simp [Act.eval]) Hall.out.2.1 (triC_len ns) (triC_all ns) (by omega) ?_
    intro v4 W4 hown4 hg4
    obtain ⟨A4, c4, rfl⟩ := own_slice hown4
    have hrow3 := Hall.out.2.2.1.ne_own Hall.out.1 (by decide)
    have hO4 := Hall.out.2.2.1.grown hg4 hrow3
    have hS4 : W4.cell? ⟨w.heap.size + 1 + 1, 0, none⟩ = some (.slice AW ws.length cW) ∧ W4.cell? ⟨w.heap.size + 1 + 1, 1, none⟩ = some (.slice AN ns.length cN) := ⟨hO4.cell 0, hO4.cell 1⟩
    have hq0 := hS4.2
    have hq1 := hO4.frozen 1
    refine hK2.out _ _ hS4 ?_
    try simp only [Act.put, List.setIfInBounds_toArray, List.set_cons_zero, List.set_cons_succ]
    refine T_take (k := 12) (v := .pointer (some ⟨w.heap.size + 1 + 1, 1, none⟩)) rfl (by decide +kernel) (fun _ _ _ h => h) (Or.inl ⟨by rfl, fun W hW => by obtain ⟨s0, s1⟩ := hW; go_simp⟩) hS4 ?_
    try simp only [Act.put, List.setIfInBounds_toArray, List.set_cons_zero, List.set_cons_succ]
    clear hS4 hK2 hK HS0 hSa
    refine T_last (by decide +kernel) (by decide +kernel) (by decide +kernel) rfl rfl (fun K3 hK3 => ?_)
    have hK3 := Lib.hid hK3
    go_simp
    refine hK3.out _ _ (NoPanic.normal ?_)
    try simp only [Act.put, List.setIfInBounds_toArray, List.set_cons_zero, List.set_cons_succ]
    clear hK3
    have hR4 := Hall.out.2.2.2.1.grown hg4 (Hall.out.2.2.2.1.ne_own Hall.out.1 (by decide))
    have hB4 := Hall.out.2.2.2.2.2.grown hg4 hbb (fun k hk => (Hall.out.1.lt k hk).1)
    have hW4 := own_grown Hall.out.2.2.2.2.1 hg4 (own_ne Hall.out.2.2.2.2.1 Hall.out.1 (by decide))
    have hN4 := hown4
    have HO2 := Lib.hid (hO4.set_ 1 (.slice A4 (1 + ns.length) c4))
    have HR2 := Lib.hid (hR4.far (p := ⟨w.heap.size + 1 + 1, 1, none⟩) (by show w.heap.size + 1 ≠ w.heap.size + 1 + 1; omega) (.slice A4 (1 + ns.length) c4))
    have HB2 := Lib.hid (hB4.setCell (p := ⟨w.heap.size + 1 + 1, 1, none⟩) (by show w.heap.size ≤ w.heap.size + 1 + 1; omega) (.slice A4 (1 + ns.length) c4))
    have HW2 := Lib.hid (own_set (i := 1) hW4 (hO4.ne_own hW4 (by decide)) (.slice A4 (1 + ns.length) c4))
    have HN2 := Lib.hid (own_set (i := 1) hN4 (hO4.ne_own hN4 (by decide)) (.slice A4 (1 + ns.length) c4))
    have Hlen : Hid (((((k : Int), r, 1) : Int × Int × Int) :: ns).length = 1 + ns.length) := by show _ = _; simp; omega
    clear hO4 hR4 hB4 hW4 hN4 hown4 hg4 hq0 hq1 hrow3 hc0 hc1 Hall
    generalize W4.setCell ⟨w.heap.size + 1 + 1, 1, none⟩ (.slice A4 (1 + ns.length) c4) = WF at *
    go_upto_region 23 with fail
    have hfc0 : WF.cell? ⟨w.heap.size + 1 + 1, 0, none⟩ = some (.slice AW ws.length cW) := HO2.out.cell 0
    have hfc1 : WF.cell? ⟨w.heap.size + 1 + 1, 1, none⟩ = some (.slice A4 (1 + ns.length) c4) := HO2.out.cell 1
    have hr0 : WF.cell? ⟨w.heap.size + 1, 0, none⟩ = some (.slice none 0 0) := HR2.out.cell 0
    have hr1 : WF.cell? ⟨w.heap.size + 1, 1, none⟩ = some (.slice none 0 0) := HR2.out.cell 1
    have hf0 := HR2.out.frozen 0
    have hf1 := HR2.out.frozen 1
    have hz0 := ((HR2.out.set_ 0 (.slice AW ws.length cW)).set_ 1 (.slice A4 (1 + ns.length) c4)).cell 0
    have hz1 := ((HR2.out.set_ 0 (.slice AW ws.length cW)).set_ 1 (.slice A4 (1 + ns.length) c4)).cell 1
    have ho1 := Lib.hid (own_set (i := 1) (own_set (i := 0) HW2.out (HR2.out.ne_own HW2.out (by decide)) (.slice AW ws.length cW)) (HR2.out.ne_own HW2.out (by decide)) (.slice A4 (1 + ns.length) c4))
    have ho2 := Lib.hid (own_set (i := 1) (own_set (i := 0) HN2.out (HR2.out.ne_own HN2.out (by decide)) (.slice AW ws.length cW)) (HR2.out.ne_own HN2.out (by decide)) (.slice A4 (1 + ns.length) c4))
    have hbf := Lib.hid ((HB2.out.setCell (p := ⟨w.heap.size + 1, 0, none⟩) (by show w.heap.size ≤ w.heap.size + 1; omega) (.slice AW ws.length cW)).setCell (p := ⟨w.heap.size + 1, 1, none⟩) (by show w.heap.size ≤ w.heap.size + 1; omega) (.slice A4 (1 + ns.length) c4))
    go_wp2_with fail
    refine bodyPost_ret (v := .agg #[.slice AW ws.length cW, .slice A4 (1 + ns.length) c4]) (by simp [results, Try.results24, go_sem, hz0, hz1]) rfl ?_
    exact ⟨AW, cW, A4, c4, ws, ((k : Int), r, 1) :: ns, by rw [Hlen.out], ho1.out, by rw [Hlen.out]; exact ho2.out, by omega, by simp; omega, hbf.out⟩
  · have hc1 : W3.cell? ⟨w.heap.size + 1 + 1, 1, none⟩ = some (.slice AN ns.length cN) := HO.out.cell 1
    by_cases hn0 : ns.length = 0
    · have hn1 : ns.length ≤ 0 := by omega
      clear hn0
      go_upto_region 23 with fail
      have hfc0 : W3.cell? ⟨w.heap.size + 1 + 1, 0, none⟩ = some (.slice AW ws.length cW) := HO.out.cell 0
      have hfc1 : W3.cell? ⟨w.heap.size + 1 + 1, 1, none⟩ = some (.slice AN ns.length cN) := HO.out.cell 1
      have hr0 : W3.cell? ⟨w.heap.size + 1, 0, none⟩ = some (.slice none 0 0) := HR.out.cell 0
      have hr1 : W3.cell? ⟨w.heap.size + 1, 1, none⟩ = some (.slice none 0 0) := HR.out.cell 1
      have hf0 := HR.out.frozen 0
      have hf1 := HR.out.frozen 1
      have hz0 := ((HR.out.set_ 0 (.slice AW ws.length cW)).set_ 1 (.slice AN ns.length cN)).cell 0
      have hz1 := ((HR.out.set_ 0 (.slice AW ws.length cW)).set_ 1 (.slice AN ns.length cN)).cell 1
      have ho1 := Lib.hid (own_set (i := 1) (own_set (i := 0) HW.out (HR.out.ne_own HW.out (by decide)) (.slice AW ws.length cW)) (HR.out.ne_own HW.out (by decide)) (.slice AN ns.length cN))
      have ho2 := Lib.hid (own_set (i := 1) (own_set (i := 0) HN.out (HR.out.ne_own HN.out (by decide)) (.slice AW ws.length cW)) (HR.out.ne_own HN.out (by decide)) (.slice AN ns.length cN))
      have hbf := Lib.hid ((HB.out.setCell (p := ⟨w.heap.size + 1, 0, none⟩) (by show w.heap.size ≤ w.heap.size + 1; omega) (.slice AW ws.length cW)).setCell (p := ⟨w.heap.size + 1, 1, none⟩) (by show w.heap.size ≤ w.heap.size + 1; omega) (.slice AN ns.length cN))
      go_wp2_with fail
      refine bodyPost_ret (v := .agg #[.slice AW ws.length cW, .slice AN ns.length cN]) (by simp [results, Try.results24, go_sem, hz0, hz1]) rfl ?_
      exact ⟨AW, cW, AN, cN, ws, ns, rfl, ho1.out, ho2.out, by omega, by omega, hbf.out⟩
    · have hn1 : 0 < ns.length := by omega
      have Ha4 := Lib.hid (around_any at_ ns.length W3 h1.1 h1.2 (by omega) (by omega))
      obtain ⟨hk1, hk2⟩ := around_bd at_ ns.length (by omega)
      obtain ⟨i4, hk⟩ := Int.eq_ofNat_of_zero_le hk1
      rw [hk] at Ha4 hk2
      clear hk1 hk hn0
      have hil : i4 < ns.length := by omega
      obtain ⟨gN, o, ta, tb, tz, rfl, hd0, hd1, hd2, ht⟩ := ST.get (SL.of_own HN.out : ST W3 AN ns) hil
      have j0 : (0 : Int) ≤ (i4 : Int) := by omega
      go_upto_region 22 with (go_at_call 20; refine Ha4.out.mono ?_; rintro e w' ⟨rfl, rfl⟩)
      have hw3 := HB.out.size
      have hrow := HO.out.ne_own HN.out (by decide)
      refine wp_region_noPanic ?_
      refine region_T (s := 10) (S := fun W => W.cell? ⟨w.heap.size + 1 + 1, 1, none⟩ = some (.slice (some ⟨gN, o, none⟩) ns.length cN)) (by kernel_rfl) ?_
      change wpT _ _ _ _ _ 11 _ _ W3.drew
      have HS0 := Lib.hid (show W3.drew.cell? ⟨w.heap.size + 1 + 1, 1, none⟩ = some (.slice (some ⟨gN, o, none⟩) ns.length cN) from hc1)
      have hSa : (W3.alloc (.cells #[.int .i64 ta, .int .i64 tb, .int .i64 tz] 52)).cell? ⟨w.heap.size + 1 + 1, 1, none⟩ = some (.slice (some ⟨gN, o, none⟩) ns.length cN) := (HO.out.alloc _).cell 1
      have hown2 : ((W3.alloc (.cells #[.int .i64 ta, .int .i64 tb, .int .i64 tz] 52)).drew).ownsRow w.heap.size 52 3 (.slice (some ⟨gN, o, none⟩) ns.length cN) ns.length (triC ns) := HN.out.alloc _
      have hk2 : Bk ((W3.alloc (.cells #[.int .i64 ta, .int .i64 tb, .int .i64 tz] 52)).drew) W3.heap.size 52 #[.int .i64 ta, .int .i64 tb, .int .i64 tz] := Bk.new _ _ _
      have hO3 : Bk ((W3.alloc (.cells #[.int .i64 ta, .int .i64 tb, .int .i64 tz] 52)).drew) (w.heap.size + 1 + 1) 30 #[.slice AW ws.length cW, .slice (some ⟨gN, o, none⟩) ns.length cN] := HO.out.alloc _
      have hR3 : Bk ((W3.alloc (.cells #[.int .i64 ta, .int .i64 tb, .int .i64 tz] 52)).drew) (w.heap.size + 1) 30 #[.slice none 0 0, .slice none 0 0] := HR.out.alloc _
      have hW3 : ((W3.alloc (.cells #[.int .i64 ta, .int .i64 tb, .int .i64 tz] 52)).drew).ownsRow w.heap.size 3 1 (.slice AW ws.length cW) ws.length (ws.map (Value.int .i64)) := HW.out.alloc _
      have hB3 : Below w.heap.size w ((W3.alloc (.cells #[.int .i64 ta, .int .i64 tb, .int .i64 tz] 52)).drew) := (HB.out.alloc hw3 _).drew
      have hbb : w.heap.size ≤ ((W3.alloc (.cells #[.int .i64 ta, .int .i64 tb, .int .i64 tz] 52)).drew).heap.size := hB3.size
      have Hall := Lib.hid (And.intro hown2 (And.intro hk2 (And.intro hO3 (And.intro hR3 (And.intro hW3 hB3)))))
      clear hown2 hk2 hO3 hR3 hW3 hB3
      refine T_take (k := 0) (v := .pointer (some ⟨w.heap.size + 1 + 1, 1, none⟩)) rfl (by decide +kernel) (fun _ _ _ h => h) (Or.inl ⟨by rfl, fun W hW => by go_simp⟩) HS0.out ?_
      try simp only [Act.put, List.setIfInBounds_toArray, List.set_cons_zero, List.set_cons_succ]
      refine T_take (k := 1) (v := .slice (some ⟨gN, o, none⟩) ns.length cN) rfl (by decide +kernel) (fun _ _ _ h => h) (Or.inl ⟨by rfl, fun W hW => by go_simp⟩) HS0.out ?_
      try simp only [Act.put, List.setIfInBounds_toArray, List.set_cons_zero, List.set_cons_succ]
      refine T_take (k := 2) (v := .pointer (some ⟨w.heap.size + 1 + 1, 1, none⟩)) rfl (by decide +kernel) (fun _ _ _ h => h) (Or.inl ⟨by rfl, fun W hW => by go_simp⟩) HS0.out ?_
      try simp only [Act.put, List.setIfInBounds_toArray, List.set_cons_zero, List.set_cons_succ]
      refine T_take (k := 3) (v := .slice (some ⟨gN, o, none⟩) ns.length cN) rfl (by decide +kernel) (fun _ _ _ h => h) (Or.inl ⟨by rfl, fun W hW => by go_simp⟩) HS0.out ?_
      try simp only [Act.put, List.setIfInBounds_toArray, List.set_cons_zero, List.set_cons_succ]
      refine T_take (k := 4) (v := .int .i64 i4) rfl (by decide +kernel) (fun _ _ _ h => h) (Or.inl ⟨by rfl, fun W hW => by go_simp⟩) HS0.out ?_
      try simp only [Act.put, List.setIfInBounds_toArray, List.set_cons_zero, List.set_cons_succ]
      refine T_take (k := 5) (v := .pointer (some ⟨gN, o + i4 * 3, none⟩)) rfl (by decide +kernel) (fun _ _ _ h => h) (Or.inl ⟨by rfl, fun W hW => by go_simp⟩) HS0.out ?_
      try simp only [Act.put, List.setIfInBounds_toArray, List.set_cons_zero, List.set_cons_succ]
      refine T_one (i := 6) (by decide +kernel) rfl rfl (fun K0 hK0 => ?_)
      have hK0 := Lib.hid hK0
      go_simp
      refine hK0.out _ _ HS0.out ?_
      try simp only [Act.put, List.setIfInBounds_toArray, List.set_cons_zero, List.set_cons_succ]
      refine T_one (i := 7) (by decide +kernel) rfl rfl (fun K hK => ?_)
      have hK := Lib.hid hK
      go_simp
      refine hK.out _ _ hSa ?_
      try simp only [Act.put, List.setIfInBounds_toArray, List.set_cons_zero, List.set_cons_succ]
      refine T_one (i := 8) (by decide +kernel) rfl rfl (fun K2 hK2 => ?_)
      have hK2 := Lib.hid hK2
      refine app_wp (us := [.int .i64 ta, .int .i64 tb, .int .i64 tz]) (c := 1) (H := W3.heap.size) (v := .slice (some ⟨gN, o, none⟩) ns.length cN) (.tmp 121) (.tmp 127) rfl elt_tri (by simp [Act.eval]) (by simp [Act.eval]) Hall.out.1 Hall.out.2.1 rfl rfl (by omega) hbb ?_
      intro v4 W4 hown4 hg4
      obtain ⟨A4, c4, rfl⟩ := own_slice hown4
      have hrow3 := Hall.out.2.2.1.ne_own Hall.out.1 (by decide)
      have hO4 := Hall.out.2.2.1.grown hg4 hrow3
      have hS4 : W4.cell? ⟨w.heap.size + 1 + 1, 1, none⟩ = some (.slice (some ⟨gN, o, none⟩) ns.length cN) := hO4.cell 1
      have hq0 := hS4
      have hq1 := hO4.frozen 1
      refine hK2.out _ _ hS4 ?_
      try simp only [Act.put, List.setIfInBounds_toArray, List.set_cons_zero, List.set_cons_succ]
      refine T_take (k := 9) (v := .pointer (some ⟨w.heap.size + 1 + 1, 1, none⟩)) rfl (by decide +kernel) (fun _ _ _ h => h) (Or.inl ⟨by rfl, fun W hW => by go_simp⟩) hS4 ?_
      try simp only [Act.put, List.setIfInBounds_toArray, List.set_cons_zero, List.set_cons_succ]
      clear hS4 hK2 hK HS0 hSa
      refine T_last (by decide +kernel) (by decide +kernel) (by decide +kernel) rfl rfl (fun K3 hK3 => ?_)
      have hK3 := Lib.hid hK3
      go_simp
      refine hK3.out _ _ (NoPanic.normal ?_)
      try simp only [Act.put, List.setIfInBounds_toArray, List.set_cons_zero, List.set_cons_succ]
      clear hK3
      have hR4 := Hall.out.2.2.2.1.grown hg4 (Hall.out.2.2.2.1.ne_own Hall.out.1 (by decide))
      have hB4 := Hall.out.2.2.2.2.2.grown hg4 hbb (fun k hk => (Hall.out.1.lt k hk).1)
      have hW4 := own_grown Hall.out.2.2.2.2.1 hg4 (own_ne Hall.out.2.2.2.2.1 Hall.out.1 (by decide))
      have hN4 := hown4
      have HO2 := Lib.hid (hO4.set_ 1 (.slice A4 (ns.length + 1) c4))
      have HR2 := Lib.hid (hR4.far (p := ⟨w.heap.size + 1 + 1, 1, none⟩) (by show w.heap.size + 1 ≠ w.heap.size + 1 + 1; omega) (.slice A4 (ns.length + 1) c4))
      have HB2 := Lib.hid (hB4.setCell (p := ⟨w.heap.size + 1 + 1, 1, none⟩) (by show w.heap.size ≤ w.heap.size + 1 + 1; omega) (.slice A4 (ns.length + 1) c4))
      have HW2 := Lib.hid (own_set (i := 1) hW4 (hO4.ne_own hW4 (by decide)) (.slice A4 (ns.length + 1) c4))
      have HN2 := Lib.hid (own_set (i := 1) hN4 (hO4.ne_own hN4 (by decide)) (.slice A4 (ns.length + 1) c4))
      have Hlen : Hid ((ns ++ [(ta, tb, tz)]).length = ns.length + 1) := by show _ = _; simp
      clear hO4 hR4 hB4 hW4 hN4 hown4 hg4 hq0 hq1 hrow hrow3 hc1 hd0 hd1 hd2 Hall
      generalize W4.setCell ⟨w.heap.size + 1 + 1, 1, none⟩ (.slice A4 (ns.length + 1) c4) = WF at *
      go_upto_region 23 with fail
      have hfc0 : WF.cell? ⟨w.heap.size + 1 + 1, 0, none⟩ = some (.slice AW ws.length cW) := HO2.out.cell 0
      have hfc1 : WF.cell? ⟨w.heap.size + 1 + 1, 1, none⟩ = some (.slice A4 (ns.length + 1) c4) := HO2.out.cell 1
      have hr0 : WF.cell? ⟨w.heap.size + 1, 0, none⟩ = some (.slice none 0 0) := HR2.out.cell 0
      have hr1 : WF.cell? ⟨w.heap.size + 1, 1, none⟩ = some (.slice none 0 0) := HR2.out.cell 1
      have hf0 := HR2.out.frozen 0
      have hf1 := HR2.out.frozen 1
      have hz0 := ((HR2.out.set_ 0 (.slice AW ws.length cW)).set_ 1 (.slice A4 (ns.length + 1) c4)).cell 0
      have hz1 := ((HR2.out.set_ 0 (.slice AW ws.length cW)).set_ 1 (.slice A4 (ns.length + 1) c4)).cell 1
      have ho1 := Lib.hid (own_set (i := 1) (own_set (i := 0) HW2.out (HR2.out.ne_own HW2.out (by decide)) (.slice AW ws.length cW)) (HR2.out.ne_own HW2.out (by decide)) (.slice A4 (ns.length + 1) c4))
      have ho2 := Lib.hid (own_set (i := 1) (own_set (i := 0) HN2.out (HR2.out.ne_own HN2.out (by decide)) (.slice AW ws.length cW)) (HR2.out.ne_own HN2.out (by decide)) (.slice A4 (ns.length + 1) c4))
      have hbf := Lib.hid ((HB2.out.setCell (p := ⟨w.heap.size + 1, 0, none⟩) (by show w.heap.size ≤ w.heap.size + 1; omega) (.slice AW ws.length cW)).setCell (p := ⟨w.heap.size + 1, 1, none⟩) (by show w.heap.size ≤ w.heap.size + 1; omega) (.slice A4 (ns.length + 1) c4))
      go_wp2_with fail
      refine bodyPost_ret (v := .agg #[.slice AW ws.length cW, .slice A4 (ns.length + 1) c4]) (by simp [results, Try.results24, go_sem, hz0, hz1]) rfl ?_
      exact ⟨AW, cW, A4, c4, ws, ns ++ [(ta, tb, tz)], by rw [Hlen.out], ho1.out, by rw [Hlen.out, triC_append]; exact ho2.out, by omega, by simp; omega, hbf.out⟩
  · have hc0 : W3.cell? ⟨w.heap.size + 1 + 1, 0, none⟩ = some (.slice AW ws.length cW) := HO.out.cell 0
    have hof := HO.out.frozen 0
    have hcap := own_cap HW.out
    have i0 : (0 : Int) ≤ (k : Int) := by omega
    have i1 : (k : Int) ≤ cW := by omega
    have i2 : k ≤ cW := by omega
    obtain ⟨gW, cW', hv, _, _⟩ := HW.out.form (by omega)
    injection hv with hv1 hv2 hv3
    subst hv1 hv3
    have hrr := (Bk.ne_own HO.out HW.out (by decide))
    have HO2 := Lib.hid (HO.out.set_ 0 (.slice (some ⟨gW, 0, none⟩) k cW))
    have HR2 := Lib.hid (HR.out.far (p := ⟨w.heap.size + 1 + 1, 0, none⟩) (by show w.heap.size + 1 ≠ w.heap.size + 1 + 1; omega) (.slice (some ⟨gW, 0, none⟩) k cW))
    have HB2 := Lib.hid (HB.out.setCell (p := ⟨w.heap.size + 1 + 1, 0, none⟩) (by show w.heap.size ≤ w.heap.size + 1 + 1; omega) (.slice (some ⟨gW, 0, none⟩) k cW))
    have HW2 := Lib.hid (own_set (i := 0) HW.out hrr (.slice (some ⟨gW, 0, none⟩) k cW))
    have HN2 := Lib.hid (own_set (i := 0) HN.out (HO.out.ne_own HN.out (by decide)) (.slice (some ⟨gW, 0, none⟩) k cW))
    go_upto_region 23 with fail
    generalize W3.setCell ⟨w.heap.size + 1 + 1, 0, none⟩ (.slice (some ⟨gW, 0, none⟩) k cW) = WF at *
    have hfc0 : WF.cell? ⟨w.heap.size + 1 + 1, 0, none⟩ = some (.slice (some ⟨gW, 0, none⟩) k cW) := HO2.out.cell 0
    have hfc1 : WF.cell? ⟨w.heap.size + 1 + 1, 1, none⟩ = some (.slice AN ns.length cN) := HO2.out.cell 1
    have hr0 : WF.cell? ⟨w.heap.size + 1, 0, none⟩ = some (.slice none 0 0) := HR2.out.cell 0
    have hr1 : WF.cell? ⟨w.heap.size + 1, 1, none⟩ = some (.slice none 0 0) := HR2.out.cell 1
    have hf0 := HR2.out.frozen 0
    have hf1 := HR2.out.frozen 1
    have hz0 := ((HR2.out.set_ 0 (.slice (some ⟨gW, 0, none⟩) k cW)).set_ 1 (.slice AN ns.length cN)).cell 0
    have hz1 := ((HR2.out.set_ 0 (.slice (some ⟨gW, 0, none⟩) k cW)).set_ 1 (.slice AN ns.length cN)).cell 1
    have ho1 := Lib.hid (own_set (i := 1) (own_set (i := 0) HW2.out (HR2.out.ne_own HW2.out (by decide)) (.slice (some ⟨gW, 0, none⟩) k cW)) (HR2.out.ne_own HW2.out (by decide)) (.slice AN ns.length cN))
    have ho2 := Lib.hid (own_set (i := 1) (own_set (i := 0) HN2.out (HR2.out.ne_own HN2.out (by decide)) (.slice (some ⟨gW, 0, none⟩) k cW)) (HR2.out.ne_own HN2.out (by decide)) (.slice AN ns.length cN))
    have hbf := Lib.hid ((HB2.out.setCell (p := ⟨w.heap.size + 1, 0, none⟩) (by show w.heap.size ≤ w.heap.size + 1; omega) (.slice (some ⟨gW, 0, none⟩) k cW)).setCell (p := ⟨w.heap.size + 1, 1, none⟩) (by show w.heap.size ≤ w.heap.size + 1; omega) (.slice AN ns.length cN))
    go_wp2_with fail
    refine bodyPost_ret (v := .agg #[.slice (some ⟨gW, 0, none⟩) k cW, .slice AN ns.length cN]) (by simp [results, Try.results24, go_sem, hz0, hz1]) rfl ?_
    exact ⟨some ⟨gW, 0, none⟩, cW, AN, cN, ws.take k, ns, by rw [List.length_take, Nat.min_eq_left (by omega)], by have h5 := own_take ho1.out (show k ≤ ws.length by omega); rw [Nat.mul_one, ← List.map_take] at h5; rw [List.length_take, Nat.min_eq_left (by omega)]; exact h5, ho2.out, by simp; omega, by omega, hbf.out⟩
end Go.Proofs.Ytmdgdphhedgojaa

namespace Go.Proofs.Ytmdgdphhedgojaa
open Go.RowKit Go.Maps

set_option linter.unusedSimpArgs false in
set_option maxHeartbeats 40000000 in
set_option maxRecDepth 100000 in
theorem spoilt_three (A B : Option Addr) (c d : Nat) (ws : List Int) (ns : List (Int × Int × Int)) (at_ how by_ : Int) (w : World) (hA : SI w A ws) (hB : ST w B ns) (hl0 : 1 ≤ ws.length) (hl1 : ws.length ≤ 4000) (hl2 : ns.length ≤ 16384)
    (h1 : -9223372036854775808 ≤ at_ ∧ at_ ≤ 9223372036854775807) (h2 : -9223372036854775808 ≤ how ∧ how ≤ 9223372036854775807) (h3 : -9223372036854775808 ≤ by_ ∧ by_ ≤ 9223372036854775807)
    (hne : around how 6 = 3) :
    Calls Try.prog 24 #[.agg #[.slice A ws.length c, .slice B ns.length d], .int .i64 at_, .int .i64 how, .int .i64 by_] w fun e w' => ∃ A1 c1 A2 c2 ws' ns', e = .returned (.agg #[.slice A1 (ws' : List Int).length c1, .slice A2 (ns' : List (Int × Int × Int)).length c2]) ∧ w'.ownsRow w.heap.size 3 1 (.slice A1 ws'.length c1) ws'.length (ws'.map (Value.int .i64)) ∧ w'.ownsRow w.heap.size 52 3 (.slice A2 ns'.length c2) ns'.length (triC ns') ∧ ws'.length ≤ 4096 ∧ ns'.length ≤ 20000 ∧ Below w.heap.size w w' := by
  go_enter Try.func24, Try.ntmps24
  have hi1 : SI (((w.alloc (.cells #[.slice A ws.length c, .slice B ns.length d] 30)).alloc (.cells #[.slice none 0 0, .slice none 0 0] 30)).alloc (.cells #[.slice none 0 0, .slice none 0 0] 30)) A ws := ((hA.alloc _).alloc _).alloc _
  have hi2 : ST (((w.alloc (.cells #[.slice A ws.length c, .slice B ns.length d] 30)).alloc (.cells #[.slice none 0 0, .slice none 0 0] 30)).alloc (.cells #[.slice none 0 0, .slice none 0 0] 30)) B ns := ((hB.alloc _).alloc _).alloc _
  have hbk0 := ((Bk.new w 30 #[.slice A ws.length c, .slice B ns.length d]).alloc (.cells #[.slice none 0 0, .slice none 0 0] 30)).alloc (.cells #[.slice none 0 0, .slice none 0 0] 30)
  have hbk1 := (Bk.new' (w.alloc (.cells #[.slice A ws.length c, .slice B ns.length d] 30)) 30 #[.slice none 0 0, .slice none 0 0] (g := w.heap.size + 1) (by simp)).alloc (.cells #[.slice none 0 0, .slice none 0 0] 30)
  have hbk2 := Bk.new' ((w.alloc (.cells #[.slice A ws.length c, .slice B ns.length d] 30)).alloc (.cells #[.slice none 0 0, .slice none 0 0] 30)) 30 #[.slice none 0 0, .slice none 0 0] (g := w.heap.size + 1 + 1) (by simp)
  have hb0 := ((((Below.refl w.heap.size w).alloc (Nat.le_refl _) (.cells #[.slice A ws.length c, .slice B ns.length d] 30)).alloc (by simp) (.cells #[.slice none 0 0, .slice none 0 0] 30)).alloc (by simp; omega) (.cells #[.slice none 0 0, .slice none 0 0] 30))
  go_upto_region 2 with fail
  generalize ((w.alloc (.cells #[.slice A ws.length c, .slice B ns.length d] 30)).alloc (.cells #[.slice none 0 0, .slice none 0 0] 30)).alloc (.cells #[.slice none 0 0, .slice none 0 0] 30) = W at *
  have hc0 : W.cell? ⟨w.heap.size, 0, none⟩ = some (.slice A ws.length c) := hbk0.cell 0
  have ho0 : W.cell? ⟨w.heap.size + 1 + 1, 0, none⟩ = some (.slice none 0 0) := hbk2.cell 0
  have Hi1 := Lib.hid hi1
  have Hi2 := Lib.hid hi2
  have H0 := Lib.hid hbk0
  have H1 := Lib.hid hbk1
  have H2 := Lib.hid hbk2
  have Hb := Lib.hid hb0
  have hws := hb0.size
  clear hi1 hi2 hbk0 hbk1 hbk2 hb0
  go_upto_region 3 with (at_builtin; refine wpList_appM (w := W) rfl _ _ rfl elt_int (World.ownsRow_nil W w.heap.size _ _) hws rfl rfl Hi1.out (by simp) (ints_all ws) (by omega) ?_; intro v1 W1 hown1 hg1; obtain ⟨AW, cW, rfl⟩ := own_slice hown1; have ho0 : W1.cell? ⟨w.heap.size + 1 + 1, 0, none⟩ = some (.slice none 0 0) := (H2.out.grown hg1 (by simp [Value.ownBlock])).cell 0; have hof := (H2.out.grown hg1 (by simp [Value.ownBlock])).frozen 0)
  simp only [Nat.zero_add, List.nil_append] at hown1
  try simp only [Nat.zero_add]
  have hbx := (Hb.out.grown hg1 hws (fun k hk => by simp [Value.ownBlock] at hk)).setCell (p := ⟨w.heap.size + 1 + 1, 0, none⟩) (by show w.heap.size ≤ w.heap.size + 1 + 1; omega) (.slice AW ws.length cW)
  have h0 := (H0.out.grown hg1 (by simp [Value.ownBlock])).far (p := ⟨w.heap.size + 1 + 1, 0, none⟩) (by show w.heap.size ≠ w.heap.size + 1 + 1; omega) (.slice AW ws.length cW)
  have h1x := (H1.out.grown hg1 (by simp [Value.ownBlock])).far (p := ⟨w.heap.size + 1 + 1, 0, none⟩) (by show w.heap.size + 1 ≠ w.heap.size + 1 + 1; omega) (.slice AW ws.length cW)
  have h2a := H2.out.grown hg1 (by simp [Value.ownBlock])
  have h2x := h2a.set_ 0 (.slice AW ws.length cW)
  have hoW := own_set (i := 0) hown1 (h2a.ne_own hown1 (by decide)) (.slice AW ws.length cW)
  clear hown1 hg1 ho0 hof hc0 H0 H1 H2 Hb Hi1 Hi2 hws h2a
  generalize W1.setCell ⟨w.heap.size + 1 + 1, 0, none⟩ (.slice AW ws.length cW) = W2 at *
  have hc1 : W2.cell? ⟨w.heap.size, 1, none⟩ = some (.slice B ns.length d) := h0.cell 1
  have ho1 : W2.cell? ⟨w.heap.size + 1 + 1, 1, none⟩ = some (.slice none 0 0) := h2x.cell 1
  have hw2 := hbx.size
  have Hi2 := Lib.hid (ST.below hB hbx)
  have H0 := Lib.hid h0
  have H1 := Lib.hid h1x
  have H2 := Lib.hid h2x
  have Hb := Lib.hid hbx
  have HoW := Lib.hid hoW
  clear h0 h1x h2x hbx hoW
  go_upto_region 4 with (at_builtin; refine wpList_appM (w := W2) rfl _ _ rfl elt_tri (World.ownsRow_nil W2 w.heap.size _ _) hw2 rfl rfl Hi2.out (triC_len ns) (triC_all ns) (by omega) ?_; intro v1 W1 hown1 hg1; obtain ⟨AN, cN, rfl⟩ := own_slice hown1; have ho0 : W1.cell? ⟨w.heap.size + 1 + 1, 1, none⟩ = some (.slice none 0 0) := (H2.out.grown hg1 (by simp [Value.ownBlock])).cell 1; have hof := (H2.out.grown hg1 (by simp [Value.ownBlock])).frozen 1)
  simp only [Nat.zero_add, List.nil_append] at hown1
  try simp only [Nat.zero_add]
  have hbx := (Hb.out.grown hg1 hw2 (fun k hk => by simp [Value.ownBlock] at hk)).setCell (p := ⟨w.heap.size + 1 + 1, 1, none⟩) (by show w.heap.size ≤ w.heap.size + 1 + 1; omega) (.slice AN ns.length cN)
  have h1x := (H1.out.grown hg1 (by simp [Value.ownBlock])).far (p := ⟨w.heap.size + 1 + 1, 1, none⟩) (by show w.heap.size + 1 ≠ w.heap.size + 1 + 1; omega) (.slice AN ns.length cN)
  have h2a := H2.out.grown hg1 (by simp [Value.ownBlock])
  have h2x := h2a.set_ 1 (.slice AN ns.length cN)
  have hoN := own_set (i := 1) hown1 (h2a.ne_own hown1 (by decide)) (.slice AN ns.length cN)
  have hoW1 := own_grown HoW.out hg1 (.inr (by
    intro h
    have := (HoW.out.form (by omega))
    obtain ⟨g, cap, hv, _, _⟩ := this
    rw [hv] at h
    simp [Value.ownBlock] at h))
  have hoW := own_set (i := 1) hoW1 (h2a.ne_own hoW1 (by decide)) (.slice AN ns.length cN)
  clear hown1 hg1 ho0 hof hc1 ho1 H0 H1 H2 Hb Hi2 hw2 h2a hoW1 HoW
  generalize W1.setCell ⟨w.heap.size + 1 + 1, 1, none⟩ (.slice AN ns.length cN) = W3 at *
  have hc0 : W3.cell? ⟨w.heap.size + 1 + 1, 0, none⟩ = some (.slice AW ws.length cW) := h2x.cell 0
  have HR := Lib.hid h1x
  have HO := Lib.hid h2x
  have HB := Lib.hid hbx
  have HW := Lib.hid hoW
  have HN := Lib.hid hoN
  have Ha := Lib.hid (around_any at_ ws.length W3 h1.1 h1.2 (by omega) (by omega))
  have Hh := Lib.hid (around_any how 6 W3 h2.1 h2.2 (by omega) (by omega))
  obtain ⟨hk1, hk2⟩ := around_bd at_ ws.length (by omega)
  obtain ⟨k, hk⟩ := Int.eq_ofNat_of_zero_le hk1
  rw [hk] at Ha hk2
  obtain ⟨hh1, hh2⟩ := around_bd how 6 (by omega)
  clear h1x h2x hbx hoW hoN hk1 hk
  have hkl : k < ws.length := by omega
  go_wp2_with fail
  refine Ha.out.mono ?_
  rintro e w' ⟨rfl, rfl⟩
  go_wp2_with fail
  refine Hh.out.mono ?_
  rintro e w' ⟨rfl, rfl⟩
  generalize around how 6 = hw at *
  clear Ha Hh hc0
  obtain rfl : hw = 3 := by omega
  · have hc1 : W3.cell? ⟨w.heap.size + 1 + 1, 1, none⟩ = some (.slice AN ns.length cN) := HO.out.cell 1
    by_cases hn0 : ns.length = 0
    · have hn1 : ns.length ≤ 0 := by omega
      clear hn0
      go_upto_region 23 with fail
      have hfc0 : W3.cell? ⟨w.heap.size + 1 + 1, 0, none⟩ = some (.slice AW ws.length cW) := HO.out.cell 0
      have hfc1 : W3.cell? ⟨w.heap.size + 1 + 1, 1, none⟩ = some (.slice AN ns.length cN) := HO.out.cell 1
      have hr0 : W3.cell? ⟨w.heap.size + 1, 0, none⟩ = some (.slice none 0 0) := HR.out.cell 0
      have hr1 : W3.cell? ⟨w.heap.size + 1, 1, none⟩ = some (.slice none 0 0) := HR.out.cell 1
      have hf0 := HR.out.frozen 0
      have hf1 := HR.out.frozen 1
      have hz0 := ((HR.out.set_ 0 (.slice AW ws.length cW)).set_ 1 (.slice AN ns.length cN)).cell 0
      have hz1 := ((HR.out.set_ 0 (.slice AW ws.length cW)).set_ 1 (.slice AN ns.length cN)).cell 1
      have ho1 := Lib.hid (own_set (i := 1) (own_set (i := 0) HW.out (HR.out.ne_own HW.out (by decide)) (.slice AW ws.length cW)) (HR.out.ne_own HW.out (by decide)) (.slice AN ns.length cN))
      have ho2 := Lib.hid (own_set (i := 1) (own_set (i := 0) HN.out (HR.out.ne_own HN.out (by decide)) (.slice AW ws.length cW)) (HR.out.ne_own HN.out (by decide)) (.slice AN ns.length cN))
      have hbf := Lib.hid ((HB.out.setCell (p := ⟨w.heap.size + 1, 0, none⟩) (by show w.heap.size ≤ w.heap.size + 1; omega) (.slice AW ws.length cW)).setCell (p := ⟨w.heap.size + 1, 1, none⟩) (by show w.heap.size ≤ w.heap.size + 1; omega) (.slice AN ns.length cN))
      go_wp2_with fail
      refine bodyPost_ret (v := .agg #[.slice AW ws.length cW, .slice AN ns.length cN]) (by simp [results, Try.results24, go_sem, hz0, hz1]) rfl ?_
      exact ⟨AW, cW, AN, cN, ws, ns, rfl, ho1.out, ho2.out, by omega, by omega, hbf.out⟩
    · have hn1 : 0 < ns.length := by omega
      have Ha4 := Lib.hid (around_any at_ ns.length W3 h1.1 h1.2 (by omega) (by omega))
      obtain ⟨hk1, hk2⟩ := around_bd at_ ns.length (by omega)
      obtain ⟨i4, hk⟩ := Int.eq_ofNat_of_zero_le hk1
      rw [hk] at Ha4 hk2
      clear hk1 hk hn0
      have hil : i4 < ns.length := by omega
      obtain ⟨hr1, hr2⟩ := around_bd by_ 3 (by omega)
      have Har := Lib.hid (fun W => around_any by_ 3 W h3.1 h3.2 (by omega) (by omega))
      generalize around by_ 3 = r' at *
      obtain ⟨r, rfl⟩ := Int.eq_ofNat_of_zero_le hr1
      have hq3 := tdiv3 h3
      have hwq : IntKind.i64.wrap (by_.tdiv 3) = by_.tdiv 3 := IntWalk.i64_in _ (by omega)
      obtain ⟨hs1, hs2⟩ := around_bd (by_.tdiv 3) 6 (by omega)
      have Has := Lib.hid (fun W => around_any (by_.tdiv 3) 6 W hq3.1 hq3.2 (by omega) (by omega))
      generalize around (by_.tdiv 3) 6 = s' at *
      obtain ⟨s, rfl⟩ := Int.eq_ofNat_of_zero_le hs1
      obtain ⟨gW, cW', hv, hgb, hgl⟩ := HN.out.form hn1
      injection hv with hv1 hv2 hv3
      subst hv1 hv3
      obtain ⟨cur, hcur, htk⟩ := own_bk HN.out
      obtain ⟨xk, hxk⟩ : ∃ x, cur[i4 * 3 + r]? = some (.int .i64 x) := by
        obtain ⟨x, hx⟩ := triC_int (ns := ns) (i := i4) (r := r) hil (by omega)
        have h1 : (cur.toList.take (ns.length * 3))[i4 * 3 + r]? = some (.int .i64 x) := by rw [htk]; exact hx
        rw [List.getElem?_take_of_lt (by omega)] at h1
        exact ⟨x, by simpa using h1⟩
      have hcw : W3.cell? ⟨gW, i4 * 3 + r, none⟩ = some (.int .i64 xk) := (hcur.cell _).trans hxk
      have hfw := hcur.frozen (i4 * 3 + r)
      have hcura := hcur.alloc (.cells #[.int .i64 by_, .int .i64 (-1), .int .i64 0, .int .i64 1, .int .i64 1099511627776, .int .i64 1099511627777] 3)
      have hcwa : (W3.alloc (.cells #[.int .i64 by_, .int .i64 (-1), .int .i64 0, .int .i64 1, .int .i64 1099511627776, .int .i64 1099511627777] 3)).cell? ⟨gW, i4 * 3 + r, none⟩ = some (.int .i64 xk) := (hcura.cell _).trans hxk
      have hfwa := hcura.frozen (i4 * 3 + r)
      have hc1a : (W3.alloc (.cells #[.int .i64 by_, .int .i64 (-1), .int .i64 0, .int .i64 1, .int .i64 1099511627776, .int .i64 1099511627777] 3)).cell? ⟨w.heap.size + 1 + 1, 1, none⟩ = some (.slice (some ⟨gW, 0, none⟩) ns.length cN) := (HO.out.alloc _).cell 1
      obtain ⟨val, hval⟩ : ∃ val, (W3.alloc (.cells #[.int .i64 by_, .int .i64 (-1), .int .i64 0, .int .i64 1, .int .i64 1099511627776, .int .i64 1099511627777] 3)).cell? ⟨W3.heap.size, s, none⟩ = some (.int .i64 val) := by
        have h := Bk.new W3 3 #[.int .i64 by_, .int .i64 (-1), .int .i64 0, .int .i64 1, .int .i64 1099511627776, .int .i64 1099511627777]
        rcases (by omega : s = 0 ∨ s = 1 ∨ s = 2 ∨ s = 3 ∨ s = 4 ∨ s = 5) with rfl | rfl | rfl | rfl | rfl | rfl
        · exact ⟨_, h.cell 0⟩
        · exact ⟨_, h.cell 1⟩
        · exact ⟨_, h.cell 2⟩
        · exact ⟨_, h.cell 3⟩
        · exact ⟨_, h.cell 4⟩
        · exact ⟨_, h.cell 5⟩
      have hw3 := HB.out.size
      have Hcur := Lib.hid (And.intro hcur htk)
      clear hcur hcura hxk htk
      have j0 : (0 : Int) ≤ (r : Int) := by omega
      have j1 : (0 : Int) ≤ (s : Int) := by omega
      have j2 : (s : Int) < 6 := by omega
      have j3 : s < 6 := by omega
      have j4 : r < 3 := by omega
      have j5 : (r : Int) < 3 := by omega
      have j6 : (0 : Int) ≤ (i4 : Int) := by omega
      go_upto_region 18 with (go_at_call 20; refine Ha4.out.mono ?_; rintro e w' ⟨rfl, rfl⟩)
      apply wp_det (wf := ((W3.setCell ⟨gW, i4 * 3 + r, none⟩ (.int .i64 val)).alloc (.cells #[.int .i64 by_, .int .i64 (-1), .int .i64 0, .int .i64 1, .int .i64 1099511627776, .int .i64 1099511627777] 3)).drew)
      case now =>
        have HS0 := Lib.hid (show W3.drew.cell? ⟨w.heap.size + 1 + 1, 1, none⟩ = some (.slice (some ⟨gW, 0, none⟩) ns.length cN) from hc1)
        have HSa := Lib.hid hc1a
        refine region_T (s := 14) (S := fun W => W.cell? ⟨w.heap.size + 1 + 1, 1, none⟩ = some (.slice (some ⟨gW, 0, none⟩) ns.length cN)) (by kernel_rfl) ?_
        change wpT _ _ _ _ _ 15 _ _ W3.drew
        refine T_take (k := 0) (v := .pointer (some ⟨w.heap.size + 1 + 1, 1, none⟩)) rfl (by decide +kernel) (fun _ _ _ h => h) (Or.inl ⟨by rfl, fun W hW => by go_simp⟩) HS0.out ?_
        try simp only [Act.put, List.setIfInBounds_toArray, List.set_cons_zero, List.set_cons_succ]
        refine T_take (k := 1) (v := .slice (some ⟨gW, 0, none⟩) ns.length cN) rfl (by decide +kernel) (fun _ _ _ h => h) (Or.inl ⟨by rfl, fun W hW => by go_simp⟩) HS0.out ?_
        try simp only [Act.put, List.setIfInBounds_toArray, List.set_cons_zero, List.set_cons_succ]
        refine T_take (k := 2) (v := .int .i64 i4) rfl (by decide +kernel) (fun _ _ _ h => h) (Or.inl ⟨by rfl, fun W hW => by go_simp⟩) HS0.out ?_
        try simp only [Act.put, List.setIfInBounds_toArray, List.set_cons_zero, List.set_cons_succ]
        refine T_take2 (k := 12) 13 (v := .pointer (some ⟨gW, i4 * 3, none⟩)) rfl (by decide +kernel) (fun _ _ _ h => h) (Or.inl ⟨by rfl, fun W hW => by go_simp⟩) HS0.out ?_
        try simp only [Act.put, List.setIfInBounds_toArray, List.set_cons_zero, List.set_cons_succ]
        refine T_take (k := 3) (v := .int .i64 by_) rfl (by decide +kernel) (fun _ _ _ h => h) (Or.inl ⟨by rfl, fun W hW => by go_simp⟩) HS0.out ?_
        try simp only [Act.put, List.setIfInBounds_toArray, List.set_cons_zero, List.set_cons_succ]
        refine T_take (k := 5) (v := .int .i64 by_) rfl (by decide +kernel) (fun _ _ _ h => h) (Or.inl ⟨by rfl, fun W hW => by go_simp⟩) HS0.out ?_
        try simp only [Act.put, List.setIfInBounds_toArray, List.set_cons_zero, List.set_cons_succ]
        refine T_take (k := 7) (v := .int .i64 by_) rfl (by decide +kernel) (fun _ _ _ h => h) (Or.inl ⟨by rfl, fun W hW => by go_simp⟩) HS0.out ?_
        try simp only [Act.put, List.setIfInBounds_toArray, List.set_cons_zero, List.set_cons_succ]
        refine T_take (k := 8) (v := .int .i64 (by_.tdiv 3)) rfl (by decide +kernel) (fun _ _ _ h => h) (Or.inl ⟨by rfl, fun W hW => by go_simp⟩) HS0.out ?_
        try simp only [Act.put, List.setIfInBounds_toArray, List.set_cons_zero, List.set_cons_succ]
        refine T_two (i := 4) (j := 6) (by decide +kernel) (T_step rfl rfl (fun K1 hK1 => ?_)) (T_step rfl rfl (fun K1 hK1 => ?_))
        · have hK1 := Lib.hid hK1
          go_simp
          go_at_call 20
          refine (Har.out _).mono ?_
          rintro e w' ⟨rfl, rfl⟩
          refine hK1.out _ _ HS0.out ?_
          try simp only [Act.put, List.setIfInBounds_toArray, List.set_cons_zero, List.set_cons_succ]
          refine T_two (i := 6) (j := 9) (by decide +kernel) (T_step rfl rfl (fun K2 hK2 => ?_)) (T_step rfl rfl (fun K2 hK2 => ?_))
          · have hK2 := Lib.hid hK2
            go_simp
            refine hK2.out _ _ HSa.out ?_
            try simp only [Act.put, List.setIfInBounds_toArray, List.set_cons_zero, List.set_cons_succ]
            refine T_one (i := 9) (by decide +kernel) rfl rfl (fun K3 hK3 => ?_)
            have hK3 := Lib.hid hK3
            go_simp
            go_at_call 20
            refine (Has.out _).mono ?_
            rintro e w' ⟨rfl, rfl⟩
            refine hK3.out _ _ HSa.out ?_
            try simp only [Act.put, List.setIfInBounds_toArray, List.set_cons_zero, List.set_cons_succ]
            refine T_take (k := 10) (v := .pointer (some ⟨W3.heap.size, s, none⟩)) rfl (by decide +kernel) (fun _ _ _ h => h) (Or.inl ⟨by rfl, fun W hW => by go_simp⟩) HSa.out ?_
            try simp only [Act.put, List.setIfInBounds_toArray, List.set_cons_zero, List.set_cons_succ]
            refine T_one (i := 11) (by decide +kernel) rfl rfl (fun K7 hK7 => ?_)
            have hK7 := Lib.hid hK7
            go_simp
            refine hK7.out _ _ HSa.out ?_
            try simp only [Act.put, List.setIfInBounds_toArray, List.set_cons_zero, List.set_cons_succ]
            refine T_take (k := 13) (v := .pointer (some ⟨gW, i4 * 3 + r, none⟩)) rfl (by decide +kernel) (fun _ _ _ h => h) (Or.inl ⟨by rfl, fun W hW => by go_simp⟩) HSa.out ?_
            try simp only [Act.put, List.setIfInBounds_toArray, List.set_cons_zero, List.set_cons_succ]
            refine T_last (by decide +kernel) (by decide +kernel) (by decide +kernel) rfl rfl (fun K8 hK8 => ?_)
            have hK8 := Lib.hid hK8
            go_simp
            refine hK8.out _ _ (NoPanic.normal ?_)
            try simp only [Act.put, List.setIfInBounds_toArray, List.set_cons_zero, List.set_cons_succ]
            first | exact Lib.hid ⟨trivial, rfl, trivial⟩ | exact hid_det | exact Lib.hid trivial | exact Lib.hid ⟨trivial, trivial, trivial⟩
          · have hK2 := Lib.hid hK2
            go_simp
            go_at_call 20
            refine (Has.out _).mono ?_
            rintro e w' ⟨rfl, rfl⟩
            refine hK2.out _ _ HS0.out ?_
            try simp only [Act.put, List.setIfInBounds_toArray, List.set_cons_zero, List.set_cons_succ]
            refine T_one (i := 6) (by decide +kernel) rfl rfl (fun K3 hK3 => ?_)
            have hK3 := Lib.hid hK3
            go_simp
            refine hK3.out _ _ HSa.out ?_
            try simp only [Act.put, List.setIfInBounds_toArray, List.set_cons_zero, List.set_cons_succ]
            refine T_take (k := 10) (v := .pointer (some ⟨W3.heap.size, s, none⟩)) rfl (by decide +kernel) (fun _ _ _ h => h) (Or.inl ⟨by rfl, fun W hW => by go_simp⟩) HSa.out ?_
            try simp only [Act.put, List.setIfInBounds_toArray, List.set_cons_zero, List.set_cons_succ]
            refine T_one (i := 11) (by decide +kernel) rfl rfl (fun K7 hK7 => ?_)
            have hK7 := Lib.hid hK7
            go_simp
            refine hK7.out _ _ HSa.out ?_
            try simp only [Act.put, List.setIfInBounds_toArray, List.set_cons_zero, List.set_cons_succ]
            refine T_take (k := 13) (v := .pointer (some ⟨gW, i4 * 3 + r, none⟩)) rfl (by decide +kernel) (fun _ _ _ h => h) (Or.inl ⟨by rfl, fun W hW => by go_simp⟩) HSa.out ?_
            try simp only [Act.put, List.setIfInBounds_toArray, List.set_cons_zero, List.set_cons_succ]
            refine T_last (by decide +kernel) (by decide +kernel) (by decide +kernel) rfl rfl (fun K8 hK8 => ?_)
            have hK8 := Lib.hid hK8
            go_simp
            refine hK8.out _ _ (NoPanic.normal ?_)
            try simp only [Act.put, List.setIfInBounds_toArray, List.set_cons_zero, List.set_cons_succ]
            first | exact Lib.hid ⟨trivial, rfl, trivial⟩ | exact hid_det | exact Lib.hid trivial | exact Lib.hid ⟨trivial, trivial, trivial⟩
        · have hK1 := Lib.hid hK1
          go_simp
          refine hK1.out _ _ HSa.out ?_
          try simp only [Act.put, List.setIfInBounds_toArray, List.set_cons_zero, List.set_cons_succ]
          refine T_one (i := 4) (by decide +kernel) rfl rfl (fun K2 hK2 => ?_)
          have hK2 := Lib.hid hK2
          go_simp
          go_at_call 20
          refine (Har.out _).mono ?_
          rintro e w' ⟨rfl, rfl⟩
          refine hK2.out _ _ HSa.out ?_
          try simp only [Act.put, List.setIfInBounds_toArray, List.set_cons_zero, List.set_cons_succ]
          refine T_one (i := 9) (by decide +kernel) rfl rfl (fun K3 hK3 => ?_)
          have hK3 := Lib.hid hK3
          go_simp
          go_at_call 20
          refine (Has.out _).mono ?_
          rintro e w' ⟨rfl, rfl⟩
          refine hK3.out _ _ HSa.out ?_
          try simp only [Act.put, List.setIfInBounds_toArray, List.set_cons_zero, List.set_cons_succ]
          refine T_take (k := 10) (v := .pointer (some ⟨W3.heap.size, s, none⟩)) rfl (by decide +kernel) (fun _ _ _ h => h) (Or.inl ⟨by rfl, fun W hW => by go_simp⟩) HSa.out ?_
          try simp only [Act.put, List.setIfInBounds_toArray, List.set_cons_zero, List.set_cons_succ]
          refine T_one (i := 11) (by decide +kernel) rfl rfl (fun K7 hK7 => ?_)
          have hK7 := Lib.hid hK7
          go_simp
          refine hK7.out _ _ HSa.out ?_
          try simp only [Act.put, List.setIfInBounds_toArray, List.set_cons_zero, List.set_cons_succ]
          refine T_take (k := 13) (v := .pointer (some ⟨gW, i4 * 3 + r, none⟩)) rfl (by decide +kernel) (fun _ _ _ h => h) (Or.inl ⟨by rfl, fun W hW => by go_simp⟩) HSa.out ?_
          try simp only [Act.put, List.setIfInBounds_toArray, List.set_cons_zero, List.set_cons_succ]
          refine T_last (by decide +kernel) (by decide +kernel) (by decide +kernel) rfl rfl (fun K8 hK8 => ?_)
          have hK8 := Lib.hid hK8
          go_simp
          refine hK8.out _ _ (NoPanic.normal ?_)
          try simp only [Act.put, List.setIfInBounds_toArray, List.set_cons_zero, List.set_cons_succ]
          first | exact Lib.hid ⟨trivial, rfl, trivial⟩ | exact hid_det | exact Lib.hid trivial | exact Lib.hid ⟨trivial, trivial, trivial⟩
      case later =>
        obtain ⟨ns', hnl, hns⟩ := triC_setR ns i4 r val hil j4
        have hneO := Bk.ne_ HO.out Hcur.out.1 (by decide)
        have hneR := Bk.ne_ HR.out Hcur.out.1 (by decide)
        have HO2 := Lib.hid ((HO.out.far (p := ⟨gW, i4 * 3 + r, none⟩) hneO (.int .i64 val)).alloc (.cells #[.int .i64 by_, .int .i64 (-1), .int .i64 0, .int .i64 1, .int .i64 1099511627776, .int .i64 1099511627777] 3))
        have HR2 := Lib.hid ((HR.out.far (p := ⟨gW, i4 * 3 + r, none⟩) hneR (.int .i64 val)).alloc (.cells #[.int .i64 by_, .int .i64 (-1), .int .i64 0, .int .i64 1, .int .i64 1099511627776, .int .i64 1099511627777] 3))
        have HB2 := Lib.hid ((HB.out.setCell (p := ⟨gW, i4 * 3 + r, none⟩) hgb (.int .i64 val)).alloc (by simp [World.setCell]; omega) (.cells #[.int .i64 by_, .int .i64 (-1), .int .i64 0, .int .i64 1, .int .i64 1099511627776, .int .i64 1099511627777] 3))
        have HW2 := Lib.hid ((own_set (i := i4 * 3 + r) HW.out (Bk.ne_own Hcur.out.1 HW.out (by decide)) (.int .i64 val)).alloc (.cells #[.int .i64 by_, .int .i64 (-1), .int .i64 0, .int .i64 1, .int .i64 1099511627776, .int .i64 1099511627777] 3))
        have hNp := (own_put (i := i4 * 3 + r) HN.out (.int .i64 val)).alloc (.cells #[.int .i64 by_, .int .i64 (-1), .int .i64 0, .int .i64 1, .int .i64 1099511627776, .int .i64 1099511627777] 3)
        rw [hns] at hNp
        have HN2 := Lib.hid hNp
        have Hlen := Lib.hid hnl
        clear hNp hc1 hcw hfw hcwa hfwa hc1a hval hneO hneR hns hnl
        generalize hWF : (W3.setCell ⟨gW, i4 * 3 + r, none⟩ (.int .i64 val)).alloc (.cells #[.int .i64 by_, .int .i64 (-1), .int .i64 0, .int .i64 1, .int .i64 1099511627776, .int .i64 1099511627777] 3) = WX at *
        clear hWF
        have HO2 := Lib.hid (HO2.out.qt ⟨1, rfl⟩ : Bk WX.drew _ _ _)
        have HR2 := Lib.hid (HR2.out.qt ⟨1, rfl⟩ : Bk WX.drew _ _ _)
        have HB2 := Lib.hid (HB2.out.drew)
        have HN2 := Lib.hid (own_qt HN2.out ⟨1, rfl⟩ : WX.drew.ownsRow _ _ _ _ _ _)
        have HW2 := Lib.hid (own_qt HW2.out ⟨1, rfl⟩ : WX.drew.ownsRow _ _ _ _ _ _)
        go_upto_region 23 with fail
        generalize WX.drew = WF at *
        have hfc0 : WF.cell? ⟨w.heap.size + 1 + 1, 0, none⟩ = some (.slice AW ws.length cW) := HO2.out.cell 0
        have hfc1 : WF.cell? ⟨w.heap.size + 1 + 1, 1, none⟩ = some (.slice (some ⟨gW, 0, none⟩) ns.length cN) := HO2.out.cell 1
        have hr0 : WF.cell? ⟨w.heap.size + 1, 0, none⟩ = some (.slice none 0 0) := HR2.out.cell 0
        have hr1 : WF.cell? ⟨w.heap.size + 1, 1, none⟩ = some (.slice none 0 0) := HR2.out.cell 1
        have hf0 := HR2.out.frozen 0
        have hf1 := HR2.out.frozen 1
        have hz0 := ((HR2.out.set_ 0 (.slice AW ws.length cW)).set_ 1 (.slice (some ⟨gW, 0, none⟩) ns.length cN)).cell 0
        have hz1 := ((HR2.out.set_ 0 (.slice AW ws.length cW)).set_ 1 (.slice (some ⟨gW, 0, none⟩) ns.length cN)).cell 1
        have ho1 := Lib.hid (own_set (i := 1) (own_set (i := 0) HW2.out (HR2.out.ne_own HW2.out (by decide)) (.slice AW ws.length cW)) (HR2.out.ne_own HW2.out (by decide)) (.slice (some ⟨gW, 0, none⟩) ns.length cN))
        have ho2 := Lib.hid (own_set (i := 1) (own_set (i := 0) HN2.out (HR2.out.ne_own HN2.out (by decide)) (.slice AW ws.length cW)) (HR2.out.ne_own HN2.out (by decide)) (.slice (some ⟨gW, 0, none⟩) ns.length cN))
        have hbf := Lib.hid ((HB2.out.setCell (p := ⟨w.heap.size + 1, 0, none⟩) (by show w.heap.size ≤ w.heap.size + 1; omega) (.slice AW ws.length cW)).setCell (p := ⟨w.heap.size + 1, 1, none⟩) (by show w.heap.size ≤ w.heap.size + 1; omega) (.slice (some ⟨gW, 0, none⟩) ns.length cN))
        go_wp2_with fail
        refine bodyPost_ret (v := .agg #[.slice AW ws.length cW, .slice (some ⟨gW, 0, none⟩) ns.length cN]) (by simp [results, Try.results24, go_sem, hz0, hz1]) rfl ?_
        exact ⟨AW, cW, some ⟨gW, 0, none⟩, cN, ws, ns', by rw [Hlen.out], ho1.out, by rw [Hlen.out]; exact ho2.out, by omega, by rw [Hlen.out]; omega, hbf.out⟩
end Go.Proofs.Ytmdgdphhedgojaa

namespace Go.Proofs.Ytmdgdphhedgojaa
open Go.RowKit Go.Maps

theorem spoilt_any (A B : Option Addr) (c d : Nat) (ws : List Int) (ns : List (Int × Int × Int)) (at_ how by_ : Int) (w : World) (hA : SI w A ws) (hB : ST w B ns) (hl0 : 1 ≤ ws.length) (hl1 : ws.length ≤ 4000) (hl2 : ns.length ≤ 16384)
    (h1 : -9223372036854775808 ≤ at_ ∧ at_ ≤ 9223372036854775807) (h2 : -9223372036854775808 ≤ how ∧ how ≤ 9223372036854775807) (h3 : -9223372036854775808 ≤ by_ ∧ by_ ≤ 9223372036854775807) :
    Calls Try.prog 24 #[.agg #[.slice A ws.length c, .slice B ns.length d], .int .i64 at_, .int .i64 how, .int .i64 by_] w fun e w' => ∃ A1 c1 A2 c2 ws' ns', e = .returned (.agg #[.slice A1 (ws' : List Int).length c1, .slice A2 (ns' : List (Int × Int × Int)).length c2]) ∧ w'.ownsRow w.heap.size 3 1 (.slice A1 ws'.length c1) ws'.length (ws'.map (Value.int .i64)) ∧ w'.ownsRow w.heap.size 52 3 (.slice A2 ns'.length c2) ns'.length (triC ns') ∧ ws'.length ≤ 4096 ∧ ns'.length ≤ 20000 ∧ Below w.heap.size w w' := by
  by_cases h : around how 6 = 3
  · exact spoilt_three A B c d ws ns at_ how by_ w hA hB hl0 hl1 hl2 h1 h2 h3 h
  · exact spoilt_rest A B c d ws ns at_ how by_ w hA hB hl0 hl1 hl2 h1 h2 h3 h
end Go.Proofs.Ytmdgdphhedgojaa

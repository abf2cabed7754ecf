import Derived.Test.YtaegfljpodhnhaaN01
import Derived.Test.YtaegfljpodhnhaaR26
namespace Go.Proofs.Ytaegfljpodhnhaa
open Go.RowKit Go.Maps

theorem common_flip {ns : List (Int × Int × Int)} {of : List Int} {a b : Int} : common ns of a b = common ns of b a := by
  unfold common
  generalize ns.length = k
  induction k with
  | zero => rfl
  | succ k ih => rw [commonTo, commonTo, ih, Bool.or_comm]

section
variable {of : List Int}
/-- The groups of a list of indices, and their first faces. -/
theorem rt_root (hC : CN of) {a : Nat} (ha : a < gk (ix of) (ix of).length) : ∃ r : Nat, rt (ix of) a = r ∧ r < of.length ∧ of.getD r 0 = r ∧ (ix of).getD r 0 = a := by
  have hm := gk_mem ha
  have h1 := List.idxOf_lt_length_of_mem hm
  have h2 := List.getElem_idxOf h1
  rw [ix_len] at h1
  refine ⟨(ix of).idxOf (a : Int), rfl, h1, ?_, ?_⟩
  · have h3 := named_at (l := ix of) (k := (ix of).idxOf (a : Int)) (by rw [ix_len]; exact h1)
    rw [h2, named_ix hC] at h3
    exact h3
  · simp only [List.getD, List.getElem?_eq_getElem (show (ix of).idxOf (a : Int) < (ix of).length by rw [ix_len]; exact h1), h2, Option.getD_some]
theorem good_ix (of : List Int) : GoodL (ix of) := good_of (listB_of_ix of)
theorem ix_zero (h : 0 < of.length) : (ix of).getD 0 0 = 0 := by
  have := good_ix of 0 (by rw [ix_len]; exact h)
  rw [gk] at this
  omega
theorem cn_zero (hC : CN of) (h : 0 < of.length) : of.getD 0 0 = 0 := by
  obtain ⟨r, r1, r2, _⟩ := hC 0 h
  omega
theorem weight_ix (hC : CN of) (ws : List Int) {a : Nat} (ha : a < gk (ix of) (ix of).length) : weight ws of (rt (ix of) a) = weight ws (ix of) a := by
  have h := weight_named ws (gk_mem ha)
  rw [named_ix hC] at h
  exact h
theorem common_ix (hC : CN of) {ns : List (Int × Int × Int)} (hN : NOK of.length ns) {a b : Nat} (ha : a < gk (ix of) (ix of).length) (hb : b < gk (ix of) (ix of).length) : common ns of (rt (ix of) a) (rt (ix of) b) = common ns (ix of) a b := by
  have h := common_named (l := ix of) (by rw [ix_len]; exact hN) (gk_mem ha) (gk_mem hb)
  rw [named_ix hC] at h
  exact h

/-- Where no merge comes, in the graph of groups. -/
theorem done_ix (hC : CN of) {ws : List Int} {ns : List (Int × Int × Int)} {least : Int} (hN : NOK of.length ns) (h : (next ws ns of least).2.2.1 = false) {a b : Nat} (ha : a < gk (ix of) (ix of).length) (hb : b < gk (ix of) (ix of).length) (ha0 : a ≠ 0) (hb0 : b ≠ 0) (hab : b ≠ a)
    (hc : 0 < common ns (ix of) a b) : least ≤ weight ws (ix of) a := by
  obtain ⟨r, e1, h1, h2, h3⟩ := rt_root hC ha
  obtain ⟨q, e2, h4, h5, h6⟩ := rt_root hC hb
  rw [← common_ix hC hN ha hb, e1, e2] at hc
  rw [← weight_ix hC ws ha, e1]
  have hz := cn_zero hC (by omega)
  have hi := ix_zero (of := of) (by omega)
  refine done_law h h1 h4 h2 h5 ?_ ?_ ?_ hc
  · rw [hz]; intro h0
    obtain rfl : r = 0 := by omega
    omega
  · rw [hz]; intro h0
    obtain rfl : q = 0 := by omega
    omega
  · rintro rfl
    omega
end

theorem GoodG.nok {ws : List Int} {ns : List (Int × Int × Int)} {a b : Int} (h : GoodG ws ns a b) (hb : b ≤ 1099511627776) : NOK ws.length ns := fun t ht => by
  have := h.t t ht
  omega

/-- The graph of the groups of a made graph is within limits. -/
theorem over_made {ws : List Int} {ns : List (Int × Int × Int)} (hG : GoodG ws ns 11 6) {l : List Int} (hl : l.length = ws.length) : overB ws ns l = false := by
  have n2 := hG.n2
  have n3 := hG.n3
  refine over_not (fun i _ => ?_) (fun t ht => ?_)
  · have := weightTo_le (ws := ws) (of := l) (g := i) (m := 11) (by omega) hG.w l.length
    unfold weight
    omega
  · obtain ⟨a, b, _, _, _, _, rfl⟩ := (nr_mem _ (Nat.le_refl _)).1 ht
    have := commonTo_le (ns := ns) (of := l) (a := a) (b := b) (m := 6) (by omega) (fun t ht => (hG.t t ht).2.2.2.2) ns.length
    show common ns l a b ≤ _
    unfold common
    omega

/-- Nested, and least: what the law asks of each scale. -/
theorem nest_at {ws : List Int} {ns : List (Int × Int × Int)} {ls : List Int} (hG : GoodG ws ns 11 6) (hT : GoodT ls 45) {s : Nat} (hs : s < ls.length) :
    ∃ l, (ofL ws ns ls)[s]? = some l ∧ l.length = ws.length ∧ (∀ a, 0 < a → a < ws.length → l.getD a 0 ≠ l.getD 0 0) ∧
      (0 < s → ∃ l', (ofL ws ns ls)[s - 1]? = some l' ∧ l'.length = ws.length ∧ ∀ a b, a < ws.length → b < ws.length → l'.getD a 0 = l'.getD b 0 → l.getD a 0 = l.getD b 0) ∧
      atE ws ns (ofL ws ns ls) s = 0 ∧ atW ws ns (ofL ws ns ls) s = qW ws l ∧ atN ws ns (ofL ws ns ls) s = qN ns l ∧ (qW ws l).length ≤ 16 ∧ (qN ns l).length ≤ 256 ∧
      ∀ a, 1 ≤ a → a < (qW ws l).length → ∀ t ∈ qN ns l, (t.1 = a ∨ t.2.1 = a ∧ t.1 ≠ 0) → ls.getD s 0 ≤ (qW ws l).getD a 0 := by
  have hE : ofE ws ns ls = 0 := orI_two.2 ⟨hG.ok (by omega) (by omega), hT.ok (by omega)⟩
  have hv := hG.ok (by omega) (by omega)
  have hL : ofL ws ns ls = lists ws ns ls := if_pos hE
  obtain ⟨hC, hlen⟩ := ofAt_cn ws ns ls s
  have hA := ofAt_al ws ns ls s
  have hg := gk_le (ix (ofAt ws ns ls s)) (ix (ofAt ws ns ls s)).length
  rw [ix_len, hlen] at hg
  have n1 := hG.n1
  have n2 := hG.n2
  have hat : (lists ws ns ls).getD s [] = ix (ofAt ws ns ls s) := by rw [List.getD, lists_at hs]; rfl
  have hll : (ix (ofAt ws ns ls s)).length = ws.length := by rw [ix_len, hlen]
  have hle : listE ws.length (ix (ofAt ws ns ls s)) = 0 := listE_ix' hlen
  have hat0 : atE ws ns (lists ws ns ls) s = 0 := by
    rw [atE, if_neg (by simp [hv]), if_neg (by rw [lists_len]; omega), show ((s : Int)).toNat = s from rfl, hat, if_neg (by simp [hle]), over_made hG hll]
    rfl
  have hn : ls[s]? = some ls[s] := List.getElem?_eq_getElem hs
  have hd : (next ws ns (ofAt ws ns ls s) ls[s]).2.2.1 = false := by rw [ofAt_eq hn]; exact scale_done
  have hnr := nr_len ns (ix (ofAt ws ns ls s)) (gk (ix (ofAt ws ns ls s)) (ix (ofAt ws ns ls s)).length) (gk (ix (ofAt ws ns ls s)) (ix (ofAt ws ns ls s)).length)
  have hg2 := Nat.mul_le_mul (show gk (ix (ofAt ws ns ls s)) (ix (ofAt ws ns ls s)).length ≤ 16 by rw [hll]; omega) (show gk (ix (ofAt ws ns ls s)) (ix (ofAt ws ns ls s)).length ≤ 16 by rw [hll]; omega)
  rw [hL]
  refine ⟨ix (ofAt ws ns ls s), lists_at hs, hll, fun a ha hal he => ?_, fun h0 => ?_, hat0, ?_, ?_, ?_, ?_, fun a ha1 hal t ht hor => ?_⟩
  · rw [ix_same (by omega) (by omega), cn_zero hC (by omega)] at he
    have := hA a (by omega) he
    omega
  · obtain ⟨hC', hlen'⟩ := ofAt_cn ws ns ls (s - 1)
    refine ⟨ix (ofAt ws ns ls (s - 1)), lists_at (by omega), by rw [ix_len, hlen'], fun a b ha hb he => ?_⟩
    rw [ix_same (by omega) (by omega)] at he ⊢
    rw [ofAt_eq hn]
    have e : after ws ns (alone ws.length) (ls.take s) = ofAt ws ns ls (s - 1) := by unfold ofAt; rw [show s - 1 + 1 = s by omega]
    rw [e]
    exact scaleF_tog _ _ a b (by omega) (by omega) he
  · rw [atW, if_pos hat0, show ((s : Int)).toNat = s from rfl, hat]
  · rw [atN, if_pos hat0, show ((s : Int)).toNat = s from rfl, hat]
  · rw [qW, wTo_len, hll]; omega
  · rw [qN]; omega
  · rw [qW, wTo_len] at hal
    have hw : (qW ws (ix (ofAt ws ns ls s))).getD a 0 = weight ws (ix (ofAt ws ns ls s)) a := by rw [List.getD, qW_at ws hal]; rfl
    have hls : ls.getD s 0 = ls[s] := by rw [List.getD, hn]; rfl
    rw [hw, hls]
    obtain ⟨i, j, h1, h2, h3, h4, rfl⟩ := (nr_mem _ (Nat.le_refl _)).1 ht
    have hN : NOK (ofAt ws ns ls s).length ns := by rw [hlen]; exact hG.nok (by omega)
    rcases hor with h | ⟨h, h0⟩
    · obtain rfl : i = a := by have h' : (i : Int) = a := h; omega
      exact done_ix hC hN hd h1 h3 (by omega) (by omega) (by omega) h4
    · obtain rfl : j = a := by have h' : (j : Int) = a := h; omega
      have h0' : i ≠ 0 := fun e => h0 (by rw [e]; rfl)
      rw [common_flip] at h4
      exact done_ix hC hN hd h3 h1 (by omega) h0' (by omega) h4
end Go.Proofs.Ytaegfljpodhnhaa

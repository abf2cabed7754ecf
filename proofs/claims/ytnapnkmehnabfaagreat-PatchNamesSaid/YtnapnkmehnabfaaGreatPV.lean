import Derived.Test.YtnapnkmehnabfaaGreatP57
namespace Go.Proofs.YtnapnkmehnabfaaGreat
open Go.RowKit Go.Maps

theorem po_pln {p : Pa} (h : PO p) : PLn p := by
 refine ⟨by have := h.nd.1; omega, by have := h.st.1; omega, by have := h.pl.1; omega, by have := h.ma.1; omega, by have := h.er.1; omega, by have := h.dr.1; omega, by have := h.rt.1; omega, fun q hq => ?_⟩
 have h1 := h.pl.2 q hq
 unfold plE at h1
 split at h1
 ·cases h1
 ·split at h1
  ·cases h1
  ·rename_i h2 h3
   have h4 : namB q.nm = true := by simpa using h3
   unfold namB at h4
   simp only [Bool.and_eq_true, decide_eq_true_eq] at h4
   omega
/-- The cells of the patches of a list, each of which is valid. -/
theorem vals_at {w : World} {X : Option Addr} {ps : List (Pa × Pw)} {k : Nat} (h : SL w X (ps.flatMap paV)) (hv : AVs w ps) (hk : k < ps.length) :
  ∃ (b o : Nat) (p : Pa) (a : Pw), X = some ⟨b, o, none⟩ ∧ Hid (∀ i v, (paV (p, a))[i]? = some v → w.cell? ⟨b, o + k * 9 + i, none⟩ = some v) ∧ b < w.heap.size ∧ Hid (PB w p a) ∧ Hid (PO p) ∧ Hid ((p, a) ∈ ps) := by
 obtain ⟨b, o, q, e, hq, hc⟩ := pa_get h hk
 have hm := List.mem_of_getElem? hq.out
 obtain ⟨h1, h2⟩ := hv q hm
 exact ⟨b, o, q.1, q.2, e, Lib.hid hc, World.block_lt_of_cell? _ _ (hc 0 _ rfl), Lib.hid h1, Lib.hid h2, Lib.hid hm⟩
end Go.Proofs.YtnapnkmehnabfaaGreat

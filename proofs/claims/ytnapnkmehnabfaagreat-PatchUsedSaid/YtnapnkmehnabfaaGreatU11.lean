import Derived.Test.YtnapnkmehnabfaaGreatU10
import Derived.Test.YtnapnkmehnabfaaGreatQD
namespace Go.Proofs.YtnapnkmehnabfaaGreat
open Go.RowKit Go.Maps

/-- A patch without its needs. -/
def noN (p : Pa) : Pa := ⟨p.office, p.num, [], p.st, p.pl, p.ma, p.er, p.dr, p.rt⟩
theorem each_first {f : Nat → Int} {n : Nat} (hn : 0 < n) (h : f 0 ≠ 0) : eachE f n = f 0 := by
  have := eachE_drop (f := f) hn
  rw [if_pos h] at this
  simpa [eachE] using this
theorem each_none (f : Nat → Int) : eachE f 0 = 0 := rfl
theorem mk_none {o : Int} {l : List Mk} (h : 0 < l.length) : mkW o [] l 0 = 12 := by
  unfold mkW
  rw [List.getElem?_eq_getElem h]
  simp
theorem id_none (l : List (Int × Int)) : idE [] l 0 = 12 := by
  unfold idE
  simp
theorem used_law {p : Pa} (h : PO p) {x : Int × Int} (hx : x ∈ usesL p) : p.needs = [x.1] ∧ paE (noN p) = 12 := by
  have hn : x.1 ∈ p.needs := by
    unfold usesL at hx
    rcases List.mem_append.1 hx with h1 | h1
    · rcases List.mem_append.1 h1 with h1 | h1
      · obtain ⟨m, hm, rfl⟩ := List.mem_map.1 h1
        exact (h.ma.2 m hm).1
      · exact (h.er.2 x h1).1
    · exact (h.dr.2 x h1).1
  refine ⟨?_, ?_⟩
  · have hl := h.nd.1
    cases hd : p.needs with
    | nil => rw [hd] at hn; cases hn
    | cons y l =>
      rw [hd] at hn hl
      cases l with
      | nil => rw [List.mem_singleton.1 hn]
      | cons z l => simp at hl
  · have hok := h.ok
    have h0 : ∀ e ∈ paL p, e = 0 := fun e he => orE_mem hok e he
    have m : ∀ e, e ∈ paL p → e = 0 := h0
    simp only [paL, List.mem_cons, List.not_mem_nil, or_false, forall_eq_or_imp, forall_eq] at m
    obtain ⟨ma1, m2, m3, m4, m5, m6, m7, m8, m9⟩ := m
    have a1 : argE (noN p) = 0 := ma1
    have a2 : limE (noN p) = 0 := by
      unfold limE
      have h1 := h.nd.1; have h2 := h.er.1; have h3 := h.dr.1
      rw [if_pos ⟨by show (0 : Nat) ≤ 64; omega, h.st.1, h.pl.1, h.ma.1, by show p.er.length ≤ 4096; omega, by show p.dr.length ≤ 4096; omega, h.rt.1⟩]
    have a3 : eachE (ndW (noN p).needs) (noN p).needs.length = 0 := each_none _
    unfold paE paL
    rw [orE_zero a1, orE_zero a2, orE_zero a3, orE_zero (show eachE (skW (noN p).office (noN p).st) (noN p).st.length = 0 from m4), orE_zero (show eachE (plW (noN p).office (noN p).pl) (noN p).pl.length = 0 from m5)]
    by_cases hm : 0 < p.ma.length
    · have e := each_first (f := mkW (noN p).office (noN p).needs (noN p).ma) (show 0 < (noN p).ma.length from hm) (by rw [show mkW (noN p).office (noN p).needs (noN p).ma 0 = 12 from mk_none hm]; decide)
      rw [orE_ne (by rw [e, show mkW (noN p).office (noN p).needs (noN p).ma 0 = 12 from mk_none hm]; decide), e]
      exact mk_none hm
    · have e0 : (noN p).ma.length = 0 := by show p.ma.length = 0; omega
      rw [orE_zero (by rw [e0]; exact each_none _)]
      by_cases he : 0 < p.er.length
      · have e := each_first (f := idE (noN p).needs (noN p).er) (show 0 < (noN p).er.length from he) (by rw [show idE (noN p).needs (noN p).er 0 = 12 from id_none _]; decide)
        rw [orE_ne (by rw [e, show idE (noN p).needs (noN p).er 0 = 12 from id_none _]; decide), e]
        exact id_none _
      · have e1 : (noN p).er.length = 0 := by show p.er.length = 0; omega
        rw [orE_zero (by rw [e1]; exact each_none _)]
        have hd : 0 < p.dr.length := by
          unfold usesL at hx
          have z1 : p.ma = [] := List.length_eq_zero_iff.1 (by omega)
          have z2 : p.er = [] := List.length_eq_zero_iff.1 (by omega)
          rw [z1, z2] at hx
          exact List.length_pos_of_mem (by simpa using hx)
        have e := each_first (f := idE (noN p).needs (noN p).dr) (show 0 < (noN p).dr.length from hd) (by rw [show idE (noN p).needs (noN p).dr 0 = 12 from id_none _]; decide)
        rw [orE_ne (by rw [e, show idE (noN p).needs (noN p).dr 0 = 12 from id_none _]; decide), e]
        exact id_none _
end Go.Proofs.YtnapnkmehnabfaaGreat

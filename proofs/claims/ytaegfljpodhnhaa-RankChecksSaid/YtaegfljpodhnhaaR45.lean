import Derived.Test.YtaegfljpodhnhaaR44
namespace Go.Proofs.Ytaegfljpodhnhaa
open Go.RowKit Go.Maps

theorem checkE_main {ws : List Int} {ns : List (Int × Int × Int)} {ls : List Int} {k : Nat} {st : List (Int × Int)} {cs : List (List Int)} {n : Int} {cl : List Int} (hz : ofE ws ns ls = 0) (h1 : k < ls.length) (h2 : k < cs.length) (hn : ls[k]? = some n) (hcl : cs[k]? = some cl) :
    checkE ws ns ls k st cs = checkK ws ns n st cl (numL ws.length cs k) := by
  rw [checkE, if_neg (by simp [hz]), if_neg (by omega), checkK]
  simp only [Int.toNat_natCast, List.getD, hn, hcl, Option.getD_some]

theorem check_any (A B C D E : Option Addr) (c d f m q : Nat) (ws : List Int) (ns : List (Int × Int × Int)) (ls : List Int) (s : Int) (st : List (Int × Int)) (cs : List (List Int)) (w : World) (hA : SI w A ws) (hB : ST w B ns) (hC : SI w C ls) (hD : SL w D (pairC st)) (hE : SLL w E cs)
    (hl1 : ws.length ≤ 4611686018427387904) (hl2 : ns.length ≤ 4611686018427387904) (hl3 : ls.length ≤ 4611686018427387904) (hl4 : st.length ≤ 4611686018427387904) (hl6 : ∀ l ∈ cs, l.length ≤ 4611686018427387904) :
    Calls Try.prog 24 #[.agg #[.slice A ws.length c, .slice B ns.length d], .slice C ls.length f, .int .i64 s, .slice D st.length m, .agg #[.slice E cs.length q]] w fun e w' => e = .returned (.int .i64 (checkE ws ns ls s st cs)) ∧ Below w.heap.size w w' := by
  by_cases hz : ofE ws ns ls = 0
  · by_cases hs : s < 0 ∨ (ls.length : Int) ≤ s ∨ (cs.length : Int) ≤ s
    · have e : checkE ws ns ls s st cs = 7 := by rw [checkE, if_neg (by simp [hz]), if_pos hs]
      rw [e]
      exact check_out A B C D E c d f m q ws ns ls s st cs w hA hB hC hl1 hl2 hl3 hz hs
    · obtain ⟨k, rfl⟩ := Int.eq_ofNat_of_zero_le (show 0 ≤ s by omega)
      have h1 : k < ls.length := by omega
      have h2 : k < cs.length := by omega
      rw [checkE_main hz h1 h2 (List.getElem?_eq_getElem h1) (List.getElem?_eq_getElem h2)]
      exact check_main A B C D E c d f m q ws ns ls k st cs w hA hB hC hD hE hl1 hl2 hl3 hl4 hl6 hz h1 h2 _ (List.getElem?_eq_getElem h1) _ (List.getElem?_eq_getElem h2)
  · have e : checkE ws ns ls s st cs = ofE ws ns ls := by rw [checkE, if_pos hz]
    rw [e]
    exact check_bad A B C D E c d f m q ws ns ls s st cs w hA hB hC hl1 hl2 hl3 hz
end Go.Proofs.Ytaegfljpodhnhaa

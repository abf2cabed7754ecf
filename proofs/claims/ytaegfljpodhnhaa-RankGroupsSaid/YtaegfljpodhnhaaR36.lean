import Derived.Test.YtaegfljpodhnhaaR35
namespace Go.Proofs.Ytaegfljpodhnhaa
open Go.RowKit Go.Maps

theorem spoilt_any (A B : Option Addr) (c d : Nat) (ws : List Int) (ns : List (Int × Int × Int)) (at_ how by_ : Int) (w : World) (hA : SI w A ws) (hB : ST w B ns) (hl0 : 1 ≤ ws.length) (hl1 : ws.length ≤ 16) (hl2 : ns.length ≤ 256)
    (h1 : -9223372036854775808 ≤ at_ ∧ at_ ≤ 9223372036854775807) (h2 : -9223372036854775808 ≤ how ∧ how ≤ 9223372036854775807) (h3 : -9223372036854775808 ≤ by_ ∧ by_ ≤ 9223372036854775807) :
    Calls Try.prog 40 #[.agg #[.slice A ws.length c, .slice B ns.length d], .int .i64 at_, .int .i64 how, .int .i64 by_] w fun e w' => ∃ A1 c1 A2 c2 ws' ns', e = .returned (.agg #[.slice A1 (ws' : List Int).length c1, .slice A2 (ns' : List (Int × Int × Int)).length c2]) ∧ SI w' A1 ws' ∧ ST w' A2 ns' ∧ ws'.length ≤ 4096 ∧ ns'.length ≤ 16384 ∧ Below w.heap.size w w' := by
  by_cases h : around how 6 = 3
  · exact spoilt_three A B c d ws ns at_ how by_ w hA hB hl0 hl1 hl2 h1 h2 h3 h
  · exact spoilt_rest A B c d ws ns at_ how by_ w hA hB hl0 hl1 hl2 h1 h2 h3 h
end Go.Proofs.Ytaegfljpodhnhaa

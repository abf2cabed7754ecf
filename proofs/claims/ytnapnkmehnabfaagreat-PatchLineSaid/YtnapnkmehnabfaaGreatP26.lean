import Derived.Test.YtnapnkmehnabfaaGreatP25
import Derived.RangeFuncBound
import Derived.RangeFuncCalls
import Derived.RangeFuncLeaves
import Derived.Shelf.Abstract
import Derived.OwnWalkIn
import Derived.TacticsInMore
import Derived.LoopNIn
import Derived.LoopIn
namespace Go.Proofs.YtnapnkmehnabfaaGreat
open Go.RowKit Go.Maps

def ruleV (S T I N : Nat) : Array Value := #[.func (.func 116) #[] #[.pointer (some ⟨S, 0, none⟩)], .func (.func 117) #[] #[.pointer (some ⟨S, 0, none⟩)], .func (.func 118) #[] #[.pointer (some ⟨S, 0, none⟩)], .func (.func 121) #[] #[.pointer (some ⟨S, 0, none⟩), .pointer (some ⟨T, 0, none⟩)], .func (.func 125) #[] #[.pointer (some ⟨S, 0, none⟩)], .func (.func 130) #[] #[.pointer (some ⟨S, 0, none⟩), .pointer (some ⟨I, 0, none⟩), .pointer (some ⟨T, 0, none⟩)], .func (.func 133) #[] #[.pointer (some ⟨S, 0, none⟩), .pointer (some ⟨N, 0, none⟩)], .func (.func 135) #[] #[.pointer (some ⟨S, 0, none⟩), .pointer (some ⟨N, 0, none⟩)], .func (.func 136) #[] #[.pointer (some ⟨S, 0, none⟩)]]
set_option linter.unusedSimpArgs false in
set_option maxHeartbeats 4000000 in
set_option maxRecDepth 100000 in
theorem rules_any (p : Pa) (a : Pw) (w : World) (h : PT w p a) :
    Calls Tryz.prog 42 #[.agg (paC p a)] w fun e w' => e = .returned (.func (.func 139) #[] #[.pointer (some ⟨w.heap.size + 1 + 1 + 1 + 1 + 1, 0, none⟩)]) ∧ Below w.heap.size w w' ∧ RC w' w.heap.size (w.heap.size + 1) (w.heap.size + 1 + 1) (w.heap.size + 1 + 1 + 1) p a ∧ Bk w' (w.heap.size + 1 + 1 + 1 + 1) 152 (ruleV w.heap.size (w.heap.size + 1) (w.heap.size + 1 + 1) (w.heap.size + 1 + 1 + 1)) ∧ Bk w' (w.heap.size + 1 + 1 + 1 + 1 + 1) 185 #[.slice (some ⟨w.heap.size + 1 + 1 + 1 + 1, 0, none⟩) 9 9] := by
  have HT := Lib.hid h
  clear h
  have hsf := fun (n : Nat) (a : Addr) (c : Array Value) (w : World) => run_store Tryz.prog w a (.func (.func n) #[] c) .plain rfl
  show Calls Tryz.prog 42 #[.agg #[.int .i64 p.office, .int .i64 p.num, .slice a.n p.needs.length a.cn, .slice a.s p.st.length a.cs, .slice a.l p.pl.length a.cl, .slice a.m p.ma.length a.cm, .slice a.e p.er.length a.ce, .slice a.d p.dr.length a.cd, .slice a.r p.rt.length a.cr]] w _
  go_enter Tryz.func42, Tryz.ntmps42
  go_wp2_with fail
  go_ret
  have hB : Below w.heap.size w ((((((w.alloc (.cells #[.int .i64 p.office, .int .i64 p.num, .slice a.n p.needs.length a.cn, .slice a.s p.st.length a.cs, .slice a.l p.pl.length a.cl, .slice a.m p.ma.length a.cm, .slice a.e p.er.length a.ce, .slice a.d p.dr.length a.cd, .slice a.r p.rt.length a.cr] 34)).alloc (.cells #[.func (.func 109) #[] #[.pointer (some ⟨w.heap.size, 0, none⟩)]] 168)).alloc (.cells #[.func (.func 111) #[] #[]] 93)).alloc (.cells #[.func (.func 112) #[] #[.pointer (some ⟨w.heap.size, 0, none⟩), .pointer (some ⟨w.heap.size + 1 + 1, 0, none⟩)]] 171)).alloc (.cells #[.func (.func 116) #[] #[.pointer (some ⟨w.heap.size, 0, none⟩)], .func (.func 117) #[] #[.pointer (some ⟨w.heap.size, 0, none⟩)], .func (.func 118) #[] #[.pointer (some ⟨w.heap.size, 0, none⟩)], .func (.func 121) #[] #[.pointer (some ⟨w.heap.size, 0, none⟩), .pointer (some ⟨w.heap.size + 1, 0, none⟩)], .func (.func 125) #[] #[.pointer (some ⟨w.heap.size, 0, none⟩)], .func (.func 130) #[] #[.pointer (some ⟨w.heap.size, 0, none⟩), .pointer (some ⟨w.heap.size + 1 + 1, 0, none⟩), .pointer (some ⟨w.heap.size + 1, 0, none⟩)], .func (.func 133) #[] #[.pointer (some ⟨w.heap.size, 0, none⟩), .pointer (some ⟨w.heap.size + 1 + 1 + 1, 0, none⟩)], .func (.func 135) #[] #[.pointer (some ⟨w.heap.size, 0, none⟩), .pointer (some ⟨w.heap.size + 1 + 1 + 1, 0, none⟩)], .func (.func 136) #[] #[.pointer (some ⟨w.heap.size, 0, none⟩)]] 152)).alloc (.cells #[.slice (some ⟨w.heap.size + 1 + 1 + 1 + 1, 0, none⟩) 9 9] 185)) := by
    repeat (first | exact Below.refl _ _ | refine Below.alloc ?_ (by simp; try omega) _)
  refine ⟨rfl, hB, ⟨?_, ?_, ?_, ?_, HT.out.below hB⟩, ?_, ?_⟩ <;> repeat (first | exact Bk.new' _ _ _ (by simp) | refine Bk.alloc ?_ _)
  trace_state
end Go.Proofs.YtnapnkmehnabfaaGreat

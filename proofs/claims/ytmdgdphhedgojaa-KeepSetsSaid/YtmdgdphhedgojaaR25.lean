import Derived.Test.YtmdgdphhedgojaaR24
import Derived.Laws.StructEq
namespace Go.Proofs.Ytmdgdphhedgojaa
open Go.RowKit Go.Maps

@[go_sem] theorem eq_pair (a b c d : Int) (w : World) : (Op.equalIn 10000 114 (.agg #[.int .i64 a, .int .i64 b]) (.agg #[.int .i64 c, .int .i64 d])).run Try.prog w = .ok (a == c && b == d) w := by
  have u3 := Try.underlying3
  have a3 := Try.isAgg3
  have z3 := Try.sizeOf3
  rw [show (10000 : Nat) = 9999 + 1 from rfl, Op.equalIn]
  simp only [Sem.run_bind, run_underlying Try.underlying114, Result.andThen_ok]
  simp only [Std.Legacy.Range.forIn_eq_forIn_range', Std.Legacy.Range.size, Nat.sub_zero, Nat.add_sub_cancel, Nat.div_one, List.range'_succ, List.range'_zero, List.forIn_cons, List.forIn_nil]
  go_simp
  by_cases h1 : a = c <;> by_cases h2 : b = d <;> simp [h1, h2]

theorem sl_bk {w : World} {g : Nat} {t : TypeId} {cs : Array Value} (h : Bk w g t cs) : SL w (some ⟨g, 0, none⟩) cs.toList := fun j u hu => by
  refine ⟨g, 0, rfl, h.lt, ?_⟩
  rw [Nat.zero_add, h.cell j]
  simpa using hu

def exW : List Int := [9, 1, 5, 5]
def exN : List (Int × Int × Int) := [(0, 1, 7), (1, 2, 2), (1, 3, 3)]
end Go.Proofs.Ytmdgdphhedgojaa

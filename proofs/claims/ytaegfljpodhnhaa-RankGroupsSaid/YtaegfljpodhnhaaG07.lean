import Derived.Test.YtaegfljpodhnhaaG03
import Derived.ChangeKeysEq
namespace Go.Proofs.Ytaegfljpodhnhaa
open Go.RowKit Go.Maps

theorem under_tri : (Try.prog).underlying 52 = some (.array 3 3) := by kernel_rfl
set_option maxRecDepth 100000 in
theorem neq_tri (x y z : Int) (W : World) : (binOp .neq 52 (.agg #[.int .i64 x, .int .i64 y, .int .i64 z]) (.agg #[.int .i64 x, .int .i64 y, .int .i64 z])).run Try.prog W = .ok (.bool false) W := by
  obtain ⟨i, hi, h1, h2, _⟩ := info_parts (P := Try.prog) (e := 3) (by kernel_rfl : ((Try.prog).info? 3).map (fun i => (i.zero, i.size, i.bytes)) = some (some (.int .i64 0), 1, 8))
  have h := run_equalIn_array (P := Try.prog) W 9999 #[.int .i64 x, .int .i64 y, .int .i64 z] #[.int .i64 x, .int .i64 y, .int .i64 z] under_tri hi
  rw [run_neq_struct, show (10000 : Nat) = 9999 + 1 from rfl, h]
  have hc : (Try.prog).cellsOf 3 = 1 := by kernel_rfl
  have ha := Try.isAgg3
  have hu3 := Try.underlying3
  rw [hc]
  simp [Op.eqItems, List.range, List.range.loop, part, ha, run_equalIn_int W 9998 3 .i64 .i64 _ _ hu3]

set_option maxHeartbeats 2000000 in
set_option maxRecDepth 100000 in
theorem same_any (A B C D : Option Addr) (a b c d : Nat) (ws : List Int) (ns : List (Int × Int × Int)) (w : World) (hA : SI w A ws) (hB : ST w B ns) (hC : SI w C ws) (hD : ST w D ns) (hl1 : ws.length ≤ 1099511627776) (hl2 : ns.length ≤ 1099511627776) :
    Calls Try.prog 38 #[.agg #[.slice A ws.length a, .slice B ns.length b], .agg #[.slice C ws.length c, .slice D ns.length d]] w fun e w' => e = .returned (.bool true) ∧ Below w.heap.size w w' := by
  have hbk := (Bk.new w 33 #[.slice A ws.length a, .slice B ns.length b]).alloc (.cells #[.slice C ws.length c, .slice D ns.length d] 33)
  have hbr := Bk.new' (w.alloc (.cells #[.slice A ws.length a, .slice B ns.length b] 33)) 33 #[.slice C ws.length c, .slice D ns.length d] (g := w.heap.size + 1) (by simp)
  have hb0 : Below w.heap.size w ((w.alloc (.cells #[.slice A ws.length a, .slice B ns.length b] 33)).alloc (.cells #[.slice C ws.length c, .slice D ns.length d] 33)) := ((Below.refl _ _).alloc (Nat.le_refl _) _).alloc (by simp) _
  go_enter Try.func38, Try.ntmps38
  go_wp2_with fail
  generalize (w.alloc (.cells #[.slice A ws.length a, .slice B ns.length b] 33)).alloc (.cells #[.slice C ws.length c, .slice D ns.length d] 33) = W0 at *
  refine (sameInts_any A C a c ws ws W0 (hA.below hb0) (hC.below hb0) (by omega) (by omega)).mono ?_
  rintro e w1 ⟨he, hq⟩
  obtain rfl : e = .returned (.bool true) := by rw [he]; simp
  have Hbk := Lib.hid (hbk.qt hq)
  have Hbr := Lib.hid (hbr.qt hq)
  have Hb := Lib.hid (hq.bl hb0)
  have HB := Lib.hid (hB.below Hb.out)
  have HD := Lib.hid (hD.below Hb.out)
  have hc1 : w1.cell? ⟨w.heap.size, 1, none⟩ = some (.slice B ns.length b) := Hbk.out.cell 1
  have hd1 : w1.cell? ⟨w.heap.size + 1, 1, none⟩ = some (.slice D ns.length d) := Hbr.out.cell 1
  clear hA hB hC hD hbk hbr hb0 hq he
  go_wp2_with fail
  go_loopw [6] (fun i wr => ∃ k : Nat, k ≤ ns.length ∧ i = .int .i64 k ∧ Qt w1 wr) (fun i _ => ns.length - (intOf i).toNat)
  case atStart => exact ⟨0, by omega, rfl, Qt.refl _⟩
  case round =>
    obtain ⟨k, hk, rfl, hq⟩ := hrel
    obtain ⟨n, rfl⟩ := hq
    by_cases hlt : k < ns.length
    · obtain ⟨b1, o1, x, y, z, rfl, c0, c1, c2, hx⟩ := HB.out.get (k := k) hlt
      obtain ⟨b2, o2, x', y', z', rfl, d0, d1, d2, hx'⟩ := HD.out.get (k := k) hlt
      have he := hx.out.symm.trans hx'.out
      injection he with he
      injection he with e1 e2
      injection e2 with e2 e3
      subst e1 e2 e3
      have i0 : (0 : Int) ≤ (k : Int) := by omega
      have hne := neq_tri x y z
      have heg : (Try.prog).eqGuardType (Try.prog).depth 52 = false := by kernel_rfl
      go_wp2_with fail
      go_quiet (fail)
      go_wp2_with fail
      go_roundw
      case rel => exact ⟨k + 1, by omega, by go_num, by first | exact Qt.drewN ⟨n, rfl⟩ _ | exact ⟨_, rfl⟩⟩
      case measure => simp [intOf]; omega
    · go_wp2_with fail
      go_ret
      exact ⟨rfl, below_drewN Hb.out n⟩
end Go.Proofs.Ytaegfljpodhnhaa

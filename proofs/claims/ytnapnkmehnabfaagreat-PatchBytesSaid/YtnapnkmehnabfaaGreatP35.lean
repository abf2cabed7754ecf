import Derived.Test.YtnapnkmehnabfaaGreatP34
namespace Go.Proofs.YtnapnkmehnabfaaGreat
open Go.RowKit Go.Maps
set_option linter.unusedSimpArgs false in
set_option maxHeartbeats 4000000 in
set_option maxRecDepth 100000 in
theorem sameIds_any (A B : Option Addr) (c d : Nat) (la lb : List (Int × Int)) (w : World) (hA : SD w A la) (hB : SD w B lb) (hl : la.length ≤ 1099511627776) :
  Calls Tryz.prog 39 #[.slice A la.length c, .slice B lb.length d] w fun e w' => e = .returned (.bool (decide (la = lb))) ∧ Below w.heap.size w w' := by
 obtain ⟨R, hR⟩ : ∃ z, Hid (decide (la = lb) = z) := ⟨_, q9 rfl⟩;rw [hR.out];have HA := q9 (fun (W : World) (hW : Below w.heap.size w W) => (show SD W A la from hA.below hW));have HB := q9 (fun (W : World) (hW : Below w.heap.size w W) => (show SD W B lb from hB.below hW));clear hA hB;by_cases h1 : la.length = lb.length
 ·have b1 : ((la.length : Int) != (lb.length : Int)) = false := by simp [h1]
  have Hh := q9 h1;obtain ⟨n, hn⟩ : ∃ z, Hid (la.length = z) := ⟨_, q9 rfl⟩;have hn2 := q9 (h1.symm.trans hn.out);rw [hn.out, hn2.out] at b1;rw [hn.out, hn2.out];rw [hn.out] at hl;clear h1 Hh;go_enter Tryz.func39, Tryz.ntmps39
  go_wp2_with fail
  go_loopw [5] (fun v wr => ∃ k : Nat, k ≤ n ∧ v = .int .i64 (k : Int) ∧ Hid (la.take k = lb.take k) ∧ Hid (Below w.heap.size w wr)) (fun v _ => n - (intOf v).toNat)
  case atStart => exact ⟨0, by omega, rfl, q9 rfl, q9 (Below.refl _ _)⟩
  case round =>
   obtain ⟨k, hk, rfl, ht, hb⟩ := hrel;have k0 : (0 : Int) ≤ (k : Int) := by omega
   by_cases hlt : k < n
   ·obtain ⟨bA, o1, x, y, hae, c0, c1, hx⟩ := (HA.out _ hb.out.drew).get (k := k) (by have := hn.out; omega);obtain ⟨bB, o2, x', y', hae2, c2, c3, hx'⟩ := (HB.out _ hb.out.drew).get (k := k) (by have := hn2.out; omega);obtain ⟨z, hz⟩ : ∃ z, Hid ((!(x == x' && y == y')) = z) := ⟨_, q9 rfl⟩;have heq := fun W => hz.out ▸ neq_id x y x' y' W;have HBd := q9 hb.out.drew;clear hb;rw [hae, hae2];go_upto_region 6 with fail
    refine rH 9 (fun W => W.cell? ⟨bA, o1 + k * 2, none⟩ = some (.int .u64 x) ∧ W.cell? ⟨bA, o1 + k * 2 + 1, none⟩ = some (.int .i64 y) ∧ W.cell? ⟨bB, o2 + k * 2, none⟩ = some (.int .u64 x') ∧ W.cell? ⟨bB, o2 + k * 2 + 1, none⟩ = some (.int .i64 y')) ?_;generalize wr.drew = X0 at *;refine Ht 0 (.slice (some ⟨bA, o1, none⟩) n c) 17 rfl rfl rfl (fun W hW => by obtain ⟨s0, s1, s2, s3⟩ := hW; go_simp) ⟨c0, c1, c2, c3⟩ ?_;refine Ht 1 (.int .i64 (k : Int)) 18 rfl rfl rfl (fun W hW => by obtain ⟨s0, s1, s2, s3⟩ := hW; go_simp) ⟨c0, c1, c2, c3⟩ ?_;refine Ht 2 (.pointer (some ⟨bA, o1 + k * 2, none⟩)) 19 rfl rfl rfl (fun W hW => by obtain ⟨s0, s1, s2, s3⟩ := hW; go_simp) ⟨c0, c1, c2, c3⟩ ?_;refine Ht 3 (.agg #[.int .u64 x, .int .i64 y]) 20 rfl rfl rfl (fun W hW => by obtain ⟨s0, s1, s2, s3⟩ := hW; go_simp) ⟨c0, c1, c2, c3⟩ ?_;refine Ht 4 (.slice (some ⟨bB, o2, none⟩) n d) 21 rfl rfl rfl (fun W hW => by obtain ⟨s0, s1, s2, s3⟩ := hW; go_simp) ⟨c0, c1, c2, c3⟩ ?_;refine Ht 5 (.int .i64 (k : Int)) 22 rfl rfl rfl (fun W hW => by obtain ⟨s0, s1, s2, s3⟩ := hW; go_simp) ⟨c0, c1, c2, c3⟩ ?_;refine Ht 6 (.pointer (some ⟨bB, o2 + k * 2, none⟩)) 23 rfl rfl rfl (fun W hW => by obtain ⟨s0, s1, s2, s3⟩ := hW; go_simp) ⟨c0, c1, c2, c3⟩ ?_;refine Ht 7 (.agg #[.int .u64 x', .int .i64 y']) 24 rfl rfl rfl (fun W hW => by obtain ⟨s0, s1, s2, s3⟩ := hW; go_simp) ⟨c0, c1, c2, c3⟩ ?_;refine Ht 8 (.bool z) 25 rfl rfl rfl (fun W hW => by obtain ⟨s0, s1, s2, s3⟩ := hW; go_simp) ⟨c0, c1, c2, c3⟩ ?_
    try simp only [Act.put, qz0, qz1, qz2]
    refine H0 ?_;try simp only [Act.put, qz0, qz1, qz2]
    cases z with
    | false =>
     have hxy : (x, y) = (x', y') := by have := hz.out; simp at this; rw [this.1, this.2]
     have ht2 := q9 (show la.take (k + 1) = lb.take (k + 1) from by rw [take_snoc' hx.out, take_snoc' hx'.out, ht.out, hxy]);clear hxy ht hx hx' hz heq;go_wp2_with fail
     go_roundw
     case rel => exact ⟨k + 1, by omega, by go_num, ht2, HBd⟩
     case measure => simp [intOf]; omega
    | true =>
     have hr := q9 (show R = false from by
      rw [← hR.out];refine decide_eq_false (fun e => ?_);have h1 := hx.out;rw [e, hx'.out] at h1;injection h1 with h1;injection h1 with h1 h2;have := hz.out;simp [h1, h2] at this)
     clear hx hx' hz ht heq;go_wp2_with fail
     go_ret
     exact ⟨by rw [hr.out]; rfl, HBd.out⟩
   have hr := q9 (show R = true from by
    rw [← hR.out];refine decide_eq_true ?_;have h := ht.out;rwa [List.take_of_length_le (by have := hn.out; omega), List.take_of_length_le (by have := hn2.out; omega)] at h)
   clear ht;go_wp2_with fail
   go_ret
   exact ⟨by rw [hr.out]; rfl, hb.out⟩
 have b1 : ((la.length : Int) != (lb.length : Int)) = true := by simp; omega
 have hr := q9 (show R = false from by rw [← hR.out]; exact decide_eq_false (fun e => h1 (by rw [e])));obtain ⟨n, hn⟩ : ∃ z, Hid (la.length = z) := ⟨_, q9 rfl⟩;obtain ⟨m, hm⟩ : ∃ z, Hid (lb.length = z) := ⟨_, q9 rfl⟩;rw [hn.out, hm.out] at b1 ⊢;clear h1;go_enter Tryz.func39, Tryz.ntmps39
 go_wp2_with fail
 go_ret
 exact ⟨by rw [hr.out]; rfl, Below.refl _ _⟩
end Go.Proofs.YtnapnkmehnabfaaGreat

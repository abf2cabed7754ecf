import Derived.Test.YtnapnkmehnabfaaGreatP34
import Derived.Test.YtnapnkmehnabfaaGreatP49
import Derived.Test.YtnapnkmehnabfaaGreatD3
set_option linter.unusedSimpArgs false
set_option maxHeartbeats 4000000
set_option maxRecDepth 100000
namespace Go.Proofs.YtnapnkmehnabfaaGreat
open Go.RowKit Go.Maps
abbrev Rst := Bool × Option (List Nat)
def itB {α : Type} (f : Rst → α × Rst) : Nat → Rst → List α × Rst
 | 0, σ => ([], σ)
 | k + 1, σ => if σ.1 = true then ([], σ) else ((f σ).1 :: (itB f k (f σ).2).1, (itB f k (f σ).2).2)
def manyR {α : Type} (f : Rst → α × Rst) (σ : Rst) : List α × Rst := itB f (iR σ.2).1.toNat (σ.1 || decide ((iR σ.2).1 < 0) || decide (4096 < (iR σ.2).1), (iR σ.2).2)
theorem itB_bad {α : Type} (f : Rst → α × Rst) (k : Nat) (s : Option (List Nat)) : itB f k (true, s) = ([], (true, s)) := by
 cases k with
 | zero => rfl
 | succ k => rfl
theorem itB_step {α : Type} {f : Rst → α × Rst} {k : Nat} {s : Option (List Nat)} {x : α} {σ : Rst} (h : f (false, s) = (x, σ)) : itB f (k + 1) (false, s) = (x :: (itB f k σ).1, (itB f k σ).2) := by
 show (if false = true then _ else _) = _;rw [if_neg (by decide), h]
theorem itB_len {α : Type} (f : Rst → α × Rst) : ∀ (k : Nat) (σ : Rst), (itB f k σ).1.length ≤ k
 | 0, σ => Nat.le_refl _
 | k + 1, σ => by
  unfold itB;split
  ·exact Nat.zero_le _
  have := itB_len f k (f σ).2;simpa using this
theorem manyR_len {α : Type} {f : Rst → α × Rst} {σ σ' : Rst} {xs : List α} (h : manyR f σ = (xs, σ')) : xs.length ≤ 4096 := by
 have e : xs = (manyR f σ).1 := by rw [h]
 rw [e];unfold manyR;by_cases h1 : (4096 : Int) < (iR σ.2).1
 ·rw [decide_eq_true h1, Bool.or_true, itB_bad]; exact Nat.zero_le _
 exact Nat.le_trans (itB_len _ _ _) (by omega)
section
variable {w w' : World} {r R K B : Nat} {bad : Bool} {s s' : Option (List Nat)}
theorem RS.put (h : RS w r R K B bad s) (b : Bool) : RS (w.setCell ⟨R, 1, none⟩ (.bool b)) r R K B b s := by
 have hf : R2 R R w (w.setCell ⟨R, 1, none⟩ (.bool b)) := (R2.refl R R w).setCell (.inl rfl) _;exact ⟨h.q.put hf 136 ⟨_, h.hR⟩ (by decide) h.neR.symm, h.hR.set_ 1 _, h.hK.r2 hf h.neKR h.neKR, h.ltR, h.ltK, h.le⟩
end
def fU (σ : Rst) : Int × Rst := (((uR σ.2).1 : Int), (σ.1, (uR σ.2).2))
def fI (σ : Rst) : (Int × Int) × Rst := ((((uR σ.2).1 : Int), (iR (uR σ.2).2).1), (σ.1, (iR (uR σ.2).2).2))
def fR (σ : Rst) : (Int × Int) × Rst := (((iR σ.2).1, (iR (iR σ.2).2).1), (σ.1, (iR (iR σ.2).2).2))
def fC (σ : Rst) : Cl × Rst :=
 let a := iR σ.2; let b := iR a.2; let c := iR b.2; let d := iR c.2; let e := iR d.2
 (⟨a.1, b.1, c.1, d.1, e.1⟩, (σ.1, e.2))
def fM (σ : Rst) : Mk × Rst := (⟨(fI σ).1.1, (fI σ).1.2, (fC (fI σ).2).1⟩, (fC (fI σ).2).2)
section
variable {w w' : World} {r R K B : Nat} {bad b' : Bool} {s s' : Option (List Nat)}
theorem eU {x : Int} (h : RS w r R K B bad s) (hi : fU (bad, s) = (x, (b', s'))) : Calls Tryz.prog 81 #[.pointer (some ⟨r, 0, none⟩)] w fun e w' => e = .returned (.int .u64 x) ∧ RS w' r R K B b' s' ∧ R2 r R w w' := by
 injection hi with h1 h2;injection h2 with h2 h3;subst h1 h2 h3;exact (sUint h rfl).mono fun _ _ k => ⟨k.1, k.2.1, k.2.2.wide R⟩
theorem eI {x y : Int} (h : RS w r R K B bad s) (hB : B ≤ w.heap.size) (hi : fI (bad, s) = ((x, y), (b', s'))) : Calls Tryz.prog 92 #[.pointer (some ⟨R, 0, none⟩)] w fun e w' => e = .returned (.agg #[.int .u64 x, .int .i64 y]) ∧ RS w' r R K B b' s' ∧ R2 r R w w' := by
 injection hi with h1 h2;injection h1 with h1 h4;injection h2 with h2 h3;subst h1 h2 h3 h4;exact (gName_any h hB rfl rfl).mono fun _ _ k => ⟨k.1, k.2.1, k.2.2.wide R⟩
theorem eR {x y : Int} (h : RS w r R K B bad s) (hB : B ≤ w.heap.size) (hi : fR (bad, s) = ((x, y), (b', s'))) : Calls Tryz.prog 95 #[.pointer (some ⟨K, 0, none⟩)] w fun e w' => e = .returned (.agg #[.int .i64 x, .int .i64 y]) ∧ RS w' r R K B b' s' ∧ R2 r R w w' := by
 injection hi with h1 h2;injection h1 with h1 h4;injection h2 with h2 h3;subst h1 h2 h3 h4;exact (gRetire_any h hB rfl rfl).mono fun _ _ k => ⟨k.1, k.2.1, k.2.2.wide R⟩
theorem eC {k o f t d : Int} (h : RS w r R K B bad s) (hB : B ≤ w.heap.size) (hi : fC (bad, s) = (⟨k, o, f, t, d⟩, (b', s'))) : Calls Tryz.prog 86 #[.pointer (some ⟨R, 0, none⟩)] w fun e w' => e = .returned (.agg #[.int .i64 k, .int .i64 o, .int .i64 f, .int .i64 t, .int .i64 d]) ∧ RS w' r R K B b' s' ∧ R2 r R w w' := by
 injection hi with h1 h2;injection h1 with h1 h4 h5 h6 h7;injection h2 with h2 h3;subst h1 h2 h3 h4 h5 h6 h7;exact (gClaim_any h hB rfl rfl rfl rfl rfl).mono fun _ _ k => ⟨k.1, k.2.1, k.2.2.wide R⟩
theorem eM {p i k o f t d : Int} (h : RS w r R K B bad s) (hB : B ≤ w.heap.size) (hi : fM (bad, s) = (⟨p, i, ⟨k, o, f, t, d⟩⟩, (b', s'))) : Calls Tryz.prog 91 #[.pointer (some ⟨K, 0, none⟩)] w fun e w' => e = .returned (.agg #[.int .u64 p, .int .i64 i, .int .i64 k, .int .i64 o, .int .i64 f, .int .i64 t, .int .i64 d]) ∧ RS w' r R K B b' s' ∧ R2 r R w w' := by
 injection hi with h1 h2;injection h1 with h1 h4 h5;injection h5 with h5 h6 h7 h8 h9;injection h2 with h2 h3;subst h1 h2 h3 h4 h5 h6 h7 h8 h9;exact (gMark_any h hB rfl rfl rfl rfl rfl rfl rfl).mono fun _ _ k => ⟨k.1, k.2.1, k.2.2.wide R⟩
end
theorem elt_claimD : Elt Tryz.prog 44 41 (.agg #[.int .i64 0, .int .i64 0, .int .i64 0, .int .i64 0, .int .i64 0]) 5 40 := Elt.mk' Tryz.underlying44 (by kernel_rfl) (by decide) (by decide) rfl
theorem manyU_any {w : World} {r R K B : Nat} {bad b' : Bool} {s s' : Option (List Nat)} {xs : List Int} (h : RS w r R K B bad s) (hB : B ≤ w.heap.size) (hi : manyR fU (bad, s) = (xs, (b', s'))) :
  Calls Tryz.prog 80 #[.pointer (some ⟨R, 0, none⟩), .func (.func 81) #[.pointer (some ⟨r, 0, none⟩)] #[]] w fun e w' => ∃ A c, e = .returned (.slice A xs.length c) ∧ w'.ownsRow w.heap.size 53 1 (.slice A xs.length c) xs.length (xs.map (Value.int .u64)) ∧ RS w' r R K B b' s' ∧ R2 r R w w' := by
 obtain ⟨n, s1, hn⟩ : ∃ n s1, iR s = (n, s1) := ⟨_, _, rfl⟩;have Hi := q9 hi;unfold manyR at Hi;rw [show (iR (bad, s).2) = (n, s1) from hn] at Hi;have hnlo : n ≤ 9223372036854775807 ∧ -9223372036854775808 ≤ n := by have := iR_i64 h.q; rw [hn] at this; exact ⟨this.2, this.1⟩
 have HS := q9 h;have c0 : w.cell? ⟨R, 0, none⟩ = some (.pointer (some ⟨r, 0, none⟩)) := h.hR.cell 0;have hrB := h.q.lt;have hRB := h.ltR;clear hi h;go_enter Tryz.func80, Tryz.ntmps80
 go_upto_region 2 with (refine (sInt HS.out hn).mono ?_; rintro e w1 ⟨rfl, hs_, hf_⟩)
 have HS1 := q9 hs_;have HF1 := q9 (hf_.wide R);clear hs_ hf_ HS c0;obtain ⟨b1, hb1⟩ : ∃ z, Hid ((bad || decide (n < 0) || decide (4096 < n)) = z) := ⟨_, q9 rfl⟩;have Hi2 := q9 (show itB fU n.toNat (b1, s1) = (xs, (b', s')) from by rw [← hb1.out]; exact Hi.out);clear Hi hn;go_cut [] from 13 to 25 (fun wx => Hid (RS wx r R K B b1 s1) ∧ Hid (R2 r R w wx))
 case first =>
  have d0 : w1.cell? ⟨R, 0, none⟩ = some (.pointer (some ⟨r, 0, none⟩)) := HS1.out.hR.cell 0;have d1 : w1.cell? ⟨R, 1, none⟩ = some (.bool bad) := HS1.out.hR.cell 1;have d2 := HS1.out.hR.frozen 1;have HSp := q9 (fun b => HS1.out.put b);have HFp := q9 (fun b => HF1.out.setCell (p := ⟨R, 1, none⟩) (.inr (.inl rfl)) (.bool b));clear HS1 HF1 Hi2;cases bad with
  | true =>
   have e1 := q9 (show true = b1 from by rw [← hb1.out]; simp);clear hb1;go_wp2_with fail
   go_meet
   exact ⟨e1.out ▸ q9 (HSp.out true), q9 (HFp.out true)⟩
  | false =>
   by_cases h1 : n < 0
   ·have e1 := q9 (show true = b1 from by rw [← hb1.out]; simp [h1]);clear hb1;go_wp2_with fail
    go_meet
    exact ⟨e1.out ▸ q9 (HSp.out true), q9 (HFp.out true)⟩
   by_cases h2 : 4096 < n
   ·have e1 := q9 (show true = b1 from by rw [← hb1.out]; simp [h2]);clear hb1;go_wp2_with fail
    go_meet
    exact ⟨e1.out ▸ q9 (HSp.out true), q9 (HFp.out true)⟩
   have e1 := q9 (show false = b1 from by rw [← hb1.out]; simp [h1, h2]);clear hb1;go_wp2_with fail
   go_meet
   exact ⟨e1.out ▸ q9 (HSp.out false), q9 (HFp.out false)⟩
 case rest =>
  clear HS1 HF1;obtain ⟨HS2, HF2⟩ := hcut;have Hn := q9 (show b1 = false → 0 ≤ n ∧ n ≤ 4096 from fun e => by
   have := hb1.out;rw [e] at this;simp at this
   omega)
  clear hb1;go_wp2_with fail
  go_loopw [6, 7] (fun v i wr => ∃ (k : Nat) (b : Bool) (t : Option (List Nat)) (ys : List Int), i = .int .i64 k ∧ k ≤ 4096 ∧ (k = 0 ∨ (k : Int) ≤ n) ∧ ys.length = k ∧ Hid (wr.ownsRow w.heap.size 53 1 v k (ys.map (Value.int .u64))) ∧ Hid (RS wr r R K B b t) ∧ Hid (R2 r R w wr) ∧ Hid (b = false → b1 = false) ∧ Hid (xs = ys ++ (itB fU (n.toNat - k) (b, t)).1 ∧ (b', s') = (itB fU (n.toNat - k) (b, t)).2)) (fun _ i _ => 4096 - (intOf i).toNat)
  case atStart => exact ⟨0, b1, s1, [], rfl, by omega, .inl rfl, rfl, q9 (World.ownsRow_nil _ _ _ _), HS2, HF2, q9 id, q9 (by rw [Nat.sub_zero, Hi2.out]; exact ⟨rfl, rfl⟩)⟩
  case round =>
   clear HS2 HF2 Hi2;obtain ⟨k, b, t, ys, rfl, hk, hkn, hys, HO, HS, HF, Hb, HX⟩ := hrel;have d0 : wr.cell? ⟨R, 0, none⟩ = some (.pointer (some ⟨r, 0, none⟩)) := HS.out.hR.cell 0;have d1 : wr.cell? ⟨R, 1, none⟩ = some (.bool b) := HS.out.hR.cell 1;by_cases hlt : (k : Int) < n
   ·cases b with
    | true =>
     have hx := q9 (show xs = ys ∧ (b', s') = (true, t) from by have h := HX.out; rw [itB_bad] at h; exact ⟨by rw [h.1, List.append_nil], h.2⟩);clear HX;obtain ⟨A, c, rfl⟩ := own_slice HO.out;go_wp2_with fail
     go_ret
     obtain ⟨e1, e2⟩ := hx.out;injection e2 with e2 e3;subst e1 e2 e3 hys;exact ⟨A, c, rfl, HO.out, HS.out, HF.out⟩
    | false =>
     have Hb0 := q9 (Hb.out rfl);have hn4 := Hn.out Hb0.out;obtain ⟨m, hm⟩ : ∃ m, Hid (n.toNat - k = m + 1) := ⟨n.toNat - k - 1, q9 (by omega)⟩;obtain ⟨x, ⟨bq, tq⟩, hx⟩ : ∃ x σ', Hid (fU (false, t) = (x, σ')) := ⟨_, _, q9 rfl⟩;have HX2 := q9 (show xs = (ys ++ [x]) ++ (itB fU m (bq, tq)).1 ∧ (b', s') = (itB fU m (bq, tq)).2 from by
      have h := HX.out;rw [hm.out, itB_step hx.out] at h;exact ⟨by rw [h.1, List.append_assoc]; rfl, h.2⟩)
     have hsz := HF.out.size;have HC := q9 (eU HS.out hx.out);have Hm1 := q9 (show n.toNat - (k + 1) = m from by have := hm.out; omega);clear HX hm hx d0 d1;have d0 : wr.cell? ⟨R, 0, none⟩ = some (.pointer (some ⟨r, 0, none⟩)) := HS.out.hR.cell 0;have d1 : wr.cell? ⟨R, 1, none⟩ = some (.bool false) := HS.out.hR.cell 1;go_wp2_with fail
     refine HC.out.mono ?_;rintro e w2 ⟨rfl, hs2_, hf2_⟩;have hown2 := own_r2 HO.out hf2_ (by omega) (by omega);have HS2 := q9 hs2_;have HF2 := q9 (HF.out.trans hf2_);have hs2 := HF2.out.size;clear hs2_ hf2_ HC HS HF HO d0 d1;go_wp2_with (at_builtin; refine wpList_app2 (w := w2) rfl _ _ rfl elt_u64' hown2 hs2 rfl rfl (by simp) rfl rfl (by omega) ?_; intro v3 w3 hown3 hg3 hz3)
     go_roundw
     case rel =>
      have hb3 : Below w.heap.size w2 w3 := (Below.refl _ _).grown hg3 hs2 (fun k hk => (hown2.lt k hk).1);exact ⟨k + 1, bq, tq, ys ++ [x], by go_num, by omega, .inr (by omega), by simp [hys], q9 (by rw [List.map_append]; exact hown3), q9 (HS2.out.below (hb3.mono hB)), q9 (HF2.out.grown hg3 (fun k hk => (hown2.lt k hk).1)), q9 (fun _ => Hb0.out), q9 (by rw [Hm1.out]; exact HX2.out)⟩
     case measure => simp [intOf]; omega
   have h0 : n.toNat - k = 0 := by omega
   have hx := q9 (show xs = ys ∧ (b', s') = (b, t) from by have h := HX.out; rw [h0] at h; exact ⟨by rw [h.1]; exact List.append_nil _, h.2⟩);have hge : n ≤ (k : Int) := by omega
   clear HX h0;obtain ⟨A, c, rfl⟩ := own_slice HO.out;go_wp2_with fail
   go_ret
   obtain ⟨e1, e2⟩ := hx.out;injection e2 with e2 e3;subst e1 e2 e3 hys;exact ⟨A, c, rfl, HO.out, HS.out, HF.out⟩
theorem manyI_any {w : World} {r R K B : Nat} {bad b' : Bool} {s s' : Option (List Nat)} {xs : List (Int × Int)} (h : RS w r R K B bad s) (hB : B ≤ w.heap.size) (hi : manyR fI (bad, s) = (xs, (b', s'))) :
  Calls Tryz.prog 93 #[.pointer (some ⟨R, 0, none⟩), .func (.func 92) #[.pointer (some ⟨R, 0, none⟩)] #[]] w fun e w' => ∃ A c, e = .returned (.slice A xs.length c) ∧ w'.ownsRow w.heap.size 77 2 (.slice A xs.length c) xs.length (idC xs) ∧ RS w' r R K B b' s' ∧ R2 r R w w' := by
 obtain ⟨n, s1, hn⟩ : ∃ n s1, iR s = (n, s1) := ⟨_, _, rfl⟩;have Hi := q9 hi;unfold manyR at Hi;rw [show (iR (bad, s).2) = (n, s1) from hn] at Hi;have hnlo : n ≤ 9223372036854775807 ∧ -9223372036854775808 ≤ n := by have := iR_i64 h.q; rw [hn] at this; exact ⟨this.2, this.1⟩
 have HS := q9 h;have c0 : w.cell? ⟨R, 0, none⟩ = some (.pointer (some ⟨r, 0, none⟩)) := h.hR.cell 0;have hrB := h.q.lt;have hRB := h.ltR;clear hi h;go_enter Tryz.func93, Tryz.ntmps93
 go_upto_region 2 with (refine (sInt HS.out hn).mono ?_; rintro e w1 ⟨rfl, hs_, hf_⟩)
 have HS1 := q9 hs_;have HF1 := q9 (hf_.wide R);clear hs_ hf_ HS c0;obtain ⟨b1, hb1⟩ : ∃ z, Hid ((bad || decide (n < 0) || decide (4096 < n)) = z) := ⟨_, q9 rfl⟩;have Hi2 := q9 (show itB fI n.toNat (b1, s1) = (xs, (b', s')) from by rw [← hb1.out]; exact Hi.out);clear Hi hn;go_cut [] from 13 to 25 (fun wx => Hid (RS wx r R K B b1 s1) ∧ Hid (R2 r R w wx))
 case first =>
  have d0 : w1.cell? ⟨R, 0, none⟩ = some (.pointer (some ⟨r, 0, none⟩)) := HS1.out.hR.cell 0;have d1 : w1.cell? ⟨R, 1, none⟩ = some (.bool bad) := HS1.out.hR.cell 1;have d2 := HS1.out.hR.frozen 1;have HSp := q9 (fun b => HS1.out.put b);have HFp := q9 (fun b => HF1.out.setCell (p := ⟨R, 1, none⟩) (.inr (.inl rfl)) (.bool b));clear HS1 HF1 Hi2;cases bad with
  | true =>
   have e1 := q9 (show true = b1 from by rw [← hb1.out]; simp);clear hb1;go_wp2_with fail
   go_meet
   exact ⟨e1.out ▸ q9 (HSp.out true), q9 (HFp.out true)⟩
  | false =>
   by_cases h1 : n < 0
   ·have e1 := q9 (show true = b1 from by rw [← hb1.out]; simp [h1]);clear hb1;go_wp2_with fail
    go_meet
    exact ⟨e1.out ▸ q9 (HSp.out true), q9 (HFp.out true)⟩
   by_cases h2 : 4096 < n
   ·have e1 := q9 (show true = b1 from by rw [← hb1.out]; simp [h2]);clear hb1;go_wp2_with fail
    go_meet
    exact ⟨e1.out ▸ q9 (HSp.out true), q9 (HFp.out true)⟩
   have e1 := q9 (show false = b1 from by rw [← hb1.out]; simp [h1, h2]);clear hb1;go_wp2_with fail
   go_meet
   exact ⟨e1.out ▸ q9 (HSp.out false), q9 (HFp.out false)⟩
 case rest =>
  clear HS1 HF1;obtain ⟨HS2, HF2⟩ := hcut;have Hn := q9 (show b1 = false → 0 ≤ n ∧ n ≤ 4096 from fun e => by
   have := hb1.out;rw [e] at this;simp at this
   omega)
  clear hb1;go_wp2_with fail
  go_loopw [6, 7] (fun v i wr => ∃ (k : Nat) (b : Bool) (t : Option (List Nat)) (ys : List (Int × Int)), i = .int .i64 k ∧ k ≤ 4096 ∧ (k = 0 ∨ (k : Int) ≤ n) ∧ ys.length = k ∧ Hid (wr.ownsRow w.heap.size 77 2 v k (idC ys)) ∧ Hid (RS wr r R K B b t) ∧ Hid (R2 r R w wr) ∧ Hid (b = false → b1 = false) ∧ Hid (xs = ys ++ (itB fI (n.toNat - k) (b, t)).1 ∧ (b', s') = (itB fI (n.toNat - k) (b, t)).2)) (fun _ i _ => 4096 - (intOf i).toNat)
  case atStart => exact ⟨0, b1, s1, [], rfl, by omega, .inl rfl, rfl, q9 (World.ownsRow_nil _ _ _ _), HS2, HF2, q9 id, q9 (by rw [Nat.sub_zero, Hi2.out]; exact ⟨rfl, rfl⟩)⟩
  case round =>
   clear HS2 HF2 Hi2;obtain ⟨k, b, t, ys, rfl, hk, hkn, hys, HO, HS, HF, Hb, HX⟩ := hrel;have d0 : wr.cell? ⟨R, 0, none⟩ = some (.pointer (some ⟨r, 0, none⟩)) := HS.out.hR.cell 0;have d1 : wr.cell? ⟨R, 1, none⟩ = some (.bool b) := HS.out.hR.cell 1;by_cases hlt : (k : Int) < n
   ·cases b with
    | true =>
     have hx := q9 (show xs = ys ∧ (b', s') = (true, t) from by have h := HX.out; rw [itB_bad] at h; exact ⟨by rw [h.1, List.append_nil], h.2⟩);clear HX;obtain ⟨A, c, rfl⟩ := own_slice HO.out;go_wp2_with fail
     go_ret
     obtain ⟨e1, e2⟩ := hx.out;injection e2 with e2 e3;subst e1 e2 e3 hys;exact ⟨A, c, rfl, HO.out, HS.out, HF.out⟩
    | false =>
     have Hb0 := q9 (Hb.out rfl);have hn4 := Hn.out Hb0.out;obtain ⟨m, hm⟩ : ∃ m, Hid (n.toNat - k = m + 1) := ⟨n.toNat - k - 1, q9 (by omega)⟩;obtain ⟨⟨x, y⟩, ⟨bq, tq⟩, hx⟩ : ∃ x σ', Hid (fI (false, t) = (x, σ')) := ⟨_, _, q9 rfl⟩;have HX2 := q9 (show xs = (ys ++ [(x, y)]) ++ (itB fI m (bq, tq)).1 ∧ (b', s') = (itB fI m (bq, tq)).2 from by
      have h := HX.out;rw [hm.out, itB_step hx.out] at h;exact ⟨by rw [h.1, List.append_assoc]; rfl, h.2⟩)
     have hsz := HF.out.size;have HC := q9 (eI HS.out (Nat.le_trans hB hsz) hx.out);have Hm1 := q9 (show n.toNat - (k + 1) = m from by have := hm.out; omega);clear HX hm hx d0 d1;have d0 : wr.cell? ⟨R, 0, none⟩ = some (.pointer (some ⟨r, 0, none⟩)) := HS.out.hR.cell 0;have d1 : wr.cell? ⟨R, 1, none⟩ = some (.bool false) := HS.out.hR.cell 1;go_wp2_with fail
     refine HC.out.mono ?_;rintro e w2 ⟨rfl, hs2_, hf2_⟩;have hown2 := own_r2 HO.out hf2_ (by omega) (by omega);have HS2 := q9 hs2_;have HF2 := q9 (HF.out.trans hf2_);have hs2 := HF2.out.size;clear hs2_ hf2_ HC HS HF HO d0 d1;go_wp2_with (at_builtin; refine wpList_app2 (w := w2) rfl _ _ rfl elt_id hown2 hs2 rfl rfl (by simp) rfl rfl (by omega) ?_; intro v3 w3 hown3 hg3 hz3)
     go_roundw
     case rel =>
      have hb3 : Below w.heap.size w2 w3 := (Below.refl _ _).grown hg3 hs2 (fun k hk => (hown2.lt k hk).1);exact ⟨k + 1, bq, tq, ys ++ [(x, y)], by go_num, by omega, .inr (by omega), by simp [hys], q9 (by rw [idC_app]; exact hown3), q9 (HS2.out.below (hb3.mono hB)), q9 (HF2.out.grown hg3 (fun k hk => (hown2.lt k hk).1)), q9 (fun _ => Hb0.out), q9 (by rw [Hm1.out]; exact HX2.out)⟩
     case measure => simp [intOf]; omega
   have h0 : n.toNat - k = 0 := by omega
   have hx := q9 (show xs = ys ∧ (b', s') = (b, t) from by have h := HX.out; rw [h0] at h; exact ⟨by rw [h.1]; exact List.append_nil _, h.2⟩);have hge : n ≤ (k : Int) := by omega
   clear HX h0;obtain ⟨A, c, rfl⟩ := own_slice HO.out;go_wp2_with fail
   go_ret
   obtain ⟨e1, e2⟩ := hx.out;injection e2 with e2 e3;subst e1 e2 e3 hys;exact ⟨A, c, rfl, HO.out, HS.out, HF.out⟩
theorem manyT_any {w : World} {r R K B : Nat} {bad b' : Bool} {s s' : Option (List Nat)} {xs : List (Int × Int)} (h : RS w r R K B bad s) (hB : B ≤ w.heap.size) (hi : manyR fR (bad, s) = (xs, (b', s'))) :
  Calls Tryz.prog 94 #[.pointer (some ⟨R, 0, none⟩), .func (.func 95) #[] #[.pointer (some ⟨K, 0, none⟩)]] w fun e w' => ∃ A c, e = .returned (.slice A xs.length c) ∧ w'.ownsRow w.heap.size 92 2 (.slice A xs.length c) xs.length (xs.flatMap fun t => [.int .i64 t.1, .int .i64 t.2]) ∧ RS w' r R K B b' s' ∧ R2 r R w w' := by
 obtain ⟨n, s1, hn⟩ : ∃ n s1, iR s = (n, s1) := ⟨_, _, rfl⟩;have Hi := q9 hi;unfold manyR at Hi;rw [show (iR (bad, s).2) = (n, s1) from hn] at Hi;have hnlo : n ≤ 9223372036854775807 ∧ -9223372036854775808 ≤ n := by have := iR_i64 h.q; rw [hn] at this; exact ⟨this.2, this.1⟩
 have HS := q9 h;have c0 : w.cell? ⟨R, 0, none⟩ = some (.pointer (some ⟨r, 0, none⟩)) := h.hR.cell 0;have hrB := h.q.lt;have hRB := h.ltR;clear hi h;go_enter Tryz.func94, Tryz.ntmps94
 go_upto_region 2 with (refine (sInt HS.out hn).mono ?_; rintro e w1 ⟨rfl, hs_, hf_⟩)
 have HS1 := q9 hs_;have HF1 := q9 (hf_.wide R);clear hs_ hf_ HS c0;obtain ⟨b1, hb1⟩ : ∃ z, Hid ((bad || decide (n < 0) || decide (4096 < n)) = z) := ⟨_, q9 rfl⟩;have Hi2 := q9 (show itB fR n.toNat (b1, s1) = (xs, (b', s')) from by rw [← hb1.out]; exact Hi.out);clear Hi hn;go_cut [] from 13 to 25 (fun wx => Hid (RS wx r R K B b1 s1) ∧ Hid (R2 r R w wx))
 case first =>
  have d0 : w1.cell? ⟨R, 0, none⟩ = some (.pointer (some ⟨r, 0, none⟩)) := HS1.out.hR.cell 0;have d1 : w1.cell? ⟨R, 1, none⟩ = some (.bool bad) := HS1.out.hR.cell 1;have d2 := HS1.out.hR.frozen 1;have HSp := q9 (fun b => HS1.out.put b);have HFp := q9 (fun b => HF1.out.setCell (p := ⟨R, 1, none⟩) (.inr (.inl rfl)) (.bool b));clear HS1 HF1 Hi2;cases bad with
  | true =>
   have e1 := q9 (show true = b1 from by rw [← hb1.out]; simp);clear hb1;go_wp2_with fail
   go_meet
   exact ⟨e1.out ▸ q9 (HSp.out true), q9 (HFp.out true)⟩
  | false =>
   by_cases h1 : n < 0
   ·have e1 := q9 (show true = b1 from by rw [← hb1.out]; simp [h1]);clear hb1;go_wp2_with fail
    go_meet
    exact ⟨e1.out ▸ q9 (HSp.out true), q9 (HFp.out true)⟩
   by_cases h2 : 4096 < n
   ·have e1 := q9 (show true = b1 from by rw [← hb1.out]; simp [h2]);clear hb1;go_wp2_with fail
    go_meet
    exact ⟨e1.out ▸ q9 (HSp.out true), q9 (HFp.out true)⟩
   have e1 := q9 (show false = b1 from by rw [← hb1.out]; simp [h1, h2]);clear hb1;go_wp2_with fail
   go_meet
   exact ⟨e1.out ▸ q9 (HSp.out false), q9 (HFp.out false)⟩
 case rest =>
  clear HS1 HF1;obtain ⟨HS2, HF2⟩ := hcut;have Hn := q9 (show b1 = false → 0 ≤ n ∧ n ≤ 4096 from fun e => by
   have := hb1.out;rw [e] at this;simp at this
   omega)
  clear hb1;go_wp2_with fail
  go_loopw [6, 7] (fun v i wr => ∃ (k : Nat) (b : Bool) (t : Option (List Nat)) (ys : List (Int × Int)), i = .int .i64 k ∧ k ≤ 4096 ∧ (k = 0 ∨ (k : Int) ≤ n) ∧ ys.length = k ∧ Hid (wr.ownsRow w.heap.size 92 2 v k (ys.flatMap fun t => [.int .i64 t.1, .int .i64 t.2])) ∧ Hid (RS wr r R K B b t) ∧ Hid (R2 r R w wr) ∧ Hid (b = false → b1 = false) ∧ Hid (xs = ys ++ (itB fR (n.toNat - k) (b, t)).1 ∧ (b', s') = (itB fR (n.toNat - k) (b, t)).2)) (fun _ i _ => 4096 - (intOf i).toNat)
  case atStart => exact ⟨0, b1, s1, [], rfl, by omega, .inl rfl, rfl, q9 (World.ownsRow_nil _ _ _ _), HS2, HF2, q9 id, q9 (by rw [Nat.sub_zero, Hi2.out]; exact ⟨rfl, rfl⟩)⟩
  case round =>
   clear HS2 HF2 Hi2;obtain ⟨k, b, t, ys, rfl, hk, hkn, hys, HO, HS, HF, Hb, HX⟩ := hrel;have d0 : wr.cell? ⟨R, 0, none⟩ = some (.pointer (some ⟨r, 0, none⟩)) := HS.out.hR.cell 0;have d1 : wr.cell? ⟨R, 1, none⟩ = some (.bool b) := HS.out.hR.cell 1;by_cases hlt : (k : Int) < n
   ·cases b with
    | true =>
     have hx := q9 (show xs = ys ∧ (b', s') = (true, t) from by have h := HX.out; rw [itB_bad] at h; exact ⟨by rw [h.1, List.append_nil], h.2⟩);clear HX;obtain ⟨A, c, rfl⟩ := own_slice HO.out;go_wp2_with fail
     go_ret
     obtain ⟨e1, e2⟩ := hx.out;injection e2 with e2 e3;subst e1 e2 e3 hys;exact ⟨A, c, rfl, HO.out, HS.out, HF.out⟩
    | false =>
     have Hb0 := q9 (Hb.out rfl);have hn4 := Hn.out Hb0.out;obtain ⟨m, hm⟩ : ∃ m, Hid (n.toNat - k = m + 1) := ⟨n.toNat - k - 1, q9 (by omega)⟩;obtain ⟨⟨x, y⟩, ⟨bq, tq⟩, hx⟩ : ∃ x σ', Hid (fR (false, t) = (x, σ')) := ⟨_, _, q9 rfl⟩;have HX2 := q9 (show xs = (ys ++ [(x, y)]) ++ (itB fR m (bq, tq)).1 ∧ (b', s') = (itB fR m (bq, tq)).2 from by
      have h := HX.out;rw [hm.out, itB_step hx.out] at h;exact ⟨by rw [h.1, List.append_assoc]; rfl, h.2⟩)
     have hsz := HF.out.size;have HC := q9 (eR HS.out (Nat.le_trans hB hsz) hx.out);have Hm1 := q9 (show n.toNat - (k + 1) = m from by have := hm.out; omega);clear HX hm hx d0 d1;have d0 : wr.cell? ⟨R, 0, none⟩ = some (.pointer (some ⟨r, 0, none⟩)) := HS.out.hR.cell 0;have d1 : wr.cell? ⟨R, 1, none⟩ = some (.bool false) := HS.out.hR.cell 1;go_wp2_with fail
     refine HC.out.mono ?_;rintro e w2 ⟨rfl, hs2_, hf2_⟩;have hown2 := own_r2 HO.out hf2_ (by omega) (by omega);have HS2 := q9 hs2_;have HF2 := q9 (HF.out.trans hf2_);have hs2 := HF2.out.size;clear hs2_ hf2_ HC HS HF HO d0 d1;go_wp2_with (at_builtin; refine wpList_app2 (w := w2) rfl _ _ rfl elt_rt hown2 hs2 rfl rfl (by simp) rfl rfl (by omega) ?_; intro v3 w3 hown3 hg3 hz3)
     go_roundw
     case rel =>
      have hb3 : Below w.heap.size w2 w3 := (Below.refl _ _).grown hg3 hs2 (fun k hk => (hown2.lt k hk).1);exact ⟨k + 1, bq, tq, ys ++ [(x, y)], by go_num, by omega, .inr (by omega), by simp [hys], q9 (by rw [List.flatMap_append]; exact hown3), q9 (HS2.out.below (hb3.mono hB)), q9 (HF2.out.grown hg3 (fun k hk => (hown2.lt k hk).1)), q9 (fun _ => Hb0.out), q9 (by rw [Hm1.out]; exact HX2.out)⟩
     case measure => simp [intOf]; omega
   have h0 : n.toNat - k = 0 := by omega
   have hx := q9 (show xs = ys ∧ (b', s') = (b, t) from by have h := HX.out; rw [h0] at h; exact ⟨by rw [h.1]; exact List.append_nil _, h.2⟩);have hge : n ≤ (k : Int) := by omega
   clear HX h0;obtain ⟨A, c, rfl⟩ := own_slice HO.out;go_wp2_with fail
   go_ret
   obtain ⟨e1, e2⟩ := hx.out;injection e2 with e2 e3;subst e1 e2 e3 hys;exact ⟨A, c, rfl, HO.out, HS.out, HF.out⟩
theorem manyC_any {w : World} {r R K B : Nat} {bad b' : Bool} {s s' : Option (List Nat)} {xs : List Cl} (h : RS w r R K B bad s) (hB : B ≤ w.heap.size) (hi : manyR fC (bad, s) = (xs, (b', s'))) :
  Calls Tryz.prog 85 #[.pointer (some ⟨R, 0, none⟩), .func (.func 86) #[.pointer (some ⟨R, 0, none⟩)] #[]] w fun e w' => ∃ A c, e = .returned (.slice A xs.length c) ∧ w'.ownsRow w.heap.size 41 5 (.slice A xs.length c) xs.length (xs.flatMap clC) ∧ RS w' r R K B b' s' ∧ R2 r R w w' := by
 obtain ⟨n, s1, hn⟩ : ∃ n s1, iR s = (n, s1) := ⟨_, _, rfl⟩;have Hi := q9 hi;unfold manyR at Hi;rw [show (iR (bad, s).2) = (n, s1) from hn] at Hi;have hnlo : n ≤ 9223372036854775807 ∧ -9223372036854775808 ≤ n := by have := iR_i64 h.q; rw [hn] at this; exact ⟨this.2, this.1⟩
 have HS := q9 h;have c0 : w.cell? ⟨R, 0, none⟩ = some (.pointer (some ⟨r, 0, none⟩)) := h.hR.cell 0;have hrB := h.q.lt;have hRB := h.ltR;clear hi h;go_enter Tryz.func85, Tryz.ntmps85
 go_upto_region 2 with (refine (sInt HS.out hn).mono ?_; rintro e w1 ⟨rfl, hs_, hf_⟩)
 have HS1 := q9 hs_;have HF1 := q9 (hf_.wide R);clear hs_ hf_ HS c0;obtain ⟨b1, hb1⟩ : ∃ z, Hid ((bad || decide (n < 0) || decide (4096 < n)) = z) := ⟨_, q9 rfl⟩;have Hi2 := q9 (show itB fC n.toNat (b1, s1) = (xs, (b', s')) from by rw [← hb1.out]; exact Hi.out);clear Hi hn;go_cut [] from 13 to 25 (fun wx => Hid (RS wx r R K B b1 s1) ∧ Hid (R2 r R w wx))
 case first =>
  have d0 : w1.cell? ⟨R, 0, none⟩ = some (.pointer (some ⟨r, 0, none⟩)) := HS1.out.hR.cell 0;have d1 : w1.cell? ⟨R, 1, none⟩ = some (.bool bad) := HS1.out.hR.cell 1;have d2 := HS1.out.hR.frozen 1;have HSp := q9 (fun b => HS1.out.put b);have HFp := q9 (fun b => HF1.out.setCell (p := ⟨R, 1, none⟩) (.inr (.inl rfl)) (.bool b));clear HS1 HF1 Hi2;cases bad with
  | true =>
   have e1 := q9 (show true = b1 from by rw [← hb1.out]; simp);clear hb1;go_wp2_with fail
   go_meet
   exact ⟨e1.out ▸ q9 (HSp.out true), q9 (HFp.out true)⟩
  | false =>
   by_cases h1 : n < 0
   ·have e1 := q9 (show true = b1 from by rw [← hb1.out]; simp [h1]);clear hb1;go_wp2_with fail
    go_meet
    exact ⟨e1.out ▸ q9 (HSp.out true), q9 (HFp.out true)⟩
   by_cases h2 : 4096 < n
   ·have e1 := q9 (show true = b1 from by rw [← hb1.out]; simp [h2]);clear hb1;go_wp2_with fail
    go_meet
    exact ⟨e1.out ▸ q9 (HSp.out true), q9 (HFp.out true)⟩
   have e1 := q9 (show false = b1 from by rw [← hb1.out]; simp [h1, h2]);clear hb1;go_wp2_with fail
   go_meet
   exact ⟨e1.out ▸ q9 (HSp.out false), q9 (HFp.out false)⟩
 case rest =>
  clear HS1 HF1;obtain ⟨HS2, HF2⟩ := hcut;have Hn := q9 (show b1 = false → 0 ≤ n ∧ n ≤ 4096 from fun e => by
   have := hb1.out;rw [e] at this;simp at this
   omega)
  clear hb1;go_wp2_with fail
  go_loopw [6, 7] (fun v i wr => ∃ (k : Nat) (b : Bool) (t : Option (List Nat)) (ys : List Cl), i = .int .i64 k ∧ k ≤ 4096 ∧ (k = 0 ∨ (k : Int) ≤ n) ∧ ys.length = k ∧ Hid (wr.ownsRow w.heap.size 41 5 v k (ys.flatMap clC)) ∧ Hid (RS wr r R K B b t) ∧ Hid (R2 r R w wr) ∧ Hid (b = false → b1 = false) ∧ Hid (xs = ys ++ (itB fC (n.toNat - k) (b, t)).1 ∧ (b', s') = (itB fC (n.toNat - k) (b, t)).2)) (fun _ i _ => 4096 - (intOf i).toNat)
  case atStart => exact ⟨0, b1, s1, [], rfl, by omega, .inl rfl, rfl, q9 (World.ownsRow_nil _ _ _ _), HS2, HF2, q9 id, q9 (by rw [Nat.sub_zero, Hi2.out]; exact ⟨rfl, rfl⟩)⟩
  case round =>
   clear HS2 HF2 Hi2;obtain ⟨k, b, t, ys, rfl, hk, hkn, hys, HO, HS, HF, Hb, HX⟩ := hrel;have d0 : wr.cell? ⟨R, 0, none⟩ = some (.pointer (some ⟨r, 0, none⟩)) := HS.out.hR.cell 0;have d1 : wr.cell? ⟨R, 1, none⟩ = some (.bool b) := HS.out.hR.cell 1;by_cases hlt : (k : Int) < n
   ·cases b with
    | true =>
     have hx := q9 (show xs = ys ∧ (b', s') = (true, t) from by have h := HX.out; rw [itB_bad] at h; exact ⟨by rw [h.1, List.append_nil], h.2⟩);clear HX;obtain ⟨A, c, rfl⟩ := own_slice HO.out;go_wp2_with fail
     go_ret
     obtain ⟨e1, e2⟩ := hx.out;injection e2 with e2 e3;subst e1 e2 e3 hys;exact ⟨A, c, rfl, HO.out, HS.out, HF.out⟩
    | false =>
     have Hb0 := q9 (Hb.out rfl);have hn4 := Hn.out Hb0.out;obtain ⟨m, hm⟩ : ∃ m, Hid (n.toNat - k = m + 1) := ⟨n.toNat - k - 1, q9 (by omega)⟩;obtain ⟨⟨q1, q2, q3, q4, q5⟩, ⟨bq, tq⟩, hx⟩ : ∃ x σ', Hid (fC (false, t) = (x, σ')) := ⟨_, _, q9 rfl⟩;have HX2 := q9 (show xs = (ys ++ [⟨q1, q2, q3, q4, q5⟩]) ++ (itB fC m (bq, tq)).1 ∧ (b', s') = (itB fC m (bq, tq)).2 from by
      have h := HX.out;rw [hm.out, itB_step hx.out] at h;exact ⟨by rw [h.1, List.append_assoc]; rfl, h.2⟩)
     have hsz := HF.out.size;have HC := q9 (eC HS.out (Nat.le_trans hB hsz) hx.out);have Hm1 := q9 (show n.toNat - (k + 1) = m from by have := hm.out; omega);clear HX hm hx d0 d1;have d0 : wr.cell? ⟨R, 0, none⟩ = some (.pointer (some ⟨r, 0, none⟩)) := HS.out.hR.cell 0;have d1 : wr.cell? ⟨R, 1, none⟩ = some (.bool false) := HS.out.hR.cell 1;go_wp2_with fail
     refine HC.out.mono ?_;rintro e w2 ⟨rfl, hs2_, hf2_⟩;have hown2 := own_r2 HO.out hf2_ (by omega) (by omega);have HS2 := q9 hs2_;have HF2 := q9 (HF.out.trans hf2_);have hs2 := HF2.out.size;clear hs2_ hf2_ HC HS HF HO d0 d1;go_wp2_with (at_builtin; refine wpList_app2 (w := w2) rfl _ _ rfl elt_claimD hown2 hs2 rfl rfl (by simp) rfl rfl (by omega) ?_; intro v3 w3 hown3 hg3 hz3)
     go_roundw
     case rel =>
      have hb3 : Below w.heap.size w2 w3 := (Below.refl _ _).grown hg3 hs2 (fun k hk => (hown2.lt k hk).1);exact ⟨k + 1, bq, tq, ys ++ [⟨q1, q2, q3, q4, q5⟩], by go_num, by omega, .inr (by omega), by simp [hys], q9 (by rw [List.flatMap_append]; exact hown3), q9 (HS2.out.below (hb3.mono hB)), q9 (HF2.out.grown hg3 (fun k hk => (hown2.lt k hk).1)), q9 (fun _ => Hb0.out), q9 (by rw [Hm1.out]; exact HX2.out)⟩
     case measure => simp [intOf]; omega
   have h0 : n.toNat - k = 0 := by omega
   have hx := q9 (show xs = ys ∧ (b', s') = (b, t) from by have h := HX.out; rw [h0] at h; exact ⟨by rw [h.1]; exact List.append_nil _, h.2⟩);have hge : n ≤ (k : Int) := by omega
   clear HX h0;obtain ⟨A, c, rfl⟩ := own_slice HO.out;go_wp2_with fail
   go_ret
   obtain ⟨e1, e2⟩ := hx.out;injection e2 with e2 e3;subst e1 e2 e3 hys;exact ⟨A, c, rfl, HO.out, HS.out, HF.out⟩
theorem manyM_any {w : World} {r R K B : Nat} {bad b' : Bool} {s s' : Option (List Nat)} {xs : List Mk} (h : RS w r R K B bad s) (hB : B ≤ w.heap.size) (hi : manyR fM (bad, s) = (xs, (b', s'))) :
  Calls Tryz.prog 90 #[.pointer (some ⟨R, 0, none⟩), .func (.func 91) #[] #[.pointer (some ⟨K, 0, none⟩)]] w fun e w' => ∃ A c, e = .returned (.slice A xs.length c) ∧ w'.ownsRow w.heap.size 88 7 (.slice A xs.length c) xs.length (xs.flatMap mkC) ∧ RS w' r R K B b' s' ∧ R2 r R w w' := by
 obtain ⟨n, s1, hn⟩ : ∃ n s1, iR s = (n, s1) := ⟨_, _, rfl⟩;have Hi := q9 hi;unfold manyR at Hi;rw [show (iR (bad, s).2) = (n, s1) from hn] at Hi;have hnlo : n ≤ 9223372036854775807 ∧ -9223372036854775808 ≤ n := by have := iR_i64 h.q; rw [hn] at this; exact ⟨this.2, this.1⟩
 have HS := q9 h;have c0 : w.cell? ⟨R, 0, none⟩ = some (.pointer (some ⟨r, 0, none⟩)) := h.hR.cell 0;have hrB := h.q.lt;have hRB := h.ltR;clear hi h;go_enter Tryz.func90, Tryz.ntmps90
 go_upto_region 2 with (refine (sInt HS.out hn).mono ?_; rintro e w1 ⟨rfl, hs_, hf_⟩)
 have HS1 := q9 hs_;have HF1 := q9 (hf_.wide R);clear hs_ hf_ HS c0;obtain ⟨b1, hb1⟩ : ∃ z, Hid ((bad || decide (n < 0) || decide (4096 < n)) = z) := ⟨_, q9 rfl⟩;have Hi2 := q9 (show itB fM n.toNat (b1, s1) = (xs, (b', s')) from by rw [← hb1.out]; exact Hi.out);clear Hi hn;go_cut [] from 13 to 25 (fun wx => Hid (RS wx r R K B b1 s1) ∧ Hid (R2 r R w wx))
 case first =>
  have d0 : w1.cell? ⟨R, 0, none⟩ = some (.pointer (some ⟨r, 0, none⟩)) := HS1.out.hR.cell 0;have d1 : w1.cell? ⟨R, 1, none⟩ = some (.bool bad) := HS1.out.hR.cell 1;have d2 := HS1.out.hR.frozen 1;have HSp := q9 (fun b => HS1.out.put b);have HFp := q9 (fun b => HF1.out.setCell (p := ⟨R, 1, none⟩) (.inr (.inl rfl)) (.bool b));clear HS1 HF1 Hi2;cases bad with
  | true =>
   have e1 := q9 (show true = b1 from by rw [← hb1.out]; simp);clear hb1;go_wp2_with fail
   go_meet
   exact ⟨e1.out ▸ q9 (HSp.out true), q9 (HFp.out true)⟩
  | false =>
   by_cases h1 : n < 0
   ·have e1 := q9 (show true = b1 from by rw [← hb1.out]; simp [h1]);clear hb1;go_wp2_with fail
    go_meet
    exact ⟨e1.out ▸ q9 (HSp.out true), q9 (HFp.out true)⟩
   by_cases h2 : 4096 < n
   ·have e1 := q9 (show true = b1 from by rw [← hb1.out]; simp [h2]);clear hb1;go_wp2_with fail
    go_meet
    exact ⟨e1.out ▸ q9 (HSp.out true), q9 (HFp.out true)⟩
   have e1 := q9 (show false = b1 from by rw [← hb1.out]; simp [h1, h2]);clear hb1;go_wp2_with fail
   go_meet
   exact ⟨e1.out ▸ q9 (HSp.out false), q9 (HFp.out false)⟩
 case rest =>
  clear HS1 HF1;obtain ⟨HS2, HF2⟩ := hcut;have Hn := q9 (show b1 = false → 0 ≤ n ∧ n ≤ 4096 from fun e => by
   have := hb1.out;rw [e] at this;simp at this
   omega)
  clear hb1;go_wp2_with fail
  go_loopw [6, 7] (fun v i wr => ∃ (k : Nat) (b : Bool) (t : Option (List Nat)) (ys : List Mk), i = .int .i64 k ∧ k ≤ 4096 ∧ (k = 0 ∨ (k : Int) ≤ n) ∧ ys.length = k ∧ Hid (wr.ownsRow w.heap.size 88 7 v k (ys.flatMap mkC)) ∧ Hid (RS wr r R K B b t) ∧ Hid (R2 r R w wr) ∧ Hid (b = false → b1 = false) ∧ Hid (xs = ys ++ (itB fM (n.toNat - k) (b, t)).1 ∧ (b', s') = (itB fM (n.toNat - k) (b, t)).2)) (fun _ i _ => 4096 - (intOf i).toNat)
  case atStart => exact ⟨0, b1, s1, [], rfl, by omega, .inl rfl, rfl, q9 (World.ownsRow_nil _ _ _ _), HS2, HF2, q9 id, q9 (by rw [Nat.sub_zero, Hi2.out]; exact ⟨rfl, rfl⟩)⟩
  case round =>
   clear HS2 HF2 Hi2;obtain ⟨k, b, t, ys, rfl, hk, hkn, hys, HO, HS, HF, Hb, HX⟩ := hrel;have d0 : wr.cell? ⟨R, 0, none⟩ = some (.pointer (some ⟨r, 0, none⟩)) := HS.out.hR.cell 0;have d1 : wr.cell? ⟨R, 1, none⟩ = some (.bool b) := HS.out.hR.cell 1;by_cases hlt : (k : Int) < n
   ·cases b with
    | true =>
     have hx := q9 (show xs = ys ∧ (b', s') = (true, t) from by have h := HX.out; rw [itB_bad] at h; exact ⟨by rw [h.1, List.append_nil], h.2⟩);clear HX;obtain ⟨A, c, rfl⟩ := own_slice HO.out;go_wp2_with fail
     go_ret
     obtain ⟨e1, e2⟩ := hx.out;injection e2 with e2 e3;subst e1 e2 e3 hys;exact ⟨A, c, rfl, HO.out, HS.out, HF.out⟩
    | false =>
     have Hb0 := q9 (Hb.out rfl);have hn4 := Hn.out Hb0.out;obtain ⟨m, hm⟩ : ∃ m, Hid (n.toNat - k = m + 1) := ⟨n.toNat - k - 1, q9 (by omega)⟩;obtain ⟨⟨p1, p2, ⟨q1, q2, q3, q4, q5⟩⟩, ⟨bq, tq⟩, hx⟩ : ∃ x σ', Hid (fM (false, t) = (x, σ')) := ⟨_, _, q9 rfl⟩;have HX2 := q9 (show xs = (ys ++ [⟨p1, p2, ⟨q1, q2, q3, q4, q5⟩⟩]) ++ (itB fM m (bq, tq)).1 ∧ (b', s') = (itB fM m (bq, tq)).2 from by
      have h := HX.out;rw [hm.out, itB_step hx.out] at h;exact ⟨by rw [h.1, List.append_assoc]; rfl, h.2⟩)
     have hsz := HF.out.size;have HC := q9 (eM HS.out (Nat.le_trans hB hsz) hx.out);have Hm1 := q9 (show n.toNat - (k + 1) = m from by have := hm.out; omega);clear HX hm hx d0 d1;have d0 : wr.cell? ⟨R, 0, none⟩ = some (.pointer (some ⟨r, 0, none⟩)) := HS.out.hR.cell 0;have d1 : wr.cell? ⟨R, 1, none⟩ = some (.bool false) := HS.out.hR.cell 1;go_wp2_with fail
     refine HC.out.mono ?_;rintro e w2 ⟨rfl, hs2_, hf2_⟩;have hown2 := own_r2 HO.out hf2_ (by omega) (by omega);have HS2 := q9 hs2_;have HF2 := q9 (HF.out.trans hf2_);have hs2 := HF2.out.size;clear hs2_ hf2_ HC HS HF HO d0 d1;go_wp2_with (at_builtin; refine wpList_app2 (w := w2) rfl _ _ rfl elt_mark hown2 hs2 rfl rfl (by simp) rfl rfl (by omega) ?_; intro v3 w3 hown3 hg3 hz3)
     go_roundw
     case rel =>
      have hb3 : Below w.heap.size w2 w3 := (Below.refl _ _).grown hg3 hs2 (fun k hk => (hown2.lt k hk).1);exact ⟨k + 1, bq, tq, ys ++ [⟨p1, p2, ⟨q1, q2, q3, q4, q5⟩⟩], by go_num, by omega, .inr (by omega), by simp [hys], q9 (by rw [List.flatMap_append]; exact hown3), q9 (HS2.out.below (hb3.mono hB)), q9 (HF2.out.grown hg3 (fun k hk => (hown2.lt k hk).1)), q9 (fun _ => Hb0.out), q9 (by rw [Hm1.out]; exact HX2.out)⟩
     case measure => simp [intOf]; omega
   have h0 : n.toNat - k = 0 := by omega
   have hx := q9 (show xs = ys ∧ (b', s') = (b, t) from by have h := HX.out; rw [h0] at h; exact ⟨by rw [h.1]; exact List.append_nil _, h.2⟩);have hge : n ≤ (k : Int) := by omega
   clear HX h0;obtain ⟨A, c, rfl⟩ := own_slice HO.out;go_wp2_with fail
   go_ret
   obtain ⟨e1, e2⟩ := hx.out;injection e2 with e2 e3;subst e1 e2 e3 hys;exact ⟨A, c, rfl, HO.out, HS.out, HF.out⟩
end Go.Proofs.YtnapnkmehnabfaaGreat

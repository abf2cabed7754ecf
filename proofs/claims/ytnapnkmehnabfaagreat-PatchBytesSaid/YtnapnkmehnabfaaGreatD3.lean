import Derived.Test.YtnapnkmehnabfaaGreatD2
set_option linter.unusedSimpArgs false
set_option maxHeartbeats 4000000
set_option maxRecDepth 100000
namespace Go.Proofs.YtnapnkmehnabfaaGreat
open Go.RowKit Go.Maps
theorem uR_le {s : Option (List Nat)} {n : Nat} {s' : Option (List Nat)} (h : uR s = (n, s')) : ∀ l', s' = some l' → ∃ l, s = some l ∧ l'.length ≤ l.length := by
 rintro l' rfl;cases s with
 | none => cases h
 | some l => exact ⟨l, rfl, Nat.le_of_lt (uR_some h)⟩
theorem iR_le {s : Option (List Nat)} {n : Int} {s' : Option (List Nat)} (h : iR s = (n, s')) : ∀ l', s' = some l' → ∃ l, s = some l ∧ l'.length ≤ l.length :=
 uR_le (n := (uR s).1) (by unfold iR at h; injection h with _ h; rw [← h])
theorem rawR_le {s : Option (List Nat)} {b : List Nat} {s' : Option (List Nat)} (h : rawR s = (b, s')) : ∀ l', s' = some l' → ∃ l, s = some l ∧ l'.length ≤ l.length := by
 rintro l' rfl;unfold rawR at h;cases e : uR s with
 | mk n t =>
  rw [e] at h;cases t with
  | none => cases h
  | some l =>
   obtain ⟨l0, h0, h1⟩ := uR_le e l rfl;refine ⟨l0, h0, ?_⟩;unfold rawo at h;split at h
   ·rename_i q; cases q
   rename_i q;injection q with q1 q2;injection q2 with q2;subst q1 q2;split at h
   ·injection h with _ h;injection h with h;subst h;rw [List.length_drop];omega
   cases h
structure RS (w : World) (r R K B : Nat) (bad : Bool) (s : Option (List Nat)) : Prop where
 q : RQ w r B s
 hR : Bk w R 136 #[.pointer (some ⟨r, 0, none⟩), .bool bad]
 hK : Bk w K 134 #[.pointer (some ⟨R, 0, none⟩)]
 ltR : R < B
 ltK : K < B
 le : ∀ l, s = some l → l.length ≤ 1000000000
section
variable {w w' : World} {r R K B : Nat} {bad : Bool} {s s' : Option (List Nat)}
theorem RS.neR (h : RS w r R K B bad s) : R ≠ r := by obtain ⟨cs, hb⟩ := h.q.bk; exact h.hR.ne_ hb (by decide)
theorem RS.neK (h : RS w r R K B bad s) : K ≠ r := by obtain ⟨cs, hb⟩ := h.q.bk; exact h.hK.ne_ hb (by decide)
theorem RS.neKR (h : RS w r R K B bad s) : K ≠ R := h.hK.ne_ h.hR (by decide)
theorem RS.kr (h : RS w r R K B bad s) : w.cell? ⟨R, 0, none⟩ = some (.pointer (some ⟨r, 0, none⟩)) ∧ w.cell? ⟨K, 0, none⟩ = some (.pointer (some ⟨R, 0, none⟩)) := ⟨h.hR.cell 0, h.hK.cell 0⟩
theorem RS.below (h : RS w r R K B bad s) (hb : Below B w w') : RS w' r R K B bad s := ⟨h.q.below hb, h.hR.below hb h.ltR, h.hK.below hb h.ltK, h.ltR, h.ltK, h.le⟩
theorem RS.next (h : RS w r R K B bad s) (hq : RQ w' r B s') (hf : R2 r r w w') (hle : ∀ l', s' = some l' → ∃ l, s = some l ∧ l'.length ≤ l.length) : RS w' r R K B bad s' :=
 ⟨hq, h.hR.r2 hf h.neR h.neR, h.hK.r2 hf h.neK h.neK, h.ltR, h.ltK, fun l' e => by obtain ⟨l, h1, h2⟩ := hle l' e; have := h.le l h1; omega⟩
theorem sInt {x : Int} (h : RS w r R K B bad s) (hi : iR s = (x, s')) : Calls Tryz.prog 31 #[.pointer (some ⟨r, 0, none⟩)] w fun e w' => e = .returned (.int .i64 x) ∧ RS w' r R K B bad s' ∧ R2 r r w w' := by
 refine (gInt_any r B s w h.q).mono ?_;rintro e w1 ⟨rfl, hq, hf⟩;rw [hi] at hq ⊢;exact ⟨rfl, h.next hq hf (iR_le hi), hf⟩
theorem sUint {x : Nat} (h : RS w r R K B bad s) (hi : uR s = (x, s')) : Calls Tryz.prog 81 #[.pointer (some ⟨r, 0, none⟩)] w fun e w' => e = .returned (.int .u64 x) ∧ RS w' r R K B bad s' ∧ R2 r r w w' := by
 refine (gUint_any r B s w h.q).mono ?_;rintro e w1 ⟨rfl, hq, hf⟩;rw [hi] at hq ⊢;exact ⟨rfl, h.next hq hf (uR_le hi), hf⟩
theorem sRaw {b : List Nat} (h : RS w r R K B bad s) (hB : B ≤ w.heap.size) (hi : rawR s = (b, s')) : Calls Tryz.prog 89 #[.pointer (some ⟨r, 0, none⟩)] w fun e w' => ∃ A c, e = .returned (.slice A b.length c) ∧ w'.ownsRow w.heap.size 5 1 (.slice A b.length c) b.length (byV b) ∧ RS w' r R K B bad s' ∧ R2 r r w w' := by
 refine (gRaw_any r B s w h.q hB h.le).mono ?_;rintro e w1 ⟨A, c, rfl, ho, hq, hf⟩;rw [hi] at ho hq ⊢;exact ⟨A, c, rfl, ho, h.next hq hf (rawR_le hi), hf⟩
end
theorem gPoint_any {w : World} {r R K B : Nat} {bad : Bool} {s s1 s2 : Option (List Nat)} {x1 : Int} {x2 : Int} (h : RS w r R K B bad s) (hB : B ≤ w.heap.size) (h1 : iR s = (x1, s1)) (h2 : iR s1 = (x2, s2)) :
  Calls Tryz.prog 84 #[.pointer (some ⟨R, 0, none⟩)] w fun e w' => e = .returned (.agg #[.int .i64 x1, .int .i64 x2]) ∧ RS w' r R K B bad s2 ∧ R2 r r w w' := by
 have HS0 := q9 (h.below ((Below.refl B w).alloc hB (.cells #[.int .i64 0, .int .i64 0] 58)));have HF0 := q9 ((R2.refl r r w).alloc (.cells #[.int .i64 0, .int .i64 0] 58));have HP0 := q9 (Bk.new w 58 #[.int .i64 0, .int .i64 0]);have hPr : w.heap.size ≠ r := by have := h.q.lt; omega
 have hPn := Nat.le_refl w.heap.size;clear h;go_enter Tryz.func84, Tryz.ntmps84
 go_upto_region 1 with fail
 generalize w.alloc (.cells #[.int .i64 0, .int .i64 0] 58) = w1 at *;obtain ⟨P, hP⟩ : ∃ z, Hid (w.heap.size = z) := ⟨_, q9 rfl⟩;rw [hP.out] at HP0 hPr;have hPn : w.heap.size ≤ P := Nat.le_of_eq hP.out;simp only [hP.out];have HSd := q9 (show RS w1.drew r R K B bad s from HS0.out.below (Below.refl _ _).drew);have HFd := q9 HF0.out.drew;have HPd := q9 (HP0.out.below (Below.refl _ _).drew HP0.out.lt);clear HS0 HF0 HP0;have HS0 := HSd;have HF0 := HFd;have HP0 := HPd;clear HSd HFd HPd;refine rH 12 (fun W => W.cell? ⟨R, 0, none⟩ = some (.pointer (some ⟨r, 0, none⟩))) ?_;generalize w1.drew = wv0 at *;refine Ht 0 (.pointer (some ⟨R, 0, none⟩)) 3 rfl rfl rfl (fun W hW => by have s0 := hW; go_simp) (HS0.out.hR.cell 0) ?_;refine Ht 1 (.pointer (some ⟨R, 0, none⟩)) 4 rfl rfl rfl (fun W hW => by have s0 := hW; go_simp) (HS0.out.hR.cell 0) ?_;refine Ht 2 (.pointer (some ⟨R, 0, none⟩)) 5 rfl rfl rfl (fun W hW => by have s0 := hW; go_simp) (HS0.out.hR.cell 0) ?_;refine Ht 3 (.pointer (some ⟨r, 0, none⟩)) 6 rfl rfl rfl (fun W hW => by have s0 := hW; go_simp) (HS0.out.hR.cell 0) ?_;refine Ht 5 (.pointer (some ⟨R, 0, none⟩)) 8 rfl rfl rfl (fun W hW => by have s0 := hW; go_simp) (HS0.out.hR.cell 0) ?_;refine Ht 6 (.pointer (some ⟨R, 0, none⟩)) 9 rfl rfl rfl (fun W hW => by have s0 := hW; go_simp) (HS0.out.hR.cell 0) ?_;refine Ht 7 (.pointer (some ⟨R, 0, none⟩)) 10 rfl rfl rfl (fun W hW => by have s0 := hW; go_simp) (HS0.out.hR.cell 0) ?_
 refine Ht 8 (.pointer (some ⟨r, 0, none⟩)) 11 rfl rfl rfl (fun W hW => by have s0 := hW; go_simp) (HS0.out.hR.cell 0) ?_;try simp only [Act.put, qz0, qz1, qz2]
 refine H1 4 rfl rfl (fun K hK8 => ?_);go_simp
 go_at_call 31
 refine (sInt HS0.out h1).mono ?_;rintro e wv1 ⟨rfl, hs_, hf_⟩;have HS1 := q9 hs_;have HF1 := q9 (HF0.out.trans hf_);have HP1 := q9 (HP0.out.r2 hf_ hPr hPr);clear hs_ hf_ HS0 HF0 HP0;refine hK8.out _ _ (HS1.out.hR.cell 0) ?_;try simp only [Act.put, qz0, qz1, qz2]
 refine H1 9 rfl rfl (fun K hK9 => ?_);go_simp
 go_at_call 31
 refine (sInt HS1.out h2).mono ?_;rintro e wv2 ⟨rfl, hs_, hf_⟩;have HS2 := q9 hs_;have HF2 := q9 (HF1.out.trans hf_);have HP2 := q9 (HP1.out.r2 hf_ hPr hPr);clear hs_ hf_ HS1 HF1 HP1;refine hK9.out _ _ (HS2.out.hR.cell 0) ?_;try simp only [Act.put, qz0, qz1, qz2]
 refine Ht 10 (.agg #[.int .i64 x1, .int .i64 x2]) 13 rfl rfl rfl (fun W hW => by have s0 := hW; go_simp) (HS2.out.hR.cell 0) ?_;try simp only [Act.put, qz0, qz1, qz2]
 refine H1 11 rfl rfl (fun K hK11 => ?_);refine wp_store_row 58 (.tmp 2) (.tmp 13) rfl P 58 #[.int .i64 0, .int .i64 0] #[.int .i64 x1, .int .i64 x2] rfl rfl HP2.out (by kernel_rfl) rfl (by simp [Value.oneCell']) ?_;have HPz := q9 (HP2.out.row #[.int .i64 x1, .int .i64 x2]);have hg_ := grown_row9 wv2 P #[.int .i64 x1, .int .i64 x2];have HSz := q9 (HS2.out.below ((Below.refl B wv2).grown hg_ (Nat.le_trans hB HF2.out.size) (fun k e => by cases e; exact Nat.le_trans hB hPn)));have HFz := q9 (HF2.out.grown hg_ (fun k e => by cases e; exact hPn));clear hg_ HS2 HF2 HP2;generalize World.setRow _ _ _ = wz at *;refine hK11.out _ _ (HSz.out.hR.cell 0) ?_;try simp only [Act.put, qz0, qz1, qz2]
 refine H0 ?_;try simp only [Act.put, qz0, qz1, qz2]
 have r0_ := HPz.out.cell 0;have r1_ := HPz.out.cell 1;clear HPz;go_wp2_with fail
 exact bodyPost_ret (v := .agg #[.int .i64 x1, .int .i64 x2]) (by simp [results, Tryz.results84, go_sem, r0_, r1_]) rfl ⟨rfl, HSz.out, HFz.out⟩
theorem gClaim_any {w : World} {r R K B : Nat} {bad : Bool} {s s1 s2 s3 s4 s5 : Option (List Nat)} {x1 : Int} {x2 : Int} {x3 : Int} {x4 : Int} {x5 : Int} (h : RS w r R K B bad s) (hB : B ≤ w.heap.size) (h1 : iR s = (x1, s1)) (h2 : iR s1 = (x2, s2)) (h3 : iR s2 = (x3, s3)) (h4 : iR s3 = (x4, s4)) (h5 : iR s4 = (x5, s5)) :
  Calls Tryz.prog 86 #[.pointer (some ⟨R, 0, none⟩)] w fun e w' => e = .returned (.agg #[.int .i64 x1, .int .i64 x2, .int .i64 x3, .int .i64 x4, .int .i64 x5]) ∧ RS w' r R K B bad s5 ∧ R2 r r w w' := by
 have HS0 := q9 (h.below ((Below.refl B w).alloc hB (.cells #[.int .i64 0, .int .i64 0, .int .i64 0, .int .i64 0, .int .i64 0] 41)));have HF0 := q9 ((R2.refl r r w).alloc (.cells #[.int .i64 0, .int .i64 0, .int .i64 0, .int .i64 0, .int .i64 0] 41));have HP0 := q9 (Bk.new w 41 #[.int .i64 0, .int .i64 0, .int .i64 0, .int .i64 0, .int .i64 0]);have hPr : w.heap.size ≠ r := by have := h.q.lt; omega
 have hPn := Nat.le_refl w.heap.size;clear h;go_enter Tryz.func86, Tryz.ntmps86
 go_upto_region 1 with fail
 generalize w.alloc (.cells #[.int .i64 0, .int .i64 0, .int .i64 0, .int .i64 0, .int .i64 0] 41) = w1 at *;obtain ⟨P, hP⟩ : ∃ z, Hid (w.heap.size = z) := ⟨_, q9 rfl⟩;rw [hP.out] at HP0 hPr;have hPn : w.heap.size ≤ P := Nat.le_of_eq hP.out;simp only [hP.out];have HSd := q9 (show RS w1.drew r R K B bad s from HS0.out.below (Below.refl _ _).drew);have HFd := q9 HF0.out.drew;have HPd := q9 (HP0.out.below (Below.refl _ _).drew HP0.out.lt);clear HS0 HF0 HP0;have HS0 := HSd;have HF0 := HFd;have HP0 := HPd;clear HSd HFd HPd;refine rH 27 (fun W => W.cell? ⟨R, 0, none⟩ = some (.pointer (some ⟨r, 0, none⟩))) ?_;generalize w1.drew = wv0 at *;refine Ht 0 (.pointer (some ⟨R, 0, none⟩)) 3 rfl rfl rfl (fun W hW => by have s0 := hW; go_simp) (HS0.out.hR.cell 0) ?_;refine Ht 1 (.pointer (some ⟨R, 0, none⟩)) 4 rfl rfl rfl (fun W hW => by have s0 := hW; go_simp) (HS0.out.hR.cell 0) ?_;refine Ht 2 (.pointer (some ⟨R, 0, none⟩)) 5 rfl rfl rfl (fun W hW => by have s0 := hW; go_simp) (HS0.out.hR.cell 0) ?_;refine Ht 3 (.pointer (some ⟨r, 0, none⟩)) 6 rfl rfl rfl (fun W hW => by have s0 := hW; go_simp) (HS0.out.hR.cell 0) ?_;refine Ht 5 (.pointer (some ⟨R, 0, none⟩)) 8 rfl rfl rfl (fun W hW => by have s0 := hW; go_simp) (HS0.out.hR.cell 0) ?_;refine Ht 6 (.pointer (some ⟨R, 0, none⟩)) 9 rfl rfl rfl (fun W hW => by have s0 := hW; go_simp) (HS0.out.hR.cell 0) ?_;refine Ht 7 (.pointer (some ⟨R, 0, none⟩)) 10 rfl rfl rfl (fun W hW => by have s0 := hW; go_simp) (HS0.out.hR.cell 0) ?_
 refine Ht 8 (.pointer (some ⟨r, 0, none⟩)) 11 rfl rfl rfl (fun W hW => by have s0 := hW; go_simp) (HS0.out.hR.cell 0) ?_;refine Ht 10 (.pointer (some ⟨R, 0, none⟩)) 13 rfl rfl rfl (fun W hW => by have s0 := hW; go_simp) (HS0.out.hR.cell 0) ?_;try simp only [Act.put, qz0, qz1, qz2]
 refine Ht 11 (.pointer (some ⟨R, 0, none⟩)) 14 rfl rfl rfl (fun W hW => by have s0 := hW; go_simp) (HS0.out.hR.cell 0) ?_;refine Ht 12 (.pointer (some ⟨R, 0, none⟩)) 15 rfl rfl rfl (fun W hW => by have s0 := hW; go_simp) (HS0.out.hR.cell 0) ?_;refine Ht 13 (.pointer (some ⟨r, 0, none⟩)) 16 rfl rfl rfl (fun W hW => by have s0 := hW; go_simp) (HS0.out.hR.cell 0) ?_;refine Ht 15 (.pointer (some ⟨R, 0, none⟩)) 18 rfl rfl rfl (fun W hW => by have s0 := hW; go_simp) (HS0.out.hR.cell 0) ?_;refine Ht 16 (.pointer (some ⟨R, 0, none⟩)) 19 rfl rfl rfl (fun W hW => by have s0 := hW; go_simp) (HS0.out.hR.cell 0) ?_;refine Ht 17 (.pointer (some ⟨R, 0, none⟩)) 20 rfl rfl rfl (fun W hW => by have s0 := hW; go_simp) (HS0.out.hR.cell 0) ?_;refine Ht 18 (.pointer (some ⟨r, 0, none⟩)) 21 rfl rfl rfl (fun W hW => by have s0 := hW; go_simp) (HS0.out.hR.cell 0) ?_;refine Ht 20 (.pointer (some ⟨R, 0, none⟩)) 23 rfl rfl rfl (fun W hW => by have s0 := hW; go_simp) (HS0.out.hR.cell 0) ?_;refine Ht 21 (.pointer (some ⟨R, 0, none⟩)) 24 rfl rfl rfl (fun W hW => by have s0 := hW; go_simp) (HS0.out.hR.cell 0) ?_;try simp only [Act.put, qz0, qz1, qz2]
 refine Ht 22 (.pointer (some ⟨R, 0, none⟩)) 25 rfl rfl rfl (fun W hW => by have s0 := hW; go_simp) (HS0.out.hR.cell 0) ?_;refine Ht 23 (.pointer (some ⟨r, 0, none⟩)) 26 rfl rfl rfl (fun W hW => by have s0 := hW; go_simp) (HS0.out.hR.cell 0) ?_;try simp only [Act.put, qz0, qz1, qz2]
 refine H1 4 rfl rfl (fun K hK20 => ?_);go_simp
 go_at_call 31
 refine (sInt HS0.out h1).mono ?_;rintro e wv1 ⟨rfl, hs_, hf_⟩;have HS1 := q9 hs_;have HF1 := q9 (HF0.out.trans hf_);have HP1 := q9 (HP0.out.r2 hf_ hPr hPr);clear hs_ hf_ HS0 HF0 HP0;refine hK20.out _ _ (HS1.out.hR.cell 0) ?_;try simp only [Act.put, qz0, qz1, qz2]
 refine H1 9 rfl rfl (fun K hK21 => ?_);go_simp
 go_at_call 31
 refine (sInt HS1.out h2).mono ?_;rintro e wv2 ⟨rfl, hs_, hf_⟩;have HS2 := q9 hs_;have HF2 := q9 (HF1.out.trans hf_);have HP2 := q9 (HP1.out.r2 hf_ hPr hPr);clear hs_ hf_ HS1 HF1 HP1;refine hK21.out _ _ (HS2.out.hR.cell 0) ?_;try simp only [Act.put, qz0, qz1, qz2]
 refine H1 14 rfl rfl (fun K hK22 => ?_);go_simp
 go_at_call 31
 refine (sInt HS2.out h3).mono ?_;rintro e wv3 ⟨rfl, hs_, hf_⟩;have HS3 := q9 hs_;have HF3 := q9 (HF2.out.trans hf_);have HP3 := q9 (HP2.out.r2 hf_ hPr hPr);clear hs_ hf_ HS2 HF2 HP2;refine hK22.out _ _ (HS3.out.hR.cell 0) ?_;try simp only [Act.put, qz0, qz1, qz2]
 refine H1 19 rfl rfl (fun K hK23 => ?_);go_simp
 go_at_call 31
 refine (sInt HS3.out h4).mono ?_;rintro e wv4 ⟨rfl, hs_, hf_⟩;have HS4 := q9 hs_;have HF4 := q9 (HF3.out.trans hf_);have HP4 := q9 (HP3.out.r2 hf_ hPr hPr);clear hs_ hf_ HS3 HF3 HP3;refine hK23.out _ _ (HS4.out.hR.cell 0) ?_;try simp only [Act.put, qz0, qz1, qz2]
 refine H1 24 rfl rfl (fun K hK24 => ?_);go_simp
 go_at_call 31
 refine (sInt HS4.out h5).mono ?_;rintro e wv5 ⟨rfl, hs_, hf_⟩;have HS5 := q9 hs_;have HF5 := q9 (HF4.out.trans hf_);have HP5 := q9 (HP4.out.r2 hf_ hPr hPr);clear hs_ hf_ HS4 HF4 HP4;refine hK24.out _ _ (HS5.out.hR.cell 0) ?_;try simp only [Act.put, qz0, qz1, qz2]
 refine Ht 25 (.agg #[.int .i64 x1, .int .i64 x2, .int .i64 x3, .int .i64 x4, .int .i64 x5]) 28 rfl rfl rfl (fun W hW => by have s0 := hW; go_simp) (HS5.out.hR.cell 0) ?_;try simp only [Act.put, qz0, qz1, qz2]
 refine H1 26 rfl rfl (fun K hK26 => ?_);refine wp_store_row 41 (.tmp 2) (.tmp 28) rfl P 41 #[.int .i64 0, .int .i64 0, .int .i64 0, .int .i64 0, .int .i64 0] #[.int .i64 x1, .int .i64 x2, .int .i64 x3, .int .i64 x4, .int .i64 x5] rfl rfl HP5.out (by kernel_rfl) rfl (by simp [Value.oneCell']) ?_;have HPz := q9 (HP5.out.row #[.int .i64 x1, .int .i64 x2, .int .i64 x3, .int .i64 x4, .int .i64 x5]);have hg_ := grown_row9 wv5 P #[.int .i64 x1, .int .i64 x2, .int .i64 x3, .int .i64 x4, .int .i64 x5];have HSz := q9 (HS5.out.below ((Below.refl B wv5).grown hg_ (Nat.le_trans hB HF5.out.size) (fun k e => by cases e; exact Nat.le_trans hB hPn)));have HFz := q9 (HF5.out.grown hg_ (fun k e => by cases e; exact hPn));clear hg_ HS5 HF5 HP5;generalize World.setRow _ _ _ = wz at *;refine hK26.out _ _ (HSz.out.hR.cell 0) ?_;try simp only [Act.put, qz0, qz1, qz2]
 refine H0 ?_;try simp only [Act.put, qz0, qz1, qz2]
 have r0_ := HPz.out.cell 0;have r1_ := HPz.out.cell 1;have r2_ := HPz.out.cell 2;have r3_ := HPz.out.cell 3;have r4_ := HPz.out.cell 4;clear HPz;go_wp2_with fail
 exact bodyPost_ret (v := .agg #[.int .i64 x1, .int .i64 x2, .int .i64 x3, .int .i64 x4, .int .i64 x5]) (by simp [results, Tryz.results86, go_sem, r0_, r1_, r2_, r3_, r4_]) rfl ⟨rfl, HSz.out, HFz.out⟩
theorem gName_any {w : World} {r R K B : Nat} {bad : Bool} {s s1 s2 : Option (List Nat)} {x1 : Nat} {x2 : Int} (h : RS w r R K B bad s) (hB : B ≤ w.heap.size) (h1 : uR s = (x1, s1)) (h2 : iR s1 = (x2, s2)) :
  Calls Tryz.prog 92 #[.pointer (some ⟨R, 0, none⟩)] w fun e w' => e = .returned (.agg #[.int .u64 x1, .int .i64 x2]) ∧ RS w' r R K B bad s2 ∧ R2 r r w w' := by
 have HS0 := q9 (h.below ((Below.refl B w).alloc hB (.cells #[.int .u64 0, .int .i64 0] 77)));have HF0 := q9 ((R2.refl r r w).alloc (.cells #[.int .u64 0, .int .i64 0] 77));have HP0 := q9 (Bk.new w 77 #[.int .u64 0, .int .i64 0]);have hPr : w.heap.size ≠ r := by have := h.q.lt; omega
 have hPn := Nat.le_refl w.heap.size;clear h;go_enter Tryz.func92, Tryz.ntmps92
 go_upto_region 1 with fail
 generalize w.alloc (.cells #[.int .u64 0, .int .i64 0] 77) = w1 at *;obtain ⟨P, hP⟩ : ∃ z, Hid (w.heap.size = z) := ⟨_, q9 rfl⟩;rw [hP.out] at HP0 hPr;have hPn : w.heap.size ≤ P := Nat.le_of_eq hP.out;simp only [hP.out];have HSd := q9 (show RS w1.drew r R K B bad s from HS0.out.below (Below.refl _ _).drew);have HFd := q9 HF0.out.drew;have HPd := q9 (HP0.out.below (Below.refl _ _).drew HP0.out.lt);clear HS0 HF0 HP0;have HS0 := HSd;have HF0 := HFd;have HP0 := HPd;clear HSd HFd HPd;refine rH 12 (fun W => W.cell? ⟨R, 0, none⟩ = some (.pointer (some ⟨r, 0, none⟩))) ?_;generalize w1.drew = wv0 at *;refine Ht 0 (.pointer (some ⟨R, 0, none⟩)) 3 rfl rfl rfl (fun W hW => by have s0 := hW; go_simp) (HS0.out.hR.cell 0) ?_;refine Ht 1 (.pointer (some ⟨R, 0, none⟩)) 4 rfl rfl rfl (fun W hW => by have s0 := hW; go_simp) (HS0.out.hR.cell 0) ?_;refine Ht 2 (.pointer (some ⟨R, 0, none⟩)) 5 rfl rfl rfl (fun W hW => by have s0 := hW; go_simp) (HS0.out.hR.cell 0) ?_;refine Ht 3 (.pointer (some ⟨r, 0, none⟩)) 6 rfl rfl rfl (fun W hW => by have s0 := hW; go_simp) (HS0.out.hR.cell 0) ?_;refine Ht 5 (.pointer (some ⟨R, 0, none⟩)) 8 rfl rfl rfl (fun W hW => by have s0 := hW; go_simp) (HS0.out.hR.cell 0) ?_;refine Ht 6 (.pointer (some ⟨R, 0, none⟩)) 9 rfl rfl rfl (fun W hW => by have s0 := hW; go_simp) (HS0.out.hR.cell 0) ?_;refine Ht 7 (.pointer (some ⟨R, 0, none⟩)) 10 rfl rfl rfl (fun W hW => by have s0 := hW; go_simp) (HS0.out.hR.cell 0) ?_
 refine Ht 8 (.pointer (some ⟨r, 0, none⟩)) 11 rfl rfl rfl (fun W hW => by have s0 := hW; go_simp) (HS0.out.hR.cell 0) ?_;try simp only [Act.put, qz0, qz1, qz2]
 refine H1 4 rfl rfl (fun K hK8 => ?_);go_simp
 go_at_call 81
 refine (sUint HS0.out h1).mono ?_;rintro e wv1 ⟨rfl, hs_, hf_⟩;have HS1 := q9 hs_;have HF1 := q9 (HF0.out.trans hf_);have HP1 := q9 (HP0.out.r2 hf_ hPr hPr);clear hs_ hf_ HS0 HF0 HP0;refine hK8.out _ _ (HS1.out.hR.cell 0) ?_;try simp only [Act.put, qz0, qz1, qz2]
 refine H1 9 rfl rfl (fun K hK9 => ?_);go_simp
 go_at_call 31
 refine (sInt HS1.out h2).mono ?_;rintro e wv2 ⟨rfl, hs_, hf_⟩;have HS2 := q9 hs_;have HF2 := q9 (HF1.out.trans hf_);have HP2 := q9 (HP1.out.r2 hf_ hPr hPr);clear hs_ hf_ HS1 HF1 HP1;refine hK9.out _ _ (HS2.out.hR.cell 0) ?_;try simp only [Act.put, qz0, qz1, qz2]
 refine Ht 10 (.agg #[.int .u64 x1, .int .i64 x2]) 13 rfl rfl rfl (fun W hW => by have s0 := hW; go_simp) (HS2.out.hR.cell 0) ?_;try simp only [Act.put, qz0, qz1, qz2]
 refine H1 11 rfl rfl (fun K hK11 => ?_);refine wp_store_row 77 (.tmp 2) (.tmp 13) rfl P 77 #[.int .u64 0, .int .i64 0] #[.int .u64 x1, .int .i64 x2] rfl rfl HP2.out (by kernel_rfl) rfl (by simp [Value.oneCell']) ?_;have HPz := q9 (HP2.out.row #[.int .u64 x1, .int .i64 x2]);have hg_ := grown_row9 wv2 P #[.int .u64 x1, .int .i64 x2];have HSz := q9 (HS2.out.below ((Below.refl B wv2).grown hg_ (Nat.le_trans hB HF2.out.size) (fun k e => by cases e; exact Nat.le_trans hB hPn)));have HFz := q9 (HF2.out.grown hg_ (fun k e => by cases e; exact hPn));clear hg_ HS2 HF2 HP2;generalize World.setRow _ _ _ = wz at *;refine hK11.out _ _ (HSz.out.hR.cell 0) ?_;try simp only [Act.put, qz0, qz1, qz2]
 refine H0 ?_;try simp only [Act.put, qz0, qz1, qz2]
 have r0_ := HPz.out.cell 0;have r1_ := HPz.out.cell 1;clear HPz;go_wp2_with fail
 exact bodyPost_ret (v := .agg #[.int .u64 x1, .int .i64 x2]) (by simp [results, Tryz.results92, go_sem, r0_, r1_]) rfl ⟨rfl, HSz.out, HFz.out⟩
theorem gRetire_any {w : World} {r R K B : Nat} {bad : Bool} {s s1 s2 : Option (List Nat)} {x1 : Int} {x2 : Int} (h : RS w r R K B bad s) (hB : B ≤ w.heap.size) (h1 : iR s = (x1, s1)) (h2 : iR s1 = (x2, s2)) :
  Calls Tryz.prog 95 #[.pointer (some ⟨K, 0, none⟩)] w fun e w' => e = .returned (.agg #[.int .i64 x1, .int .i64 x2]) ∧ RS w' r R K B bad s2 ∧ R2 r r w w' := by
 have HS0 := q9 (h.below ((Below.refl B w).alloc hB (.cells #[.int .i64 0, .int .i64 0] 92)));have HF0 := q9 ((R2.refl r r w).alloc (.cells #[.int .i64 0, .int .i64 0] 92));have HP0 := q9 (Bk.new w 92 #[.int .i64 0, .int .i64 0]);have hPr : w.heap.size ≠ r := by have := h.q.lt; omega
 have hPn := Nat.le_refl w.heap.size;clear h;go_enter Tryz.func95, Tryz.ntmps95
 go_upto_region 1 with fail
 generalize w.alloc (.cells #[.int .i64 0, .int .i64 0] 92) = w1 at *;obtain ⟨P, hP⟩ : ∃ z, Hid (w.heap.size = z) := ⟨_, q9 rfl⟩;rw [hP.out] at HP0 hPr;have hPn : w.heap.size ≤ P := Nat.le_of_eq hP.out;simp only [hP.out];have HSd := q9 (show RS w1.drew r R K B bad s from HS0.out.below (Below.refl _ _).drew);have HFd := q9 HF0.out.drew;have HPd := q9 (HP0.out.below (Below.refl _ _).drew HP0.out.lt);clear HS0 HF0 HP0;have HS0 := HSd;have HF0 := HFd;have HP0 := HPd;clear HSd HFd HPd;refine rH 12 (fun W => W.cell? ⟨R, 0, none⟩ = some (.pointer (some ⟨r, 0, none⟩)) ∧ W.cell? ⟨K, 0, none⟩ = some (.pointer (some ⟨R, 0, none⟩))) ?_;generalize w1.drew = wv0 at *;refine Ht 0 (.pointer (some ⟨R, 0, none⟩)) 2 rfl rfl rfl (fun W hW => by obtain ⟨s0, s1⟩ := hW; go_simp) HS0.out.kr ?_;refine Ht 1 (.pointer (some ⟨R, 0, none⟩)) 3 rfl rfl rfl (fun W hW => by obtain ⟨s0, s1⟩ := hW; go_simp) HS0.out.kr ?_;refine Ht 2 (.pointer (some ⟨R, 0, none⟩)) 4 rfl rfl rfl (fun W hW => by obtain ⟨s0, s1⟩ := hW; go_simp) HS0.out.kr ?_;refine Ht 3 (.pointer (some ⟨r, 0, none⟩)) 5 rfl rfl rfl (fun W hW => by obtain ⟨s0, s1⟩ := hW; go_simp) HS0.out.kr ?_;refine Ht 5 (.pointer (some ⟨R, 0, none⟩)) 7 rfl rfl rfl (fun W hW => by obtain ⟨s0, s1⟩ := hW; go_simp) HS0.out.kr ?_;refine Ht 6 (.pointer (some ⟨R, 0, none⟩)) 8 rfl rfl rfl (fun W hW => by obtain ⟨s0, s1⟩ := hW; go_simp) HS0.out.kr ?_;refine Ht 7 (.pointer (some ⟨R, 0, none⟩)) 9 rfl rfl rfl (fun W hW => by obtain ⟨s0, s1⟩ := hW; go_simp) HS0.out.kr ?_
 refine Ht 8 (.pointer (some ⟨r, 0, none⟩)) 10 rfl rfl rfl (fun W hW => by obtain ⟨s0, s1⟩ := hW; go_simp) HS0.out.kr ?_;try simp only [Act.put, qz0, qz1, qz2]
 refine H1 4 rfl rfl (fun K hK8 => ?_);go_simp
 go_at_call 31
 refine (sInt HS0.out h1).mono ?_;rintro e wv1 ⟨rfl, hs_, hf_⟩;have HS1 := q9 hs_;have HF1 := q9 (HF0.out.trans hf_);have HP1 := q9 (HP0.out.r2 hf_ hPr hPr);clear hs_ hf_ HS0 HF0 HP0;refine hK8.out _ _ HS1.out.kr ?_;try simp only [Act.put, qz0, qz1, qz2]
 refine H1 9 rfl rfl (fun K hK9 => ?_);go_simp
 go_at_call 31
 refine (sInt HS1.out h2).mono ?_;rintro e wv2 ⟨rfl, hs_, hf_⟩;have HS2 := q9 hs_;have HF2 := q9 (HF1.out.trans hf_);have HP2 := q9 (HP1.out.r2 hf_ hPr hPr);clear hs_ hf_ HS1 HF1 HP1;refine hK9.out _ _ HS2.out.kr ?_;try simp only [Act.put, qz0, qz1, qz2]
 refine Ht 10 (.agg #[.int .i64 x1, .int .i64 x2]) 12 rfl rfl rfl (fun W hW => by obtain ⟨s0, s1⟩ := hW; go_simp) HS2.out.kr ?_;try simp only [Act.put, qz0, qz1, qz2]
 refine H1 11 rfl rfl (fun K hK11 => ?_);refine wp_store_row 92 (.tmp 1) (.tmp 12) rfl P 92 #[.int .i64 0, .int .i64 0] #[.int .i64 x1, .int .i64 x2] rfl rfl HP2.out (by kernel_rfl) rfl (by simp [Value.oneCell']) ?_;have HPz := q9 (HP2.out.row #[.int .i64 x1, .int .i64 x2]);have hg_ := grown_row9 wv2 P #[.int .i64 x1, .int .i64 x2];have HSz := q9 (HS2.out.below ((Below.refl B wv2).grown hg_ (Nat.le_trans hB HF2.out.size) (fun k e => by cases e; exact Nat.le_trans hB hPn)));have HFz := q9 (HF2.out.grown hg_ (fun k e => by cases e; exact hPn));clear hg_ HS2 HF2 HP2;generalize World.setRow _ _ _ = wz at *;refine hK11.out _ _ HSz.out.kr ?_;try simp only [Act.put, qz0, qz1, qz2]
 refine H0 ?_;try simp only [Act.put, qz0, qz1, qz2]
 have r0_ := HPz.out.cell 0;have r1_ := HPz.out.cell 1;clear HPz;go_wp2_with fail
 exact bodyPost_ret (v := .agg #[.int .i64 x1, .int .i64 x2]) (by simp [results, Tryz.results95, go_sem, r0_, r1_]) rfl ⟨rfl, HSz.out, HFz.out⟩
theorem gMark_any {w : World} {r R K B : Nat} {bad : Bool} {s s1 s2 s3 s4 s5 s6 s7 : Option (List Nat)} {x1 : Nat} {x2 : Int} {x3 : Int} {x4 : Int} {x5 : Int} {x6 : Int} {x7 : Int} (h : RS w r R K B bad s) (hB : B ≤ w.heap.size) (h1 : uR s = (x1, s1)) (h2 : iR s1 = (x2, s2)) (h3 : iR s2 = (x3, s3)) (h4 : iR s3 = (x4, s4)) (h5 : iR s4 = (x5, s5)) (h6 : iR s5 = (x6, s6)) (h7 : iR s6 = (x7, s7)) :
  Calls Tryz.prog 91 #[.pointer (some ⟨K, 0, none⟩)] w fun e w' => e = .returned (.agg #[.int .u64 x1, .int .i64 x2, .int .i64 x3, .int .i64 x4, .int .i64 x5, .int .i64 x6, .int .i64 x7]) ∧ RS w' r R K B bad s7 ∧ R2 r r w w' := by
 have HS0 := q9 (h.below ((Below.refl B w).alloc hB (.cells #[.int .u64 0, .int .i64 0, .int .i64 0, .int .i64 0, .int .i64 0, .int .i64 0, .int .i64 0] 88)));have HF0 := q9 ((R2.refl r r w).alloc (.cells #[.int .u64 0, .int .i64 0, .int .i64 0, .int .i64 0, .int .i64 0, .int .i64 0, .int .i64 0] 88));have HP0 := q9 (Bk.new w 88 #[.int .u64 0, .int .i64 0, .int .i64 0, .int .i64 0, .int .i64 0, .int .i64 0, .int .i64 0]);have hPr : w.heap.size ≠ r := by have := h.q.lt; omega
 have hPn := Nat.le_refl w.heap.size;clear h;go_enter Tryz.func91, Tryz.ntmps91
 go_upto_region 1 with fail
 generalize w.alloc (.cells #[.int .u64 0, .int .i64 0, .int .i64 0, .int .i64 0, .int .i64 0, .int .i64 0, .int .i64 0] 88) = w1 at *;obtain ⟨P, hP⟩ : ∃ z, Hid (w.heap.size = z) := ⟨_, q9 rfl⟩;rw [hP.out] at HP0 hPr;have hPn : w.heap.size ≤ P := Nat.le_of_eq hP.out;simp only [hP.out];have HSd := q9 (show RS w1.drew r R K B bad s from HS0.out.below (Below.refl _ _).drew);have HFd := q9 HF0.out.drew;have HPd := q9 (HP0.out.below (Below.refl _ _).drew HP0.out.lt);clear HS0 HF0 HP0;have HS0 := HSd;have HF0 := HFd;have HP0 := HPd;clear HSd HFd HPd;refine rH 6 (fun W => W.cell? ⟨K, 0, none⟩ = some (.pointer (some ⟨R, 0, none⟩))) ?_;generalize w1.drew = wv0 at *;refine Ht 0 (.pointer (some ⟨R, 0, none⟩)) 2 rfl rfl rfl (fun W hW => by have s1 := hW; go_simp) (HS0.out.hK.cell 0) ?_;refine Ht 2 (.pointer (some ⟨R, 0, none⟩)) 4 rfl rfl rfl (fun W hW => by have s1 := hW; go_simp) (HS0.out.hK.cell 0) ?_;try simp only [Act.put, qz0, qz1, qz2]
 refine H1 1 rfl rfl (fun K hK2 => ?_);go_simp
 go_at_call 92
 refine (gName_any HS0.out (Nat.le_trans hB HF0.out.size) h1 h2).mono ?_;rintro e wv1 ⟨rfl, hs_, hf_⟩;have HS1 := q9 hs_;have HF1 := q9 (HF0.out.trans hf_);have HP1 := q9 (HP0.out.r2 hf_ hPr hPr);clear hs_ hf_ HS0 HF0 HP0;refine hK2.out _ _ (HS1.out.hK.cell 0) ?_;try simp only [Act.put, qz0, qz1, qz2]
 refine H1 3 rfl rfl (fun K hK3 => ?_);go_simp
 go_at_call 86
 refine (gClaim_any HS1.out (Nat.le_trans hB HF1.out.size) h3 h4 h5 h6 h7).mono ?_;rintro e wv2 ⟨rfl, hs_, hf_⟩;have HS2 := q9 hs_;have HF2 := q9 (HF1.out.trans hf_);have HP2 := q9 (HP1.out.r2 hf_ hPr hPr);clear hs_ hf_ HS1 HF1 HP1;refine hK3.out _ _ (HS2.out.hK.cell 0) ?_;try simp only [Act.put, qz0, qz1, qz2]
 refine Ht 4 (.agg #[.int .u64 x1, .int .i64 x2, .int .i64 x3, .int .i64 x4, .int .i64 x5, .int .i64 x6, .int .i64 x7]) 6 rfl rfl rfl (fun W hW => by have s1 := hW; go_simp) (HS2.out.hK.cell 0) ?_;try simp only [Act.put, qz0, qz1, qz2]
 refine H1 5 rfl rfl (fun K hK5 => ?_);refine wp_store_row 88 (.tmp 1) (.tmp 6) rfl P 88 #[.int .u64 0, .int .i64 0, .int .i64 0, .int .i64 0, .int .i64 0, .int .i64 0, .int .i64 0] #[.int .u64 x1, .int .i64 x2, .int .i64 x3, .int .i64 x4, .int .i64 x5, .int .i64 x6, .int .i64 x7] rfl rfl HP2.out (by kernel_rfl) rfl (by simp [Value.oneCell']) ?_;have HPz := q9 (HP2.out.row #[.int .u64 x1, .int .i64 x2, .int .i64 x3, .int .i64 x4, .int .i64 x5, .int .i64 x6, .int .i64 x7]);have hg_ := grown_row9 wv2 P #[.int .u64 x1, .int .i64 x2, .int .i64 x3, .int .i64 x4, .int .i64 x5, .int .i64 x6, .int .i64 x7];have HSz := q9 (HS2.out.below ((Below.refl B wv2).grown hg_ (Nat.le_trans hB HF2.out.size) (fun k e => by cases e; exact Nat.le_trans hB hPn)));have HFz := q9 (HF2.out.grown hg_ (fun k e => by cases e; exact hPn));clear hg_ HS2 HF2 HP2;generalize World.setRow _ _ _ = wz at *;refine hK5.out _ _ (HSz.out.hK.cell 0) ?_;try simp only [Act.put, qz0, qz1, qz2]
 refine H0 ?_;try simp only [Act.put, qz0, qz1, qz2]
 have r0_ := HPz.out.cell 0;have r1_ := HPz.out.cell 1;have r2_ := HPz.out.cell 2;have r3_ := HPz.out.cell 3;have r4_ := HPz.out.cell 4;have r5_ := HPz.out.cell 5;have r6_ := HPz.out.cell 6;clear HPz;go_wp2_with fail
 exact bodyPost_ret (v := .agg #[.int .u64 x1, .int .i64 x2, .int .i64 x3, .int .i64 x4, .int .i64 x5, .int .i64 x6, .int .i64 x7]) (by simp [results, Tryz.results91, go_sem, r0_, r1_, r2_, r3_, r4_, r5_, r6_]) rfl ⟨rfl, HSz.out, HFz.out⟩
end Go.Proofs.YtnapnkmehnabfaaGreat

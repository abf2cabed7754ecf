import Derived.Test.YtnapnkmehnabfaaGreatP44
import Derived.OpenShut
namespace Go.Proofs.YtnapnkmehnabfaaGreat
open Go.RowKit Go.Maps

/-- A slice that came in, as the walks take it. -/
theorem row_si {w : World} {a : Option Addr} {len cap : Nat} {zs : List Int} (h : (a = none ∧ len = 0 ∧ cap = 0 ∧ zs = []) ∨
    ∃ x, a = some x ∧ len ≤ cap ∧ cap ≤ maxLen ∧ zs.length = cap ∧ (∀ i, i < zs.length → w.cell? (x.add i) = some (.int .i64 (zs.getD i 0))) ∧ ∀ n ∈ zs, (Lit.int .i64 n).wf = true) :
    ∃ l : List Int, l.length = len ∧ SI w a l ∧ W64 l ∧ len ≤ cap ∧ len ≤ maxLen := by
  rcases h with ⟨rfl, rfl, rfl, rfl⟩ | ⟨x, rfl, h1, h2, h3, h4, h5⟩
  · exact ⟨[], rfl, SL.nil_, fun z hz => by simp at hz, Nat.le_refl _, Nat.zero_le _⟩
  · refine ⟨zs.take len, by simp; omega, fun j u hu => ?_, fun z hz => bounds_i64 (h5 z (List.mem_of_mem_take hz)), h1, Nat.le_trans h1 h2⟩
    have hj : j < len := by
      have := (List.getElem?_eq_some_iff.1 hu).1
      simp at this
      omega
    have hu2 : u = .int .i64 (zs.getD j 0) := by
      rw [List.getElem?_map, List.getElem?_take_of_lt hj, List.getElem?_eq_getElem (by omega)] at hu
      simp at hu
      simp [List.getD, show j < zs.length by omega, ← hu]
    have h0 := h4 0 (by omega)
    have hb := World.block_lt_of_cell? w _ h0
    have hc := h4 j (by omega)
    obtain ⟨b, o, sp⟩ := x
    have hsp : sp = none := by
      cases sp with
      | none => rfl
      | some s =>
        have : w.cell? ⟨b, o, some s⟩ = some (.int .i64 (zs.getD 0 0)) := h0
        unfold World.cell? at this
        split at this
        · simp at this
        · cases this
    subst hsp
    refine ⟨b, o, rfl, hb, ?_⟩
    rw [hu2, ← hc]
    unfold Addr.add
    split
    · rename_i h; subst h; rfl
    · rfl
theorem bounds_u64 {n : Int} (h : (Lit.int .u64 n).wf = true) : u64 n := by
  simp [Lit.wf, IntKind.min, IntKind.max, IntKind.signed, IntKind.bits] at h
  unfold u64
  omega
/-- A slice that came in, as the walks take it. -/
theorem row_su {w : World} {a : Option Addr} {len cap : Nat} {zs : List Int} (h : (a = none ∧ len = 0 ∧ cap = 0 ∧ zs = []) ∨
    ∃ x, a = some x ∧ len ≤ cap ∧ cap ≤ maxLen ∧ zs.length = cap ∧ (∀ i, i < zs.length → w.cell? (x.add i) = some (.int .u64 (zs.getD i 0))) ∧ ∀ n ∈ zs, (Lit.int .u64 n).wf = true) :
    ∃ l : List Int, l.length = len ∧ SU w a l ∧ (∀ x ∈ l, u64 x) ∧ len ≤ cap ∧ len ≤ maxLen := by
  rcases h with ⟨rfl, rfl, rfl, rfl⟩ | ⟨x, rfl, h1, h2, h3, h4, h5⟩
  · exact ⟨[], rfl, SL.nil_, fun z hz => by simp at hz, Nat.le_refl _, Nat.zero_le _⟩
  · refine ⟨zs.take len, by simp; omega, fun j u hu => ?_, fun z hz => bounds_u64 (h5 z (List.mem_of_mem_take hz)), h1, Nat.le_trans h1 h2⟩
    have hj : j < len := by
      have := (List.getElem?_eq_some_iff.1 hu).1
      simp at this
      omega
    have hu2 : u = .int .u64 (zs.getD j 0) := by
      rw [List.getElem?_map, List.getElem?_take_of_lt hj, List.getElem?_eq_getElem (by omega)] at hu
      simp at hu
      simp [List.getD, show j < zs.length by omega, ← hu]
    have h0 := h4 0 (by omega)
    have hb := World.block_lt_of_cell? w _ h0
    have hc := h4 j (by omega)
    obtain ⟨b, o, sp⟩ := x
    have hsp : sp = none := by
      cases sp with
      | none => rfl
      | some s =>
        have : w.cell? ⟨b, o, some s⟩ = some (.int .u64 (zs.getD 0 0)) := h0
        unfold World.cell? at this
        split at this
        · simp at this
        · cases this
    subst hsp
    refine ⟨b, o, rfl, hb, ?_⟩
    rw [hu2, ← hc]
    unfold Addr.add
    split
    · rename_i h; subst h; rfl
    · rfl
/-- What Line answers is well-formed, whatever it is. -/
theorem lineV_ok {o n : Int} {needs : List Int} {pts : List (Int × Int)} {c : Cl} (hn : ∀ x ∈ needs, u64 x) : PW64 (lineV o n needs pts c) ∧ RPn (lineV o n needs pts c) := by
  by_cases h : lineE o n needs pts c = 0
  · rw [lineV, if_pos h]
    have h2 : paE (lineP o n needs pts c) = 0 := by
      unfold lineE at h
      split at h
      · cases h
      · exact h
    have he := paE_ok (p := lineP o n needs pts c) hn h2
    exact ⟨he.w, by have := he.nn; omega, by have := he.s; omega, fun x hx => by have := he.c x hx; omega, by have := he.l; omega, he.x, by have := he.m; omega, by have := he.e; omega, by have := he.d; omega, by have := he.r; omega⟩
  · rw [lineV, if_neg h]
    refine ⟨⟨?_, ?_, ?_, ?_, ?_, ?_, ?_, ?_, ?_⟩, ?_, ?_, ?_, ?_, ?_, ?_, ?_, ?_, ?_⟩ <;> simp [paZ, i64]
theorem su_take {w : World} {A : Option Addr} {l : List Int} {n : Nat} (h : SU w A l) : SU w A (l.take n) := fun j u hu => by
  refine h j u ?_
  rw [List.getElem?_map] at hu ⊢
  by_cases hj : j < n
  · rwa [List.getElem?_take_of_lt hj] at hu
  · rw [List.getElem?_eq_none (by simp; omega)] at hu; cases hu
theorem take_u64 {l few : List Int} {n : Nat} (h : ∀ x ∈ l, u64 x) (e : l.take n = few) : ∀ x ∈ few, u64 x := fun x hx => h x (List.mem_of_mem_take (by rw [e]; exact hx))
theorem own_le {w : World} {base n c : Nat} {A : Option Addr} {e : TypeId} {size : Nat} {xs : List Value} (h : w.ownsRow base e size (.slice A n c) n xs) : n ≤ c := own_cap3 h
set_option linter.unusedSimpArgs false in
set_option maxHeartbeats 8000000 in
set_option maxRecDepth 100000 in
theorem patchLine_walk (A : Option Addr) (cA : Nat) (l : List Int) (office number n : Int) (B : Option Addr) (cB : Nat) (needs : List Int) (w : World) (hA : SI w A l) (hl : W64 l) (ho : i64 office) (hnu : i64 number) (hn : i64 n) (hB : SU w B needs) (hu : ∀ x ∈ needs, u64 x) (hc : needs.length ≤ cB) :
    Calls Tryz.prog 4 #[.slice A l.length cA, .int .i64 office, .int .i64 number, .int .i64 n, .slice B needs.length cB] w fun e w' => e = .returned (.bool true) ∧ Below w.heap.size w w' := by
  have HBs := Lib.hid (fun (W : World) (hW : Below w.heap.size w W) => (show SU W B needs from hB.below hW))
  have Hu := Lib.hid hu
  have HPt := Lib.hid (points_any A cA l 6 w hA hl (by decide))
  have hbd := around_bd office 66 (by decide)
  have HAr := Lib.hid (fun W => around_any office 66 W ho.1 ho.2 (by decide) (by decide))
  obtain ⟨oo, hoo⟩ : ∃ z, Hid (around office 66 - 1 = z) := ⟨_, Lib.hid rfl⟩
  have hw1 : IntKind.i64.wrap (around office 66 - 1) = oo := by rw [← hoo.out]; exact IntWalk.i64_in _ ⟨by omega, by omega⟩
  generalize around office 66 = r at *
  clear hA hl hB hu hbd hoo
  go_enter Tryz.func4, Tryz.ntmps4
  go_wp2_with fail
  refine HPt.out.mono ?_
  rintro e w1 ⟨pts, P, dP, rfl, hp100, hown, _, hb1⟩
  have hpc := own_le hown
  have HP1 := Lib.hid (show SR w1 P pts from SL.of_own hown)
  have HB1 := Lib.hid hb1
  clear hown hb1 HPt
  go_wp2_with fail
  refine (HAr.out _).mono ?_
  rintro e w1' ⟨rfl, rfl⟩
  go_wp2_with fail
  refine (claimR_any n w1 hn).mono ?_
  rintro e w2 ⟨⟨k1, o1, f1, t1, d1⟩, he, _, hb2⟩
  obtain rfl : e = .returned (.agg #[.int .i64 k1, .int .i64 o1, .int .i64 f1, .int .i64 t1, .int .i64 d1]) := he
  have HP2 := Lib.hid (show SR w2 P pts from HP1.out.below hb2)
  have HB2 := Lib.hid (HB1.out.trans (hb2.mono HB1.out.size))
  clear hb2 HP1 HB1
  go_upto_region 5 with fail
  have HB3 := Lib.hid ((HB2.out.alloc HB2.out.size (.cells #[.int .i64 k1, .int .i64 oo, .int .i64 f1, .int .i64 t1, .int .i64 d1] 41)).drew)
  have HP3 := Lib.hid (show SR ((w2.alloc (.cells #[.int .i64 k1, .int .i64 oo, .int .i64 f1, .int .i64 t1, .int .i64 d1] 41)).drew) P pts from HP2.out.below (((Below.refl _ _).alloc (Nat.le_refl _) _).drew))
  have HK3 := Lib.hid (show Bk ((w2.alloc (.cells #[.int .i64 k1, .int .i64 oo, .int .i64 f1, .int .i64 t1, .int .i64 d1] 41)).drew) w2.heap.size 41 #[.int .i64 k1, .int .i64 oo, .int .i64 f1, .int .i64 t1, .int .i64 d1] from Bk.new _ _ _)
  have HSf := Lib.hid (fun (W : World) (h : Bk W w2.heap.size 41 #[.int .i64 k1, .int .i64 oo, .int .i64 f1, .int .i64 t1, .int .i64 d1]) => show W.cell? ⟨w2.heap.size, 0, none⟩ = some (.int .i64 k1) ∧ W.cell? ⟨w2.heap.size, 1, none⟩ = some (.int .i64 oo) ∧ W.cell? ⟨w2.heap.size, 2, none⟩ = some (.int .i64 f1) ∧ W.cell? ⟨w2.heap.size, 3, none⟩ = some (.int .i64 t1) ∧ W.cell? ⟨w2.heap.size, 4, none⟩ = some (.int .i64 d1) from ⟨h.cell 0, h.cell 1, h.cell 2, h.cell 3, h.cell 4⟩)
  refine wp_region_noPanic ?_
  refine region_H (S := fun W => W.cell? ⟨w2.heap.size, 0, none⟩ = some (.int .i64 k1) ∧ W.cell? ⟨w2.heap.size, 1, none⟩ = some (.int .i64 oo) ∧ W.cell? ⟨w2.heap.size, 2, none⟩ = some (.int .i64 f1) ∧ W.cell? ⟨w2.heap.size, 3, none⟩ = some (.int .i64 t1) ∧ W.cell? ⟨w2.heap.size, 4, none⟩ = some (.int .i64 d1)) (by kernel_rfl) ?_
  change wpH _ _ _ _ 9 _ _ (w2.alloc (.cells #[.int .i64 k1, .int .i64 oo, .int .i64 f1, .int .i64 t1, .int .i64 d1] 41)).drew
  generalize (w2.alloc (.cells #[.int .i64 k1, .int .i64 oo, .int .i64 f1, .int .i64 t1, .int .i64 d1] 41)).drew = X0 at *
  refine H_takeD (k := 0) (v := .agg #[.int .i64 k1, .int .i64 oo, .int .i64 f1, .int .i64 t1, .int .i64 d1]) (d := some 30) rfl rfl (by decide +kernel) (fun _ _ _ h => h) (Or.inl ⟨by rfl, fun W hW => by obtain ⟨s0, s1, s2, s3, s4⟩ := hW; go_simp⟩) (HSf.out _ HK3.out) ?_
  try simp only [Act.put, List.setIfInBounds_toArray, List.set_cons_zero, List.set_cons_succ]
  refine H_takeD (k := 1) (v := .int .i64 n) (d := some 31) rfl rfl (by decide +kernel) (fun _ _ _ h => h) (Or.inl ⟨by rfl, fun W hW => by obtain ⟨s0, s1, s2, s3, s4⟩ := hW; go_simp⟩) (HSf.out _ HK3.out) ?_
  try simp only [Act.put, List.setIfInBounds_toArray, List.set_cons_zero, List.set_cons_succ]
  refine H_takeD (k := 3) (v := .agg #[.int .i64 k1, .int .i64 oo, .int .i64 f1, .int .i64 t1, .int .i64 d1]) (d := some 33) rfl rfl (by decide +kernel) (fun _ _ _ h => h) (Or.inl ⟨by rfl, fun W hW => by obtain ⟨s0, s1, s2, s3, s4⟩ := hW; go_simp⟩) (HSf.out _ HK3.out) ?_
  try simp only [Act.put, List.setIfInBounds_toArray, List.set_cons_zero, List.set_cons_succ]
  refine H_takeD (k := 4) (v := .int .i64 n) (d := some 34) rfl rfl (by decide +kernel) (fun _ _ _ h => h) (Or.inl ⟨by rfl, fun W hW => by obtain ⟨s0, s1, s2, s3, s4⟩ := hW; go_simp⟩) (HSf.out _ HK3.out) ?_
  try simp only [Act.put, List.setIfInBounds_toArray, List.set_cons_zero, List.set_cons_succ]
  refine H_takeD (k := 5) (v := .int .i64 number) (d := some 35) rfl rfl (by decide +kernel) (fun _ _ _ h => h) (Or.inl ⟨by rfl, fun W hW => by obtain ⟨s0, s1, s2, s3, s4⟩ := hW; go_simp⟩) (HSf.out _ HK3.out) ?_
  try simp only [Act.put, List.setIfInBounds_toArray, List.set_cons_zero, List.set_cons_succ]
  refine H_one (i := 2) (by decide +kernel) (H_step rfl rfl (fun K hK5 => ?_))
  have hK5 := Lib.hid hK5
  go_simp
  go_at_call 16
  refine (claimR_any n X0 hn).mono ?_
  rintro e w4 ⟨⟨k2, o2, f2, t2, d2⟩, he, _, hb4⟩
  obtain rfl : e = .returned (.agg #[.int .i64 k2, .int .i64 o2, .int .i64 f2, .int .i64 t2, .int .i64 d2]) := he
  have HB4 := Lib.hid (HB3.out.trans (hb4.mono HB3.out.size))
  have HP4 := Lib.hid (show SR w4 P pts from HP3.out.below hb4)
  have HK4 := Lib.hid (HK3.out.below hb4 HK3.out.lt)
  clear hb4 HB3 HP3 HK3
  refine hK5.out _ _ (HSf.out _ HK4.out) ?_
  try simp only [Act.put, List.setIfInBounds_toArray, List.set_cons_zero, List.set_cons_succ]
  refine H_one (i := 6) (by decide +kernel) (H_step rfl rfl (fun K hK6 => ?_))
  have hK6 := Lib.hid hK6
  go_simp
  go_at_call 17
  refine (spoiltC_any k1 oo f1 t1 d1 n number w4 hn hnu).mono ?_
  rintro e w5 ⟨⟨k3, o3, f3, t3, d3⟩, he, hb5⟩
  obtain rfl : e = .returned (.agg #[.int .i64 k3, .int .i64 o3, .int .i64 f3, .int .i64 t3, .int .i64 d3]) := he
  have HB5 := Lib.hid (HB4.out.trans (hb5.mono HB4.out.size))
  have HP5 := Lib.hid (show SR w5 P pts from HP4.out.below hb5)
  have HK5 := Lib.hid (HK4.out.below hb5 HK4.out.lt)
  clear hb5 HB4 HP4 HK4
  refine hK6.out _ _ (HSf.out _ HK5.out) ?_
  try simp only [Act.put, List.setIfInBounds_toArray, List.set_cons_zero, List.set_cons_succ]
  refine H_one (i := 7) (by decide +kernel) (H_step rfl rfl (fun K hK7 => ?_))
  have hK7 := Lib.hid hK7
  go_simp
  have HB6 := Lib.hid (HB5.out.alloc HB5.out.size (.cells #[.int .i64 k1, .int .i64 oo, .int .i64 f1, .int .i64 t1, .int .i64 d1, .int .i64 k2, .int .i64 o2, .int .i64 f2, .int .i64 t2, .int .i64 d2, .int .i64 k3, .int .i64 o3, .int .i64 f3, .int .i64 t3, .int .i64 d3] 41))
  have HP6 := Lib.hid (show SR (w5.alloc (.cells #[.int .i64 k1, .int .i64 oo, .int .i64 f1, .int .i64 t1, .int .i64 d1, .int .i64 k2, .int .i64 o2, .int .i64 f2, .int .i64 t2, .int .i64 d2, .int .i64 k3, .int .i64 o3, .int .i64 f3, .int .i64 t3, .int .i64 d3] 41)) P pts from HP5.out.below ((Below.refl _ _).alloc (Nat.le_refl _) _))
  have HK6 := Lib.hid (HK5.out.alloc (.cells #[.int .i64 k1, .int .i64 oo, .int .i64 f1, .int .i64 t1, .int .i64 d1, .int .i64 k2, .int .i64 o2, .int .i64 f2, .int .i64 t2, .int .i64 d2, .int .i64 k3, .int .i64 o3, .int .i64 f3, .int .i64 t3, .int .i64 d3] 41))
  have HC6 := Lib.hid (show SC (w5.alloc (.cells #[.int .i64 k1, .int .i64 oo, .int .i64 f1, .int .i64 t1, .int .i64 d1, .int .i64 k2, .int .i64 o2, .int .i64 f2, .int .i64 t2, .int .i64 d2, .int .i64 k3, .int .i64 o3, .int .i64 f3, .int .i64 t3, .int .i64 d3] 41)) (some ⟨w5.heap.size, 0, none⟩) [⟨k1, oo, f1, t1, d1⟩, ⟨k2, o2, f2, t2, d2⟩, ⟨k3, o3, f3, t3, d3⟩] from sl_bk (Bk.new w5 41 #[.int .i64 k1, .int .i64 oo, .int .i64 f1, .int .i64 t1, .int .i64 d1, .int .i64 k2, .int .i64 o2, .int .i64 f2, .int .i64 t2, .int .i64 d2, .int .i64 k3, .int .i64 o3, .int .i64 f3, .int .i64 t3, .int .i64 d3]))
  refine hK7.out _ _ (HSf.out _ HK6.out) ?_
  try simp only [Act.put, List.setIfInBounds_toArray, List.set_cons_zero, List.set_cons_succ]
  generalize w5.alloc (.cells #[.int .i64 k1, .int .i64 oo, .int .i64 f1, .int .i64 t1, .int .i64 d1, .int .i64 k2, .int .i64 o2, .int .i64 f2, .int .i64 t2, .int .i64 d2, .int .i64 k3, .int .i64 o3, .int .i64 f3, .int .i64 t3, .int .i64 d3] 41) = W6 at *
  generalize w5.heap.size = Q at *
  refine H_takeD (k := 8) (v := .slice (some ⟨Q, 0, none⟩) 3 3) (d := some 14) rfl rfl (by decide +kernel) (fun _ _ _ h => h) (Or.inl ⟨by rfl, fun W hW => by obtain ⟨s0, s1, s2, s3, s4⟩ := hW; go_simp⟩) (HSf.out _ HK6.out) ?_
  try simp only [Act.put, List.setIfInBounds_toArray, List.set_cons_zero, List.set_cons_succ]
  refine H_end (by decide +kernel) (NoPanic.normal ?_)
  try simp only [Act.put, List.setIfInBounds_toArray, List.set_cons_zero, List.set_cons_succ]
  clear HSf
  have HSC := Lib.hid HC6.out
  obtain ⟨cs, hcs⟩ : ∃ z : List Cl, Hid ([⟨k1, oo, f1, t1, d1⟩, ⟨k2, o2, f2, t2, d2⟩, ⟨k3, o3, f3, t3, d3⟩] = z) := ⟨_, Lib.hid rfl⟩
  have hcl : cs.length = 3 := by rw [← hcs.out]; rfl
  rw [hcs.out] at HC6
  clear HSC HK6 hcs
  have Hcl := Lib.hid hcl
  clear hcl
  go_wp2_with fail
  go_loopw [15] (fun i wr => ∃ k : Nat, k ≤ 3 ∧ i = .int .i64 (k : Int) ∧ Hid (Below W6.heap.size W6 wr)) (fun i _ => 3 - (intOf i).toNat)
  case atStart => exact ⟨0, by omega, rfl, Lib.hid (Below.refl _ _)⟩
  case round =>
    obtain ⟨k, hk, rfl, HB⟩ := hrel
    have k0 : (0 : Int) ≤ (k : Int) := by omega
    by_cases hlt : k < 3
    · obtain ⟨b1, q1, ⟨k4, o4, f4, t4, d4⟩, hae, c0, c1, c2, c3, c4, Hck⟩ := (show SC wr (some ⟨Q, 0, none⟩) cs from HC6.out.below HB.out).get (k := k) (by have := Hcl.out; omega)
      injection hae with hae
      injection hae with e1 e2
      subst e1 e2
      rw [Nat.zero_add] at c0 c1 c2 c3 c4
      obtain ⟨few, hfew⟩ : ∃ z, Hid (needs.take 3 = z) := ⟨_, Lib.hid rfl⟩
      have hfl : (min (needs.length : Int) 3).toNat = few.length := by rw [← hfew.out, List.length_take]; omega
      have hf3 : few.length ≤ 3 := by rw [← hfew.out, List.length_take]; omega
      have Hfu := Lib.hid (take_u64 Hu.out hfew.out)
      have HUf := Lib.hid (fun (W : World) (hW : Below w.heap.size w W) => (show SU W B few from by rw [← hfew.out]; exact su_take (HBs.out W hW)))
      obtain ⟨V, hV⟩ : ∃ z, Hid (lineV oo number few pts ⟨k4, o4, f4, t4, d4⟩ = z) := ⟨_, Lib.hid rfl⟩
      obtain ⟨E, hE⟩ : ∃ z, Hid (lineE oo number few pts ⟨k4, o4, f4, t4, d4⟩ = z) := ⟨_, Lib.hid rfl⟩
      have Hok := Lib.hid (show PW64 V ∧ RPn V from hV.out ▸ lineV_ok Hfu.out)
      have HB6w := Lib.hid (HB6.out.trans (HB.out.mono HB6.out.size))
      have HL := line_any oo number few B cB pts P dP k4 o4 f4 t4 d4 wr (HUf.out wr HB6w.out) (by omega) (HP6.out.below HB.out) hpc (by omega)
      rw [hV.out, hE.out] at HL
      have HLz := Lib.hid HL
      clear HL
      go_wp2_with fail
      refine HLz.out.mono ?_
      rintro e w7 ⟨hb7, a, hpa, he⟩
      obtain rfl : e = .returned (.tuple #[.agg #[.int .i64 V.office, .int .i64 V.num, .slice a.n V.needs.length a.cn, .slice a.s V.st.length a.cs, .slice a.l V.pl.length a.cl, .slice a.m V.ma.length a.cm, .slice a.e V.er.length a.ce, .slice a.d V.dr.length a.cd, .slice a.r V.rt.length a.cr], .int .i64 E]) := he
      have HB8 := Lib.hid ((HB.out.trans (hb7.mono HB.out.size)).alloc (Nat.le_trans HB.out.size hb7.size) (.cells #[.int .i64 V.office, .int .i64 V.num, .slice a.n V.needs.length a.cn, .slice a.s V.st.length a.cs, .slice a.l V.pl.length a.cl, .slice a.m V.ma.length a.cm, .slice a.e V.er.length a.ce, .slice a.d V.dr.length a.cd, .slice a.r V.rt.length a.cr] 34))
      have HB8w := Lib.hid (HB6.out.trans (HB8.out.mono HB6.out.size))
      have HPa := Lib.hid (hpa.below ((Below.refl _ _).alloc (Nat.le_refl _) (.cells #[.int .i64 V.office, .int .i64 V.num, .slice a.n V.needs.length a.cn, .slice a.s V.st.length a.cs, .slice a.l V.pl.length a.cl, .slice a.m V.ma.length a.cm, .slice a.e V.er.length a.ce, .slice a.d V.dr.length a.cd, .slice a.r V.rt.length a.cr] 34)))
      have HKa := Lib.hid (Bk.new w7 34 #[.int .i64 V.office, .int .i64 V.num, .slice a.n V.needs.length a.cn, .slice a.s V.st.length a.cs, .slice a.l V.pl.length a.cl, .slice a.m V.ma.length a.cm, .slice a.e V.er.length a.ce, .slice a.d V.dr.length a.cd, .slice a.r V.rt.length a.cr])
      obtain ⟨b2, q2, ⟨k5, o5, f5, t5, d5⟩, hae, g0, g1, g2, g3, g4, hg⟩ := (show SC (w7.alloc (.cells #[.int .i64 V.office, .int .i64 V.num, .slice a.n V.needs.length a.cn, .slice a.s V.st.length a.cs, .slice a.l V.pl.length a.cl, .slice a.m V.ma.length a.cm, .slice a.e V.er.length a.ce, .slice a.d V.dr.length a.cd, .slice a.r V.rt.length a.cr] 34)) (some ⟨Q, 0, none⟩) cs from HC6.out.below HB8.out).get (k := k) (by have := Hcl.out; omega)
      injection hae with hae
      injection hae with e1 e2
      subst e1 e2
      have hsame : (⟨k5, o5, f5, t5, d5⟩ : Cl) = ⟨k4, o4, f4, t4, d4⟩ := by have h := hg.out; rw [Hck.out] at h; injection h with h; exact h.symm
      injection hsame with h1 h2 h3 h4 h5
      subst h1 h2 h3 h4 h5
      rw [Nat.zero_add] at g0 g1 g2 g3 g4
      have HL := refLine_any oo number few B cB pts P dP k5 o5 f5 t5 d5 _ (HUf.out _ HB8w.out) (by omega) (HP6.out.below HB8.out) hpc (by omega)
      rw [hV.out, hE.out] at HL
      have HRz := Lib.hid HL
      clear HL hb7 hpa HLz c0 c1 c2 c3 c4 HB HB6w hg
      go_wp2_with fail
      refine HRz.out.mono ?_
      generalize w7.alloc (.cells #[.int .i64 V.office, .int .i64 V.num, .slice a.n V.needs.length a.cn, .slice a.s V.st.length a.cs, .slice a.l V.pl.length a.cl, .slice a.m V.ma.length a.cm, .slice a.e V.er.length a.ce, .slice a.d V.dr.length a.cd, .slice a.r V.rt.length a.cr] 34) = W8 at *
      generalize w7.heap.size = pa at *
      rintro e w9 ⟨hb9, b, hpb, he⟩
      obtain rfl : e = .returned (.tuple #[.agg #[.int .i64 V.office, .int .i64 V.num, .slice b.n V.needs.length b.cn, .slice b.s V.st.length b.cs, .slice b.l V.pl.length b.cl, .slice b.m V.ma.length b.cm, .slice b.e V.er.length b.ce, .slice b.d V.dr.length b.cd, .slice b.r V.rt.length b.cr], .int .i64 E]) := he
      have HB10 := Lib.hid ((HB8.out.trans (hb9.mono HB8.out.size)).alloc (Nat.le_trans HB8.out.size hb9.size) (.cells #[.int .i64 V.office, .int .i64 V.num, .slice b.n V.needs.length b.cn, .slice b.s V.st.length b.cs, .slice b.l V.pl.length b.cl, .slice b.m V.ma.length b.cm, .slice b.e V.er.length b.ce, .slice b.d V.dr.length b.cd, .slice b.r V.rt.length b.cr] 34))
      have HPa2 := Lib.hid ((HPa.out.below hb9).below ((Below.refl _ _).alloc (Nat.le_refl _) (.cells #[.int .i64 V.office, .int .i64 V.num, .slice b.n V.needs.length b.cn, .slice b.s V.st.length b.cs, .slice b.l V.pl.length b.cl, .slice b.m V.ma.length b.cm, .slice b.e V.er.length b.ce, .slice b.d V.dr.length b.cd, .slice b.r V.rt.length b.cr] 34)))
      have HPb2 := Lib.hid (hpb.below ((Below.refl _ _).alloc (Nat.le_refl _) (.cells #[.int .i64 V.office, .int .i64 V.num, .slice b.n V.needs.length b.cn, .slice b.s V.st.length b.cs, .slice b.l V.pl.length b.cl, .slice b.m V.ma.length b.cm, .slice b.e V.er.length b.ce, .slice b.d V.dr.length b.cd, .slice b.r V.rt.length b.cr] 34)))
      have HKa2 := Lib.hid ((HKa.out.below hb9 HKa.out.lt).alloc (.cells #[.int .i64 V.office, .int .i64 V.num, .slice b.n V.needs.length b.cn, .slice b.s V.st.length b.cs, .slice b.l V.pl.length b.cl, .slice b.m V.ma.length b.cm, .slice b.e V.er.length b.ce, .slice b.d V.dr.length b.cd, .slice b.r V.rt.length b.cr] 34))
      have u0 : (w9.alloc (.cells #[.int .i64 V.office, .int .i64 V.num, .slice b.n V.needs.length b.cn, .slice b.s V.st.length b.cs, .slice b.l V.pl.length b.cl, .slice b.m V.ma.length b.cm, .slice b.e V.er.length b.ce, .slice b.d V.dr.length b.cd, .slice b.r V.rt.length b.cr] 34)).cell? ⟨pa, 0, none⟩ = some (.int .i64 V.office) := HKa2.out.cell 0
      have u1 : (w9.alloc (.cells #[.int .i64 V.office, .int .i64 V.num, .slice b.n V.needs.length b.cn, .slice b.s V.st.length b.cs, .slice b.l V.pl.length b.cl, .slice b.m V.ma.length b.cm, .slice b.e V.er.length b.ce, .slice b.d V.dr.length b.cd, .slice b.r V.rt.length b.cr] 34)).cell? ⟨pa, 1, none⟩ = some (.int .i64 V.num) := HKa2.out.cell 1
      have u2 : (w9.alloc (.cells #[.int .i64 V.office, .int .i64 V.num, .slice b.n V.needs.length b.cn, .slice b.s V.st.length b.cs, .slice b.l V.pl.length b.cl, .slice b.m V.ma.length b.cm, .slice b.e V.er.length b.ce, .slice b.d V.dr.length b.cd, .slice b.r V.rt.length b.cr] 34)).cell? ⟨pa, 2, none⟩ = some (.slice a.n V.needs.length a.cn) := HKa2.out.cell 2
      have u3 : (w9.alloc (.cells #[.int .i64 V.office, .int .i64 V.num, .slice b.n V.needs.length b.cn, .slice b.s V.st.length b.cs, .slice b.l V.pl.length b.cl, .slice b.m V.ma.length b.cm, .slice b.e V.er.length b.ce, .slice b.d V.dr.length b.cd, .slice b.r V.rt.length b.cr] 34)).cell? ⟨pa, 3, none⟩ = some (.slice a.s V.st.length a.cs) := HKa2.out.cell 3
      have u4 : (w9.alloc (.cells #[.int .i64 V.office, .int .i64 V.num, .slice b.n V.needs.length b.cn, .slice b.s V.st.length b.cs, .slice b.l V.pl.length b.cl, .slice b.m V.ma.length b.cm, .slice b.e V.er.length b.ce, .slice b.d V.dr.length b.cd, .slice b.r V.rt.length b.cr] 34)).cell? ⟨pa, 4, none⟩ = some (.slice a.l V.pl.length a.cl) := HKa2.out.cell 4
      have u5 : (w9.alloc (.cells #[.int .i64 V.office, .int .i64 V.num, .slice b.n V.needs.length b.cn, .slice b.s V.st.length b.cs, .slice b.l V.pl.length b.cl, .slice b.m V.ma.length b.cm, .slice b.e V.er.length b.ce, .slice b.d V.dr.length b.cd, .slice b.r V.rt.length b.cr] 34)).cell? ⟨pa, 5, none⟩ = some (.slice a.m V.ma.length a.cm) := HKa2.out.cell 5
      have u6 : (w9.alloc (.cells #[.int .i64 V.office, .int .i64 V.num, .slice b.n V.needs.length b.cn, .slice b.s V.st.length b.cs, .slice b.l V.pl.length b.cl, .slice b.m V.ma.length b.cm, .slice b.e V.er.length b.ce, .slice b.d V.dr.length b.cd, .slice b.r V.rt.length b.cr] 34)).cell? ⟨pa, 6, none⟩ = some (.slice a.e V.er.length a.ce) := HKa2.out.cell 6
      have u7 : (w9.alloc (.cells #[.int .i64 V.office, .int .i64 V.num, .slice b.n V.needs.length b.cn, .slice b.s V.st.length b.cs, .slice b.l V.pl.length b.cl, .slice b.m V.ma.length b.cm, .slice b.e V.er.length b.ce, .slice b.d V.dr.length b.cd, .slice b.r V.rt.length b.cr] 34)).cell? ⟨pa, 7, none⟩ = some (.slice a.d V.dr.length a.cd) := HKa2.out.cell 7
      have u8 : (w9.alloc (.cells #[.int .i64 V.office, .int .i64 V.num, .slice b.n V.needs.length b.cn, .slice b.s V.st.length b.cs, .slice b.l V.pl.length b.cl, .slice b.m V.ma.length b.cm, .slice b.e V.er.length b.ce, .slice b.d V.dr.length b.cd, .slice b.r V.rt.length b.cr] 34)).cell? ⟨pa, 8, none⟩ = some (.slice a.r V.rt.length a.cr) := HKa2.out.cell 8
      have HSm := Lib.hid (show Calls Tryz.prog 20 #[.agg #[.int .i64 V.office, .int .i64 V.num, .slice a.n V.needs.length a.cn, .slice a.s V.st.length a.cs, .slice a.l V.pl.length a.cl, .slice a.m V.ma.length a.cm, .slice a.e V.er.length a.ce, .slice a.d V.dr.length a.cd, .slice a.r V.rt.length a.cr], .agg #[.int .i64 V.office, .int .i64 V.num, .slice b.n V.needs.length b.cn, .slice b.s V.st.length b.cs, .slice b.l V.pl.length b.cl, .slice b.m V.ma.length b.cm, .slice b.e V.er.length b.ce, .slice b.d V.dr.length b.cd, .slice b.r V.rt.length b.cr]] (w9.alloc (.cells #[.int .i64 V.office, .int .i64 V.num, .slice b.n V.needs.length b.cn, .slice b.s V.st.length b.cs, .slice b.l V.pl.length b.cl, .slice b.m V.ma.length b.cm, .slice b.e V.er.length b.ce, .slice b.d V.dr.length b.cd, .slice b.r V.rt.length b.cr] 34)) fun e w' => e = .returned (.bool true) ∧ Below (w9.alloc (.cells #[.int .i64 V.office, .int .i64 V.num, .slice b.n V.needs.length b.cn, .slice b.s V.st.length b.cs, .slice b.l V.pl.length b.cl, .slice b.m V.ma.length b.cm, .slice b.e V.er.length b.ce, .slice b.d V.dr.length b.cd, .slice b.r V.rt.length b.cr] 34)).heap.size (w9.alloc (.cells #[.int .i64 V.office, .int .i64 V.num, .slice b.n V.needs.length b.cn, .slice b.s V.st.length b.cs, .slice b.l V.pl.length b.cl, .slice b.m V.ma.length b.cm, .slice b.e V.er.length b.ce, .slice b.d V.dr.length b.cd, .slice b.r V.rt.length b.cr] 34)) w' from refSame_any V V a b _ HPa2.out.pt HPb2.out Hok.out.1 Hok.out.1 Hok.out.2 Hok.out.2 rfl)
      have hEE : (E != E) = false := by simp
      clear hb9 hpb HRz g0 g1 g2 g3 g4 HB8 HB8w HPa HKa HPa2 HPb2 HKa2
      go_wp2_with fail
      refine HSm.out.mono ?_
      rintro e w11 ⟨rfl, hb11⟩
      have HB11 := Lib.hid (HB10.out.trans (hb11.mono HB10.out.size))
      clear hb11 HSm HB10 u0 u1 u2 u3 u4 u5 u6 u7 u8
      go_wp2_with fail
      go_roundw
      case rel => exact ⟨k + 1, by omega, by go_num, HB11⟩
      case measure => simp [intOf]; omega
    · have HBe := Lib.hid (HB6.out.trans (HB.out.mono HB6.out.size))
      clear HB
      go_wp2_with fail
      refine (lives_any wr).mono ?_
      rintro e w12 ⟨rfl, hb12⟩
      have HBf := Lib.hid (HBe.out.trans (hb12.mono HBe.out.size))
      clear hb12 HBe
      go_wp2_with fail
      go_ret
      exact ⟨rfl, HBf.out⟩
end Go.Proofs.YtnapnkmehnabfaaGreat

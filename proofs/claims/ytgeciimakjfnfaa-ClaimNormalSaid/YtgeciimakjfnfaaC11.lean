import Derived.Test.YtgeciimakjfnfaaC10
import Derived.Deep.CutBlock
import Derived.Deep.DeepCutAuto
import Derived.Lib.MinMax
namespace Go.Proofs.Ytgeciimakjfnfaa
open Go.RowKit Go.Maps

theorem below_of_grownU {w w' : World} (hg : w.grownBy w' none) : Below w.heap.size w w' := ⟨hg.os, hg.tape, hg.output, hg.size, fun k hk => hg.block k hk (by simp)⟩
theorem cC_drop : ∀ (l : List Cl) (k : Nat), (l.drop k).flatMap clC = (l.flatMap clC).drop (k * 5)
  | [], k => by simp
  | t :: l, 0 => rfl
  | t :: l, k + 1 => by
    rw [List.drop_succ_cons, List.flatMap_cons, cC_drop l k, show (k + 1) * 5 = k * 5 + 1 + 1 + 1 + 1 + 1 by omega]
    rfl
theorem SC.takeU {w : World} {A : Option Addr} {l : List Cl} (h : SC w A l) (k : Nat) : SL w A ((l.take k).flatMap clC) := fun j u hu => h j u (by
  rw [cC_take, List.getElem?_take] at hu
  split at hu
  · exact hu
  · cases hu)
theorem SC.dropU {w : World} {b o : Nat} {l : List Cl} (h : SC w (some ⟨b, o, none⟩) l) (k : Nat) : SL w (some ⟨b, o + k * 5, none⟩) ((l.drop k).flatMap clC) := fun j u hu => by
  rw [cC_drop, List.getElem?_drop] at hu
  obtain ⟨b', o', e, hb, hc⟩ := h _ u hu
  injection e with e
  injection e with e1 e2
  subst e1 e2
  exact ⟨b, o + k * 5, rfl, hb, by rw [Nat.add_assoc]; exact hc⟩
theorem stepP_cv {R : List Cl} {c x : Cl} (hc : clE c = 0) (hx : clE x = 0) : clE (stepP (R, c) x).2 = 0 ∧ (stepP (R, c) x).1.length ≤ R.length + 1 := by
  have h1 := clE_iff.1 hc
  have h2 := clE_iff.1 hx
  unfold stepP
  split
  · exact ⟨clE_iff.2 (by simp only; omega), by simp⟩
  · exact ⟨hc, by simp⟩
theorem own_form {w : World} {base n c size : Nat} {A : Option Addr} {e : TypeId} {vs : List Value} (h : w.ownsRow base e size (.slice A n c) n vs) : (A = none ∧ c = 0) ∨ ∃ b, A = some ⟨b, 0, none⟩ := by
  rcases h.2 with ⟨e1, _⟩ | ⟨g, _, _, e1, _⟩
  · injection e1 with e2 _ e3; exact .inl ⟨e2, e3⟩
  · injection e1 with e2 _ _; exact .inr ⟨g, e2⟩
def putS (l : List Cl) (k : Nat) (x : Cl) : List Cl × Cl := (l.take k).foldl stepP ([], x)
theorem putS_next {l : List Cl} {k : Nat} {t x : Cl} (h : l[k]? = some t) : putS l (k + 1) x = stepP (putS l k x) t := by
  unfold putS; rw [List.take_add_one, h, List.foldl_append]; rfl

set_option linter.unusedSimpArgs false in
set_option maxHeartbeats 16000000 in
set_option maxRecDepth 100000 in
theorem put_any (A : Option Addr) (c : Nat) (l : List Cl) (x : Cl) (w : World) (hA : SC w A l) (hl : l.length ≤ 1000000) (hv : ∀ t ∈ l, clE t = 0) (hx : clE x = 0) :
    Calls Try.prog 51 #[.slice A l.length c, clV x] w fun e w' => ∃ v, e = .returned v ∧ w'.ownsRow w.heap.size 24 5 v (putC l x).length ((putC l x).flatMap clC) ∧ Below w.heap.size w w' := by
  show Calls Try.prog 51 #[.slice A l.length c, .agg #[.int .i64 x.kind, .int .i64 x.office, .int .i64 x.fr, .int .i64 x.til, .int .i64 x.dec]] w _
  have HA := Lib.hid hA
  have HV := Lib.hid hv
  obtain ⟨n, hn⟩ : ∃ z, Hid (l.length = z) := ⟨_, Lib.hid rfl⟩
  have HK0 := Lib.hid (boxC_k x w)
  have HB0 := Lib.hid (boxC x w)
  have Hvx := Lib.hid hx
  rw [hn.out] at hl ⊢
  clear hA hv hx
  go_enter Try.func51, Try.ntmps51
  go_wp2_with fail
  obtain ⟨W0, hW0⟩ : ∃ z, Hid (w.alloc (.cells #[.int .i64 x.kind, .int .i64 x.office, .int .i64 x.fr, .int .i64 x.til, .int .i64 x.dec] 24) = z) := ⟨_, Lib.hid rfl⟩
  have HN1 := Lib.hid (show w.heap.size + 1 = W0.heap.size from by rw [← hW0.out]; simp)
  rw [hW0.out] at HK0 HB0 ⊢
  obtain ⟨N, hN⟩ : ∃ z, Hid (w.heap.size = z) := ⟨_, Lib.hid rfl⟩
  rw [hN.out] at HK0 HB0 HN1
  simp only [hN.out]
  obtain ⟨M, hM⟩ : ∃ z, Hid (W0.heap.size = z) := ⟨_, Lib.hid rfl⟩
  rw [hM.out] at HN1
  go_loopw [5, 6] (fun rv iv wr => ∃ (k rn : Nat) (R : List Cl) (y : Cl), k ≤ n ∧ iv = .int .i64 (k : Int) ∧ rn ≤ k ∧ Hid (R.length = rn) ∧ Hid (putS l k x = (R, y)) ∧ Hid (clE y = 0) ∧ Hid (wr.ownsRow M 24 5 rv rn (R.flatMap clC)) ∧ Hid (Bk wr N 24 #[.int .i64 y.kind, .int .i64 y.office, .int .i64 y.fr, .int .i64 y.til, .int .i64 y.dec]) ∧ Hid (Below N w wr)) (fun _ iv _ => n - (intOf iv).toNat)
  case atStart => exact ⟨0, 0, [], x, by omega, rfl, by omega, Lib.hid rfl, Lib.hid rfl, Hvx, Lib.hid (World.ownsRow_nil _ _ _ _), HK0, HB0⟩
  case round =>
    clear HK0 HB0
    obtain ⟨k, rn, R, y, hk, rfl, hrn, HR, HP, Hy, HO, HK, HB⟩ := hrel
    have hyv := clE_iff.1 Hy.out
    by_cases hlt : k < n
    · obtain ⟨b, o, t, hAe, a0, a1, a2, a3, a4, hi⟩ := HA.out.get (k := k) (by rw [hn.out]; exact hlt)
      have hE := Lib.hid (fun (W : World) (h : Below N w W) => show (W.cell? ⟨b, o + k * 5, none⟩ = some (.int .i64 t.kind) ∧ W.cell? ⟨b, o + k * 5 + 1, none⟩ = some (.int .i64 t.office) ∧ W.cell? ⟨b, o + k * 5 + 2, none⟩ = some (.int .i64 t.fr) ∧ W.cell? ⟨b, o + k * 5 + 3, none⟩ = some (.int .i64 t.til) ∧ W.cell? ⟨b, o + k * 5 + 4, none⟩ = some (.int .i64 t.dec)) from
        have h' : Below w.heap.size w W := hN.out ▸ h
        ⟨cell_far a0 h', cell_far a1 h', cell_far a2 h', cell_far a3 h', cell_far a4 h'⟩)
      have htv := clE_iff.1 (HV.out t (List.mem_of_getElem? hi.out))
      have Htv := Lib.hid (HV.out t (List.mem_of_getElem? hi.out))
      have HPn := Lib.hid (show putS l (k + 1) x = stepP (R, y) t from by rw [putS_next hi.out, HP.out])
      rw [hAe]
      clear a0 a1 a2 a3 a4 hAe hi HP
      obtain ⟨sm, hsm⟩ : ∃ z, Hid (decide (sameK t y) = z) := ⟨_, Lib.hid rfl⟩
      have HC := Lib.hid (fun W => hsm.out ▸ alike_any t y W)
      have HS := Lib.hid (fun (W : World) (h : Below wr.heap.size wr W) => show (W.cell? ⟨b, o + k * 5, none⟩ = some (.int .i64 t.kind) ∧ W.cell? ⟨b, o + k * 5 + 1, none⟩ = some (.int .i64 t.office) ∧ W.cell? ⟨b, o + k * 5 + 2, none⟩ = some (.int .i64 t.fr) ∧ W.cell? ⟨b, o + k * 5 + 3, none⟩ = some (.int .i64 t.til) ∧ W.cell? ⟨b, o + k * 5 + 4, none⟩ = some (.int .i64 t.dec)) ∧ W.cell? ⟨N, 0, none⟩ = some (.int .i64 y.kind) ∧ W.cell? ⟨N, 1, none⟩ = some (.int .i64 y.office) ∧ W.cell? ⟨N, 2, none⟩ = some (.int .i64 y.fr) ∧ W.cell? ⟨N, 3, none⟩ = some (.int .i64 y.til) ∧ W.cell? ⟨N, 4, none⟩ = some (.int .i64 y.dec) from
        have h2 : Below N w W := HB.out.trans (h.mono (by have := HB.out.size; have := hN.out; omega))
        have h3 := HK.out.below h HK.out.lt
        ⟨hE.out W h2, h3.cell 0, h3.cell 1, h3.cell 2, h3.cell 3, h3.cell 4⟩)
      have HX := Lib.hid ((Below.refl wr.heap.size wr).drew)
      have hki : ¬ (n ≤ k) := by omega
      go_upto_region 5 with fail
      refine wp_region_noPanic ?_
      refine region_H (S := fun W => (W.cell? ⟨b, o + k * 5, none⟩ = some (.int .i64 t.kind) ∧ W.cell? ⟨b, o + k * 5 + 1, none⟩ = some (.int .i64 t.office) ∧ W.cell? ⟨b, o + k * 5 + 2, none⟩ = some (.int .i64 t.fr) ∧ W.cell? ⟨b, o + k * 5 + 3, none⟩ = some (.int .i64 t.til) ∧ W.cell? ⟨b, o + k * 5 + 4, none⟩ = some (.int .i64 t.dec)) ∧ W.cell? ⟨N, 0, none⟩ = some (.int .i64 y.kind) ∧ W.cell? ⟨N, 1, none⟩ = some (.int .i64 y.office) ∧ W.cell? ⟨N, 2, none⟩ = some (.int .i64 y.fr) ∧ W.cell? ⟨N, 3, none⟩ = some (.int .i64 y.til) ∧ W.cell? ⟨N, 4, none⟩ = some (.int .i64 y.dec)) (by kernel_rfl) ?_
      change wpH _ _ _ _ 7 _ _ wr.drew
      refine H_takeD (k := 0) (v := .slice (some ⟨b, o, none⟩) n c) (d := some 16) rfl rfl (by decide +kernel) (fun _ _ _ h => h) (Or.inl ⟨by rfl, fun W hW => by obtain ⟨⟨s0, s1, s2, s3, s4⟩, s5, s6, s7, s8, s9⟩ := hW; go_simp⟩) (HS.out _ HX.out) ?_
      try simp only [Act.put, List.setIfInBounds_toArray, List.set_cons_zero, List.set_cons_succ]
      refine H_takeD (k := 1) (v := .int .i64 (k : Int)) (d := some 17) rfl rfl (by decide +kernel) (fun _ _ _ h => h) (Or.inl ⟨by rfl, fun W hW => by obtain ⟨⟨s0, s1, s2, s3, s4⟩, s5, s6, s7, s8, s9⟩ := hW; go_simp⟩) (HS.out _ HX.out) ?_
      try simp only [Act.put, List.setIfInBounds_toArray, List.set_cons_zero, List.set_cons_succ]
      refine H_takeD (k := 2) (v := .pointer (some ⟨b, o + k * 5, none⟩)) (d := some 18) rfl rfl (by decide +kernel) (fun _ _ _ h => h) (Or.inl ⟨by rfl, fun W hW => by obtain ⟨⟨s0, s1, s2, s3, s4⟩, s5, s6, s7, s8, s9⟩ := hW; go_simp⟩) (HS.out _ HX.out) ?_
      try simp only [Act.put, List.setIfInBounds_toArray, List.set_cons_zero, List.set_cons_succ]
      refine H_takeD (k := 3) (v := .agg #[.int .i64 t.kind, .int .i64 t.office, .int .i64 t.fr, .int .i64 t.til, .int .i64 t.dec]) (d := some 19) rfl rfl (by decide +kernel) (fun _ _ _ h => h) (Or.inl ⟨by rfl, fun W hW => by obtain ⟨⟨s0, s1, s2, s3, s4⟩, s5, s6, s7, s8, s9⟩ := hW; go_simp⟩) (HS.out _ HX.out) ?_
      try simp only [Act.put, List.setIfInBounds_toArray, List.set_cons_zero, List.set_cons_succ]
      refine H_takeD (k := 4) (v := .agg #[.int .i64 y.kind, .int .i64 y.office, .int .i64 y.fr, .int .i64 y.til, .int .i64 y.dec]) (d := some 20) rfl rfl (by decide +kernel) (fun _ _ _ h => h) (Or.inl ⟨by rfl, fun W hW => by obtain ⟨⟨s0, s1, s2, s3, s4⟩, s5, s6, s7, s8, s9⟩ := hW; go_simp⟩) (HS.out _ HX.out) ?_
      try simp only [Act.put, List.setIfInBounds_toArray, List.set_cons_zero, List.set_cons_succ]
      refine H_one (i := 5) (by decide +kernel) (H_step rfl rfl (fun K hK5 => ?_))
      have hK5 := Lib.hid hK5
      go_simp
      go_at_call 72
      refine (HC.out _).mono ?_
      rintro e wz ⟨rfl, hb_⟩
      have HX2 := Lib.hid (HX.out.trans (hb_.mono HX.out.size))
      clear hb_
      refine hK5.out _ _ (HS.out _ HX2.out) ?_
      try simp only [Act.put, List.setIfInBounds_toArray, List.set_cons_zero, List.set_cons_succ]
      refine H_takeD (k := 6) (v := .bool sm) (d := some 7) rfl rfl (by decide +kernel) (fun _ _ _ h => h) (Or.inl ⟨by rfl, fun W hW => by obtain ⟨⟨s0, s1, s2, s3, s4⟩, s5, s6, s7, s8, s9⟩ := hW; go_simp⟩) (HS.out _ HX2.out) ?_
      try simp only [Act.put, List.setIfInBounds_toArray, List.set_cons_zero, List.set_cons_succ]
      refine H_end (by decide +kernel) (NoPanic.normal ?_)
      try simp only [Act.put, List.setIfInBounds_toArray, List.set_cons_zero, List.set_cons_succ]
      have HOz := Lib.hid (own_below HO.out HX2.out)
      have HKz := Lib.hid (HK.out.below HX2.out HK.out.lt)
      have HBz := Lib.hid (HB.out.trans (HX2.out.mono (by have := HB.out.size; have := hN.out; omega)))
      obtain ⟨⟨e0, e1, e2, e3, e4⟩, d0, d1, d2, d3, d4⟩ := HS.out _ HX2.out
      have hw1 : IntKind.i64.wrap (y.til + 1) = y.til + 1 := IntWalk.i64_in _ ⟨by omega, by omega⟩
      have hw2 : IntKind.i64.wrap (t.til + 1) = t.til + 1 := IntWalk.i64_in _ ⟨by omega, by omega⟩
      clear HX HX2 HS HC HO HK HB
      by_cases ht : sameK t y ∧ t.fr ≤ y.til + 1 ∧ y.fr ≤ t.til + 1
      · obtain ⟨h0, h1, h2⟩ := ht
        have hst : sm = true := by rw [← hsm.out]; exact decide_eq_true h0
        have HPm := Lib.hid (show putS l (k + 1) x = (R, ⟨y.kind, y.office, min y.fr t.fr, max y.til t.til, y.dec⟩) from by rw [HPn.out]; unfold stepP; rw [if_pos ⟨h0, h1, h2⟩])
        have Hym := Lib.hid (show clE ⟨y.kind, y.office, min y.fr t.fr, max y.til t.til, y.dec⟩ = 0 from clE_iff.2 (by simp only; omega))
        subst hst
        clear h0 hsm HPn
        go_wp2
        go_quiet (fail)
        have HOq := Lib.hid (show (wz.drewN nq).ownsRow M 24 5 _ rn (R.flatMap clC) from own_qt HOz.out ⟨nq, rfl⟩)
        have HKq := Lib.hid (show Bk (wz.drewN nq) N 24 #[.int .i64 y.kind, .int .i64 y.office, .int .i64 y.fr, .int .i64 y.til, .int .i64 y.dec] from HKz.out)
        have HBq := Lib.hid (below_drewN HBz.out nq)
        clear HOz HKz HBz e0 e1 e2 e3 e4 d0 d1 d2 d3 d4
        generalize wz.drewN nq = wq at *
        obtain ⟨mf, hmf⟩ : ∃ z, Hid (min y.fr t.fr = z) := ⟨_, Lib.hid rfl⟩
        obtain ⟨mt, hmt⟩ : ∃ z, Hid (max y.til t.til = z) := ⟨_, Lib.hid rfl⟩
        have hmin : ∀ (W : World) (ts : Array TypeId) (t' : TypeId), (Builtin.min_ ts t' #[.int .i64 y.fr, .int .i64 t.fr]).run Try.prog W = .ok (.int .i64 mf) W := fun W ts t' => hmf.out ▸ Lib.run_min_ints W ts t' .i64 .i64 _ _
        have hmax : ∀ (W : World) (ts : Array TypeId) (t' : TypeId), (Builtin.max_ ts t' #[.int .i64 y.til, .int .i64 t.til]).run Try.prog W = .ok (.int .i64 mt) W := fun W ts t' => hmt.out ▸ Lib.run_max_ints W ts t' .i64 .i64 _ _
        rw [hmf.out, hmt.out] at HPm Hym
        have HSq := Lib.hid (show (fun W : World => (W.cell? ⟨b, o + k * 5, none⟩ = some (.int .i64 t.kind) ∧ W.cell? ⟨b, o + k * 5 + 1, none⟩ = some (.int .i64 t.office) ∧ W.cell? ⟨b, o + k * 5 + 2, none⟩ = some (.int .i64 t.fr) ∧ W.cell? ⟨b, o + k * 5 + 3, none⟩ = some (.int .i64 t.til) ∧ W.cell? ⟨b, o + k * 5 + 4, none⟩ = some (.int .i64 t.dec)) ∧ W.cell? ⟨N, 0, none⟩ = some (.int .i64 y.kind) ∧ W.cell? ⟨N, 1, none⟩ = some (.int .i64 y.office) ∧ W.cell? ⟨N, 2, none⟩ = some (.int .i64 y.fr) ∧ W.cell? ⟨N, 3, none⟩ = some (.int .i64 y.til) ∧ W.cell? ⟨N, 4, none⟩ = some (.int .i64 y.dec)) wq.drew from ⟨hE.out _ HBq.out.drew, HKq.out.cell 0, HKq.out.cell 1, HKq.out.cell 2, HKq.out.cell 3, HKq.out.cell 4⟩)
        have HOq1 := Lib.hid (show wq.drew.ownsRow M 24 5 _ rn (R.flatMap clC) from own_qt HOq.out ⟨1, rfl⟩)
        have HKq1 := Lib.hid (show Bk wq.drew N 24 #[.int .i64 y.kind, .int .i64 y.office, .int .i64 y.fr, .int .i64 y.til, .int .i64 y.dec] from HKq.out)
        have HBq1 := Lib.hid (show Below N w wq.drew from HBq.out.drew)
        clear HOq HKq HBq
        go_upto_region 7 with fail
        refine wp_region_noPanic ?_
        refine region_T (s := 9) (S := fun W => (W.cell? ⟨b, o + k * 5, none⟩ = some (.int .i64 t.kind) ∧ W.cell? ⟨b, o + k * 5 + 1, none⟩ = some (.int .i64 t.office) ∧ W.cell? ⟨b, o + k * 5 + 2, none⟩ = some (.int .i64 t.fr) ∧ W.cell? ⟨b, o + k * 5 + 3, none⟩ = some (.int .i64 t.til) ∧ W.cell? ⟨b, o + k * 5 + 4, none⟩ = some (.int .i64 t.dec)) ∧ W.cell? ⟨N, 0, none⟩ = some (.int .i64 y.kind) ∧ W.cell? ⟨N, 1, none⟩ = some (.int .i64 y.office) ∧ W.cell? ⟨N, 2, none⟩ = some (.int .i64 y.fr) ∧ W.cell? ⟨N, 3, none⟩ = some (.int .i64 y.til) ∧ W.cell? ⟨N, 4, none⟩ = some (.int .i64 y.dec)) (by kernel_rfl) ?_
        change wpT _ _ _ _ _ 10 _ _ wq.drew
        generalize wq.drew = X0 at *
        refine T_takeD (k := 0) (v := .pointer (some ⟨N, 2, none⟩)) (d := some 45) rfl rfl (by decide +kernel) (fun _ _ _ h => h) (Or.inl ⟨by rfl, fun W hW => by obtain ⟨⟨s0, s1, s2, s3, s4⟩, s5, s6, s7, s8, s9⟩ := hW; go_simp⟩) HSq.out ?_
        try simp only [Act.put, List.setIfInBounds_toArray, List.set_cons_zero, List.set_cons_succ]
        refine T_takeD (k := 1) (v := .int .i64 y.fr) (d := some 46) rfl rfl (by decide +kernel) (fun _ _ _ h => h) (Or.inl ⟨by rfl, fun W hW => by obtain ⟨⟨s0, s1, s2, s3, s4⟩, s5, s6, s7, s8, s9⟩ := hW; go_simp⟩) HSq.out ?_
        try simp only [Act.put, List.setIfInBounds_toArray, List.set_cons_zero, List.set_cons_succ]
        refine T_takeD (k := 2) (v := .slice (some ⟨b, o, none⟩) n c) (d := some 47) rfl rfl (by decide +kernel) (fun _ _ _ h => h) (Or.inl ⟨by rfl, fun W hW => by obtain ⟨⟨s0, s1, s2, s3, s4⟩, s5, s6, s7, s8, s9⟩ := hW; go_simp⟩) HSq.out ?_
        try simp only [Act.put, List.setIfInBounds_toArray, List.set_cons_zero, List.set_cons_succ]
        refine T_takeD (k := 3) (v := .int .i64 (k : Int)) (d := some 48) rfl rfl (by decide +kernel) (fun _ _ _ h => h) (Or.inl ⟨by rfl, fun W hW => by obtain ⟨⟨s0, s1, s2, s3, s4⟩, s5, s6, s7, s8, s9⟩ := hW; go_simp⟩) HSq.out ?_
        try simp only [Act.put, List.setIfInBounds_toArray, List.set_cons_zero, List.set_cons_succ]
        refine T_takeD (k := 4) (v := .pointer (some ⟨b, o + k * 5, none⟩)) (d := some 49) rfl rfl (by decide +kernel) (fun _ _ _ h => h) (Or.inl ⟨by rfl, fun W hW => by obtain ⟨⟨s0, s1, s2, s3, s4⟩, s5, s6, s7, s8, s9⟩ := hW; go_simp⟩) HSq.out ?_
        try simp only [Act.put, List.setIfInBounds_toArray, List.set_cons_zero, List.set_cons_succ]
        refine T_takeD (k := 5) (v := .pointer (some ⟨b, o + k * 5 + 2, none⟩)) (d := some 50) rfl rfl (by decide +kernel) (fun _ _ _ h => h) (Or.inl ⟨by rfl, fun W hW => by obtain ⟨⟨s0, s1, s2, s3, s4⟩, s5, s6, s7, s8, s9⟩ := hW; go_simp⟩) HSq.out ?_
        try simp only [Act.put, List.setIfInBounds_toArray, List.set_cons_zero, List.set_cons_succ]
        refine T_takeD (k := 6) (v := .int .i64 t.fr) (d := some 51) rfl rfl (by decide +kernel) (fun _ _ _ h => h) (Or.inl ⟨by rfl, fun W hW => by obtain ⟨⟨s0, s1, s2, s3, s4⟩, s5, s6, s7, s8, s9⟩ := hW; go_simp⟩) HSq.out ?_
        try simp only [Act.put, List.setIfInBounds_toArray, List.set_cons_zero, List.set_cons_succ]
        refine T_takeD (k := 7) (v := .int .i64 mf) (d := some 52) rfl rfl (by decide +kernel) (fun _ _ _ h => h) (Or.inl ⟨by rfl, fun W hW => by obtain ⟨⟨s0, s1, s2, s3, s4⟩, s5, s6, s7, s8, s9⟩ := hW; go_simp⟩) HSq.out ?_
        try simp only [Act.put, List.setIfInBounds_toArray, List.set_cons_zero, List.set_cons_succ]
        refine T_takeD (k := 8) (v := .pointer (some ⟨N, 2, none⟩)) (d := some 53) rfl rfl (by decide +kernel) (fun _ _ _ h => h) (Or.inl ⟨by rfl, fun W hW => by obtain ⟨⟨s0, s1, s2, s3, s4⟩, s5, s6, s7, s8, s9⟩ := hW; go_simp⟩) HSq.out ?_
        try simp only [Act.put, List.setIfInBounds_toArray, List.set_cons_zero, List.set_cons_succ]
        refine T_last (by decide +kernel) (by decide +kernel) (by decide +kernel) rfl rfl (fun K hKl => ?_)
        have hKl := Lib.hid hKl
        obtain ⟨_, d0, d1, d2, d3, d4⟩ := HSq.out
        have fz := HKq1.out.frozen 2
        go_simp
        refine hKl.out _ _ (NoPanic.normal ?_)
        try simp only [Act.put, List.setIfInBounds_toArray, List.set_cons_zero, List.set_cons_succ]
        have hMN : N + 1 = M := by have := HN1.out; omega
        have HK7 := Lib.hid (show Bk (X0.setCell ⟨N, 2, none⟩ (.int .i64 mf)) N 24 #[.int .i64 y.kind, .int .i64 y.office, .int .i64 mf, .int .i64 y.til, .int .i64 y.dec] from HKq1.out.set_ 2 (.int .i64 mf))
        have HO7 := Lib.hid (own_set (i := 2) (u := .int .i64 mf) HOq1.out (fun e => by have := (HOq1.out.lt N e.symm).1; omega))
        have HB7 := Lib.hid (HBq1.out.setCell (p := ⟨N, 2, none⟩) (Nat.le_refl N) (.int .i64 mf))
        clear HKq1 HOq1 HBq1 HSq hmin d0 d1 d2 d3 d4 fz
        generalize X0.setCell ⟨N, 2, none⟩ (.int .i64 mf) = w7 at *
        have HSq := Lib.hid (show (fun W : World => (W.cell? ⟨b, o + k * 5, none⟩ = some (.int .i64 t.kind) ∧ W.cell? ⟨b, o + k * 5 + 1, none⟩ = some (.int .i64 t.office) ∧ W.cell? ⟨b, o + k * 5 + 2, none⟩ = some (.int .i64 t.fr) ∧ W.cell? ⟨b, o + k * 5 + 3, none⟩ = some (.int .i64 t.til) ∧ W.cell? ⟨b, o + k * 5 + 4, none⟩ = some (.int .i64 t.dec)) ∧ W.cell? ⟨N, 0, none⟩ = some (.int .i64 y.kind) ∧ W.cell? ⟨N, 1, none⟩ = some (.int .i64 y.office) ∧ W.cell? ⟨N, 2, none⟩ = some (.int .i64 mf) ∧ W.cell? ⟨N, 3, none⟩ = some (.int .i64 y.til) ∧ W.cell? ⟨N, 4, none⟩ = some (.int .i64 y.dec)) w7.drew from ⟨hE.out _ HB7.out.drew, HK7.out.cell 0, HK7.out.cell 1, HK7.out.cell 2, HK7.out.cell 3, HK7.out.cell 4⟩)
        have HO8 := Lib.hid (show w7.drew.ownsRow M 24 5 _ rn (R.flatMap clC) from own_qt HO7.out ⟨1, rfl⟩)
        have HK8 := Lib.hid (show Bk w7.drew N 24 #[.int .i64 y.kind, .int .i64 y.office, .int .i64 mf, .int .i64 y.til, .int .i64 y.dec] from HK7.out)
        have HB8 := Lib.hid (show Below N w w7.drew from HB7.out.drew)
        clear HO7 HK7 HB7
        go_upto_region 8 with fail
        refine wp_region_noPanic ?_
        refine region_T (s := 9) (S := fun W => (W.cell? ⟨b, o + k * 5, none⟩ = some (.int .i64 t.kind) ∧ W.cell? ⟨b, o + k * 5 + 1, none⟩ = some (.int .i64 t.office) ∧ W.cell? ⟨b, o + k * 5 + 2, none⟩ = some (.int .i64 t.fr) ∧ W.cell? ⟨b, o + k * 5 + 3, none⟩ = some (.int .i64 t.til) ∧ W.cell? ⟨b, o + k * 5 + 4, none⟩ = some (.int .i64 t.dec)) ∧ W.cell? ⟨N, 0, none⟩ = some (.int .i64 y.kind) ∧ W.cell? ⟨N, 1, none⟩ = some (.int .i64 y.office) ∧ W.cell? ⟨N, 2, none⟩ = some (.int .i64 mf) ∧ W.cell? ⟨N, 3, none⟩ = some (.int .i64 y.til) ∧ W.cell? ⟨N, 4, none⟩ = some (.int .i64 y.dec)) (by kernel_rfl) ?_
        change wpT _ _ _ _ _ 10 _ _ w7.drew
        generalize w7.drew = Y0 at *
        refine T_takeD (k := 0) (v := .pointer (some ⟨N, 3, none⟩)) (d := some 54) rfl rfl (by decide +kernel) (fun _ _ _ h => h) (Or.inl ⟨by rfl, fun W hW => by obtain ⟨⟨s0, s1, s2, s3, s4⟩, s5, s6, s7, s8, s9⟩ := hW; go_simp⟩) HSq.out ?_
        try simp only [Act.put, List.setIfInBounds_toArray, List.set_cons_zero, List.set_cons_succ]
        refine T_takeD (k := 1) (v := .int .i64 y.til) (d := some 55) rfl rfl (by decide +kernel) (fun _ _ _ h => h) (Or.inl ⟨by rfl, fun W hW => by obtain ⟨⟨s0, s1, s2, s3, s4⟩, s5, s6, s7, s8, s9⟩ := hW; go_simp⟩) HSq.out ?_
        try simp only [Act.put, List.setIfInBounds_toArray, List.set_cons_zero, List.set_cons_succ]
        refine T_takeD (k := 2) (v := .slice (some ⟨b, o, none⟩) n c) (d := some 56) rfl rfl (by decide +kernel) (fun _ _ _ h => h) (Or.inl ⟨by rfl, fun W hW => by obtain ⟨⟨s0, s1, s2, s3, s4⟩, s5, s6, s7, s8, s9⟩ := hW; go_simp⟩) HSq.out ?_
        try simp only [Act.put, List.setIfInBounds_toArray, List.set_cons_zero, List.set_cons_succ]
        refine T_takeD (k := 3) (v := .int .i64 (k : Int)) (d := some 57) rfl rfl (by decide +kernel) (fun _ _ _ h => h) (Or.inl ⟨by rfl, fun W hW => by obtain ⟨⟨s0, s1, s2, s3, s4⟩, s5, s6, s7, s8, s9⟩ := hW; go_simp⟩) HSq.out ?_
        try simp only [Act.put, List.setIfInBounds_toArray, List.set_cons_zero, List.set_cons_succ]
        refine T_takeD (k := 4) (v := .pointer (some ⟨b, o + k * 5, none⟩)) (d := some 58) rfl rfl (by decide +kernel) (fun _ _ _ h => h) (Or.inl ⟨by rfl, fun W hW => by obtain ⟨⟨s0, s1, s2, s3, s4⟩, s5, s6, s7, s8, s9⟩ := hW; go_simp⟩) HSq.out ?_
        try simp only [Act.put, List.setIfInBounds_toArray, List.set_cons_zero, List.set_cons_succ]
        refine T_takeD (k := 5) (v := .pointer (some ⟨b, o + k * 5 + 3, none⟩)) (d := some 59) rfl rfl (by decide +kernel) (fun _ _ _ h => h) (Or.inl ⟨by rfl, fun W hW => by obtain ⟨⟨s0, s1, s2, s3, s4⟩, s5, s6, s7, s8, s9⟩ := hW; go_simp⟩) HSq.out ?_
        try simp only [Act.put, List.setIfInBounds_toArray, List.set_cons_zero, List.set_cons_succ]
        refine T_takeD (k := 6) (v := .int .i64 t.til) (d := some 60) rfl rfl (by decide +kernel) (fun _ _ _ h => h) (Or.inl ⟨by rfl, fun W hW => by obtain ⟨⟨s0, s1, s2, s3, s4⟩, s5, s6, s7, s8, s9⟩ := hW; go_simp⟩) HSq.out ?_
        try simp only [Act.put, List.setIfInBounds_toArray, List.set_cons_zero, List.set_cons_succ]
        refine T_takeD (k := 7) (v := .int .i64 mt) (d := some 61) rfl rfl (by decide +kernel) (fun _ _ _ h => h) (Or.inl ⟨by rfl, fun W hW => by obtain ⟨⟨s0, s1, s2, s3, s4⟩, s5, s6, s7, s8, s9⟩ := hW; go_simp⟩) HSq.out ?_
        try simp only [Act.put, List.setIfInBounds_toArray, List.set_cons_zero, List.set_cons_succ]
        refine T_takeD (k := 8) (v := .pointer (some ⟨N, 3, none⟩)) (d := some 62) rfl rfl (by decide +kernel) (fun _ _ _ h => h) (Or.inl ⟨by rfl, fun W hW => by obtain ⟨⟨s0, s1, s2, s3, s4⟩, s5, s6, s7, s8, s9⟩ := hW; go_simp⟩) HSq.out ?_
        try simp only [Act.put, List.setIfInBounds_toArray, List.set_cons_zero, List.set_cons_succ]
        refine T_last (by decide +kernel) (by decide +kernel) (by decide +kernel) rfl rfl (fun K hKl => ?_)
        have hKl := Lib.hid hKl
        obtain ⟨_, d0, d1, d2, d3, d4⟩ := HSq.out
        have fz := HK8.out.frozen 3
        go_simp
        refine hKl.out _ _ (NoPanic.normal ?_)
        try simp only [Act.put, List.setIfInBounds_toArray, List.set_cons_zero, List.set_cons_succ]
        have HK9 := Lib.hid (show Bk (Y0.setCell ⟨N, 3, none⟩ (.int .i64 mt)) N 24 #[.int .i64 y.kind, .int .i64 y.office, .int .i64 mf, .int .i64 mt, .int .i64 y.dec] from HK8.out.set_ 3 (.int .i64 mt))
        have HO9 := Lib.hid (own_set (i := 3) (u := .int .i64 mt) HO8.out (fun e => by have := (HO8.out.lt N e.symm).1; omega))
        have HB9 := Lib.hid (HB8.out.setCell (p := ⟨N, 3, none⟩) (Nat.le_refl N) (.int .i64 mt))
        clear HK8 HO8 HB8 HSq hmax d0 d1 d2 d3 d4 fz
        generalize Y0.setCell ⟨N, 3, none⟩ (.int .i64 mt) = w9 at *
        go_wp2_with fail
        go_roundw
        case rel => exact ⟨k + 1, rn, R, ⟨y.kind, y.office, mf, mt, y.dec⟩, by omega, by go_num, by omega, HR, HPm, Hym, HO9, HK9, HB9⟩
        case measure => simp [intOf]; omega
      · have HPm := Lib.hid (show putS l (k + 1) x = (R ++ [t], y) from by rw [HPn.out]; unfold stepP; rw [if_neg ht])
        have HRm := Lib.hid (show (R ++ [t]).length = rn + 1 from by rw [List.length_append, HR.out]; rfl)
        have hmd : sm = false ∨ (sm = true ∧ decide (t.fr ≤ y.til + 1) = false) ∨ (sm = true ∧ decide (t.fr ≤ y.til + 1) = true ∧ decide (y.fr ≤ t.til + 1) = false) := by
          cases hs : sm
          · exact .inl rfl
          · have h0 : sameK t y := by have := hsm.out; rw [hs] at this; exact of_decide_eq_true this
            refine .inr ?_
            by_cases h1 : t.fr ≤ y.til + 1
            · exact .inr ⟨rfl, decide_eq_true h1, decide_eq_false fun h2 => ht ⟨h0, h1, h2⟩⟩
            · exact .inl ⟨rfl, decide_eq_false h1⟩
        clear ht HPn
        rcases hmd with hs | ⟨hs, h1⟩ | ⟨hs, h1, h2⟩
        all_goals
          subst hs
          clear hsm
          go_wp2
          go_quiet (fail)
          have hO := own_qt HOz.out ⟨nq, rfl⟩
          have HKq := Lib.hid (show Bk (wz.drewN nq) N 24 #[.int .i64 y.kind, .int .i64 y.office, .int .i64 y.fr, .int .i64 y.til, .int .i64 y.dec] from HKz.out)
          have HBq := Lib.hid (below_drewN HBz.out nq)
          clear HOz HKz HBz e0 e1 e2 e3 e4 d0 d1 d2 d3 d4
          generalize wz.drewN nq = wq at *
          obtain ⟨e0, e1, e2, e3, e4⟩ := hE.out _ HBq.out
          have hbs : M ≤ wq.heap.size := by have := HBq.out.size; have := HKq.out.lt; have := HN1.out; omega
          go_wp2_with (at_builtin; refine wpList_app2 (w := wq) rfl _ _ rfl elt_cl hO hbs rfl rfl (by simp) rfl rfl (by omega) ?_; intro v2 w3 hown2 hg2 hz2)
          have HO2 := Lib.hid (show w3.ownsRow M 24 5 v2 (rn + 1) ((R ++ [t]).flatMap clC) from by rw [cC_app]; exact hown2)
          have HK2 := Lib.hid (HKq.out.grown hg2 (fun e => by have := (hO.lt N e.symm).1; have := HN1.out; omega))
          have HB2 := Lib.hid (HBq.out.grown hg2 (by have := HN1.out; omega) (fun j hj => by have := (hO.lt j hj).1; have := HN1.out; omega))
          clear hown2 hg2 hz2 hO HKq HBq
          go_roundw
          case rel => exact ⟨k + 1, rn + 1, R ++ [t], y, by omega, by go_num, by omega, HRm, HPm, Hy, HO2, HK2, HB2⟩
          case measure => simp [intOf]; omega
    · obtain rfl : k = n := by omega
      have HQ := Lib.hid (show putC l x = insC R y from by
        have h := HP.out
        unfold putS at h
        rw [← hn.out, List.take_length] at h
        unfold putC
        rw [h])
      generalize hrv : (u5 : Value) = rv at *
      clear hrv
      obtain ⟨A2, c2, rfl⟩ := own_slice HO.out
      have hrl : rn ≤ 1000000 := by omega
      have hcap := own_cap HO.out
      clear HP HV hlt hyv HA
      generalize wr = w1 at *
      go_upto_block 2 with fail
      go_cut [8] from 70 to 70 (fun v wx => ∃ j : Nat, j ≤ rn ∧ v = .int .i64 (j : Int) ∧ Hid (posC R y = j) ∧ Hid (Below w1.heap.size w1 wx))
      case first =>
        go_wp2_with fail
        go_loopw [8] (fun v wx => ∃ j : Nat, j ≤ rn ∧ v = .int .i64 (j : Int) ∧ Hid (∀ i z, i < j → R[i]? = some z → lessC z y = true) ∧ Hid (Below w1.heap.size w1 wx)) (fun v _ => rn - (intOf v).toNat)
        case atStart => exact ⟨0, by omega, rfl, Lib.hid (fun i _ hi => by omega), Lib.hid (Below.refl _ _)⟩
        case round =>
          obtain ⟨j, hj, rfl, Hall, HBx⟩ := hrel
          have HX := Lib.hid HBx.out.drew
          have HKx := Lib.hid (HK.out.below HX.out HK.out.lt)
          by_cases hlt : j < rn
          · obtain ⟨b, o, z, hAe, a0, a1, a2, a3, a4, hi⟩ := ((SC.own HO.out).below HX.out).get (k := j) (by rw [HR.out]; exact hlt)
            subst hAe
            obtain ⟨lt, hlt2⟩ : ∃ q, Hid (lessC z y = q) := ⟨_, Lib.hid rfl⟩
            have HL := Lib.hid (fun W => hlt2.out ▸ less_any z y W)
            have hki : ¬ (rn ≤ j) := by omega
            have HS := Lib.hid (fun (W : World) (h : Below wr.drew.heap.size wr.drew W) => show (W.cell? ⟨b, o + j * 5, none⟩ = some (.int .i64 z.kind) ∧ W.cell? ⟨b, o + j * 5 + 1, none⟩ = some (.int .i64 z.office) ∧ W.cell? ⟨b, o + j * 5 + 2, none⟩ = some (.int .i64 z.fr) ∧ W.cell? ⟨b, o + j * 5 + 3, none⟩ = some (.int .i64 z.til) ∧ W.cell? ⟨b, o + j * 5 + 4, none⟩ = some (.int .i64 z.dec)) ∧ W.cell? ⟨N, 0, none⟩ = some (.int .i64 y.kind) ∧ W.cell? ⟨N, 1, none⟩ = some (.int .i64 y.office) ∧ W.cell? ⟨N, 2, none⟩ = some (.int .i64 y.fr) ∧ W.cell? ⟨N, 3, none⟩ = some (.int .i64 y.til) ∧ W.cell? ⟨N, 4, none⟩ = some (.int .i64 y.dec) from
              have h3 := HKx.out.below h HKx.out.lt
              ⟨⟨cell_far a0 h, cell_far a1 h, cell_far a2 h, cell_far a3 h, cell_far a4 h⟩, h3.cell 0, h3.cell 1, h3.cell 2, h3.cell 3, h3.cell 4⟩)
            clear a0 a1 a2 a3 a4 HBx
            go_upto_region 11 with fail
            refine wp_region_noPanic ?_
            refine region_H (S := fun W => (W.cell? ⟨b, o + j * 5, none⟩ = some (.int .i64 z.kind) ∧ W.cell? ⟨b, o + j * 5 + 1, none⟩ = some (.int .i64 z.office) ∧ W.cell? ⟨b, o + j * 5 + 2, none⟩ = some (.int .i64 z.fr) ∧ W.cell? ⟨b, o + j * 5 + 3, none⟩ = some (.int .i64 z.til) ∧ W.cell? ⟨b, o + j * 5 + 4, none⟩ = some (.int .i64 z.dec)) ∧ W.cell? ⟨N, 0, none⟩ = some (.int .i64 y.kind) ∧ W.cell? ⟨N, 1, none⟩ = some (.int .i64 y.office) ∧ W.cell? ⟨N, 2, none⟩ = some (.int .i64 y.fr) ∧ W.cell? ⟨N, 3, none⟩ = some (.int .i64 y.til) ∧ W.cell? ⟨N, 4, none⟩ = some (.int .i64 y.dec)) (by kernel_rfl) ?_
            change wpH _ _ _ _ 12 _ _ wr.drew
            refine H_takeD (k := 0) (v := .int .i64 (j : Int)) (d := some 70) rfl rfl (by decide +kernel) (fun _ _ _ h => h) (Or.inl ⟨by rfl, fun W hW => by obtain ⟨⟨s0, s1, s2, s3, s4⟩, s5, s6, s7, s8, s9⟩ := hW; go_simp⟩) (HS.out _ (Below.refl _ _)) ?_
            try simp only [Act.put, List.setIfInBounds_toArray, List.set_cons_zero, List.set_cons_succ]
            refine H_takeD (k := 1) (v := .slice (some ⟨b, o, none⟩) rn c2) (d := some 71) rfl rfl (by decide +kernel) (fun _ _ _ h => h) (Or.inl ⟨by rfl, fun W hW => by obtain ⟨⟨s0, s1, s2, s3, s4⟩, s5, s6, s7, s8, s9⟩ := hW; go_simp⟩) (HS.out _ (Below.refl _ _)) ?_
            try simp only [Act.put, List.setIfInBounds_toArray, List.set_cons_zero, List.set_cons_succ]
            refine H_takeD (k := 2) (v := .int .i64 (rn : Int)) (d := some 72) rfl rfl (by decide +kernel) (fun _ _ _ h => h) (Or.inl ⟨by rfl, fun W hW => by obtain ⟨⟨s0, s1, s2, s3, s4⟩, s5, s6, s7, s8, s9⟩ := hW; go_simp⟩) (HS.out _ (Below.refl _ _)) ?_
            try simp only [Act.put, List.setIfInBounds_toArray, List.set_cons_zero, List.set_cons_succ]
            refine H_takeD (k := 3) (v := .bool true) (d := some 73) rfl rfl (by decide +kernel) (fun _ _ _ h => h) (Or.inl ⟨by rfl, fun W hW => by obtain ⟨⟨s0, s1, s2, s3, s4⟩, s5, s6, s7, s8, s9⟩ := hW; go_simp⟩) (HS.out _ (Below.refl _ _)) ?_
            try simp only [Act.put, List.setIfInBounds_toArray, List.set_cons_zero, List.set_cons_succ]
            refine H_takeD (k := 4) (v := .bool true) (d := some 74) rfl rfl (by decide +kernel) (fun _ _ _ h => h) (Or.inl ⟨by rfl, fun W hW => by obtain ⟨⟨s0, s1, s2, s3, s4⟩, s5, s6, s7, s8, s9⟩ := hW; go_simp⟩) (HS.out _ (Below.refl _ _)) ?_
            try simp only [Act.put, List.setIfInBounds_toArray, List.set_cons_zero, List.set_cons_succ]
            refine H_takeD (k := 5) (v := .slice (some ⟨b, o, none⟩) rn c2) (d := some 75) rfl rfl (by decide +kernel) (fun _ _ _ h => h) (Or.inl ⟨by simp [Region.wanted, yielded], fun W hW => by obtain ⟨⟨s0, s1, s2, s3, s4⟩, s5, s6, s7, s8, s9⟩ := hW; go_simp⟩) (HS.out _ (Below.refl _ _)) ?_
            try simp only [Act.put, List.setIfInBounds_toArray, List.set_cons_zero, List.set_cons_succ]
            refine H_takeD (k := 6) (v := .int .i64 (j : Int)) (d := some 76) rfl rfl (by decide +kernel) (fun _ _ _ h => h) (Or.inl ⟨by simp [Region.wanted, yielded], fun W hW => by obtain ⟨⟨s0, s1, s2, s3, s4⟩, s5, s6, s7, s8, s9⟩ := hW; go_simp⟩) (HS.out _ (Below.refl _ _)) ?_
            try simp only [Act.put, List.setIfInBounds_toArray, List.set_cons_zero, List.set_cons_succ]
            refine H_takeD (k := 7) (v := .pointer (some ⟨b, o + j * 5, none⟩)) (d := some 77) rfl rfl (by decide +kernel) (fun _ _ _ h => h) (Or.inl ⟨by simp [Region.wanted, yielded], fun W hW => by obtain ⟨⟨s0, s1, s2, s3, s4⟩, s5, s6, s7, s8, s9⟩ := hW; go_simp⟩) (HS.out _ (Below.refl _ _)) ?_
            try simp only [Act.put, List.setIfInBounds_toArray, List.set_cons_zero, List.set_cons_succ]
            refine H_takeD (k := 8) (v := .agg #[.int .i64 z.kind, .int .i64 z.office, .int .i64 z.fr, .int .i64 z.til, .int .i64 z.dec]) (d := some 78) rfl rfl (by decide +kernel) (fun _ _ _ h => h) (Or.inl ⟨by simp [Region.wanted, yielded], fun W hW => by obtain ⟨⟨s0, s1, s2, s3, s4⟩, s5, s6, s7, s8, s9⟩ := hW; go_simp⟩) (HS.out _ (Below.refl _ _)) ?_
            try simp only [Act.put, List.setIfInBounds_toArray, List.set_cons_zero, List.set_cons_succ]
            refine H_takeD (k := 9) (v := .agg #[.int .i64 y.kind, .int .i64 y.office, .int .i64 y.fr, .int .i64 y.til, .int .i64 y.dec]) (d := some 79) rfl rfl (by decide +kernel) (fun _ _ _ h => h) (Or.inl ⟨by simp [Region.wanted, yielded], fun W hW => by obtain ⟨⟨s0, s1, s2, s3, s4⟩, s5, s6, s7, s8, s9⟩ := hW; go_simp⟩) (HS.out _ (Below.refl _ _)) ?_
            try simp only [Act.put, List.setIfInBounds_toArray, List.set_cons_zero, List.set_cons_succ]
            refine H_one (i := 10) (by decide +kernel) (H_stepg rfl (by simp [Region.wanted, yielded]) (fun K hK10 => ?_))
            have hK10 := Lib.hid hK10
            go_simp
            go_at_call 73
            refine (HL.out _).mono ?_
            rintro e wz ⟨rfl, hb_⟩
            have HX2 := Lib.hid (HX.out.trans (hb_.mono HX.out.size))
            have hb2 := HS.out _ hb_
            clear hb_ HX HS
            refine hK10.out _ _ hb2 ?_
            try simp only [Act.put, List.setIfInBounds_toArray, List.set_cons_zero, List.set_cons_succ]
            refine H_takeD (k := 11) (v := .bool lt) (d := some 81) rfl rfl (by decide +kernel) (fun _ _ _ h => h) (Or.inl ⟨by rfl, fun W hW => by obtain ⟨⟨s0, s1, s2, s3, s4⟩, s5, s6, s7, s8, s9⟩ := hW; go_simp⟩) hb2 ?_
            try simp only [Act.put, List.setIfInBounds_toArray, List.set_cons_zero, List.set_cons_succ]
            refine H_end (by decide +kernel) (NoPanic.normal ?_)
            try simp only [Act.put, List.setIfInBounds_toArray, List.set_cons_zero, List.set_cons_succ]
            cases lt
            · have Hf := Lib.hid (show posC R y = j from posC_eq (by rw [HR.out]; exact hj) Hall.out (fun q hq => by rw [hi.out] at hq; injection hq with hq; rw [← hq]; exact hlt2.out))
              go_wp2_with fail
              go_meet
              exact ⟨j, hj, rfl, Hf, HX2⟩
            · have Hall2 := Lib.hid (show ∀ i q, i < j + 1 → R[i]? = some q → lessC q y = true from fun i q hi' hq => by
                by_cases e : i = j
                · subst e; rw [hi.out] at hq; injection hq with hq; rw [← hq]; exact hlt2.out
                · exact Hall.out i q (by omega) hq)
              go_wp2_with fail
              go_roundw
              case rel => exact ⟨j + 1, by omega, by go_num, Hall2, HX2⟩
              case measure => simp [intOf]; omega
          · have Hf := Lib.hid (show posC R y = j from posC_eq (by rw [HR.out]; exact hj) Hall.out (fun q hq => by have := (List.getElem?_eq_some_iff.1 hq).1; rw [HR.out] at this; omega))
            clear HBx
            go_upto_region 11 with fail
            refine wp_region_noPanic ?_
            refine region_H (S := fun W => True) (by kernel_rfl) ?_
            change wpH _ _ _ _ 12 _ _ wr.drew
            refine H_takeD (k := 0) (v := .int .i64 (j : Int)) (d := some 70) rfl rfl (by decide +kernel) (fun _ _ _ h => h) (Or.inl ⟨by rfl, fun W hW => by go_simp⟩) trivial ?_
            try simp only [Act.put, List.setIfInBounds_toArray, List.set_cons_zero, List.set_cons_succ]
            refine H_takeD (k := 1) (v := .slice A2 rn c2) (d := some 71) rfl rfl (by decide +kernel) (fun _ _ _ h => h) (Or.inl ⟨by rfl, fun W hW => by go_simp⟩) trivial ?_
            try simp only [Act.put, List.setIfInBounds_toArray, List.set_cons_zero, List.set_cons_succ]
            refine H_takeD (k := 2) (v := .int .i64 (rn : Int)) (d := some 72) rfl rfl (by decide +kernel) (fun _ _ _ h => h) (Or.inl ⟨by rfl, fun W hW => by go_simp⟩) trivial ?_
            try simp only [Act.put, List.setIfInBounds_toArray, List.set_cons_zero, List.set_cons_succ]
            refine H_takeD (k := 3) (v := .bool false) (d := some 73) rfl rfl (by decide +kernel) (fun _ _ _ h => h) (Or.inl ⟨by rfl, fun W hW => by go_simp⟩) trivial ?_
            try simp only [Act.put, List.setIfInBounds_toArray, List.set_cons_zero, List.set_cons_succ]
            refine H_takeD (k := 4) (v := .bool false) (d := some 74) rfl rfl (by decide +kernel) (fun _ _ _ h => h) (Or.inl ⟨by rfl, fun W hW => by go_simp⟩) trivial ?_
            try simp only [Act.put, List.setIfInBounds_toArray, List.set_cons_zero, List.set_cons_succ]
            refine H_takeD (k := 5) (v := undef) (d := some 75) rfl rfl (by decide +kernel) (fun _ _ _ h => h) (Or.inr ⟨by simp [Region.wanted, yielded, undef], rfl⟩) trivial ?_
            try simp only [Act.put, List.setIfInBounds_toArray, List.set_cons_zero, List.set_cons_succ]
            refine H_takeD (k := 6) (v := undef) (d := some 76) rfl rfl (by decide +kernel) (fun _ _ _ h => h) (Or.inr ⟨by simp [Region.wanted, yielded, undef], rfl⟩) trivial ?_
            try simp only [Act.put, List.setIfInBounds_toArray, List.set_cons_zero, List.set_cons_succ]
            refine H_takeD (k := 7) (v := undef) (d := some 77) rfl rfl (by decide +kernel) (fun _ _ _ h => h) (Or.inr ⟨by simp [Region.wanted, yielded, undef], rfl⟩) trivial ?_
            try simp only [Act.put, List.setIfInBounds_toArray, List.set_cons_zero, List.set_cons_succ]
            refine H_takeD (k := 8) (v := undef) (d := some 78) rfl rfl (by decide +kernel) (fun _ _ _ h => h) (Or.inr ⟨by simp [Region.wanted, yielded, undef], rfl⟩) trivial ?_
            try simp only [Act.put, List.setIfInBounds_toArray, List.set_cons_zero, List.set_cons_succ]
            refine H_takeD (k := 9) (v := undef) (d := some 79) rfl rfl (by decide +kernel) (fun _ _ _ h => h) (Or.inr ⟨by simp [Region.wanted, yielded, undef], rfl⟩) trivial ?_
            try simp only [Act.put, List.setIfInBounds_toArray, List.set_cons_zero, List.set_cons_succ]
            refine H_takeD (k := 10) (v := undef) (d := some 80) rfl rfl (by decide +kernel) (fun _ _ _ h => h) (Or.inr ⟨by simp [Region.wanted, yielded, undef], rfl⟩) trivial ?_
            try simp only [Act.put, List.setIfInBounds_toArray, List.set_cons_zero, List.set_cons_succ]
            refine H_takeD (k := 11) (v := .bool false) (d := some 81) rfl rfl (by decide +kernel) (fun _ _ _ h => h) (Or.inl ⟨by rfl, fun W hW => by go_simp⟩) trivial ?_
            try simp only [Act.put, List.setIfInBounds_toArray, List.set_cons_zero, List.set_cons_succ]
            refine H_end (by decide +kernel) (NoPanic.normal ?_)
            try simp only [Act.put, List.setIfInBounds_toArray, List.set_cons_zero, List.set_cons_succ]
            go_wp2_with fail
            go_meet
            exact ⟨j, hj, rfl, Hf, HX⟩
      case rest =>
        obtain ⟨j, hj, rfl, HJ, HBc⟩ := hcut
        have HF := Lib.hid (show putC l x = R.take j ++ [y] ++ R.drop j from by rw [HQ.out, insC, HJ.out, List.append_assoc]; rfl)
        have hMN := HN1.out
        have hNw := hN.out
        have Hb0 := Lib.hid HBc.out.drew
        have HOc := Lib.hid (own_below HO.out Hb0.out)
        have HKc := Lib.hid (HK.out.below Hb0.out HK.out.lt)
        have HBx := Lib.hid (HB.out.trans (Hb0.out.mono (by have := HB.out.size; omega)))
        have Hform := Lib.hid (own_form HOc.out)
        clear HO HK HB HBc Hb0 HQ HJ
        go_upto_region 14 with fail
        obtain ⟨B0, hB0⟩ : ∃ q, Hid (wc.drew.heap.size = q) := ⟨_, Lib.hid rfl⟩
        have hNB : N ≤ B0 := by have := HKc.out.lt; rw [hB0.out] at this; omega
        have HSf := Lib.hid (fun (W : World) (h : Below B0 wc.drew W) => show W.cell? ⟨N, 0, none⟩ = some (.int .i64 y.kind) ∧ W.cell? ⟨N, 1, none⟩ = some (.int .i64 y.office) ∧ W.cell? ⟨N, 2, none⟩ = some (.int .i64 y.fr) ∧ W.cell? ⟨N, 3, none⟩ = some (.int .i64 y.til) ∧ W.cell? ⟨N, 4, none⟩ = some (.int .i64 y.dec) from
          have h3 := HKc.out.below (hB0.out.symm ▸ h) HKc.out.lt
          ⟨h3.cell 0, h3.cell 1, h3.cell 2, h3.cell 3, h3.cell 4⟩)
        have HSt := Lib.hid (fun (W : World) (h : Below B0 wc.drew W) => SC.takeU (SC.own (own_below HOc.out (hB0.out.symm ▸ h))) j)
        have hl1 : ((R.take j).flatMap clC).length = j * 5 := by rw [cC_len, List.length_take, HR.out, Nat.min_eq_left hj]
        have hl3 : ((R.drop j).flatMap clC).length = (rn - j) * 5 := by rw [cC_len, List.length_drop, HR.out]
        have Hbx := Lib.hid (show Below B0 wc.drew wc.drew from Below.refl _ _)
        have HBw := Lib.hid (fun (W : World) (h : Below B0 wc.drew W) => show Below w.heap.size w W from hNw ▸ HBx.out.trans (h.mono hNB))
        have HzB := Lib.hid (fun (W : World) (h : Below B0 wc.drew W) => show B0 ≤ W.heap.size from by have := h.size; rw [hB0.out] at this; exact this)
        have Hlen := Lib.hid (show (putC l x).length = j + 1 + (rn - j) from by rw [HF.out, List.length_append, List.length_append, List.length_take, List.length_drop, HR.out, Nat.min_eq_left hj]; rfl)
        have hcz : ¬ (c2 < j) := by omega
        have hcy : ¬ ((c2 : Int) < (j : Int)) := by omega
        have hcw : ¬ ((j : Int) < 0) := by omega
        have hcv : ¬ ((rn : Int) < (j : Int)) := by omega
        have hcu : ¬ (rn < j) := by omega
        have hcase : (c2 = j ∧ (∀ W, Below B0 wc.drew W → SL W A2 ((R.drop j).flatMap clC))) ∨ (¬ c2 = j ∧ ∃ g2, A2 = some ⟨g2, 0, none⟩ ∧ (∀ W, Below B0 wc.drew W → SL W (some ⟨g2, j * 5, none⟩) ((R.drop j).flatMap clC))) := by
          by_cases hc : c2 = j
          · refine .inl ⟨hc, fun W _ => ?_⟩
            have hd : R.drop j = [] := List.drop_eq_nil_of_le (by rw [HR.out]; omega)
            rw [hd]
            intro q u hu
            simp at hu
          · refine .inr ⟨hc, ?_⟩
            rcases Hform.out with ⟨_, hc0⟩ | ⟨g2, hg2⟩
            · omega
            · subst hg2
              refine ⟨g2, rfl, fun W hW => ?_⟩
              have h := SC.dropU (SC.own (own_below HOc.out (hB0.out.symm ▸ hW))) j
              rw [Nat.zero_add] at h
              exact h
        clear HOc HKc Hform HR
        rcases hcase with ⟨hc, hSd⟩ | ⟨hc, g2, hg2, hSd⟩
        · have hc2 := hc.symm
          subst hc2
          have HSd := Lib.hid hSd
          clear hSd hc
          obtain rfl : j = rn := by omega
          rw [Nat.sub_self] at hl3 Hlen
          refine wp_region_noPanic ?_
          refine region_H (S := fun W => W.cell? ⟨N, 0, none⟩ = some (.int .i64 y.kind) ∧ W.cell? ⟨N, 1, none⟩ = some (.int .i64 y.office) ∧ W.cell? ⟨N, 2, none⟩ = some (.int .i64 y.fr) ∧ W.cell? ⟨N, 3, none⟩ = some (.int .i64 y.til) ∧ W.cell? ⟨N, 4, none⟩ = some (.int .i64 y.dec)) (by kernel_rfl) ?_
          change wpH _ _ _ _ 9 _ _ wc.drew
          generalize wc.drew = X0 at *
          refine H_takeD (k := 0) (v := .slice none 0 0) (d := some 84) rfl rfl (by decide +kernel) (fun _ _ _ h => h) (Or.inl ⟨by rfl, fun W hW => by obtain ⟨s5, s6, s7, s8, s9⟩ := hW; go_simp⟩) (HSf.out _ Hbx.out) ?_
          try simp only [Act.put, List.setIfInBounds_toArray, List.set_cons_zero, List.set_cons_succ]
          refine H_takeD (k := 1) (v := .slice A2 j j) (d := some 85) rfl rfl (by decide +kernel) (fun _ _ _ h => h) (Or.inl ⟨by rfl, fun W hW => by obtain ⟨s5, s6, s7, s8, s9⟩ := hW; go_simp⟩) (HSf.out _ Hbx.out) ?_
          try simp only [Act.put, List.setIfInBounds_toArray, List.set_cons_zero, List.set_cons_succ]
          refine H_takeD (k := 2) (v := .int .i64 (j : Int)) (d := some 86) rfl rfl (by decide +kernel) (fun _ _ _ h => h) (Or.inl ⟨by rfl, fun W hW => by obtain ⟨s5, s6, s7, s8, s9⟩ := hW; go_simp⟩) (HSf.out _ Hbx.out) ?_
          try simp only [Act.put, List.setIfInBounds_toArray, List.set_cons_zero, List.set_cons_succ]
          refine H_takeD (k := 3) (v := .slice A2 j j) (d := some 87) rfl rfl (by decide +kernel) (fun _ _ _ h => h) (Or.inl ⟨by rfl, fun W hW => by obtain ⟨s5, s6, s7, s8, s9⟩ := hW; go_simp⟩) (HSf.out _ Hbx.out) ?_
          try simp only [Act.put, List.setIfInBounds_toArray, List.set_cons_zero, List.set_cons_succ]
          refine H_takeD (k := 5) (v := .agg #[.int .i64 y.kind, .int .i64 y.office, .int .i64 y.fr, .int .i64 y.til, .int .i64 y.dec]) (d := some 89) rfl rfl (by decide +kernel) (fun _ _ _ h => h) (Or.inl ⟨by rfl, fun W hW => by obtain ⟨s5, s6, s7, s8, s9⟩ := hW; go_simp⟩) (HSf.out _ Hbx.out) ?_
          try simp only [Act.put, List.setIfInBounds_toArray, List.set_cons_zero, List.set_cons_succ]
          refine H_two (i := 4) (j := 6) (by decide +kernel) (H_step rfl rfl (fun K hK5 => ?_)) (H_step rfl rfl (fun K hK5 => ?_))
          · have hK5 := Lib.hid hK5
            refine app_wpM (m := j) (c := j) (B := A2) (us := (R.take j).flatMap clC) (xs := []) (n := 0) (base := B0) (v := .slice none 0 0) (.tmp 84) (.tmp 87) rfl elt_cl (World.ownsRow_nil _ _ _ _) (HzB.out _ Hbx.out) (by simp [Act.eval]) (by simp [Act.eval]) (HSt.out _ Hbx.out) hl1 (cC_all _) (by omega) ?_
            intro v4 w4 hown4 hg4
            rw [Nat.zero_add, List.nil_append] at hown4
            obtain ⟨X4, c4, rfl⟩ := own_slice hown4
            have HO4 := Lib.hid hown4
            have Hb4 := Lib.hid (Hbx.out.grown hg4 (HzB.out _ Hbx.out) (fun q hq => by simp [Value.ownBlock] at hq))
            clear hown4 hg4
            refine hK5.out _ _ (HSf.out _ Hb4.out) ?_
            try simp only [Act.put, List.setIfInBounds_toArray, List.set_cons_zero, List.set_cons_succ]
            simp only [List.getElem_toArray, List.getElem_cons_succ, List.getElem_cons_zero, List.set_cons_succ, List.set_cons_zero]
            refine H_one (i := 6) (by decide +kernel) (H_step rfl rfl (fun K hK6 => ?_))
            have hK6 := Lib.hid hK6
            go_simp
            have Hb6 := Lib.hid (Hb4.out.alloc (HzB.out _ Hb4.out) (.cells #[.int .i64 y.kind, .int .i64 y.office, .int .i64 y.fr, .int .i64 y.til, .int .i64 y.dec] 24))
            have HL6 := Lib.hid (Bk.new w4 24 #[.int .i64 y.kind, .int .i64 y.office, .int .i64 y.fr, .int .i64 y.til, .int .i64 y.dec])
            have HO6 := Lib.hid (HO4.out.alloc (.cells #[.int .i64 y.kind, .int .i64 y.office, .int .i64 y.fr, .int .i64 y.til, .int .i64 y.dec] 24))
            refine hK6.out _ _ (HSf.out _ Hb6.out) ?_
            try simp only [Act.put, List.setIfInBounds_toArray, List.set_cons_zero, List.set_cons_succ]
            generalize w4.alloc (.cells #[.int .i64 y.kind, .int .i64 y.office, .int .i64 y.fr, .int .i64 y.til, .int .i64 y.dec] 24) = w6 at *
            refine H_one (i := 7) (by decide +kernel) (H_step rfl rfl (fun K hK7 => ?_))
            have hK7 := Lib.hid hK7
            refine app_wp (us := [.int .i64 y.kind, .int .i64 y.office, .int .i64 y.fr, .int .i64 y.til, .int .i64 y.dec]) (xs := (R.take j).flatMap clC) (n := j) (base := B0) (c := 1) (H := w4.heap.size) (v := .slice X4 j c4) (.tmp 88) (.tmp 90) rfl elt_cl (by simp [Act.eval]) (by simp [Act.eval]) HO6.out HL6.out rfl rfl (by omega) (HzB.out _ Hb6.out) ?_
            intro v7 w7 hown7 hg7
            obtain ⟨X7, c7, rfl⟩ := own_slice hown7
            have HO7 := Lib.hid hown7
            have Hb7 := Lib.hid (Hb6.out.grown hg7 (HzB.out _ Hb6.out) (fun q hq => (HO6.out.lt q hq).1))
            clear hown7 hg7
            refine hK7.out _ _ (HSf.out _ Hb7.out) ?_
            try simp only [Act.put, List.setIfInBounds_toArray, List.set_cons_zero, List.set_cons_succ]
            simp only [List.getElem_toArray, List.getElem_cons_succ, List.getElem_cons_zero, List.set_cons_succ, List.set_cons_zero]
            refine H_takeD (k := 8) (v := .slice X7 (j + 1) c7) (d := some 9) rfl rfl (by decide +kernel) (fun _ _ _ h => h) (Or.inl ⟨by rfl, fun W hW => by obtain ⟨s5, s6, s7, s8, s9⟩ := hW; go_simp⟩) (HSf.out _ Hb7.out) ?_
            try simp only [Act.put, List.setIfInBounds_toArray, List.set_cons_zero, List.set_cons_succ]
            refine H_end (by decide +kernel) (NoPanic.normal ?_)
            try simp only [Act.put, List.setIfInBounds_toArray, List.set_cons_zero, List.set_cons_succ]
            have hO7 := HO7.out
            have hz7 := HzB.out _ Hb7.out
            have hsd := HSd.out _ Hb7.out
            go_wp2_with (at_builtin; refine wpList_appM (w := w7) (us := (R.drop j).flatMap clC) (m := 0) rfl _ _ rfl elt_cl hO7 hz7 rfl rfl hsd hl3 (cC_all _) (by omega) ?_; intro v8 w8 hown8 hg8)
            have Hb8 := Lib.hid (Hb7.out.grown hg8 hz7 (fun q hq => (hO7.lt q hq).1))
            go_ret
            refine ⟨v8, rfl, ?_, hNw ▸ HBw.out _ Hb8.out⟩
            rw [Hlen.out, HF.out, cC_app, cC_app]
            exact own_mono hown8 hNB
          · have hK5 := Lib.hid hK5
            go_simp
            have Hb6 := Lib.hid (Hbx.out.alloc (HzB.out _ Hbx.out) (.cells #[.int .i64 y.kind, .int .i64 y.office, .int .i64 y.fr, .int .i64 y.til, .int .i64 y.dec] 24))
            have HL6 := Lib.hid (Bk.new X0 24 #[.int .i64 y.kind, .int .i64 y.office, .int .i64 y.fr, .int .i64 y.til, .int .i64 y.dec])
            refine hK5.out _ _ (HSf.out _ Hb6.out) ?_
            try simp only [Act.put, List.setIfInBounds_toArray, List.set_cons_zero, List.set_cons_succ]
            generalize X0.alloc (.cells #[.int .i64 y.kind, .int .i64 y.office, .int .i64 y.fr, .int .i64 y.til, .int .i64 y.dec] 24) = w6 at *
            refine H_one (i := 4) (by decide +kernel) (H_step rfl rfl (fun K hK6 => ?_))
            have hK6 := Lib.hid hK6
            refine app_wpM (m := j) (c := j) (B := A2) (us := (R.take j).flatMap clC) (xs := []) (n := 0) (base := B0) (v := .slice none 0 0) (.tmp 84) (.tmp 87) rfl elt_cl (World.ownsRow_nil _ _ _ _) (HzB.out _ Hb6.out) (by simp [Act.eval]) (by simp [Act.eval]) (HSt.out _ Hb6.out) hl1 (cC_all _) (by omega) ?_
            intro v4 w4 hown4 hg4
            rw [Nat.zero_add, List.nil_append] at hown4
            obtain ⟨X4, c4, rfl⟩ := own_slice hown4
            have HO4 := Lib.hid hown4
            have Hb4 := Lib.hid (Hb6.out.grown hg4 (HzB.out _ Hb6.out) (fun q hq => by simp [Value.ownBlock] at hq))
            have HL4 := Lib.hid (HL6.out.grown hg4 (fun e => by simp [Value.ownBlock] at e))
            clear hown4 hg4
            refine hK6.out _ _ (HSf.out _ Hb4.out) ?_
            try simp only [Act.put, List.setIfInBounds_toArray, List.set_cons_zero, List.set_cons_succ]
            simp only [List.getElem_toArray, List.getElem_cons_succ, List.getElem_cons_zero, List.set_cons_succ, List.set_cons_zero]
            refine H_one (i := 7) (by decide +kernel) (H_step rfl rfl (fun K hK7 => ?_))
            have hK7 := Lib.hid hK7
            refine app_wp (us := [.int .i64 y.kind, .int .i64 y.office, .int .i64 y.fr, .int .i64 y.til, .int .i64 y.dec]) (xs := (R.take j).flatMap clC) (n := j) (base := B0) (c := 1) (H := X0.heap.size) (v := .slice X4 j c4) (.tmp 88) (.tmp 90) rfl elt_cl (by simp [Act.eval]) (by simp [Act.eval]) HO4.out HL4.out rfl rfl (by omega) (HzB.out _ Hb4.out) ?_
            intro v7 w7 hown7 hg7
            obtain ⟨X7, c7, rfl⟩ := own_slice hown7
            have HO7 := Lib.hid hown7
            have Hb7 := Lib.hid (Hb4.out.grown hg7 (HzB.out _ Hb4.out) (fun q hq => (HO4.out.lt q hq).1))
            clear hown7 hg7
            refine hK7.out _ _ (HSf.out _ Hb7.out) ?_
            try simp only [Act.put, List.setIfInBounds_toArray, List.set_cons_zero, List.set_cons_succ]
            simp only [List.getElem_toArray, List.getElem_cons_succ, List.getElem_cons_zero, List.set_cons_succ, List.set_cons_zero]
            refine H_takeD (k := 8) (v := .slice X7 (j + 1) c7) (d := some 9) rfl rfl (by decide +kernel) (fun _ _ _ h => h) (Or.inl ⟨by rfl, fun W hW => by obtain ⟨s5, s6, s7, s8, s9⟩ := hW; go_simp⟩) (HSf.out _ Hb7.out) ?_
            try simp only [Act.put, List.setIfInBounds_toArray, List.set_cons_zero, List.set_cons_succ]
            refine H_end (by decide +kernel) (NoPanic.normal ?_)
            try simp only [Act.put, List.setIfInBounds_toArray, List.set_cons_zero, List.set_cons_succ]
            have hO7 := HO7.out
            have hz7 := HzB.out _ Hb7.out
            have hsd := HSd.out _ Hb7.out
            go_wp2_with (at_builtin; refine wpList_appM (w := w7) (us := (R.drop j).flatMap clC) (m := 0) rfl _ _ rfl elt_cl hO7 hz7 rfl rfl hsd hl3 (cC_all _) (by omega) ?_; intro v8 w8 hown8 hg8)
            have Hb8 := Lib.hid (Hb7.out.grown hg8 hz7 (fun q hq => (hO7.lt q hq).1))
            go_ret
            refine ⟨v8, rfl, ?_, hNw ▸ HBw.out _ Hb8.out⟩
            rw [Hlen.out, HF.out, cC_app, cC_app]
            exact own_mono hown8 hNB
        · subst hg2
          have HSd := Lib.hid hSd
          clear hSd
          refine wp_region_noPanic ?_
          refine region_H (S := fun W => W.cell? ⟨N, 0, none⟩ = some (.int .i64 y.kind) ∧ W.cell? ⟨N, 1, none⟩ = some (.int .i64 y.office) ∧ W.cell? ⟨N, 2, none⟩ = some (.int .i64 y.fr) ∧ W.cell? ⟨N, 3, none⟩ = some (.int .i64 y.til) ∧ W.cell? ⟨N, 4, none⟩ = some (.int .i64 y.dec)) (by kernel_rfl) ?_
          change wpH _ _ _ _ 9 _ _ wc.drew
          generalize wc.drew = X0 at *
          refine H_takeD (k := 0) (v := .slice none 0 0) (d := some 84) rfl rfl (by decide +kernel) (fun _ _ _ h => h) (Or.inl ⟨by rfl, fun W hW => by obtain ⟨s5, s6, s7, s8, s9⟩ := hW; go_simp⟩) (HSf.out _ Hbx.out) ?_
          try simp only [Act.put, List.setIfInBounds_toArray, List.set_cons_zero, List.set_cons_succ]
          refine H_takeD (k := 1) (v := .slice (some ⟨g2, 0, none⟩) rn c2) (d := some 85) rfl rfl (by decide +kernel) (fun _ _ _ h => h) (Or.inl ⟨by rfl, fun W hW => by obtain ⟨s5, s6, s7, s8, s9⟩ := hW; go_simp⟩) (HSf.out _ Hbx.out) ?_
          try simp only [Act.put, List.setIfInBounds_toArray, List.set_cons_zero, List.set_cons_succ]
          refine H_takeD (k := 2) (v := .int .i64 (j : Int)) (d := some 86) rfl rfl (by decide +kernel) (fun _ _ _ h => h) (Or.inl ⟨by rfl, fun W hW => by obtain ⟨s5, s6, s7, s8, s9⟩ := hW; go_simp⟩) (HSf.out _ Hbx.out) ?_
          try simp only [Act.put, List.setIfInBounds_toArray, List.set_cons_zero, List.set_cons_succ]
          refine H_takeD (k := 3) (v := .slice (some ⟨g2, 0, none⟩) j c2) (d := some 87) rfl rfl (by decide +kernel) (fun _ _ _ h => h) (Or.inl ⟨by rfl, fun W hW => by obtain ⟨s5, s6, s7, s8, s9⟩ := hW; go_simp⟩) (HSf.out _ Hbx.out) ?_
          try simp only [Act.put, List.setIfInBounds_toArray, List.set_cons_zero, List.set_cons_succ]
          refine H_takeD (k := 5) (v := .agg #[.int .i64 y.kind, .int .i64 y.office, .int .i64 y.fr, .int .i64 y.til, .int .i64 y.dec]) (d := some 89) rfl rfl (by decide +kernel) (fun _ _ _ h => h) (Or.inl ⟨by rfl, fun W hW => by obtain ⟨s5, s6, s7, s8, s9⟩ := hW; go_simp⟩) (HSf.out _ Hbx.out) ?_
          try simp only [Act.put, List.setIfInBounds_toArray, List.set_cons_zero, List.set_cons_succ]
          refine H_two (i := 4) (j := 6) (by decide +kernel) (H_step rfl rfl (fun K hK5 => ?_)) (H_step rfl rfl (fun K hK5 => ?_))
          · have hK5 := Lib.hid hK5
            refine app_wpM (m := j) (c := c2) (B := (some ⟨g2, 0, none⟩)) (us := (R.take j).flatMap clC) (xs := []) (n := 0) (base := B0) (v := .slice none 0 0) (.tmp 84) (.tmp 87) rfl elt_cl (World.ownsRow_nil _ _ _ _) (HzB.out _ Hbx.out) (by simp [Act.eval]) (by simp [Act.eval]) (HSt.out _ Hbx.out) hl1 (cC_all _) (by omega) ?_
            intro v4 w4 hown4 hg4
            rw [Nat.zero_add, List.nil_append] at hown4
            obtain ⟨X4, c4, rfl⟩ := own_slice hown4
            have HO4 := Lib.hid hown4
            have Hb4 := Lib.hid (Hbx.out.grown hg4 (HzB.out _ Hbx.out) (fun q hq => by simp [Value.ownBlock] at hq))
            clear hown4 hg4
            refine hK5.out _ _ (HSf.out _ Hb4.out) ?_
            try simp only [Act.put, List.setIfInBounds_toArray, List.set_cons_zero, List.set_cons_succ]
            simp only [List.getElem_toArray, List.getElem_cons_succ, List.getElem_cons_zero, List.set_cons_succ, List.set_cons_zero]
            refine H_one (i := 6) (by decide +kernel) (H_step rfl rfl (fun K hK6 => ?_))
            have hK6 := Lib.hid hK6
            go_simp
            have Hb6 := Lib.hid (Hb4.out.alloc (HzB.out _ Hb4.out) (.cells #[.int .i64 y.kind, .int .i64 y.office, .int .i64 y.fr, .int .i64 y.til, .int .i64 y.dec] 24))
            have HL6 := Lib.hid (Bk.new w4 24 #[.int .i64 y.kind, .int .i64 y.office, .int .i64 y.fr, .int .i64 y.til, .int .i64 y.dec])
            have HO6 := Lib.hid (HO4.out.alloc (.cells #[.int .i64 y.kind, .int .i64 y.office, .int .i64 y.fr, .int .i64 y.til, .int .i64 y.dec] 24))
            refine hK6.out _ _ (HSf.out _ Hb6.out) ?_
            try simp only [Act.put, List.setIfInBounds_toArray, List.set_cons_zero, List.set_cons_succ]
            generalize w4.alloc (.cells #[.int .i64 y.kind, .int .i64 y.office, .int .i64 y.fr, .int .i64 y.til, .int .i64 y.dec] 24) = w6 at *
            refine H_one (i := 7) (by decide +kernel) (H_step rfl rfl (fun K hK7 => ?_))
            have hK7 := Lib.hid hK7
            refine app_wp (us := [.int .i64 y.kind, .int .i64 y.office, .int .i64 y.fr, .int .i64 y.til, .int .i64 y.dec]) (xs := (R.take j).flatMap clC) (n := j) (base := B0) (c := 1) (H := w4.heap.size) (v := .slice X4 j c4) (.tmp 88) (.tmp 90) rfl elt_cl (by simp [Act.eval]) (by simp [Act.eval]) HO6.out HL6.out rfl rfl (by omega) (HzB.out _ Hb6.out) ?_
            intro v7 w7 hown7 hg7
            obtain ⟨X7, c7, rfl⟩ := own_slice hown7
            have HO7 := Lib.hid hown7
            have Hb7 := Lib.hid (Hb6.out.grown hg7 (HzB.out _ Hb6.out) (fun q hq => (HO6.out.lt q hq).1))
            clear hown7 hg7
            refine hK7.out _ _ (HSf.out _ Hb7.out) ?_
            try simp only [Act.put, List.setIfInBounds_toArray, List.set_cons_zero, List.set_cons_succ]
            simp only [List.getElem_toArray, List.getElem_cons_succ, List.getElem_cons_zero, List.set_cons_succ, List.set_cons_zero]
            refine H_takeD (k := 8) (v := .slice X7 (j + 1) c7) (d := some 9) rfl rfl (by decide +kernel) (fun _ _ _ h => h) (Or.inl ⟨by rfl, fun W hW => by obtain ⟨s5, s6, s7, s8, s9⟩ := hW; go_simp⟩) (HSf.out _ Hb7.out) ?_
            try simp only [Act.put, List.setIfInBounds_toArray, List.set_cons_zero, List.set_cons_succ]
            refine H_end (by decide +kernel) (NoPanic.normal ?_)
            try simp only [Act.put, List.setIfInBounds_toArray, List.set_cons_zero, List.set_cons_succ]
            have hO7 := HO7.out
            have hz7 := HzB.out _ Hb7.out
            have hsd := HSd.out _ Hb7.out
            go_wp2_with (at_builtin; refine wpList_appM (w := w7) (us := (R.drop j).flatMap clC) (m := rn - j) rfl _ _ rfl elt_cl hO7 hz7 rfl rfl hsd hl3 (cC_all _) (by omega) ?_; intro v8 w8 hown8 hg8)
            have Hb8 := Lib.hid (Hb7.out.grown hg8 hz7 (fun q hq => (hO7.lt q hq).1))
            go_ret
            refine ⟨v8, rfl, ?_, hNw ▸ HBw.out _ Hb8.out⟩
            rw [Hlen.out, HF.out, cC_app, cC_app]
            exact own_mono hown8 hNB
          · have hK5 := Lib.hid hK5
            go_simp
            have Hb6 := Lib.hid (Hbx.out.alloc (HzB.out _ Hbx.out) (.cells #[.int .i64 y.kind, .int .i64 y.office, .int .i64 y.fr, .int .i64 y.til, .int .i64 y.dec] 24))
            have HL6 := Lib.hid (Bk.new X0 24 #[.int .i64 y.kind, .int .i64 y.office, .int .i64 y.fr, .int .i64 y.til, .int .i64 y.dec])
            refine hK5.out _ _ (HSf.out _ Hb6.out) ?_
            try simp only [Act.put, List.setIfInBounds_toArray, List.set_cons_zero, List.set_cons_succ]
            generalize X0.alloc (.cells #[.int .i64 y.kind, .int .i64 y.office, .int .i64 y.fr, .int .i64 y.til, .int .i64 y.dec] 24) = w6 at *
            refine H_one (i := 4) (by decide +kernel) (H_step rfl rfl (fun K hK6 => ?_))
            have hK6 := Lib.hid hK6
            refine app_wpM (m := j) (c := c2) (B := (some ⟨g2, 0, none⟩)) (us := (R.take j).flatMap clC) (xs := []) (n := 0) (base := B0) (v := .slice none 0 0) (.tmp 84) (.tmp 87) rfl elt_cl (World.ownsRow_nil _ _ _ _) (HzB.out _ Hb6.out) (by simp [Act.eval]) (by simp [Act.eval]) (HSt.out _ Hb6.out) hl1 (cC_all _) (by omega) ?_
            intro v4 w4 hown4 hg4
            rw [Nat.zero_add, List.nil_append] at hown4
            obtain ⟨X4, c4, rfl⟩ := own_slice hown4
            have HO4 := Lib.hid hown4
            have Hb4 := Lib.hid (Hb6.out.grown hg4 (HzB.out _ Hb6.out) (fun q hq => by simp [Value.ownBlock] at hq))
            have HL4 := Lib.hid (HL6.out.grown hg4 (fun e => by simp [Value.ownBlock] at e))
            clear hown4 hg4
            refine hK6.out _ _ (HSf.out _ Hb4.out) ?_
            try simp only [Act.put, List.setIfInBounds_toArray, List.set_cons_zero, List.set_cons_succ]
            simp only [List.getElem_toArray, List.getElem_cons_succ, List.getElem_cons_zero, List.set_cons_succ, List.set_cons_zero]
            refine H_one (i := 7) (by decide +kernel) (H_step rfl rfl (fun K hK7 => ?_))
            have hK7 := Lib.hid hK7
            refine app_wp (us := [.int .i64 y.kind, .int .i64 y.office, .int .i64 y.fr, .int .i64 y.til, .int .i64 y.dec]) (xs := (R.take j).flatMap clC) (n := j) (base := B0) (c := 1) (H := X0.heap.size) (v := .slice X4 j c4) (.tmp 88) (.tmp 90) rfl elt_cl (by simp [Act.eval]) (by simp [Act.eval]) HO4.out HL4.out rfl rfl (by omega) (HzB.out _ Hb4.out) ?_
            intro v7 w7 hown7 hg7
            obtain ⟨X7, c7, rfl⟩ := own_slice hown7
            have HO7 := Lib.hid hown7
            have Hb7 := Lib.hid (Hb4.out.grown hg7 (HzB.out _ Hb4.out) (fun q hq => (HO4.out.lt q hq).1))
            clear hown7 hg7
            refine hK7.out _ _ (HSf.out _ Hb7.out) ?_
            try simp only [Act.put, List.setIfInBounds_toArray, List.set_cons_zero, List.set_cons_succ]
            simp only [List.getElem_toArray, List.getElem_cons_succ, List.getElem_cons_zero, List.set_cons_succ, List.set_cons_zero]
            refine H_takeD (k := 8) (v := .slice X7 (j + 1) c7) (d := some 9) rfl rfl (by decide +kernel) (fun _ _ _ h => h) (Or.inl ⟨by rfl, fun W hW => by obtain ⟨s5, s6, s7, s8, s9⟩ := hW; go_simp⟩) (HSf.out _ Hb7.out) ?_
            try simp only [Act.put, List.setIfInBounds_toArray, List.set_cons_zero, List.set_cons_succ]
            refine H_end (by decide +kernel) (NoPanic.normal ?_)
            try simp only [Act.put, List.setIfInBounds_toArray, List.set_cons_zero, List.set_cons_succ]
            have hO7 := HO7.out
            have hz7 := HzB.out _ Hb7.out
            have hsd := HSd.out _ Hb7.out
            go_wp2_with (at_builtin; refine wpList_appM (w := w7) (us := (R.drop j).flatMap clC) (m := rn - j) rfl _ _ rfl elt_cl hO7 hz7 rfl rfl hsd hl3 (cC_all _) (by omega) ?_; intro v8 w8 hown8 hg8)
            have Hb8 := Lib.hid (Hb7.out.grown hg8 hz7 (fun q hq => (hO7.lt q hq).1))
            go_ret
            refine ⟨v8, rfl, ?_, hNw ▸ HBw.out _ Hb8.out⟩
            rw [Hlen.out, HF.out, cC_app, cC_app]
            exact own_mono hown8 hNB
end Go.Proofs.Ytgeciimakjfnfaa

import Derived.Test.YtgeciimakjfnfaaC13
import Derived.Lib.MinMax
namespace Go.Proofs.Ytgeciimakjfnfaa
open Go.RowKit Go.Maps

def itLeft (w : World) (it b : Nat) : Nat :=
  match w.heap[it]?, w.heap[b]? with
  | some (.mapIter _ _ seen _), some (.map es _) => (leftOf es seen).size
  | _, _ => 0
theorem Iter.left {κ α : Type} {ek : κ → Value} {ev : α → Value} {P : Program} {kt : TypeId} {w : World} {it b n c : Nat} {f : κ → Option α} {done : List κ} (h : Iter ek ev P kt w it b f n done c) : itLeft w it b = c := by
  obtain ⟨es, clock, since, seen, c0, h1, h2, _, _, _, _, _, _, hc⟩ := h
  simp [itLeft, h1, h2, hc]
theorem spans_NF_len {l S : List Cl} (hl : ∀ c ∈ l, clE c = 0) (hp : S.Perm l) (hs : SoC S) {ks : List Ky} (hn : ks.Nodup) (hk : ∀ c ∈ S, kyOf c ∈ ks) : (NF l).length = (spans S ks).length := by
  have h1 := List.mergeSort_perm (spans S ks) (fun a b => !lessC b a)
  have h2 : SoC ((spans S ks).mergeSort fun a b => !lessC b a) := by
    have := List.pairwise_mergeSort (le := fun a b => !lessC b a) (fun a b c h1 h2 => by
      simp only [Bool.not_eq_true'] at *
      have e1 := lessC_not h1
      have e2 := lessC_not h2
      cases h : lessC c a
      · rfl
      · rw [lessC_iff] at h; omega) (fun a b => by
      cases h : lessC b a
      · rfl
      · cases h2 : lessC a b
        · rfl
        · rw [lessC_iff] at h h2; omega) (spans S ks)
    exact this.imp fun h => by simpa using h
  rw [← spans_nf hl hp hs hn hk h1 h2, h1.length_eq]
set_option linter.unusedSimpArgs false in
set_option maxHeartbeats 2000000 in
set_option maxRecDepth 100000 in
theorem _root_.Go.World.grownBy.trans_alloc {w w' : World} {row : Option Nat} (h : w.grownBy w' row) (o : Obj) : w.grownBy (w'.alloc o) row := grown_trans h (World.grownBy_alloc w' o row)
set_option linter.unusedSimpArgs false in
set_option maxHeartbeats 2000000 in
set_option maxRecDepth 100000 in
theorem sortedFunc_any (Bs cap : Nat) (A : Option Addr) (l : List Cl) (w : World) (hBs : Bs < w.heap.size) (hc : w.cell? ⟨Bs, 0, none⟩ = some (.slice A l.length cap)) (hS : SC w A l) (hl : l.length ≤ 1000000) :
    Calls Try.prog 45 #[.func (.func 67) #[] #[.pointer (some ⟨Bs, 0, none⟩)], .func (.func 47) #[] #[]] w fun e w' => ∃ v S, e = .returned v ∧ S.Perm l ∧ SoC S ∧ w'.ownsRow w.heap.size 24 5 v l.length (S.flatMap clC) ∧ Below w.heap.size w w' := by
  have H := Lib.hid (collectC_any Bs cap A l w hBs hc hS hl)
  clear hc hS
  go_enter Try.func45, Try.ntmps45
  go_wp2_with fail
  refine H.out.mono ?_
  rintro e w1 ⟨v, rfl, hown, hb⟩
  have HO := Lib.hid hown
  have HB := Lib.hid hb
  clear hown hb H
  go_wp2_with fail
  refine (sortC_any HO.out hl).mono ?_
  rintro e w2 ⟨rfl, S, hp, hs, hown, hg⟩
  have HP := Lib.hid hp
  have HS := Lib.hid hs
  have HO2 := Lib.hid hown
  have HB2 := Lib.hid (HB.out.grown hg HB.out.size (fun q hq => (HO.out.lt q hq).1))
  clear hown hg hp hs
  go_wp2_with fail
  go_ret
  exact ⟨v, S, rfl, HP.out, HS.out, HO2.out, HB2.out⟩

theorem cC_til (u : List Cl) (q : Cl) (mm : Nat) (mt : Int) (h : u.length = mm) : ((u ++ [q]).flatMap clC).set (mm * 5 + 3) (.int .i64 mt) = (u ++ [(⟨q.kind, q.office, q.fr, mt, q.dec⟩ : Cl)]).flatMap clC := by
  rw [cC_app, cC_app, List.set_append_right _ _ (by rw [cC_len]; omega), cC_len, show mm * 5 + 3 - u.length * 5 = 3 by omega]
  rfl
theorem grown_over {a b c : World} {r g : Nat} (h : a.grownBy b (some r)) (k : b.grownBy c (some g)) (hg : a.heap.size ≤ g) : a.grownBy c (some r) :=
  ⟨k.os.trans h.os, k.tape.trans h.tape, k.output.trans h.output, Nat.le_trans h.size k.size, fun j hj hr => (k.block j (Nat.lt_of_lt_of_le hj h.size) (fun e => by injection e with e; omega)).trans (h.block j hj hr)⟩
theorem Turn.gr {w w' : World} {r : Nat} (h : Turn w w' r) : w.grownBy w' (some r) := ⟨h.os, h.tape, h.output, by rw [h.size]; exact Nat.le_refl _, fun k _ hk => h.block k (fun e => hk (by rw [e]))⟩
/-- A round of the loop under way: the map, the spans, the claim's box. -/
structure NS (w3 W : World) (r B3 B nn : Nat) (f : Ky → Option Sv) (Sj : List Cl) (t : Cl) : Prop where
  m : MapF kV sV Try.prog 83 W r f nn
  k : KM W B3 Sj f
  g : w3.grownBy W (some r)
  x : Bk W B 24 #[.int .i64 t.kind, .int .i64 t.office, .int .i64 t.fr, .int .i64 t.til, .int .i64 t.dec]
  z : B3 ≤ W.heap.size
theorem NS.below {w3 W W' : World} {r B3 B nn : Nat} {f : Ky → Option Sv} {Sj : List Cl} {t : Cl} (h : NS w3 W r B3 B nn f Sj t) (hb : Below W.heap.size W W') : NS w3 W' r B3 B nn f Sj t :=
  ⟨h.m.below hb h.m.lt, h.k.below hb, grown_trans h.g (grown_of_below hb _), h.x.below hb h.x.lt, Nat.le_trans h.z hb.size⟩
theorem NS.c {w3 W : World} {r B3 B nn : Nat} {f : Ky → Option Sv} {Sj : List Cl} {t : Cl} (h : NS w3 W r B3 B nn f Sj t) : W.cell? ⟨B, 0, none⟩ = some (.int .i64 t.kind) ∧ W.cell? ⟨B, 1, none⟩ = some (.int .i64 t.office) ∧ W.cell? ⟨B, 2, none⟩ = some (.int .i64 t.fr) ∧ W.cell? ⟨B, 3, none⟩ = some (.int .i64 t.til) ∧ W.cell? ⟨B, 4, none⟩ = some (.int .i64 t.dec) := ⟨h.x.cell 0, h.x.cell 1, h.x.cell 2, h.x.cell 3, h.x.cell 4⟩
set_option linter.unusedSimpArgs false in
set_option maxHeartbeats 16000000 in
set_option maxRecDepth 100000 in
theorem normal_any (A : Option Addr) (c : Nat) (l : List Cl) (w : World) (hA : SC w A l) (hl : l.length ≤ 100000) :
    Calls Try.prog 20 #[.slice A l.length c] w fun e w' => ∃ v, e = .returned (.tuple #[v, .int .i64 (nrmE l)]) ∧ w'.ownsRow w.heap.size 24 5 v (nrmR l).length ((nrmR l).flatMap clC) ∧ Below w.heap.size w w' := by
  have HV := Lib.hid (valid_any A c l w hA (by omega))
  have HA := Lib.hid (fun (W : World) (h : Below w.heap.size w W) => (show SC W A l from hA.below h))
  clear hA
  rcases allE_01 l with he | he
  · rw [he] at HV
    have Hal := Lib.hid he
    have Hvl := Lib.hid (allE_iff.1 he)
    have hmm := @run_makeMap Try.prog
    clear he
    go_enter Try.func20, Try.ntmps20
    go_wp2_with fail
    refine HV.out.mono ?_
    rintro e w1 ⟨rfl, hb⟩
    have HB := Lib.hid hb
    clear hb HV
    go_wp2_with fail
    refine (valuesC_any _ _ _ _).mono ?_
    rintro e w2 ⟨rfl, rfl⟩
    have hbm := (Below.refl w1.heap.size w1).alloc (Nat.le_refl _) (.map #[] 0)
    have hbv := hbm.alloc (by simp) (.cells #[.slice A l.length c] 38)
    have hm0 := (MapF.new kV sV Try.prog 83 w1).alloc (.cells #[.slice A l.length c] 38)
    have hV0 := Bk.new (w1.alloc (.map #[] 0)) 38 #[.slice A l.length c]
    have HB2 := Lib.hid (HB.out.trans (hbv.mono HB.out.size))
    have HF := Lib.hid (sortedFunc_any (w1.alloc (.map #[] 0)).heap.size c A l _ hV0.lt (hV0.cell 0) (HA.out _ HB2.out) (by omega))
    rw [show (w1.alloc (.map #[] 0)).heap.size = w1.heap.size + 1 from by simp] at HF
    have HM2 := Lib.hid hm0
    have Hr := Lib.hid (show w1.heap.size < ((w1.alloc (.map #[] 0)).alloc (.cells #[.slice A l.length c] 38)).heap.size from by simp; omega)
    have Hr2 := Lib.hid HB.out.size
    obtain ⟨r, hr⟩ : ∃ q, Hid (w1.heap.size = q) := ⟨_, Lib.hid rfl⟩
    clear hbm hbv hm0 hV0 HB hmm
    go_wp2_with fail
    refine HF.out.mono ?_
    generalize (w1.alloc (.map #[] 0)).alloc (.cells #[.slice A l.length c] 38) = W2 at *
    rw [hr.out] at HM2 Hr Hr2
    simp only [hr.out]
    rintro e w3 ⟨v, S, rfl, hp, hs, hown, hb⟩
    obtain ⟨n, hn⟩ : ∃ q, Hid (l.length = q) := ⟨_, Lib.hid rfl⟩
    obtain ⟨A1, c1, rfl⟩ := own_slice hown
    have Hp := Lib.hid hp
    have Hs := Lib.hid hs
    have HSl := Lib.hid (show S.length = n from by rw [hp.length_eq, hn.out])
    have HSv := Lib.hid (fun t (ht : t ∈ S) => Hvl.out t (hp.mem_iff.1 ht))
    rw [hn.out] at hown hl
    simp only [hn.out]
    have HS3 := Lib.hid hown
    have HM3 := Lib.hid (HM2.out.below hb Hr.out)
    have HB3 := Lib.hid (HB2.out.trans (hb.mono HB2.out.size))
    have Hr3 := Lib.hid (show r < w3.heap.size from by have := hb.size; have := Hr.out; omega)
    obtain ⟨b3, hb3⟩ : ∃ q, Hid (W2.heap.size = q) := ⟨_, Lib.hid rfl⟩
    rw [hb3.out] at HS3 Hr
    obtain ⟨B3, hB3⟩ : ∃ q, Hid (w3.heap.size = q) := ⟨_, Lib.hid rfl⟩
    rw [hB3.out] at Hr3
    have hbB : b3 ≤ B3 := by rw [← hb3.out, ← hB3.out]; exact hb.size
    clear hown hb hp hs HM2 HB2 HF
    go_wp2_with fail
    go_loopw [23] (fun iv wr => ∃ (j nn : Nat) (f : Ky → Option Sv), j ≤ n ∧ iv = .int .i64 (j : Int) ∧ Hid (MapF kV sV Try.prog 83 wr r f nn) ∧ Hid (KM wr B3 (S.take j) f) ∧ Hid (w3.grownBy wr (some r))) (fun iv _ => n - (intOf iv).toNat)
    case atStart => exact ⟨0, 0, fun _ => none, by omega, rfl, HM3, Lib.hid (KM.nil _ _), Lib.hid ⟨rfl, rfl, rfl, Nat.le_refl _, fun _ _ _ => rfl⟩⟩
    case round =>
      obtain ⟨j, nn, f, hj, rfl, HM, HK, HG⟩ := hrel
      have HSr := Lib.hid (own_grown HS3.out HG.out (.inr fun e => by have := (HS3.out.lt r e).1; have := Hr.out; omega))
      have hBr : B3 ≤ wr.heap.size := by have := HG.out.size; have := hB3.out; omega
      by_cases hlt : j < n
      · obtain ⟨bs, os, t, hAe, a0, a1, a2, a3, a4, hi⟩ := (SC.own HSr.out).get (k := j) (by rw [HSl.out]; exact hlt)
        have Htv := Lib.hid (HSv.out t (List.mem_of_getElem? hi.out))
        have htv := clE_iff.1 Htv.out
        have HT := Lib.hid (show S.take (j + 1) = S.take j ++ [t] from take_snoc' hi.out)
        have hnj : ¬ (n ≤ j) := by omega
        have Hbx := Lib.hid (boxC t wr)
        have Hkx := Lib.hid (boxC_k t wr)
        have HMx := Lib.hid (HM.out.alloc (.cells #[.int .i64 t.kind, .int .i64 t.office, .int .i64 t.fr, .int .i64 t.til, .int .i64 t.dec] 24))
        have HKx := Lib.hid (HK.out.below Hbx.out)
        have HGx := Lib.hid (HG.out.trans_alloc (.cells #[.int .i64 t.kind, .int .i64 t.office, .int .i64 t.fr, .int .i64 t.til, .int .i64 t.dec] 24))
        have Hls := Lib.hid (partK_mi (S := S.take j) (List.Pairwise.sublist (List.take_sublist _ _) Hs.out) (fun q hq => HSv.out q (List.mem_of_mem_take hq)) (kyOf t))
        have HgL := Lib.hid (fun k v (hk : f k = some v) q (e : (sV v).ownBlock = some q) => (HK.out.row k v hk).2.lt q e)
        rw [hAe]
        clear hAe hi HSr HM HK HG
        go_upto_region 8 with fail
        generalize wr.alloc (.cells #[.int .i64 t.kind, .int .i64 t.office, .int .i64 t.fr, .int .i64 t.til, .int .i64 t.dec] 24) = wb at *
        obtain ⟨B, hB⟩ : ∃ q, Hid (wr.heap.size = q) := ⟨_, Lib.hid rfl⟩
        rw [hB.out] at Hkx HgL
        simp only [hB.out]
        have x0 : wb.cell? ⟨B, 0, none⟩ = some (.int .i64 t.kind) := Hkx.out.cell 0
        have x1 : wb.cell? ⟨B, 1, none⟩ = some (.int .i64 t.office) := Hkx.out.cell 1
        have x2 : wb.cell? ⟨B, 2, none⟩ = some (.int .i64 t.fr) := Hkx.out.cell 2
        have x3 : wb.cell? ⟨B, 3, none⟩ = some (.int .i64 t.til) := Hkx.out.cell 3
        have x4 : wb.cell? ⟨B, 4, none⟩ = some (.int .i64 t.dec) := Hkx.out.cell 4
        have HBb := Lib.hid (show B < wb.heap.size from Hkx.out.lt)
        clear a0 a1 a2 a3 a4 Hbx
        go_wp2_with fail
        refine (keyOf_any t _).mono ?_
        rintro e wk ⟨rfl, hb⟩
        have HN := Lib.hid (show NS w3 wk r B3 B nn f (S.take j) t from
          ⟨HMx.out.below hb HMx.out.lt, HKx.out.below hb, grown_trans HGx.out (grown_of_below hb _), Hkx.out.below hb Hkx.out.lt, by have := hb.size; have := HGx.out.size; have := hB3.out; omega⟩)
        clear hb Hkx HMx HKx HGx x0 x1 x2 x3 x4 HBb
        obtain ⟨Sj, hSj⟩ : ∃ q, Hid (S.take j = q) := ⟨_, Lib.hid rfl⟩
        rw [hSj.out] at HN HT Hls
        cases hf : f (kyOf t) with
        | none =>
          have hlk : (Instr.lookup 76 (.map (some r)) (kV (kyOf t)) false).run Try.prog wk = .ok (.slice none 0 0) wk := by
            have h := HN.out.m.lookup inj_kV keyed_key Try.underlying76 (zero_sl wk) (good_cl Htv.out)
            rw [hf] at h
            exact h
          have Hold := Lib.hid (show (none : Option Nat) = ((f (kyOf t)).map sV).elim none Value.ownBlock from by rw [hf]; rfl)
          have HP0 := Lib.hid (show mrg (partK Sj (kyOf t)) = [] from by rw [HN.out.k.none_ _ hf]; rfl)
          clear hf
          go_wp2
          go_quiet (fail)
          clear hlk
          have HN2 := Lib.hid (show NS w3 (wk.drewN nq) r B3 B nn f Sj t from HN.out.below (below_drewN (Below.refl _ _) nq))
          clear HN
          generalize wk.drewN nq = wq at *
          have HN3 := Lib.hid (show NS w3 wq.drew r B3 B nn f Sj t from HN2.out.below (Below.refl _ _).drew)
          clear HN2
          go_upto_region 12 with fail
          have HPn := Lib.hid (fun (W : World) (v : Value) (h : W.ownsRow B3 24 5 v (0 + 1) ([] ++ [.int .i64 t.kind, .int .i64 t.office, .int .i64 t.fr, .int .i64 t.til, .int .i64 t.dec])) => show W.ownsRow B3 24 5 v (0 + 1) ((stepM [] t).flatMap clC) from h)
          refine wp_region_noPanic ?_
          refine region_H (S := fun W => W.cell? ⟨B, 0, none⟩ = some (.int .i64 t.kind) ∧ W.cell? ⟨B, 1, none⟩ = some (.int .i64 t.office) ∧ W.cell? ⟨B, 2, none⟩ = some (.int .i64 t.fr) ∧ W.cell? ⟨B, 3, none⟩ = some (.int .i64 t.til) ∧ W.cell? ⟨B, 4, none⟩ = some (.int .i64 t.dec)) (by kernel_rfl) ?_
          change wpH _ _ _ _ 8 _ _ wq.drew
          generalize wq.drew = X0 at *
          refine H_takeD (k := 0) (v := .map (some r)) (d := some 59) rfl rfl (by decide +kernel) (fun _ _ _ h => h) (Or.inl ⟨by rfl, fun W hW => by obtain ⟨s0, s1, s2, s3, s4⟩ := hW; go_simp⟩) HN3.out.c ?_
          try simp only [Act.put, List.setIfInBounds_toArray, List.set_cons_zero, List.set_cons_succ]
          refine H_takeD (k := 1) (v := .agg #[.int .i64 t.kind, .int .i64 t.office, .int .i64 t.fr, .int .i64 t.til, .int .i64 t.dec]) (d := some 60) rfl rfl (by decide +kernel) (fun _ _ _ h => h) (Or.inl ⟨by rfl, fun W hW => by obtain ⟨s0, s1, s2, s3, s4⟩ := hW; go_simp⟩) HN3.out.c ?_
          try simp only [Act.put, List.setIfInBounds_toArray, List.set_cons_zero, List.set_cons_succ]
          refine H_takeD (k := 3) (v := .slice none 0 0) (d := some 62) rfl rfl (by decide +kernel) (fun _ _ _ h => h) (Or.inl ⟨by rfl, fun W hW => by obtain ⟨s0, s1, s2, s3, s4⟩ := hW; go_simp⟩) HN3.out.c ?_
          try simp only [Act.put, List.setIfInBounds_toArray, List.set_cons_zero, List.set_cons_succ]
          refine H_takeD (k := 4) (v := .agg #[.int .i64 t.kind, .int .i64 t.office, .int .i64 t.fr, .int .i64 t.til, .int .i64 t.dec]) (d := some 63) rfl rfl (by decide +kernel) (fun _ _ _ h => h) (Or.inl ⟨by rfl, fun W hW => by obtain ⟨s0, s1, s2, s3, s4⟩ := hW; go_simp⟩) HN3.out.c ?_
          try simp only [Act.put, List.setIfInBounds_toArray, List.set_cons_zero, List.set_cons_succ]
          refine H_two (i := 2) (j := 5) (by decide +kernel) (H_step rfl rfl (fun K hK4 => ?_)) (H_step rfl rfl (fun K hK4 => ?_))
          · have hK4 := Lib.hid hK4
            go_simp
            go_at_call 48
            refine (keyOf_any t _).mono ?_
            rintro e wv ⟨rfl, hb_⟩
            have HN4 := Lib.hid (HN3.out.below hb_)
            clear hb_
            refine hK4.out _ _ HN4.out.c ?_
            try simp only [Act.put, List.setIfInBounds_toArray, List.set_cons_zero, List.set_cons_succ]
            refine H_one (i := 5) (by decide +kernel) (H_step rfl rfl (fun K hK5 => ?_))
            have hK5 := Lib.hid hK5
            go_simp
            have HN5 := Lib.hid (HN4.out.below ((Below.refl _ _).alloc (Nat.le_refl _) (.cells #[.int .i64 t.kind, .int .i64 t.office, .int .i64 t.fr, .int .i64 t.til, .int .i64 t.dec] 24)))
            have HL5 := Lib.hid (Bk.new wv 24 #[.int .i64 t.kind, .int .i64 t.office, .int .i64 t.fr, .int .i64 t.til, .int .i64 t.dec])
            refine hK5.out _ _ HN5.out.c ?_
            try simp only [Act.put, List.setIfInBounds_toArray, List.set_cons_zero, List.set_cons_succ]
            generalize wv.alloc (.cells #[.int .i64 t.kind, .int .i64 t.office, .int .i64 t.fr, .int .i64 t.til, .int .i64 t.dec] 24) = w5 at *
            refine H_one (i := 6) (by decide +kernel) (H_step rfl rfl (fun K hK6 => ?_))
            have hK6 := Lib.hid hK6
            refine app_wpA (us := [.int .i64 t.kind, .int .i64 t.office, .int .i64 t.fr, .int .i64 t.til, .int .i64 t.dec]) (xs := []) (n := 0) (base := B3) (c := 1) (H := wv.heap.size) (v := .slice none 0 0) (.tmp 62) (.tmp 64) rfl elt_cl (by simp [Act.eval]) (by simp [Act.eval]) (World.ownsRow_nil _ _ _ _) HL5.out rfl rfl (by omega) HN5.out.z ?_
            intro v6 w6 hown6 hg6 hb6
            obtain ⟨X6, c6, rfl⟩ := own_slice hown6
            have HK6 := Lib.hid (HN5.out.k.put t (X6, 0 + 1, c6) Hold.out hg6 (by simp) (by rw [HP0.out]; exact HPn.out _ _ hown6) hb6)
            have HM6 := Lib.hid (HN5.out.m.grown hg6 (by simp [Value.ownBlock]))
            have HX6 := Lib.hid (HN5.out.x.grown hg6 (by simp [Value.ownBlock]))
            have HG6 := Lib.hid (grown_trans HN5.out.g (grown_of_below (below_of_grownU hg6) _))
            clear hown6 hg6 hb6
            refine hK6.out _ _ ⟨HX6.out.cell 0, HX6.out.cell 1, HX6.out.cell 2, HX6.out.cell 3, HX6.out.cell 4⟩ ?_
            try simp only [Act.put, List.setIfInBounds_toArray, List.set_cons_zero, List.set_cons_succ]
            simp only [List.getElem_toArray, List.getElem_cons_succ, List.getElem_cons_zero, List.set_cons_succ, List.set_cons_zero]
            refine H_one (i := 7) (by decide +kernel) (H_step rfl rfl (fun K hK7 => ?_))
            have hK7 := Lib.hid hK7
            obtain ⟨w8, hup, hm8, ht8⟩ := HM6.out.update inj_kV keyed_key Try.underlying76 (good_cl Htv.out) (X6, 0 + 1, c6)
            have hup' : (Instr.mapUpdate 76 (.map (some r)) (kV (kyOf t)) (.slice X6 (0 + 1) c6)).run Try.prog w6 = .ok () w8 := hup
            clear hup
            go_simp
            have HX8 := Lib.hid (ht8.bk HX6.out (fun e => HM6.out.bk_ne HX6.out e))
            refine hK7.out _ _ ⟨HX8.out.cell 0, HX8.out.cell 1, HX8.out.cell 2, HX8.out.cell 3, HX8.out.cell 4⟩ ?_
            try simp only [Act.put, List.setIfInBounds_toArray, List.set_cons_zero, List.set_cons_succ]
            refine H_end (by decide +kernel) (NoPanic.normal ?_)
            try simp only [Act.put, List.setIfInBounds_toArray, List.set_cons_zero, List.set_cons_succ]
            have HK8 := Lib.hid (HK6.out.turn ht8 Hr3.out)
            rw [← HT.out] at HK8
            have HG8 := Lib.hid (grown_trans HG6.out ht8.gr)
            have HM8 := Lib.hid hm8
            clear hup' hm8 ht8
            go_wp2_with fail
            go_roundw
            case rel => exact ⟨j + 1, _, _, by omega, by go_num, HM8, HK8, HG8⟩
            case measure => simp [intOf]; omega
          · have hK4 := Lib.hid hK4
            go_simp
            have HN5 := Lib.hid (HN3.out.below ((Below.refl _ _).alloc (Nat.le_refl _) (.cells #[.int .i64 t.kind, .int .i64 t.office, .int .i64 t.fr, .int .i64 t.til, .int .i64 t.dec] 24)))
            have HL5 := Lib.hid (Bk.new X0 24 #[.int .i64 t.kind, .int .i64 t.office, .int .i64 t.fr, .int .i64 t.til, .int .i64 t.dec])
            refine hK4.out _ _ HN5.out.c ?_
            try simp only [Act.put, List.setIfInBounds_toArray, List.set_cons_zero, List.set_cons_succ]
            generalize X0.alloc (.cells #[.int .i64 t.kind, .int .i64 t.office, .int .i64 t.fr, .int .i64 t.til, .int .i64 t.dec] 24) = w5 at *
            refine H_one (i := 2) (by decide +kernel) (H_step rfl rfl (fun K hK5 => ?_))
            have hK5 := Lib.hid hK5
            go_simp
            go_at_call 48
            refine (keyOf_any t _).mono ?_
            rintro e wv ⟨rfl, hb_⟩
            have HN4 := Lib.hid (HN5.out.below hb_)
            have HL4 := Lib.hid (HL5.out.below hb_ HL5.out.lt)
            clear hb_
            refine hK5.out _ _ HN4.out.c ?_
            try simp only [Act.put, List.setIfInBounds_toArray, List.set_cons_zero, List.set_cons_succ]
            refine H_one (i := 6) (by decide +kernel) (H_step rfl rfl (fun K hK6 => ?_))
            have hK6 := Lib.hid hK6
            refine app_wpA (us := [.int .i64 t.kind, .int .i64 t.office, .int .i64 t.fr, .int .i64 t.til, .int .i64 t.dec]) (xs := []) (n := 0) (base := B3) (c := 1) (H := X0.heap.size) (v := .slice none 0 0) (.tmp 62) (.tmp 64) rfl elt_cl (by simp [Act.eval]) (by simp [Act.eval]) (World.ownsRow_nil _ _ _ _) HL4.out rfl rfl (by omega) HN4.out.z ?_
            intro v6 w6 hown6 hg6 hb6
            obtain ⟨X6, c6, rfl⟩ := own_slice hown6
            have HK6 := Lib.hid (HN4.out.k.put t (X6, 0 + 1, c6) Hold.out hg6 (by simp) (by rw [HP0.out]; exact HPn.out _ _ hown6) hb6)
            have HM6 := Lib.hid (HN4.out.m.grown hg6 (by simp [Value.ownBlock]))
            have HX6 := Lib.hid (HN4.out.x.grown hg6 (by simp [Value.ownBlock]))
            have HG6 := Lib.hid (grown_trans HN4.out.g (grown_of_below (below_of_grownU hg6) _))
            clear hown6 hg6 hb6
            refine hK6.out _ _ ⟨HX6.out.cell 0, HX6.out.cell 1, HX6.out.cell 2, HX6.out.cell 3, HX6.out.cell 4⟩ ?_
            try simp only [Act.put, List.setIfInBounds_toArray, List.set_cons_zero, List.set_cons_succ]
            simp only [List.getElem_toArray, List.getElem_cons_succ, List.getElem_cons_zero, List.set_cons_succ, List.set_cons_zero]
            refine H_one (i := 7) (by decide +kernel) (H_step rfl rfl (fun K hK7 => ?_))
            have hK7 := Lib.hid hK7
            obtain ⟨w8, hup, hm8, ht8⟩ := HM6.out.update inj_kV keyed_key Try.underlying76 (good_cl Htv.out) (X6, 0 + 1, c6)
            have hup' : (Instr.mapUpdate 76 (.map (some r)) (kV (kyOf t)) (.slice X6 (0 + 1) c6)).run Try.prog w6 = .ok () w8 := hup
            clear hup
            go_simp
            have HX8 := Lib.hid (ht8.bk HX6.out (fun e => HM6.out.bk_ne HX6.out e))
            refine hK7.out _ _ ⟨HX8.out.cell 0, HX8.out.cell 1, HX8.out.cell 2, HX8.out.cell 3, HX8.out.cell 4⟩ ?_
            try simp only [Act.put, List.setIfInBounds_toArray, List.set_cons_zero, List.set_cons_succ]
            refine H_end (by decide +kernel) (NoPanic.normal ?_)
            try simp only [Act.put, List.setIfInBounds_toArray, List.set_cons_zero, List.set_cons_succ]
            have HK8 := Lib.hid (HK6.out.turn ht8 Hr3.out)
            rw [← HT.out] at HK8
            have HG8 := Lib.hid (grown_trans HG6.out ht8.gr)
            have HM8 := Lib.hid hm8
            clear hup' hm8 ht8
            go_wp2_with fail
            go_roundw
            case rel => exact ⟨j + 1, _, _, by omega, by go_num, HM8, HK8, HG8⟩
            case measure => simp [intOf]; omega
        | some v0 =>
          obtain ⟨hv1, hrow⟩ := HN.out.k.row _ _ hf
          obtain ⟨g, cp, e0⟩ := row_slot hrow hv1
          obtain ⟨mm, hmm⟩ : ∃ q, v0.2.1 = q + 1 := ⟨v0.2.1 - 1, by omega⟩
          rw [hmm] at e0 hrow
          subst e0
          clear hmm hv1
          obtain ⟨hg3, hgB⟩ := HgL.out _ _ hf g rfl
          have hl0 := own_lenC hrow
          obtain ⟨u, q, hU⟩ : ∃ u q, mrg (partK Sj (kyOf t)) = u ++ [q] := by
            rcases List.eq_nil_or_concat (mrg (partK Sj (kyOf t))) with h | ⟨u, q, h⟩
            · rw [h] at hl0; simp at hl0
            · exact ⟨u, q, by rw [h, List.concat_eq_append]⟩
          have HU := Lib.hid hU
          rw [hU] at hl0 hrow
          have hul : u.length = mm := by rw [List.length_append] at hl0; simpa using hl0
          have hqv := clE_iff.1 (Hls.out.vl q (by rw [hU]; simp))
          have Hul := Lib.hid hul
          have hlk : (Instr.lookup 76 (.map (some r)) (kV (kyOf t)) false).run Try.prog wk = .ok (.slice (some ⟨g, 0, none⟩) (mm + 1) cp) wk := by
            have h := HN.out.m.lookup inj_kV keyed_key Try.underlying76 (zero_sl wk) (good_cl Htv.out)
            rw [hf] at h
            exact h
          have Hold := Lib.hid (show (Value.slice (some ⟨g, 0, none⟩) (mm + 1) cp).ownBlock = ((f (kyOf t)).map sV).elim none Value.ownBlock from by rw [hf]; rfl)
          have HRf := Lib.hid (fun (W : World) (h : NS w3 W r B3 B nn f Sj t) => show W.ownsRow B3 24 5 (.slice (some ⟨g, 0, none⟩) (mm + 1) cp) (mm + 1) ((u ++ [q]).flatMap clC) from by
            have h2 := (h.k.row _ _ hf).2
            rw [hU] at h2
            exact h2)
          have HQ := Lib.hid (fun (W : World) (h : NS w3 W r B3 B nn f Sj t) => own_cellsC (HRf.out W h) (show (u ++ [q])[mm]? = some q from by rw [← hul]; simp))
          have hsf := Lib.hid (setF_self hf)
          have hmn : mm + 1 ≤ 1000000 := by
            have h1 := Hls.out.le
            have h2 := List.length_filter_le (fun c => decide (kyOf c = kyOf t)) Sj
            have h3 : Sj.length ≤ n := by rw [← hSj.out, List.length_take, HSl.out]; omega
            rw [hU, List.length_append, hul] at h1
            have h4 : (partK Sj (kyOf t)).length ≤ Sj.length := h2
            have h5 : [q].length = 1 := rfl
            omega
          have hrg : r < g := by have := Hr3.out; omega
          have hgz : w3.heap.size ≤ g := by have := hB3.out; omega
          have hw1 : IntKind.i64.wrap ((mm : Int) + 1 - 1) = (mm : Int) := by rw [show (mm : Int) + 1 - 1 = (mm : Int) by omega]; exact IntWalk.i64_in _ ⟨by omega, by omega⟩
          have hw2 : IntKind.i64.wrap (q.til + 1) = q.til + 1 := IntWalk.i64_in _ ⟨by omega, by omega⟩
          have hnm : ¬ (mm + 1 ≤ mm) := by omega
          have hnI : ¬ ((mm : Int) + 1 ≤ (mm : Int)) := by omega
          obtain ⟨_, _, _, q3, _, _⟩ := HQ.out wk HN.out
          obtain ⟨_, _, x2, _, _⟩ := HN.out.c
          clear hf hU hul hl0 hrow
          by_cases hj : t.fr ≤ q.til + 1
          · have hd : decide (t.fr ≤ q.til + 1) = true := decide_eq_true hj
            have HPn := Lib.hid (stepM_join (u := u) hj)
            clear hj
            go_wp2
            go_quiet (fail)
            clear hlk q3 x2
            have HN2 := Lib.hid (show NS w3 (wk.drewN nq) r B3 B nn f Sj t from HN.out.below (below_drewN (Below.refl _ _) nq))
            clear HN
            generalize wk.drewN nq = wq at *
            have HN3 := Lib.hid (show NS w3 wq.drew r B3 B nn f Sj t from HN2.out.below (Below.refl _ _).drew)
            clear HN2
            obtain ⟨mt, hmt⟩ : ∃ z, Hid (max q.til t.til = z) := ⟨_, Lib.hid rfl⟩
            have hmax : ∀ (W : World) (ts : Array TypeId) (t' : TypeId), (Builtin.max_ ts t' #[.int .i64 q.til, .int .i64 t.til]).run Try.prog W = .ok (.int .i64 mt) W := fun W ts t' => hmt.out ▸ Lib.run_max_ints W ts t' .i64 .i64 _ _
            rw [hmt.out] at HPn
            have HS4 := Lib.hid (show (fun W : World => W.cell? ⟨g, mm * 5 + 3, none⟩ = some (.int .i64 q.til) ∧ W.cell? ⟨B, 3, none⟩ = some (.int .i64 t.til)) wq.drew from ⟨(HQ.out _ HN3.out).2.2.2.1, HN3.out.c.2.2.2.1⟩)
            have HFz := Lib.hid ((HQ.out _ HN3.out).2.2.2.2.2 (mm * 5 + 3))
            have HRw := Lib.hid (HRf.out _ HN3.out)
            go_upto_region 11 with fail
            refine wp_region_noPanic ?_
            refine region_T (s := 12) (S := fun W => W.cell? ⟨g, mm * 5 + 3, none⟩ = some (.int .i64 q.til) ∧ W.cell? ⟨B, 3, none⟩ = some (.int .i64 t.til)) (by kernel_rfl) ?_
            change wpT _ _ _ _ _ 13 _ _ wq.drew
            generalize wq.drew = X0 at *
            refine T_takeD (k := 0) (v := .slice (some ⟨g, 0, none⟩) (mm + 1) cp) (d := some 47) rfl rfl (by decide +kernel) (fun _ _ _ h => h) (Or.inl ⟨by rfl, fun W hW => by obtain ⟨s0, s1⟩ := hW; go_simp⟩) HS4.out ?_
            try simp only [Act.put, List.setIfInBounds_toArray, List.set_cons_zero, List.set_cons_succ]
            refine T_takeD (k := 1) (v := .int .i64 (mm : Int)) (d := some 48) rfl rfl (by decide +kernel) (fun _ _ _ h => h) (Or.inl ⟨by rfl, fun W hW => by obtain ⟨s0, s1⟩ := hW; go_simp⟩) HS4.out ?_
            try simp only [Act.put, List.setIfInBounds_toArray, List.set_cons_zero, List.set_cons_succ]
            refine T_takeD (k := 2) (v := .slice (some ⟨g, 0, none⟩) (mm + 1) cp) (d := some 49) rfl rfl (by decide +kernel) (fun _ _ _ h => h) (Or.inl ⟨by rfl, fun W hW => by obtain ⟨s0, s1⟩ := hW; go_simp⟩) HS4.out ?_
            try simp only [Act.put, List.setIfInBounds_toArray, List.set_cons_zero, List.set_cons_succ]
            refine T_takeD (k := 3) (v := .int .i64 (mm : Int)) (d := some 50) rfl rfl (by decide +kernel) (fun _ _ _ h => h) (Or.inl ⟨by rfl, fun W hW => by obtain ⟨s0, s1⟩ := hW; go_simp⟩) HS4.out ?_
            try simp only [Act.put, List.setIfInBounds_toArray, List.set_cons_zero, List.set_cons_succ]
            refine T_takeD (k := 4) (v := .pointer (some ⟨g, mm * 5, none⟩)) (d := some 51) rfl rfl (by decide +kernel) (fun _ _ _ h => h) (Or.inl ⟨by rfl, fun W hW => by obtain ⟨s0, s1⟩ := hW; go_simp⟩) HS4.out ?_
            try simp only [Act.put, List.setIfInBounds_toArray, List.set_cons_zero, List.set_cons_succ]
            refine T_takeD (k := 5) (v := .pointer (some ⟨g, mm * 5 + 3, none⟩)) (d := some 52) rfl rfl (by decide +kernel) (fun _ _ _ h => h) (Or.inl ⟨by rfl, fun W hW => by obtain ⟨s0, s1⟩ := hW; go_simp⟩) HS4.out ?_
            try simp only [Act.put, List.setIfInBounds_toArray, List.set_cons_zero, List.set_cons_succ]
            refine T_takeD (k := 6) (v := .int .i64 q.til) (d := some 53) rfl rfl (by decide +kernel) (fun _ _ _ h => h) (Or.inl ⟨by rfl, fun W hW => by obtain ⟨s0, s1⟩ := hW; go_simp⟩) HS4.out ?_
            try simp only [Act.put, List.setIfInBounds_toArray, List.set_cons_zero, List.set_cons_succ]
            refine T_takeD (k := 7) (v := .pointer (some ⟨B, 3, none⟩)) (d := some 54) rfl rfl (by decide +kernel) (fun _ _ _ h => h) (Or.inl ⟨by rfl, fun W hW => by obtain ⟨s0, s1⟩ := hW; go_simp⟩) HS4.out ?_
            try simp only [Act.put, List.setIfInBounds_toArray, List.set_cons_zero, List.set_cons_succ]
            refine T_takeD (k := 8) (v := .int .i64 t.til) (d := some 55) rfl rfl (by decide +kernel) (fun _ _ _ h => h) (Or.inl ⟨by rfl, fun W hW => by obtain ⟨s0, s1⟩ := hW; go_simp⟩) HS4.out ?_
            try simp only [Act.put, List.setIfInBounds_toArray, List.set_cons_zero, List.set_cons_succ]
            refine T_takeD (k := 9) (v := .int .i64 mt) (d := some 56) rfl rfl (by decide +kernel) (fun _ _ _ h => h) (Or.inl ⟨by rfl, fun W hW => by obtain ⟨s0, s1⟩ := hW; go_simp⟩) HS4.out ?_
            try simp only [Act.put, List.setIfInBounds_toArray, List.set_cons_zero, List.set_cons_succ]
            refine T_oneS (i := 10) (by decide +kernel) (T_step rfl rfl (fun K hK10 => ?_))
            have hK10 := Lib.hid hK10
            go_simp
            refine hK10.out _ _ HS4.out ?_
            try simp only [Act.put, List.setIfInBounds_toArray, List.set_cons_zero, List.set_cons_succ]
            refine T_oneS (i := 11) (by decide +kernel) (T_step rfl rfl (fun K hK11 => ?_))
            have hK11 := Lib.hid hK11
            go_simp
            refine hK11.out _ _ HS4.out ?_
            try simp only [Act.put, List.setIfInBounds_toArray, List.set_cons_zero, List.set_cons_succ]
            refine T_last (by decide +kernel) (by decide +kernel) (by decide +kernel) rfl rfl (fun K hKl => ?_)
            have hKl := Lib.hid hKl
            obtain ⟨d3, _⟩ := HS4.out
            have fz := HFz.out
            go_simp
            refine hKl.out _ _ (NoPanic.normal ?_)
            try simp only [Act.put, List.setIfInBounds_toArray, List.set_cons_zero, List.set_cons_succ]
            clear d3 fz
            have HK8 := Lib.hid (HN3.out.k.put t (some ⟨g, 0, none⟩, mm + 1, cp) Hold.out (grown_set X0 g (mm * 5 + 3) (.int .i64 mt)) (by simp) (by
              rw [HU.out, HPn.out, ← cC_til u q mm mt Hul.out]
              exact own_put HRw.out (.int .i64 mt)) (.inl rfl))
            have HM8 := Lib.hid (HN3.out.m.setCell (p := ⟨g, mm * 5 + 3, none⟩) (by simp; omega) (.int .i64 mt))
            have HG8 := Lib.hid (grown_over HN3.out.g (grown_set X0 g (mm * 5 + 3) (.int .i64 mt)) hgz)
            rw [hsf.out, ← HT.out] at HK8
            clear HN3 HS4 HFz HRw hmax hd
            generalize X0.setCell ⟨g, mm * 5 + 3, none⟩ (.int .i64 mt) = w8 at *
            go_wp2_with fail
            go_roundw
            case rel => exact ⟨j + 1, nn, f, by omega, by go_num, HM8, HK8, HG8⟩
            case measure => simp [intOf]; omega
          · have hd : decide (t.fr ≤ q.til + 1) = false := decide_eq_false hj
            have HP0 := HU
            have HPn := Lib.hid (fun (W : World) (v : Value) (h : W.ownsRow B3 24 5 v (mm + 1 + 1) ((u ++ [q]).flatMap clC ++ [.int .i64 t.kind, .int .i64 t.office, .int .i64 t.fr, .int .i64 t.til, .int .i64 t.dec])) => show W.ownsRow B3 24 5 v (mm + 1 + 1) ((stepM (u ++ [q]) t).flatMap clC) from by
              rw [stepM_new hj, cC_app (u ++ [q])]
              exact h)
            clear hj
            go_wp2
            go_quiet (fail)
            clear hlk q3 x2
            have HN2 := Lib.hid (show NS w3 (wk.drewN nq) r B3 B nn f Sj t from HN.out.below (below_drewN (Below.refl _ _) nq))
            clear HN
            generalize wk.drewN nq = wq at *
            have HN3 := Lib.hid (show NS w3 wq.drew r B3 B nn f Sj t from HN2.out.below (Below.refl _ _).drew)
            clear HN2
            go_upto_region 12 with fail
            refine wp_region_noPanic ?_
            refine region_H (S := fun W => W.cell? ⟨B, 0, none⟩ = some (.int .i64 t.kind) ∧ W.cell? ⟨B, 1, none⟩ = some (.int .i64 t.office) ∧ W.cell? ⟨B, 2, none⟩ = some (.int .i64 t.fr) ∧ W.cell? ⟨B, 3, none⟩ = some (.int .i64 t.til) ∧ W.cell? ⟨B, 4, none⟩ = some (.int .i64 t.dec)) (by kernel_rfl) ?_
            change wpH _ _ _ _ 8 _ _ wq.drew
            generalize wq.drew = X0 at *
            refine H_takeD (k := 0) (v := .map (some r)) (d := some 59) rfl rfl (by decide +kernel) (fun _ _ _ h => h) (Or.inl ⟨by rfl, fun W hW => by obtain ⟨s0, s1, s2, s3, s4⟩ := hW; go_simp⟩) HN3.out.c ?_
            try simp only [Act.put, List.setIfInBounds_toArray, List.set_cons_zero, List.set_cons_succ]
            refine H_takeD (k := 1) (v := .agg #[.int .i64 t.kind, .int .i64 t.office, .int .i64 t.fr, .int .i64 t.til, .int .i64 t.dec]) (d := some 60) rfl rfl (by decide +kernel) (fun _ _ _ h => h) (Or.inl ⟨by rfl, fun W hW => by obtain ⟨s0, s1, s2, s3, s4⟩ := hW; go_simp⟩) HN3.out.c ?_
            try simp only [Act.put, List.setIfInBounds_toArray, List.set_cons_zero, List.set_cons_succ]
            refine H_takeD (k := 3) (v := .slice (some ⟨g, 0, none⟩) (mm + 1) cp) (d := some 62) rfl rfl (by decide +kernel) (fun _ _ _ h => h) (Or.inl ⟨by rfl, fun W hW => by obtain ⟨s0, s1, s2, s3, s4⟩ := hW; go_simp⟩) HN3.out.c ?_
            try simp only [Act.put, List.setIfInBounds_toArray, List.set_cons_zero, List.set_cons_succ]
            refine H_takeD (k := 4) (v := .agg #[.int .i64 t.kind, .int .i64 t.office, .int .i64 t.fr, .int .i64 t.til, .int .i64 t.dec]) (d := some 63) rfl rfl (by decide +kernel) (fun _ _ _ h => h) (Or.inl ⟨by rfl, fun W hW => by obtain ⟨s0, s1, s2, s3, s4⟩ := hW; go_simp⟩) HN3.out.c ?_
            try simp only [Act.put, List.setIfInBounds_toArray, List.set_cons_zero, List.set_cons_succ]
            refine H_two (i := 2) (j := 5) (by decide +kernel) (H_step rfl rfl (fun K hK4 => ?_)) (H_step rfl rfl (fun K hK4 => ?_))
            · have hK4 := Lib.hid hK4
              go_simp
              go_at_call 48
              refine (keyOf_any t _).mono ?_
              rintro e wv ⟨rfl, hb_⟩
              have HN4 := Lib.hid (HN3.out.below hb_)
              clear hb_
              refine hK4.out _ _ HN4.out.c ?_
              try simp only [Act.put, List.setIfInBounds_toArray, List.set_cons_zero, List.set_cons_succ]
              refine H_one (i := 5) (by decide +kernel) (H_step rfl rfl (fun K hK5 => ?_))
              have hK5 := Lib.hid hK5
              go_simp
              have HN5 := Lib.hid (HN4.out.below ((Below.refl _ _).alloc (Nat.le_refl _) (.cells #[.int .i64 t.kind, .int .i64 t.office, .int .i64 t.fr, .int .i64 t.til, .int .i64 t.dec] 24)))
              have HL5 := Lib.hid (Bk.new wv 24 #[.int .i64 t.kind, .int .i64 t.office, .int .i64 t.fr, .int .i64 t.til, .int .i64 t.dec])
              refine hK5.out _ _ HN5.out.c ?_
              try simp only [Act.put, List.setIfInBounds_toArray, List.set_cons_zero, List.set_cons_succ]
              generalize wv.alloc (.cells #[.int .i64 t.kind, .int .i64 t.office, .int .i64 t.fr, .int .i64 t.til, .int .i64 t.dec] 24) = w5 at *
              refine H_one (i := 6) (by decide +kernel) (H_step rfl rfl (fun K hK6 => ?_))
              have hK6 := Lib.hid hK6
              refine app_wpA (us := [.int .i64 t.kind, .int .i64 t.office, .int .i64 t.fr, .int .i64 t.til, .int .i64 t.dec]) (xs := (u ++ [q]).flatMap clC) (n := (mm + 1)) (base := B3) (c := 1) (H := wv.heap.size) (v := .slice (some ⟨g, 0, none⟩) (mm + 1) cp) (.tmp 62) (.tmp 64) rfl elt_cl (by simp [Act.eval]) (by simp [Act.eval]) (HRf.out _ HN5.out) HL5.out rfl rfl (by omega) HN5.out.z ?_
              intro v6 w6 hown6 hg6 hb6
              obtain ⟨X6, c6, rfl⟩ := own_slice hown6
              have HK6 := Lib.hid (HN5.out.k.put t (X6, (mm + 1) + 1, c6) Hold.out hg6 (by simp) (by rw [HP0.out]; exact HPn.out _ _ hown6) hb6)
              have HM6 := Lib.hid (HN5.out.m.grown hg6 (by simp [Value.ownBlock]; omega))
              have HX6 := Lib.hid (HN5.out.x.grown hg6 (by simp [Value.ownBlock]; omega))
              have HG6 := Lib.hid (grown_over HN5.out.g (by simpa [Value.ownBlock] using hg6) hgz)
              clear hown6 hg6 hb6
              refine hK6.out _ _ ⟨HX6.out.cell 0, HX6.out.cell 1, HX6.out.cell 2, HX6.out.cell 3, HX6.out.cell 4⟩ ?_
              try simp only [Act.put, List.setIfInBounds_toArray, List.set_cons_zero, List.set_cons_succ]
              simp only [List.getElem_toArray, List.getElem_cons_succ, List.getElem_cons_zero, List.set_cons_succ, List.set_cons_zero]
              refine H_one (i := 7) (by decide +kernel) (H_step rfl rfl (fun K hK7 => ?_))
              have hK7 := Lib.hid hK7
              obtain ⟨w8, hup, hm8, ht8⟩ := HM6.out.update inj_kV keyed_key Try.underlying76 (good_cl Htv.out) (X6, (mm + 1) + 1, c6)
              have hup' : (Instr.mapUpdate 76 (.map (some r)) (kV (kyOf t)) (.slice X6 ((mm + 1) + 1) c6)).run Try.prog w6 = .ok () w8 := hup
              clear hup
              go_simp
              have HX8 := Lib.hid (ht8.bk HX6.out (fun e => HM6.out.bk_ne HX6.out e))
              refine hK7.out _ _ ⟨HX8.out.cell 0, HX8.out.cell 1, HX8.out.cell 2, HX8.out.cell 3, HX8.out.cell 4⟩ ?_
              try simp only [Act.put, List.setIfInBounds_toArray, List.set_cons_zero, List.set_cons_succ]
              refine H_end (by decide +kernel) (NoPanic.normal ?_)
              try simp only [Act.put, List.setIfInBounds_toArray, List.set_cons_zero, List.set_cons_succ]
              have HK8 := Lib.hid (HK6.out.turn ht8 Hr3.out)
              rw [← HT.out] at HK8
              have HG8 := Lib.hid (grown_trans HG6.out ht8.gr)
              have HM8 := Lib.hid hm8
              clear hup' hm8 ht8
              go_wp2_with fail
              go_roundw
              case rel => exact ⟨j + 1, _, _, by omega, by go_num, HM8, HK8, HG8⟩
              case measure => simp [intOf]; omega
            · have hK4 := Lib.hid hK4
              go_simp
              have HN5 := Lib.hid (HN3.out.below ((Below.refl _ _).alloc (Nat.le_refl _) (.cells #[.int .i64 t.kind, .int .i64 t.office, .int .i64 t.fr, .int .i64 t.til, .int .i64 t.dec] 24)))
              have HL5 := Lib.hid (Bk.new X0 24 #[.int .i64 t.kind, .int .i64 t.office, .int .i64 t.fr, .int .i64 t.til, .int .i64 t.dec])
              refine hK4.out _ _ HN5.out.c ?_
              try simp only [Act.put, List.setIfInBounds_toArray, List.set_cons_zero, List.set_cons_succ]
              generalize X0.alloc (.cells #[.int .i64 t.kind, .int .i64 t.office, .int .i64 t.fr, .int .i64 t.til, .int .i64 t.dec] 24) = w5 at *
              refine H_one (i := 2) (by decide +kernel) (H_step rfl rfl (fun K hK5 => ?_))
              have hK5 := Lib.hid hK5
              go_simp
              go_at_call 48
              refine (keyOf_any t _).mono ?_
              rintro e wv ⟨rfl, hb_⟩
              have HN4 := Lib.hid (HN5.out.below hb_)
              have HL4 := Lib.hid (HL5.out.below hb_ HL5.out.lt)
              clear hb_
              refine hK5.out _ _ HN4.out.c ?_
              try simp only [Act.put, List.setIfInBounds_toArray, List.set_cons_zero, List.set_cons_succ]
              refine H_one (i := 6) (by decide +kernel) (H_step rfl rfl (fun K hK6 => ?_))
              have hK6 := Lib.hid hK6
              refine app_wpA (us := [.int .i64 t.kind, .int .i64 t.office, .int .i64 t.fr, .int .i64 t.til, .int .i64 t.dec]) (xs := (u ++ [q]).flatMap clC) (n := (mm + 1)) (base := B3) (c := 1) (H := X0.heap.size) (v := .slice (some ⟨g, 0, none⟩) (mm + 1) cp) (.tmp 62) (.tmp 64) rfl elt_cl (by simp [Act.eval]) (by simp [Act.eval]) (HRf.out _ HN4.out) HL4.out rfl rfl (by omega) HN4.out.z ?_
              intro v6 w6 hown6 hg6 hb6
              obtain ⟨X6, c6, rfl⟩ := own_slice hown6
              have HK6 := Lib.hid (HN4.out.k.put t (X6, (mm + 1) + 1, c6) Hold.out hg6 (by simp) (by rw [HP0.out]; exact HPn.out _ _ hown6) hb6)
              have HM6 := Lib.hid (HN4.out.m.grown hg6 (by simp [Value.ownBlock]; omega))
              have HX6 := Lib.hid (HN4.out.x.grown hg6 (by simp [Value.ownBlock]; omega))
              have HG6 := Lib.hid (grown_over HN4.out.g (by simpa [Value.ownBlock] using hg6) hgz)
              clear hown6 hg6 hb6
              refine hK6.out _ _ ⟨HX6.out.cell 0, HX6.out.cell 1, HX6.out.cell 2, HX6.out.cell 3, HX6.out.cell 4⟩ ?_
              try simp only [Act.put, List.setIfInBounds_toArray, List.set_cons_zero, List.set_cons_succ]
              simp only [List.getElem_toArray, List.getElem_cons_succ, List.getElem_cons_zero, List.set_cons_succ, List.set_cons_zero]
              refine H_one (i := 7) (by decide +kernel) (H_step rfl rfl (fun K hK7 => ?_))
              have hK7 := Lib.hid hK7
              obtain ⟨w8, hup, hm8, ht8⟩ := HM6.out.update inj_kV keyed_key Try.underlying76 (good_cl Htv.out) (X6, (mm + 1) + 1, c6)
              have hup' : (Instr.mapUpdate 76 (.map (some r)) (kV (kyOf t)) (.slice X6 ((mm + 1) + 1) c6)).run Try.prog w6 = .ok () w8 := hup
              clear hup
              go_simp
              have HX8 := Lib.hid (ht8.bk HX6.out (fun e => HM6.out.bk_ne HX6.out e))
              refine hK7.out _ _ ⟨HX8.out.cell 0, HX8.out.cell 1, HX8.out.cell 2, HX8.out.cell 3, HX8.out.cell 4⟩ ?_
              try simp only [Act.put, List.setIfInBounds_toArray, List.set_cons_zero, List.set_cons_succ]
              refine H_end (by decide +kernel) (NoPanic.normal ?_)
              try simp only [Act.put, List.setIfInBounds_toArray, List.set_cons_zero, List.set_cons_succ]
              have HK8 := Lib.hid (HK6.out.turn ht8 Hr3.out)
              rw [← HT.out] at HK8
              have HG8 := Lib.hid (grown_trans HG6.out ht8.gr)
              have HM8 := Lib.hid hm8
              clear hup' hm8 ht8
              go_wp2_with fail
              go_roundw
              case rel => exact ⟨j + 1, _, _, by omega, by go_num, HM8, HK8, HG8⟩
              case measure => simp [intOf]; omega
      · obtain rfl : j = n := by omega
        have HKS := Lib.hid (show KM wr B3 S f from by have h := HK.out; rw [List.take_of_length_le (by rw [HSl.out]; exact Nat.le_refl _)] at h; exact h)
        have HBw := Lib.hid (show Below w.heap.size w wr from HB3.out.grown HG.out (by have := HB3.out.size; omega) (fun q hq => by injection hq with hq; have := Hr2.out; omega))
        have HM4 := HM
        have hrlt := HM.out.lt
        clear HK HG HSr HM hBr HM3 hlt
        generalize wr = W4 at *
        obtain ⟨w5, hrg, hit, hgr, hsz⟩ := HM4.out.range Try.underlying76
        have hb5 := (Below.refl W4.heap.size W4).grown hgr (Nat.le_refl _) (fun q hq => by cases hq)
        obtain ⟨T0, hT0⟩ : ∃ q, Hid (W4.heap.size = q) := ⟨_, Lib.hid rfl⟩
        have Hit := Lib.hid hit
        have Hb5 := Lib.hid hb5
        rw [hT0.out] at hrg Hit Hb5 hrlt
        have HTw := Lib.hid (show w.heap.size ≤ T0 from by rw [← hT0.out]; exact HBw.out.size)
        have Hsz := Lib.hid hsz
        have hnn : (spans S []).length = 0 := rfl
        clear hit hb5 hgr hsz hnn
        go_wp2_with fail
        clear hrg
        go_loopw [10] (fun ov wx => ∃ (done : List Ky) (c' m : Nat) (Z : List Cl), Hid (spans S done = Z) ∧ Hid (Z.length = m) ∧ m ≤ j ∧ Hid (wx.ownsRow (T0 + 1) 24 5 ov m (Z.flatMap clC)) ∧ Hid (Iter kV sV Try.prog 83 wx T0 r f nn done c') ∧ Hid done.Nodup ∧ Hid (Below T0 W4 wx) ∧ Hid (T0 + 1 ≤ wx.heap.size)) (fun _ wx => itLeft wx T0 r)
        case atStart => exact ⟨[], nn, 0, [], Lib.hid rfl, Lib.hid rfl, by omega, Lib.hid (World.ownsRow_nil _ _ _ _), Hit, Lib.hid List.nodup_nil, Hb5, Lib.hid (by rw [Hsz.out, hT0.out]; exact Nat.le_refl _)⟩
        case round =>
          clear Hit Hb5 Hsz
          obtain ⟨done, c', m, Z, HZ, Hm, hmj, HO, HI, HD, HBx, HTx⟩ := hrel
          have Hleft := Lib.hid HI.out.left
          rcases HI.out.next inj_kV 0 with ⟨hall, hnx⟩ | ⟨k, a, w6, c2, hk1, hk2, hk3, hnx, hit2, hlt, ht2, hen⟩
          · have hnx' : ∀ ty, (Instr.next (.pointer (some ⟨T0, 0, none⟩)) false ty).run Try.prog wr = .ok (.tuple #[.bool false]) wr := fun ty => hnx
            have hdn : ∀ q ∈ S, kyOf q ∈ done := fun q hq => hall _ (fun h0 => by
              have := HKS.out.none_ _ h0
              have h2 : q ∈ partK S (kyOf q) := List.mem_filter.2 ⟨hq, by simp⟩
              rw [this] at h2
              cases h2)
            have Hdn := Lib.hid hdn
            have HL := Lib.hid (spans_NF_len Hvl.out Hp.out Hs.out HD.out hdn)
            rw [HZ.out, Hm.out] at HL
            obtain ⟨Ao, co, rfl⟩ := own_slice HO.out
            have HBf := Lib.hid (HBw.out.trans (HBx.out.mono HTw.out))
            clear hnx hall hdn HBx HBw
            by_cases h64 : m ≤ 64
            · have hE := nrmE_ok Hal.out (by rw [HL.out]; exact h64)
              have HE := Lib.hid hE.1
              have HR := Lib.hid hE.2
              have h64' : ¬ ((m : Int) > 64) := by omega
              clear hE
              go_wp2_with fail
              refine (sortC_any HO.out (by omega)).mono ?_
              rintro e w7 ⟨rfl, L', hp7, hs7, hown7, hg7⟩
              have HEq := Lib.hid (show L' = NF l from spans_nf Hvl.out Hp.out Hs.out HD.out Hdn.out (by rw [HZ.out]; exact hp7) hs7)
              have HO7 := Lib.hid (own_mono hown7 (show w.heap.size ≤ T0 + 1 from by have := HTw.out; omega))
              have HB7 := Lib.hid (HBf.out.grown hg7 HBf.out.size (fun q hq => by have := (HO.out.lt q hq).1; have := HTw.out; omega))
              clear hp7 hs7 hown7 hg7
              go_wp2_with fail
              exact bodyPost_ret (v := .tuple #[.slice Ao m co, .int .i64 0]) (by simp [results, Try.results20, go_sem]) rfl ⟨_, by rw [HE.out], by rw [HR.out, HL.out, ← HEq.out]; exact HO7.out, HB7.out⟩
            · have hE := nrmE_many Hal.out (by rw [HL.out]; exact h64)
              have HE := Lib.hid hE.1
              have HR := Lib.hid hE.2
              have h64' : (m : Int) > 64 := by omega
              clear hE
              go_wp2_with fail
              exact bodyPost_ret (v := .tuple #[.slice none 0 0, .int .i64 4]) (by simp [results, Try.results20, go_sem]) rfl ⟨_, by rw [HE.out], by rw [HR.out]; exact own_none, HBf.out⟩
          · obtain ⟨A6, n6, c6⟩ := a
            have hnx' : ∀ ty, (Instr.next (.pointer (some ⟨T0, 0, none⟩)) false ty).run Try.prog wr = .ok (.tuple #[.bool true, kV k, .slice A6 n6 c6]) w6 := fun ty => hnx
            have hen' : (Instr.entry (.pointer (some ⟨T0, 0, none⟩))).run Try.prog w6 = .ok (.tuple #[kV k, .slice A6 n6 c6]) w6 := hen
            have hB6 := ht2.below HBx.out (Nat.le_refl T0)
            have hrow := (HKS.out.row _ _ hk2).2
            have hrow6 := own_below hrow (hT0.out.symm ▸ hB6)
            have hsl := SL.of_own (show w6.ownsRow B3 24 5 (.slice A6 n6 c6) n6 ((mrg (partK S k)).flatMap clC) from hrow6)
            have hlen6 : (mrg (partK S k)).length = n6 := own_lenC hrow
            have hl6 : ((mrg (partK S k)).flatMap clC).length = n6 * 5 := by rw [cC_len, hlen6]
            have HD2 := Lib.hid (show (done ++ [k]).Nodup from List.nodup_append.2 ⟨HD.out, by simp, fun a ha b hb => by rw [List.mem_singleton.1 hb]; exact fun e => hk1 (e ▸ ha)⟩)
            have HZ2 := Lib.hid (show spans S (done ++ [k]) = Z ++ mrg (partK S k) from by rw [spans_snoc, HZ.out])
            have hm2 : m + n6 ≤ j := by
              have h := spans_len (S := S) Hs.out HSv.out HD2.out
              rw [HZ2.out, List.length_append, Hm.out, hlen6, HSl.out] at h
              exact h
            have HLn := Lib.hid (show (Z ++ mrg (partK S k)).length = m + n6 from by rw [List.length_append, Hm.out, hlen6])
            have hO6 := own_turn HO.out ht2 (fun e => by have := (HO.out.lt T0 e.symm).1; omega)
            have hz6 : T0 + 1 ≤ w6.heap.size := by rw [ht2.size]; exact HTx.out
            have Hit2 := Lib.hid hit2
            have HB6 := Lib.hid hB6
            have Hlt := Lib.hid hlt
            clear hnx hen hrow hrow6 hlen6 hk1 hk2 hk3 hit2 ht2 hB6 hlt HI
            go_wp2_with (at_builtin; refine wpList_appM (w := w6) (us := (mrg (partK S k)).flatMap clC) (m := n6) rfl _ _ rfl elt_cl hO6 hz6 rfl rfl hsl hl6 (cC_all _) (by omega) ?_; intro v7 w7 hown7 hg7)
            have hgl := fun q (hq : _ = some q) => hO6.lt q hq
            have HO7 := Lib.hid (show w7.ownsRow (T0 + 1) 24 5 v7 (m + n6) ((Z ++ mrg (partK S k)).flatMap clC) from by rw [cC_app]; exact hown7)
            have HI7 := Lib.hid (Hit2.out.keep (hg7.block T0 Hit2.out.lt (fun e => by have := (hO6.lt T0 e.symm).1; omega)) (hg7.block r Hit2.out.map.lt (fun e => by have := (hO6.lt r e.symm).1; omega)))
            have HB7 := Lib.hid (HB6.out.grown hg7 (by omega) (fun q hq => by have := (hO6.lt q hq).1; omega))
            have HT7 := Lib.hid (show T0 + 1 ≤ w7.heap.size from Nat.le_trans hz6 hg7.size)
            have Hl7 := Lib.hid HI7.out.left
            clear hown7 hg7 hO6 hsl hl6 hgl hnx' hen'
            go_roundw
            case rel => exact ⟨done ++ [k], c2, m + n6, _, HZ2, HLn, hm2, HO7, HI7, HD2, HB7, HT7⟩
            case measure => show itLeft w7 T0 r < itLeft wr T0 r; rw [Hl7.out, Hleft.out]; exact Hlt.out
  · have hE := nrmE_bad he
    have HE := Lib.hid hE.1
    have HR := Lib.hid hE.2
    rw [he] at HV
    clear he hE
    go_enter Try.func20, Try.ntmps20
    go_wp2_with fail
    refine HV.out.mono ?_
    rintro e w1 ⟨rfl, hb⟩
    have HB := Lib.hid hb
    clear hb HV
    go_wp2_with fail
    exact bodyPost_ret (v := .tuple #[.slice none 0 0, .int .i64 1]) (by simp [results, Try.results20, go_sem]) rfl ⟨_, by rw [HE.out], by rw [HR.out]; exact own_none, HB.out⟩
end Go.Proofs.Ytgeciimakjfnfaa

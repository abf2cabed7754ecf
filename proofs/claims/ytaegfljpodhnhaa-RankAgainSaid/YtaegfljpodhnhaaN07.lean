import Derived.Test.YtaegfljpodhnhaaN06
import Derived.Test.YtaegfljpodhnhaaG06
import Derived.Test.YtaegfljpodhnhaaR27
import Derived.Test.YtaegfljpodhnhaaT3
import Derived.Deep.DeepCutAuto
namespace Go.Proofs.Ytaegfljpodhnhaa
open Go.RowKit Go.Maps

theorem own_void' {w : World} {base g : Nat} {e : TypeId} {size : Nat} (h : Bk w g e #[]) (hb : base ≤ g) : w.ownsRow base e size (.slice (some ⟨g, 0, none⟩) 0 0) 0 [] :=
  ⟨by simp, .inr ⟨g, 0, #[], rfl, hb, h, Nat.le_refl _, by unfold maxLen; omega, by simp, by simp⟩⟩
theorem si_take {w : World} {A : Option Addr} {l : List Int} (h : SI w A l) (n : Nat) : SI w A (l.take n) := fun j u hu => by
  refine h j u ?_
  rw [List.map_take] at hu
  rw [List.getElem?_take] at hu
  split at hu
  · exact hu
  · cases hu
theorem si_drop {w : World} {b o : Nat} {l : List Int} (h : SI w (some ⟨b, o, none⟩) l) (n : Nat) : SI w (some ⟨b, o + n, none⟩) (l.drop n) := fun j u hu => by
  rw [List.map_drop, List.getElem?_drop] at hu
  obtain ⟨b', o', e, hb, hc⟩ := h (n + j) u hu
  injection e with e
  injection e with e1 e2
  subst e1 e2
  exact ⟨b, o + n, rfl, hb, by rw [Nat.add_assoc]; exact hc⟩

theorem sll_put {w : World} {gD te : Nat} {t : TypeId} {L : List (List Int)} (h : SLL w (some ⟨gD, 0, none⟩) L) (hk : Bk w te t #[.slice none 0 0]) (hne : gD ≠ te) (u : Value) : SLL (w.setCell ⟨te, 0, none⟩ u) (some ⟨gD, 0, none⟩) L := by
  obtain ⟨vs, h1, h2, h3⟩ := h
  refine ⟨vs, fun j v hv => ?_, h2, fun j v l hv hl => ?_⟩
  · obtain ⟨b, o, e, hb, hc⟩ := h1 j v hv
    injection e with e
    injection e with e1 e2
    subst e1 e2
    exact ⟨gD, 0, rfl, by simpa [World.setCell] using hb, by rw [World.cell?_setCell_other _ _ _ _ (fun e => hne (by injection e with e; exact e.symm))]; exact hc⟩
  · obtain ⟨B, c, e, hs⟩ := h3 j v l hv hl
    refine ⟨B, c, e, fun j v hv => ?_⟩
    obtain ⟨b, o, e, hb, hc⟩ := hs j v hv
    refine ⟨b, o, e, by simpa [World.setCell] using hb, ?_⟩
    rw [World.cell?_setCell_other]
    · exact hc
    · intro e
      have h0 := (hk.cell 0)
      rw [e, hc] at h0
      rw [List.getElem?_map] at hv
      have h0' : v = .slice none 0 0 := by simpa using h0
      cases hx : l[j]? with
      | none => rw [hx] at hv; cases hv
      | some z =>
        rw [hx] at hv
        injection hv with hv
        rw [h0'] at hv
        cases hv

theorem of_one (A B C : Option Addr) (c d f : Nat) (ws : List Int) (ns : List (Int × Int × Int)) (mm : Int) (x : List Int) (w : World) (hA : SI w A ws) (hB : ST w B ns) (hC : SI w C [mm]) (hE : ofE ws ns [mm] = 0) (hL : ofL ws ns [mm] = [x]) :
    Calls Try.prog 15 #[.agg #[.slice A ws.length c, .slice B ns.length d], .slice C 1 f] w fun e w' => ∃ gD m, e = .returned (.tuple #[.agg #[.slice (some ⟨gD, 0, none⟩) 1 m], .int .i64 0]) ∧ w.heap.size ≤ gD ∧ SLL w' (some ⟨gD, 0, none⟩) [x] ∧ Below w.heap.size w w' := by
  have hg := validE_good (orI_two.1 hE).1
  have h := of_any A B C c d f ws ns [mm] w hA hB hC (by omega) (by omega) (by simp)
  rw [List.length_singleton] at h
  refine h.mono ?_
  rintro e w' ⟨D, m, vs, rfl, hown, hLL, hb⟩
  rw [hL] at hown hLL ⊢
  rw [hE]
  rw [List.length_singleton] at hown ⊢
  obtain ⟨gD, m', hv, hgD, hgl⟩ := hown.form (by omega)
  injection hv with hv1 hv2 hv3
  subst hv1 hv3
  exact ⟨gD, _, rfl, hgD, SLL.of_rows hown hLL (fun l hl => by have := ofL_lens (ws := ws) (ns := ns) (ls := [mm]) l (hL ▸ hl); omega), hb⟩

set_option linter.unusedSimpArgs false in
set_option maxHeartbeats 8000000 in
set_option maxRecDepth 100000 in
theorem again_walk (A B : Option Addr) (c d : Nat) (l k : List Int) (at_ : Int) (w : World) (hA : SI w A l) (hB : SI w B k) (hwl : W64 l) (hwk : W64 k) (h1 : -9223372036854775808 ≤ at_ ∧ at_ ≤ 9223372036854775807) :
    Calls Try.prog 9 #[.slice A l.length c, .slice B k.length d, .int .i64 at_] w fun e w' => e = .returned (.bool true) ∧ Below w.heap.size w w' := by
  go_enter Try.func9, Try.ntmps9
  go_wp2_with fail
  refine (some_any A c l 14 w hA hwl (by omega) (by omega)).mono ?_
  rintro e w1 ⟨v1, v2, ws, ns, rfl, hown1, hown2, hG, hb1⟩
  obtain ⟨A1, c1, rfl⟩ := own_slice hown1
  obtain ⟨A2, c2, rfl⟩ := own_slice hown2
  have Hb1 := Lib.hid hb1
  have Hs1 := Lib.hid (own_si hown1)
  have Hs2 := Lib.hid (SL.of_own hown2 : ST w1 A2 ns)
  clear hb1 hown1 hown2
  go_wp2_with fail
  refine (own_any A1 A2 c1 c2 ws.length ns.length w1).mono ?_
  rintro e w2 ⟨rfl, hb2⟩
  have hb12 := Hb1.out.trans (hb2.mono Hb1.out.size)
  have Hb2 := Lib.hid (hb12.alloc hb12.size (.cells #[.slice A1 ws.length c1, .slice A2 ns.length c2] 31))
  have Hs1 := Lib.hid ((Hs1.out.below hb2).alloc (.cells #[.slice A1 ws.length c1, .slice A2 ns.length c2] 31))
  have Hs2 := Lib.hid ((Hs2.out.below hb2).alloc (.cells #[.slice A1 ws.length c1, .slice A2 ns.length c2] 31))
  have Hg := Lib.hid (Bk.new w2 31 #[.slice A1 ws.length c1, .slice A2 ns.length c2])
  clear hb2 hb12 Hb1
  go_wp2_with fail
  generalize w2.alloc (.cells #[.slice A1 ws.length c1, .slice A2 ns.length c2] 31) = W2 at *
  generalize w2.heap.size = tg at *
  refine (least_any B d k W2 (hB.below Hb2.out) hwk).mono ?_
  rintro e w3 ⟨v3, ls, rfl, hown3, hT, hb3⟩
  obtain ⟨A3, c3, rfl⟩ := own_slice hown3
  have m1 := hT.n1
  have m2 := hT.n2
  obtain ⟨g3, c3', hv, hg3, hgl⟩ := hown3.form (by omega)
  injection hv with hv1 hv2 hv3
  subst hv1 hv3
  have hcap := own_cap hown3
  have Hls := Lib.hid (own_si hown3)
  have Hs1 := Lib.hid (Hs1.out.below hb3)
  have Hs2 := Lib.hid (Hs2.out.below hb3)
  have Hg := Lib.hid (Hg.out.below hb3 Hg.out.lt)
  have Hb3 := Lib.hid (Hb2.out.trans (hb3.mono Hb2.out.size))
  clear hown3 hb3 Hb2 hg3 hgl
  obtain ⟨hn1, hn2⟩ := around_bd at_ ls.length (by omega)
  have Har := Lib.hid (around_any at_ ls.length w3 h1.1 h1.2 (by omega) (by omega))
  generalize around at_ ls.length = n' at *
  obtain ⟨n, rfl⟩ := Int.eq_ofNat_of_zero_le hn1
  have hnl : n < ls.length := by omega
  have Hag := Lib.hid (again_at (ws := ws) (ns := ns) hG hT hnl)
  have Hgr := Lib.hid (fun h0 => again_groups (ws := ws) (ns := ns) hG hT hnl h0)
  have Htl := Lib.hid (twice_len hnl)
  have n1 := hG.n1
  have n2 := hG.n2
  have n3 := hG.n3
  have Hml := Lib.hid (fun (l : List Int) (hl : l ∈ ofL ws ns ls) => (show l.length ≤ 1099511627776 by have := ofL_lens (ws := ws) (ns := ns) (ls := ls) l hl; omega))
  clear hG hT hn1 hn2
  go_wp2_with fail
  refine Har.out.mono ?_
  rintro e w' ⟨rfl, rfl⟩
  clear Har
  obtain ⟨np, hnp⟩ : ∃ np : Nat, Hid (n + 1 = np) := ⟨_, Lib.hid rfl⟩
  have hwn : IntKind.i64.wrap ((n : Int) + 1) = (np : Int) := by rw [IntWalk.i64_in _ (by omega)]; have := hnp.out; omega
  have hnpl : np ≤ ls.length := by have := hnp.out; omega
  have hn0 : (0 : Int) ≤ (n : Int) := by omega
  go_upto_region 4 with fail
  go_cut [10] (fun v wx => ∃ X c, v = .slice X (ls.length + 1) c ∧ SI wx X (twice ls n) ∧ ls.length + 1 ≤ c ∧ Below w3.heap.size w3 wx)
  case first =>
    as_aux_lemma =>
    have HS0 := trivial
    have hnc : np ≤ c3 := by omega
    have hnle : n ≤ ls.length := by omega
    have hcn : (c3 = n) = False := by simp only [eq_iff_iff, iff_false]; omega
    refine wp_region_noPanic ?_
    refine region_H (S := fun _ => True) (by kernel_rfl) ?_
    change wpH _ _ _ _ 11 _ _ w3.drew
    refine H_takeD (k := 1) (v := .slice (some ⟨g3, 0, none⟩) ls.length c3) (d := some 34) rfl rfl (by decide +kernel) (fun _ _ _ h => h) (Or.inl ⟨by rfl, fun W hW => by go_simp⟩) trivial ?_
    try simp only [Act.put, List.setIfInBounds_toArray, List.set_cons_zero, List.set_cons_succ]
    refine H_takeD (k := 2) (v := .int .i64 n) (d := some 35) rfl rfl (by decide +kernel) (fun _ _ _ h => h) (Or.inl ⟨by rfl, fun W hW => by go_simp⟩) trivial ?_
    try simp only [Act.put, List.setIfInBounds_toArray, List.set_cons_zero, List.set_cons_succ]
    refine H_takeD (k := 3) (v := .int .i64 np) (d := some 36) rfl rfl (by decide +kernel) (fun _ _ _ h => h) (Or.inl ⟨by rfl, fun W hW => by go_simp⟩) trivial ?_
    try simp only [Act.put, List.setIfInBounds_toArray, List.set_cons_zero, List.set_cons_succ]
    refine H_takeD (k := 4) (v := .slice (some ⟨g3, 0, none⟩) np c3) (d := some 37) rfl rfl (by decide +kernel) (fun _ _ _ h => h) (Or.inl ⟨by rfl, fun W hW => by go_simp⟩) trivial ?_
    try simp only [Act.put, List.setIfInBounds_toArray, List.set_cons_zero, List.set_cons_succ]
    refine H_takeD (k := 6) (v := .slice (some ⟨g3, 0, none⟩) ls.length c3) (d := some 39) rfl rfl (by decide +kernel) (fun _ _ _ h => h) (Or.inl ⟨by rfl, fun W hW => by go_simp⟩) trivial ?_
    try simp only [Act.put, List.setIfInBounds_toArray, List.set_cons_zero, List.set_cons_succ]
    refine H_takeD (k := 7) (v := .int .i64 n) (d := some 40) rfl rfl (by decide +kernel) (fun _ _ _ h => h) (Or.inl ⟨by rfl, fun W hW => by go_simp⟩) trivial ?_
    try simp only [Act.put, List.setIfInBounds_toArray, List.set_cons_zero, List.set_cons_succ]
    refine H_takeD (k := 8) (v := .slice (some ⟨g3, n, none⟩) (ls.length - n) (c3 - n)) (d := some 41) rfl rfl (by decide +kernel) (fun _ _ _ h => h) (Or.inl ⟨by rfl, fun W hW => by go_simp⟩) trivial ?_
    try simp only [Act.put, List.setIfInBounds_toArray, List.set_cons_zero, List.set_cons_succ]
    refine H_one (i := 0) (by decide +kernel) (H_step rfl rfl (fun K hK7 => ?_))
    have hK7 := Lib.hid hK7
    go_simp
    have Hv := Lib.hid (own_void' (base := w3.heap.size) (size := 1) (Bk.new w3.drew 3 #[]) (Nat.le_refl _))
    have hsz : w3.heap.size ≤ (w3.drew.alloc (.cells #[] 3)).heap.size := by simp
    have Hxv := Lib.hid (((Below.refl w3.heap.size w3).drew).alloc (Nat.le_refl _) (.cells #[] 3))
    refine hK7.out _ _ trivial ?_
    try simp only [Act.put, List.setIfInBounds_toArray, List.set_cons_zero, List.set_cons_succ]
    refine H_one (i := 5) (by decide +kernel) (H_step rfl rfl (fun K hK8 => ?_))
    have hK8 := Lib.hid hK8
    refine app_wpM (w := w3.drew.alloc (.cells #[] 3)) (us := (ls.take np).map (Value.int .i64)) (B := some ⟨g3, 0, none⟩) (.tmp 33) (.tmp 37) rfl elt_int Hv.out hsz rfl rfl ((si_take Hls.out np).below Hxv.out) (by simp [Nat.min_eq_left hnpl]) (ints_all _) (by omega) ?_
    intro v5 W5 hown5 hg5
    simp only [List.nil_append] at hown5
    have Hown5 := Lib.hid hown5
    have Hb5 := Lib.hid (Hxv.out.grown hg5 hsz (fun k hk => by simp [Value.ownBlock] at hk; omega))
    clear hown5 hg5
    refine hK8.out _ _ trivial ?_
    try simp only [Act.put, List.setIfInBounds_toArray, List.set_cons_zero, List.set_cons_succ]
    refine H_one (i := 9) (by decide +kernel) (H_step rfl rfl (fun K hK9 => ?_))
    have hK9 := Lib.hid hK9
    refine app_wpM (w := W5) (us := (ls.drop n).map (Value.int .i64)) (B := some ⟨g3, n, none⟩) (.tmp 38) (.tmp 41) rfl elt_int Hown5.out Hb5.out.size rfl rfl (by have h := (si_drop Hls.out n).below Hb5.out; rw [Nat.zero_add] at h; exact h) (by simp) (ints_all _) (by omega) ?_
    intro v6 W6 hown6 hg6
    obtain ⟨X6, x6, rfl⟩ := own_slice hown6
    have Hb6 := Lib.hid (Hb5.out.grown hg6 Hb5.out.size (fun k hk => (Hown5.out.lt k hk).1))
    have Hown6 := Lib.hid hown6
    clear hown6 hg6
    refine hK9.out _ _ trivial ?_
    try simp only [Act.put, List.setIfInBounds_toArray, List.set_cons_zero, List.set_cons_succ]
    refine H_one (i := 10) (by decide +kernel) (H_step rfl rfl (fun K hK10 => ?_))
    have hK10 := Lib.hid hK10
    go_simp
    refine hK10.out _ _ trivial ?_
    try simp only [Act.put, List.setIfInBounds_toArray, List.set_cons_zero, List.set_cons_succ]
    refine H_end (by decide +kernel) (NoPanic.normal ?_)
    try simp only [Act.put, List.setIfInBounds_toArray, List.set_cons_zero, List.set_cons_succ]
    go_wp2_with fail
    go_meet
    have hlen : np + (ls.length - n) = ls.length + 1 := by have := hnp.out; omega
    have h6 := Hown6.out
    rw [Nat.zero_add, hlen] at h6
    rw [← List.map_append] at h6
    refine ⟨X6, x6, by rw [hlen], ?_, own_cap h6, Hb6.out⟩
    unfold twice
    rw [hnp.out]
    exact SL.of_own h6
  case rest =>
  obtain ⟨X, cX, rfl, hX, hcX, hbX⟩ := hcut
  obtain ⟨w5, rfl⟩ : ∃ x, x = wc := ⟨wc, rfl⟩
  have Hg := Lib.hid (Hg.out.below hbX Hg.out.lt)
  have Hs1 := Lib.hid (Hs1.out.below hbX)
  have Hs2 := Lib.hid (Hs2.out.below hbX)
  have Hls := Lib.hid (Hls.out.below hbX)
  have HX := Lib.hid hX
  have Hb5 := Lib.hid (Hb3.out.trans (hbX.mono Hb3.out.size))
  have hcg0 : w5.cell? ⟨tg, 0, none⟩ = some (.slice A1 ws.length c1) := Hg.out.cell 0
  have hcg1 : w5.cell? ⟨tg, 1, none⟩ = some (.slice A2 ns.length c2) := Hg.out.cell 1
  clear hX hbX Hb3
  obtain ⟨hE, hLn, hE2, hLn2, hS, hSL, hsame⟩ := Hag.out
  clear Hag
  rw [show (n : Int) + 1 = np by have := hnp.out; omega] at hS hSL
  rw [Htl.out] at hLn2 hsame
  have HE := Lib.hid hE
  have HLn := Lib.hid hLn
  have HE2 := Lib.hid hE2
  have HLn2 := Lib.hid hLn2
  have HS := Lib.hid hS
  have HSL := Lib.hid hSL
  have Hsame := Lib.hid hsame
  clear hE hLn hE2 hLn2 hS hSL hsame
  go_wp2_with fail
  refine (of_ok A1 A2 (some ⟨g3, 0, none⟩) c1 c2 c3 ws ns ls _ w5 Hs1.out Hs2.out Hls.out HE.out rfl).mono ?_
  rintro e w6 ⟨D, m, rfl, hD, hb6⟩
  rw [HLn.out]
  have hb56 := Hb5.out.trans (hb6.mono Hb5.out.size)
  have Hb7 := Lib.hid (hb56.alloc hb56.size (.cells #[.slice D ls.length m] 36))
  have Hs1 := Lib.hid ((Hs1.out.below hb6).alloc (.cells #[.slice D ls.length m] 36))
  have Hs2 := Lib.hid ((Hs2.out.below hb6).alloc (.cells #[.slice D ls.length m] 36))
  have Hls := Lib.hid ((Hls.out.below hb6).alloc (.cells #[.slice D ls.length m] 36))
  have HX := Lib.hid ((HX.out.below hb6).alloc (.cells #[.slice D ls.length m] 36))
  have HD := Lib.hid (hD.below ((Below.refl _ _).alloc (Nat.le_refl _) (.cells #[.slice D ls.length m] 36)))
  have Hg := Lib.hid ((Hg.out.below hb6 Hg.out.lt).alloc (.cells #[.slice D ls.length m] 36))
  have Hc := Lib.hid (Bk.new w6 36 #[.slice D ls.length m])
  clear hcg0 hcg1 hb6 hb56 hD Hb5
  have hcg0 : (w6.alloc (.cells #[.slice D ls.length m] 36)).cell? ⟨tg, 0, none⟩ = some (.slice A1 ws.length c1) := Hg.out.cell 0
  have hcg1 : (w6.alloc (.cells #[.slice D ls.length m] 36)).cell? ⟨tg, 1, none⟩ = some (.slice A2 ns.length c2) := Hg.out.cell 1
  go_wp2_with fail
  clear hcg0 hcg1
  generalize w6.alloc (.cells #[.slice D ls.length m] 36) = W7 at *
  generalize w6.heap.size = tc at *
  have hof2 := of_ok A1 A2 X c1 c2 cX ws ns (twice ls n) _ W7 Hs1.out Hs2.out HX.out HE2.out rfl
  rw [Htl.out] at hof2
  refine hof2.mono ?_
  rintro e w8 ⟨D2, md, rfl, hD2, hb8⟩
  clear hof2
  rw [HLn2.out]
  have hb78 := Hb7.out.trans (hb8.mono Hb7.out.size)
  have Hb9 := Lib.hid (hb78.alloc hb78.size (.cells #[.slice D2 (ls.length + 1) md] 36))
  have Hs1 := Lib.hid ((Hs1.out.below hb8).alloc (.cells #[.slice D2 (ls.length + 1) md] 36))
  have Hs2 := Lib.hid ((Hs2.out.below hb8).alloc (.cells #[.slice D2 (ls.length + 1) md] 36))
  have Hls := Lib.hid ((Hls.out.below hb8).alloc (.cells #[.slice D2 (ls.length + 1) md] 36))
  have HX := Lib.hid ((HX.out.below hb8).alloc (.cells #[.slice D2 (ls.length + 1) md] 36))
  have HD := Lib.hid ((HD.out.below hb8).below ((Below.refl _ _).alloc (Nat.le_refl _) (.cells #[.slice D2 (ls.length + 1) md] 36)))
  have HD2 := Lib.hid (hD2.below ((Below.refl _ _).alloc (Nat.le_refl _) (.cells #[.slice D2 (ls.length + 1) md] 36)))
  have Hg := Lib.hid ((Hg.out.below hb8 Hg.out.lt).alloc (.cells #[.slice D2 (ls.length + 1) md] 36))
  have Hc := Lib.hid ((Hc.out.below hb8 Hc.out.lt).alloc (.cells #[.slice D2 (ls.length + 1) md] 36))
  have Hd := Lib.hid (Bk.new w8 36 #[.slice D2 (ls.length + 1) md])
  clear hb8 hb78 hD2 Hb7
  have hcg0 : (w8.alloc (.cells #[.slice D2 (ls.length + 1) md] 36)).cell? ⟨tg, 0, none⟩ = some (.slice A1 ws.length c1) := Hg.out.cell 0
  have hcg1 : (w8.alloc (.cells #[.slice D2 (ls.length + 1) md] 36)).cell? ⟨tg, 1, none⟩ = some (.slice A2 ns.length c2) := Hg.out.cell 1
  go_wp2_with fail
  clear hcg0 hcg1
  generalize w8.alloc (.cells #[.slice D2 (ls.length + 1) md] 36) = W9 at *
  generalize w8.heap.size = td at *
  have hst := steps_ok A1 A2 X c1 c2 cX ws ns (twice ls n) np [] W9 Hs1.out Hs2.out HX.out (by rw [Htl.out]; exact hcX) HE2.out HS.out HSL.out
  rw [Htl.out] at hst
  refine hst.mono ?_
  rintro e w10 ⟨D3, m3, rfl, _, hb10⟩
  clear hst
  rw [List.length_nil]
  have HQ := Lib.hid (fun W (hW : Below w10.heap.size w10 W) => And.intro ((Hg.out.below (hb10.trans (hW.mono hb10.size)) Hg.out.lt).cell 0) (And.intro ((Hg.out.below (hb10.trans (hW.mono hb10.size)) Hg.out.lt).cell 1) (And.intro ((Hc.out.below (hb10.trans (hW.mono hb10.size)) Hc.out.lt).cell 0) ((Hd.out.below (hb10.trans (hW.mono hb10.size)) Hd.out.lt).cell 0))))
  have Hs1 := Lib.hid (Hs1.out.below hb10)
  have Hs2 := Lib.hid (Hs2.out.below hb10)
  have Hls := Lib.hid (Hls.out.below hb10)
  have HD := Lib.hid (HD.out.below hb10)
  have HD2 := Lib.hid (HD2.out.below hb10)
  have Hb10 := Lib.hid (Hb9.out.trans (hb10.mono Hb9.out.size))
  clear hb10 Hb9 HX Hg Hc Hd HE HE2 HS HSL
  generalize ofL ws ns ls = L at *
  generalize ofL ws ns (twice ls n) = L2 at *
  obtain ⟨hq0, hq1, hq2, hq3⟩ := HQ.out _ (Below.refl _ _)
  go_wp2_with fail
  clear hq0 hq1 hq2 hq3
  go_loopw [17] (fun v wr => ∃ s : Nat, s ≤ ls.length + 1 ∧ v = .int .i64 s ∧ Below w10.heap.size w10 wr) (fun v _ => ls.length + 1 - (intOf v).toNat)
  case atStart => exact ⟨0, by omega, rfl, Below.refl _ _⟩
  case round =>
    obtain ⟨s, hs, rfl, hb⟩ := hrel
    by_cases hlt : s < ls.length + 1
    · obtain ⟨u, hu⟩ : ∃ u : Nat, Hid (unt n s = u) := ⟨_, Lib.hid rfl⟩
      have hul : u < ls.length := by have := hu.out; unfold unt at this; split at this <;> omega
      obtain ⟨bD2, oD2, BL2, cL2, l2, rfl, hcD2, hsL2, hl2⟩ := (HD2.out.below hb).get (k := s) (by rw [HLn2.out]; exact hlt)
      obtain ⟨bD, oD, BL, cL, l1, rfl, hcD, hsL, hl1⟩ := (HD.out.below hb).get (k := u) (by rw [HLn.out]; exact hul)
      obtain rfl : l2 = l1 := by
        have h := Hsame.out s hlt
        rw [hu.out] at h
        have := hl2.out.symm.trans (h.trans hl1.out)
        injection this
      have hll := Hml.out l2 (List.mem_of_getElem? hl1.out)
      have hcall : ∀ m, Calls Try.prog 32 #[.slice BL2 l2.length cL2, .slice BL l2.length cL] (wr.drewN m) fun e w' => e = .returned (.bool true) ∧ Qt (wr.drewN m) w' := fun m =>
        (sameInts_any BL2 BL cL2 cL l2 l2 _ (hsL2.drewN m) (hsL.drewN m) (by omega) (by omega)).mono fun e w' h => ⟨by rw [h.1]; simp, h.2⟩
      have Hcall := Lib.hid hcall
      obtain ⟨d1, hd1⟩ : ∃ d1 : Int, Hid ((s : Int) - n = d1) := ⟨_, Lib.hid rfl⟩
      obtain ⟨d2, hd2⟩ : ∃ d2 : Int, Hid (d1 - 1 = d2) := ⟨_, Lib.hid rfl⟩
      obtain ⟨d3, hd3⟩ : ∃ d3 : Int, max 0 d2 = d3 := ⟨_, rfl⟩
      obtain ⟨d4, hd4⟩ : ∃ d4 : Int, min (s : Int) n = d4 := ⟨_, rfl⟩
      have e1 : IntKind.i64.wrap ((s : Int) - n) = d1 := by rw [IntWalk.i64_in _ (by omega)]; exact hd1.out
      have e2 : IntKind.i64.wrap (d1 - 1) = d2 := by have := hd1.out; rw [IntWalk.i64_in _ (by omega)]; exact hd2.out
      have e3 : IntKind.i64.wrap (d4 + d3) = (u : Int) := by
        have a1 := hd1.out
        have a2 := hd2.out
        have a3 := hu.out
        unfold unt at a3
        rw [IntWalk.i64_in _ (by omega)]
        split at a3 <;> omega
      have hs0 : (0 : Int) ≤ (s : Int) := by omega
      have hu0 : (0 : Int) ≤ (u : Int) := by omega
      obtain ⟨hq0, hq1, hq2, hq3⟩ := HQ.out _ hb
      have hqn : ∀ nq, Qt wr (wr.drewN nq) := fun nq => ⟨nq, rfl⟩
      have Hqn := Lib.hid hqn
      clear hqn
      have Hb := Lib.hid hb
      clear hcall hsL hsL2 hl1 hl2 hb hs
      go_wp2_with fail
      go_quiet ((go_at_call 32; exact (Hcall.out _).mono fun _ _ h => ⟨h.1, by obtain ⟨n, e⟩ := h.2; exact ⟨_, by rw [e, World.drewN_drewN]⟩⟩))
      go_wp2_with fail
      go_roundw
      case rel => exact ⟨s + 1, by omega, by go_num, (Hqn.out _).bl Hb.out⟩
      case measure => simp [intOf]; omega
    · obtain rfl : s = ls.length + 1 := by omega
      have Hb := Lib.hid hb
      clear hb hs hlt
      obtain ⟨wr0, rfl⟩ : ∃ x, x = wr := ⟨wr, rfl⟩
      have HbE := Lib.hid (Hb10.out.trans (Hb.out.mono Hb10.out.size))
      by_cases hz : n = 0
      · subst hz
        go_wp2_with fail
        refine (lives_any wr0).mono ?_
        rintro e wd ⟨rfl, hbd⟩
        go_wp2_with fail
        go_ret
        exact ⟨rfl, HbE.out.trans (hbd.mono HbE.out.size)⟩
      · have hz1 : ((n : Int) == 0) = false := by simpa using hz
        have h0 : 0 < n := by omega
        clear hz
        obtain ⟨nm, hnm⟩ : ∃ nm : Nat, Hid (n - 1 = nm) := ⟨_, Lib.hid rfl⟩
        have hwm : IntKind.i64.wrap ((n : Int) - 1) = (nm : Int) := by rw [IntWalk.i64_in _ (by omega)]; have := hnm.out; omega
        have hnml : nm < ls.length := by have := hnm.out; omega
        have hnm0 : (0 : Int) ≤ (nm : Int) := by omega
        obtain ⟨l1, l2, x, e1, e2, hl1, hl2, hat, hatW, hatN, hq16, hEq, hLq, hrel2⟩ := Hgr.out h0
        obtain ⟨bD, oD, B1, q1, l1', rfl, hcD1, hsD1, hx1⟩ := (HD.out.below Hb.out).get (k := nm) (by rw [HLn.out]; omega)
        obtain ⟨b2, o2, B2, q2, l2', he, hcD2, hsD2, hx2⟩ := (HD.out.below Hb.out).get (k := n) (by rw [HLn.out]; omega)
        injection he with he
        injection he with he1 he2
        subst he1 he2
        rw [hnm.out] at e1
        obtain rfl : l1' = l1 := by have := hx1.out.symm.trans e1; injection this
        obtain rfl : l2' = l2 := by have := hx2.out.symm.trans e2; injection this
        rw [hl1] at hcD1
        rw [hl2] at hcD2
        rw [show (n : Int) - 1 = nm by have := hnm.out; omega] at hat hatW hatN
        have hats := at_any A1 A2 (some ⟨bD, oD, none⟩) c1 c2 m ws ns L nm wr0 (Hs1.out.below Hb.out) (Hs2.out.below Hb.out) (HD.out.below Hb.out) (by omega) (by omega) Hml.out
        rw [HLn.out, hatW, hatN, hat] at hats
        have Hats := Lib.hid hats
        have HcD1 := Lib.hid (fun W (hW : Below wr0.heap.size wr0 W) => (hW.cell (World.block_lt_of_cell? _ _ hcD1)).trans hcD1)
        have HcD2 := Lib.hid (fun W (hW : Below wr0.heap.size wr0 W) => (hW.cell (World.block_lt_of_cell? _ _ hcD2)).trans hcD2)
        have HsD1 := Lib.hid hsD1
        have HsD2 := Lib.hid hsD2
        have HEq := Lib.hid hEq
        have HLq := Lib.hid hLq
        have Hrel2 := Lib.hid hrel2
        have Hl1 := Lib.hid hl1
        have Hl2 := Lib.hid hl2
        have Hm1 : Hid (SI wr0 (some ⟨g3, n, none⟩) [ls.getD n 0]) := by
          have h := si_take (si_drop (Hls.out.below Hb.out) n) 1
          rw [List.drop_eq_getElem_cons hnl, List.take_succ_cons, List.take_zero, Nat.zero_add] at h
          have e : ls.getD n 0 = ls[n] := by simp [List.getD, hnl]
          rw [e]
          exact h
        have HQ := Lib.hid (fun W (hW : Below wr0.heap.size wr0 W) => HQ.out W (Hb.out.trans (hW.mono Hb.out.size)))
        clear e1 e2 hat hatW hatN hats hcD1 hcD2 hsD1 hsD2 hx1 hx2 hEq hLq hrel2 hl1 hl2 HD HD2 Hsame Hgr Hls Hs1 Hs2 Hml HLn2
        generalize qW ws l1' = TW at *
        generalize qN ns l1' = TN at *
        generalize ls.getD n 0 = mm at *
        obtain ⟨hq0, hq1, hq2, hq3⟩ := HQ.out _ (Below.refl _ _)
        go_wp2_with fail
        refine Hats.out.mono ?_
        rintro e w11 ⟨Xq, xq, Yq, yq, rfl, hXq, hYq, hb11⟩
        clear hq0 hq1 hq2 hq3 Hats
        have HXq := Lib.hid (hXq.below ((Below.refl _ _).alloc (Nat.le_refl _) (.cells #[.slice Xq TW.length xq, .slice Yq TN.length yq] 31)))
        have HYq := Lib.hid (hYq.below ((Below.refl _ _).alloc (Nat.le_refl _) (.cells #[.slice Xq TW.length xq, .slice Yq TN.length yq] 31)))
        have Hk12 := Lib.hid (Bk.new w11 31 #[.slice Xq TW.length xq, .slice Yq TN.length yq])
        have Hb12 := Lib.hid (hb11.alloc hb11.size (.cells #[.slice Xq TW.length xq, .slice Yq TN.length yq] 31))
        clear hXq hYq hb11
        go_wp2_with fail
        generalize w11.alloc (.cells #[.slice Xq TW.length xq, .slice Yq TN.length yq] 31) = w12 at *
        generalize w11.heap.size = tb at *
        have HR := Lib.hid (fun W (hW : Below w12.heap.size w12 W) => And.intro ((Hk12.out.below hW Hk12.out.lt).cell 0) ((Hk12.out.below hW Hk12.out.lt).cell 1))
        have Hm1 := Lib.hid (Hm1.out.below Hb12.out)
        clear Hk12
        go_upto_region 20 with fail
        go_cut [20, 21] (fun v v2 wx => ∃ te gD5 m5, v = .pointer (some ⟨te, 0, none⟩) ∧ v2 = .int .i64 0 ∧ Bk wx te 36 #[.slice (some ⟨gD5, 0, none⟩) 1 m5] ∧ SLL wx (some ⟨gD5, 0, none⟩) [x] ∧ Below w12.heap.size w12 wx)
        case first =>
          as_aux_lemma =>
          have HbD := Lib.hid (Below.refl w12.heap.size w12).drew
          have HS0 := Lib.hid (HR.out _ HbD.out)
          have hnc : np ≤ c3 := by omega
          have hnle : n ≤ np := by have := hnp.out; omega
          have hcn : (c3 = n) = False := by simp only [eq_iff_iff, iff_false]; omega
          have hnp1 : np - n = 1 := by have := hnp.out; omega
          refine wp_region_noPanic ?_
          refine region_H (S := fun W => W.cell? ⟨tb, 0, none⟩ = some (.slice Xq TW.length xq) ∧ W.cell? ⟨tb, 1, none⟩ = some (.slice Yq TN.length yq)) (by kernel_rfl) ?_
          change wpH _ _ _ _ 13 _ _ w12.drew
          refine H_takeD (k := 0) (v := .agg #[.slice Xq TW.length xq, .slice Yq TN.length yq]) (d := some 134) rfl rfl (by decide +kernel) (fun _ _ _ h => h) (Or.inl ⟨by rfl, fun W hW => by obtain ⟨s0, s1⟩ := hW; go_simp⟩) HS0.out ?_
          try simp only [Act.put, List.setIfInBounds_toArray, List.set_cons_zero, List.set_cons_succ]
          refine H_takeD (k := 1) (v := .slice (some ⟨g3, 0, none⟩) ls.length c3) (d := some 135) rfl rfl (by decide +kernel) (fun _ _ _ h => h) (Or.inl ⟨by rfl, fun W hW => by obtain ⟨s0, s1⟩ := hW; go_simp⟩) HS0.out ?_
          try simp only [Act.put, List.setIfInBounds_toArray, List.set_cons_zero, List.set_cons_succ]
          refine H_takeD (k := 2) (v := .int .i64 n) (d := some 136) rfl rfl (by decide +kernel) (fun _ _ _ h => h) (Or.inl ⟨by rfl, fun W hW => by obtain ⟨s0, s1⟩ := hW; go_simp⟩) HS0.out ?_
          try simp only [Act.put, List.setIfInBounds_toArray, List.set_cons_zero, List.set_cons_succ]
          refine H_takeD (k := 3) (v := .int .i64 n) (d := some 137) rfl rfl (by decide +kernel) (fun _ _ _ h => h) (Or.inl ⟨by rfl, fun W hW => by obtain ⟨s0, s1⟩ := hW; go_simp⟩) HS0.out ?_
          try simp only [Act.put, List.setIfInBounds_toArray, List.set_cons_zero, List.set_cons_succ]
          refine H_takeD (k := 4) (v := .int .i64 np) (d := some 138) rfl rfl (by decide +kernel) (fun _ _ _ h => h) (Or.inl ⟨by rfl, fun W hW => by obtain ⟨s0, s1⟩ := hW; go_simp⟩) HS0.out ?_
          try simp only [Act.put, List.setIfInBounds_toArray, List.set_cons_zero, List.set_cons_succ]
          refine H_takeD (k := 5) (v := .slice (some ⟨g3, n, none⟩) 1 (c3 - n)) (d := some 139) rfl rfl (by decide +kernel) (fun _ _ _ h => h) (Or.inl ⟨by rfl, fun W hW => by obtain ⟨s0, s1⟩ := hW; go_simp⟩) HS0.out ?_
          try simp only [Act.put, List.setIfInBounds_toArray, List.set_cons_zero, List.set_cons_succ]
          refine H_two (i := 6) (j := 10) (by decide +kernel) (H_step rfl rfl (fun K hK6 => ?_)) (H_step rfl rfl (fun K hK6 => ?_))
          · have hK6 := Lib.hid hK6
            go_simp
            go_at_call 15
            refine (of_one Xq Yq (some ⟨g3, n, none⟩) xq yq (c3 - n) TW TN mm x _ (HXq.out.below HbD.out) (HYq.out.below HbD.out) (Hm1.out.below HbD.out) HEq.out HLq.out).mono ?_
            rintro e wO ⟨gD5, m5, rfl, hgD, h5, hbO⟩
            have HbO := Lib.hid (HbD.out.trans (hbO.mono HbD.out.size))
            have HSO := Lib.hid (HR.out _ HbO.out)
            have H5 := Lib.hid h5
            have HgD := Lib.hid hgD
            clear hbO h5 hgD
            refine hK6.out _ _ HSO.out ?_
            try simp only [Act.put, List.setIfInBounds_toArray, List.set_cons_zero, List.set_cons_succ]
            refine H_takeD (k := 7) (v := .tuple #[.agg #[.slice (some ⟨gD5, 0, none⟩) 1 m5], .int .i64 0]) (d := some 133) rfl rfl (by decide +kernel) (fun _ _ _ h => h) (Or.inl ⟨by rfl, fun W hW => by obtain ⟨s0, s1⟩ := hW; go_simp⟩) HSO.out ?_
            try simp only [Act.put, List.setIfInBounds_toArray, List.set_cons_zero, List.set_cons_succ]
            refine H_takeD (k := 8) (v := .agg #[.slice (some ⟨gD5, 0, none⟩) 1 m5]) (d := some 141) rfl rfl (by decide +kernel) (fun _ _ _ h => h) (Or.inl ⟨by rfl, fun W hW => by obtain ⟨s0, s1⟩ := hW; go_simp⟩) HSO.out ?_
            try simp only [Act.put, List.setIfInBounds_toArray, List.set_cons_zero, List.set_cons_succ]
            refine H_takeD (k := 9) (v := .int .i64 0) (d := some 142) rfl rfl (by decide +kernel) (fun _ _ _ h => h) (Or.inl ⟨by rfl, fun W hW => by obtain ⟨s0, s1⟩ := hW; go_simp⟩) HSO.out ?_
            try simp only [Act.put, List.setIfInBounds_toArray, List.set_cons_zero, List.set_cons_succ]
            refine H_one (i := 10) (by decide +kernel) (H_step rfl rfl (fun K hK10 => ?_))
            have hK10 := Lib.hid hK10
            go_simp
            have HbN := Lib.hid (HbO.out.alloc HbO.out.size (.cells #[.slice none 0 0] 36))
            have HkN := Lib.hid (Bk.new (wO) 36 #[.slice none 0 0])
            have hpa := HbO.out.size
            have HSN := Lib.hid (HR.out _ HbN.out)
            have H50 := H5
            have H5 := Lib.hid (H5.out.below ((Below.refl _ _).alloc (Nat.le_refl _) (.cells #[.slice none 0 0] 36)))
            refine hK10.out _ _ HSN.out ?_
            try simp only [Act.put, List.setIfInBounds_toArray, List.set_cons_zero, List.set_cons_succ]
            refine H_one (i := 11) (by decide +kernel) (H_step rfl rfl (fun K hK11 => ?_))
            have hK11 := Lib.hid hK11
            go_simp
            have HkS := Lib.hid (Bk.new (wO) 36 #[.slice (some ⟨gD5, 0, none⟩) 1 m5])
            have HbS := Lib.hid (HbO.out.alloc HbO.out.size (.cells #[.slice (some ⟨gD5, 0, none⟩) 1 m5] 36))
            have H5S := Lib.hid (H50.out.below ((Below.refl _ _).alloc (Nat.le_refl _) (.cells #[.slice (some ⟨gD5, 0, none⟩) 1 m5] 36)))
            have HSS := Lib.hid (HR.out _ HbS.out)
            refine hK11.out _ _ HSS.out ?_
            try simp only [Act.put, List.setIfInBounds_toArray, List.set_cons_zero, List.set_cons_succ]
            refine H_one (i := 12) (by decide +kernel) (H_step rfl rfl (fun K hK12 => ?_))
            have hK12 := Lib.hid hK12
            go_simp
            refine hK12.out _ _ HSS.out ?_
            try simp only [Act.put, List.setIfInBounds_toArray, List.set_cons_zero, List.set_cons_succ]
            refine H_end (by decide +kernel) (NoPanic.normal ?_)
            try simp only [Act.put, List.setIfInBounds_toArray, List.set_cons_zero, List.set_cons_succ]
            go_wp2_with fail
            go_meet
            exact ⟨_, gD5, m5, rfl, rfl, HkS.out, H5S.out, HbS.out⟩
          · have hK6 := Lib.hid hK6
            go_simp
            have HbN := Lib.hid (HbD.out.alloc HbD.out.size (.cells #[.slice none 0 0] 36))
            have HkN := Lib.hid (Bk.new (w12.drew) 36 #[.slice none 0 0])
            have hpa := HbD.out.size
            have HSN := Lib.hid (HR.out _ HbN.out)
            refine hK6.out _ _ HSN.out ?_
            try simp only [Act.put, List.setIfInBounds_toArray, List.set_cons_zero, List.set_cons_succ]
            refine H_one (i := 6) (by decide +kernel) (H_step rfl rfl (fun K hK7 => ?_))
            have hK7 := Lib.hid hK7
            go_simp
            go_at_call 15
            refine (of_one Xq Yq (some ⟨g3, n, none⟩) xq yq (c3 - n) TW TN mm x _ (HXq.out.below HbN.out) (HYq.out.below HbN.out) (Hm1.out.below HbN.out) HEq.out HLq.out).mono ?_
            rintro e wO ⟨gD5, m5, rfl, hgD, h5, hbO⟩
            have HbO := Lib.hid (HbN.out.trans (hbO.mono HbN.out.size))
            have HSO := Lib.hid (HR.out _ HbO.out)
            have H5 := Lib.hid h5
            have HgD := Lib.hid hgD
            have HkO := Lib.hid (HkN.out.below hbO HkN.out.lt)
            clear hbO h5 hgD
            refine hK7.out _ _ HSO.out ?_
            try simp only [Act.put, List.setIfInBounds_toArray, List.set_cons_zero, List.set_cons_succ]
            refine H_takeD (k := 7) (v := .tuple #[.agg #[.slice (some ⟨gD5, 0, none⟩) 1 m5], .int .i64 0]) (d := some 133) rfl rfl (by decide +kernel) (fun _ _ _ h => h) (Or.inl ⟨by rfl, fun W hW => by obtain ⟨s0, s1⟩ := hW; go_simp⟩) HSO.out ?_
            try simp only [Act.put, List.setIfInBounds_toArray, List.set_cons_zero, List.set_cons_succ]
            refine H_takeD (k := 8) (v := .agg #[.slice (some ⟨gD5, 0, none⟩) 1 m5]) (d := some 141) rfl rfl (by decide +kernel) (fun _ _ _ h => h) (Or.inl ⟨by rfl, fun W hW => by obtain ⟨s0, s1⟩ := hW; go_simp⟩) HSO.out ?_
            try simp only [Act.put, List.setIfInBounds_toArray, List.set_cons_zero, List.set_cons_succ]
            refine H_takeD (k := 9) (v := .int .i64 0) (d := some 142) rfl rfl (by decide +kernel) (fun _ _ _ h => h) (Or.inl ⟨by rfl, fun W hW => by obtain ⟨s0, s1⟩ := hW; go_simp⟩) HSO.out ?_
            try simp only [Act.put, List.setIfInBounds_toArray, List.set_cons_zero, List.set_cons_succ]
            refine H_one (i := 11) (by decide +kernel) (H_step rfl rfl (fun K hK11 => ?_))
            have hK11 := Lib.hid hK11
            have hq0 : (wO).cell? ⟨(w12).heap.size, 0, none⟩ = some (.slice none 0 0) := HkO.out.cell 0
            have hf0 : (wO).frozen? ⟨(w12).heap.size, 0, none⟩ = false := HkO.out.frozen 0
            have HkS := Lib.hid (HkO.out.set_ 0 (.slice (some ⟨gD5, 0, none⟩) 1 m5))
            have HbS := Lib.hid (HbO.out.setCell (p := ⟨(w12).heap.size, 0, none⟩) hpa (.slice (some ⟨gD5, 0, none⟩) 1 m5))
            have H5S := Lib.hid (sll_put H5.out HkO.out (by have h := HgD.out; simp at h; show gD5 ≠ (w12).heap.size; omega) (.slice (some ⟨gD5, 0, none⟩) 1 m5))
            have HSS := Lib.hid (HR.out _ HbS.out)
            go_simp
            clear hq0 hf0
            refine hK11.out _ _ HSS.out ?_
            try simp only [Act.put, List.setIfInBounds_toArray, List.set_cons_zero, List.set_cons_succ]
            refine H_one (i := 12) (by decide +kernel) (H_step rfl rfl (fun K hK12 => ?_))
            have hK12 := Lib.hid hK12
            go_simp
            refine hK12.out _ _ HSS.out ?_
            try simp only [Act.put, List.setIfInBounds_toArray, List.set_cons_zero, List.set_cons_succ]
            refine H_end (by decide +kernel) (NoPanic.normal ?_)
            try simp only [Act.put, List.setIfInBounds_toArray, List.set_cons_zero, List.set_cons_succ]
            go_wp2_with fail
            go_meet
            exact ⟨_, gD5, m5, rfl, rfl, HkS.out, H5S.out, HbS.out⟩
        case rest =>
        obtain ⟨te, gD5, m5, rfl, rfl, hk5, h5, hb13⟩ := hcut
        obtain ⟨w13, rfl⟩ : ∃ x, x = wc := ⟨wc, rfl⟩
        have Hb13 := Lib.hid (Hb12.out.trans (hb13.mono Hb12.out.size))
        obtain ⟨b5, o5, Bx, cx, x', he, hcx, hsx, hx0⟩ := h5.get (k := 0) (by simp)
        injection he with he
        injection he with he1 he2
        subst he1 he2
        obtain rfl : x' = x := by have := hx0.out; simp at this; exact this.symm
        rw [Nat.add_zero] at hcx
        have HQ := Lib.hid (fun W (hW : Below w13.heap.size w13 W) => HQ.out W (Hb13.out.trans (hW.mono Hb13.out.size)))
        have HcD1 := Lib.hid (fun W (hW : Below w13.heap.size w13 W) => HcD1.out W (Hb13.out.trans (hW.mono Hb13.out.size)))
        have HcD2 := Lib.hid (fun W (hW : Below w13.heap.size w13 W) => HcD2.out W (Hb13.out.trans (hW.mono Hb13.out.size)))
        have HsD1 := Lib.hid (HsD1.out.below Hb13.out)
        have HsD2 := Lib.hid (HsD2.out.below Hb13.out)
        have HK5 := Lib.hid (fun W (hW : Below w13.heap.size w13 W) => And.intro ((hk5.below hW hk5.lt).cell 0) ((hW.cell (World.block_lt_of_cell? _ _ hcx)).trans hcx))
        have HsX := Lib.hid hsx
        have HbE := Lib.hid (HbE.out.trans (Hb13.out.mono HbE.out.size))
        clear hk5 h5 hb13 hcx hsx hx0 HXq HYq HR Hm1 HEq HLq Hb12 Hb
        go_upto_region 21 with fail
        go_cut [175] (fun v wx => v = .bool false ∧ Below w13.heap.size w13 wx)
        case first =>
          as_aux_lemma =>
          obtain ⟨hq0, hq1, hq2, hq3⟩ := HQ.out _ (Below.refl _ _)
          obtain ⟨hk0, hk1⟩ := HK5.out _ (Below.refl _ _)
          have hd1 := HcD1.out _ (Below.refl _ _)
          have hd2 := HcD2.out _ (Below.refl _ _)
          have hqn : ∀ nq, Qt w13 (w13.drewN nq) := fun nq => ⟨nq, rfl⟩
          have Hqn := Lib.hid hqn
          clear hqn
          go_wp2_with fail
          go_quiet (fail)
          go_wp2_with fail
          go_meet
          exact ⟨rfl, (Hqn.out _).bl (Below.refl _ _)⟩
        case rest =>
        obtain ⟨rfl, hb14⟩ := hcut
        obtain ⟨w14, rfl⟩ : ∃ x, x = wc := ⟨wc, rfl⟩
        have Hb14 := Lib.hid hb14
        obtain ⟨hq0, hq1, hq2, hq3⟩ := HQ.out _ hb14
        clear hb14
        go_wp2_with fail
        clear hq0 hq1 hq2 hq3
        go_loopw [22] (fun v wr => ∃ a : Nat, a ≤ ws.length ∧ v = .int .i64 a ∧ Below w13.heap.size w13 wr) (fun v _ => ws.length - (intOf v).toNat)
        case atStart => exact ⟨0, by omega, rfl, Hb14.out⟩
        case round =>
          clear Hb14
          obtain ⟨a, ha, rfl, hb⟩ := hrel
          obtain ⟨hq0, hq1, hq2, hq3⟩ := HQ.out _ hb
          have Hb := Lib.hid hb
          clear hb
          by_cases hla : a < ws.length
          · obtain ⟨u, h1a, h2a, h3a⟩ := Hrel2.out a hla
            obtain ⟨hk0, hk1⟩ := HK5.out _ Hb.out
            have hd1 := HcD1.out _ Hb.out
            have hd2 := HcD2.out _ Hb.out
            obtain ⟨b6, o6, y1, rfl, hcy, hy⟩ := (HsD1.out.below Hb.out).get (k := a) (by rw [Hl1.out]; exact hla)
            obtain rfl : y1 = (u : Int) := by have := hy.out.symm.trans h1a; injection this
            obtain ⟨b7, o7, z, rfl, hcz, hz⟩ := (HsD2.out.below Hb.out).get (k := a) (by rw [Hl2.out]; exact hla)
            obtain ⟨b8, o8, z', rfl, hcz', hz'⟩ := (HsX.out.below Hb.out).get (k := u) h2a
            obtain rfl : z' = z := by have := hz'.out.symm.trans (h3a.trans hz.out); injection this
            have ha0 : (0 : Int) ≤ (a : Int) := by omega
            have hu0 : (0 : Int) ≤ (u : Int) := by omega
            have hu1 : (u : Int) < x'.length := by omega
            have hqn : ∀ nq, Qt wr (wr.drewN nq) := fun nq => ⟨nq, rfl⟩
            have Hqn := Lib.hid hqn
            clear hqn h1a h3a hy hz hz' ha
            go_wp2_with fail
            go_quiet (fail)
            go_wp2_with fail
            go_roundw
            case rel => exact ⟨a + 1, by omega, by go_num, (Hqn.out _).bl Hb.out⟩
            case measure => simp [intOf]; omega
          · obtain rfl : a = ws.length := by omega
            go_wp2_with fail
            refine (lives_any wr).mono ?_
            rintro e wd ⟨rfl, hbd⟩
            go_wp2_with fail
            go_ret
            have h := HbE.out.trans (Hb.out.mono HbE.out.size)
            exact ⟨rfl, h.trans (hbd.mono h.size)⟩
end Go.Proofs.Ytaegfljpodhnhaa

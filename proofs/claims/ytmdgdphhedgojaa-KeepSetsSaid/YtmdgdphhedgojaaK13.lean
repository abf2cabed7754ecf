import Derived.Test.YtmdgdphhedgojaaK14
namespace Go.Proofs.Ytmdgdphhedgojaa
open Go.RowKit Go.Maps

/-- What the last region reads. -/
def SS (g o T L xn yn : Nat) (v : Value) (x y z a1 a2 : Int) (W : World) : Prop := W.cell? ⟨g, o, none⟩ = some v ∧ W.cell? ⟨T, 0, none⟩ = some (.int .i64 x) ∧ W.cell? ⟨T, 1, none⟩ = some (.int .i64 y) ∧ W.cell? ⟨T, 2, none⟩ = some (.int .i64 z) ∧ W.cell? ⟨L, xn, none⟩ = some (.int .i64 a1) ∧ W.cell? ⟨L, yn, none⟩ = some (.int .i64 a2)

theorem find_n (of : List Int) (n B G g : Nat) (hn : of.length = n) (k : Nat) (rt : List Int) (w : World) (hk : k < n) (hR : RT rt of) (hB : Bk w B 22 #[.slice (some ⟨g, 0, none⟩) n n])
    (hG : Bk w G 107 #[.func (.func 55) #[] #[.pointer (some ⟨B, 0, none⟩), .pointer (some ⟨G, 0, none⟩)]]) (hg : Bk w g 3 (rowI rt)) :
    Calls Try.prog 55 #[.int .i64 k, .pointer (some ⟨B, 0, none⟩), .pointer (some ⟨G, 0, none⟩)] w fun e w' => e = .returned (.int .i64 (of.getD k 0)) ∧ ∃ rt', RT rt' of ∧ Bk w' g 3 (rowI rt') ∧ Turn w w' g := by
  subst hn
  exact find_any of B G g k rt w hk hR hB hG hg

set_option linter.unusedSimpArgs false in
set_option maxHeartbeats 8000000 in
set_option maxRecDepth 100000 in
theorem parts_any (A B : Option Addr) (c d : Nat) (ws : List Int) (ns : List (Int × Int × Int)) (w : World) (hA : SI w A ws) (hB : ST w B ns) (hl : ws.length ≤ 4096) (hl2 : ns.length ≤ 16384) (hE : EOK ws.length ns) :
    Calls Try.prog 36 #[.agg #[.slice A ws.length c, .slice B ns.length d]] w fun e w' => ∃ D m, e = .returned (.slice D (partsD ws ns).length m) ∧ PR w' w.heap.size D (partsD ws ns) ∧ Below w.heap.size w w' := by
  have hmk := make_int ws.length (by omega)
  obtain ⟨s, hs⟩ : ∃ s, w.heap.size = s := ⟨_, rfl⟩
  have HA := Lib.hid (fun (W : World) (hW : Below s w W) => (hA.below (hs.symm ▸ hW) : SI W A ws))
  have HB := Lib.hid (fun (W : World) (hW : Below s w W) => (hB.below (hs.symm ▸ hW) : ST W B ns))
  have HE := Lib.hid hE
  have hbz := Lib.hid (fun (W : World) (hW : Below s w W) => (show s ≤ W.heap.size by have := hW.size; omega))
  clear hA hB hE
  go_enter Try.func36, Try.ntmps36
  go_wp2_with fail
  have Hs := Lib.hid hs
  clear hs
  go_loopw [25] (fun i wr => ∃ k : Nat, k ≤ ws.length ∧ i = .int .i64 k ∧ Bk wr s 36 #[.slice A ws.length c, .slice B ns.length d] ∧ Bk wr (s + 1) 3 (rowI (alone k ++ List.replicate (ws.length - k) 0)) ∧ Bk wr (s + 1 + 1) 22 #[.slice (some ⟨s + 1, 0, none⟩) ws.length ws.length] ∧ Below s w wr) (fun i _ => ws.length - (intOf i).toNat)
  case atStart =>
    exact ⟨0, by omega, rfl, (Bk.new' _ _ _ Hs.out |>.alloc _).alloc _, (Bk.new' _ _ _ (by simp [Hs.out])).alloc _, Bk.new' _ _ _ (by simp [Hs.out]), (((Below.refl _ _).alloc (by have := Hs.out; omega) _).alloc (by have := Hs.out; simp; omega) _).alloc (by have := Hs.out; simp; omega) _⟩
  case round =>
    obtain ⟨k, hk, rfl, hbg, hbo, hbb, hb⟩ := hrel
    have Hbg := Lib.hid hbg
    have Hb := Lib.hid hb
    clear hbg hb
    by_cases hlt : k < ws.length
    · obtain ⟨m', hm'⟩ : ∃ m', ws.length - k = m' + 1 := ⟨ws.length - k - 1, by omega⟩
      have Hm := Lib.hid hm'
      clear hm'
      have hbo' : Bk wr (s + 1) 3 (rowI (alone k ++ List.replicate (m' + 1) 0)) := Hm.out ▸ hbo
      have hc : wr.cell? ⟨s + 1, k, none⟩ = some (.int .i64 0) := (hbo'.cell k).trans (rowI_get (by rw [List.getElem?_append_right (by simp [alone_len])]; simp [alone_len]))
      have hf := hbo'.frozen k
      have hcb : wr.cell? ⟨s + 1 + 1, 0, none⟩ = some (.slice (some ⟨s + 1, 0, none⟩) ws.length ws.length) := hbb.cell 0
      have Hbo := Lib.hid hbo'
      have Hbb := Lib.hid hbb
      clear hbo hbo' hbb
      go_wp2_with fail
      go_roundw
      case rel =>
        refine ⟨k + 1, by omega, by go_num, Hbg.out.far (by simp) _, ?_, Hbb.out.far (by simp) _, Hb.out.setCell (by show s ≤ s + 1; omega) _⟩
        have h := Hbo.out.set_ k (.int .i64 k)
        have e := rowI_set (alone k) m' k
        rw [alone_len] at e
        rw [e, ← alone_succ, show m' = ws.length - (k + 1) from by have := Hm.out; omega] at h
        exact h
      case measure => simp [intOf]; omega
    · obtain rfl : k = ws.length := by omega
      rw [Nat.sub_self] at hbo
      simp only [List.replicate_zero, List.append_nil] at hbo
      have hcg1 : wr.cell? ⟨s, 1, none⟩ = some (.slice B ns.length d) := Hbg.out.cell 1
      have hcg2 : (wr.alloc (.cells #[.func (.func 55) #[] #[.pointer (some ⟨s + 1 + 1, 0, none⟩), .pointer (some ⟨wr.heap.size, 0, none⟩)]] 107)).cell? ⟨s, 1, none⟩ = some (.slice B ns.length d) := (Hbg.out.alloc _).cell 1
      have hsf := fun (a : Addr) (c : Array Value) (w : World) => run_store Try.prog w a (.func (.func 55) #[] c) .plain rfl
      go_wp2_with fail
      clear hcg1 hcg2
      have HB0 := Lib.hid (Bk.alloc hbb (.cells #[.func (.func 55) #[] #[.pointer (some ⟨s + 1 + 1, 0, none⟩), .pointer (some ⟨wr.heap.size, 0, none⟩)]] 107))
      have HG0 := Lib.hid (Bk.new wr 107 #[.func (.func 55) #[] #[.pointer (some ⟨s + 1 + 1, 0, none⟩), .pointer (some ⟨wr.heap.size, 0, none⟩)]])
      have Hbg0 := Lib.hid (Hbg.out.alloc (.cells #[.func (.func 55) #[] #[.pointer (some ⟨s + 1 + 1, 0, none⟩), .pointer (some ⟨wr.heap.size, 0, none⟩)]] 107))
      have Hro0 := Lib.hid (Bk.alloc hbo (.cells #[.func (.func 55) #[] #[.pointer (some ⟨s + 1 + 1, 0, none⟩), .pointer (some ⟨wr.heap.size, 0, none⟩)]] 107))
      have Hb0 := Lib.hid (Hb.out.alloc (hbz.out _ Hb.out) (.cells #[.func (.func 55) #[] #[.pointer (some ⟨s + 1 + 1, 0, none⟩), .pointer (some ⟨wr.heap.size, 0, none⟩)]] 107))
      have hGs : s ≤ wr.heap.size := hbz.out _ Hb.out
      clear hbb hbo Hbg Hb
      generalize hW1 : wr.alloc (.cells #[.func (.func 55) #[] #[.pointer (some ⟨s + 1 + 1, 0, none⟩), .pointer (some ⟨wr.heap.size, 0, none⟩)]] 107) = W1 at *
      clear hW1
      generalize wr.heap.size = G at *
      go_loopw [37] (fun i wr => ∃ (k : Nat) (rt : List Int), k ≤ ns.length ∧ i = .int .i64 k ∧ RT rt (comp (ns.take k) ws.length) ∧ Bk wr (s + 1) 3 (rowI rt) ∧ Bk wr s 36 #[.slice A ws.length c, .slice B ns.length d] ∧ Bk wr (s + 1 + 1) 22 #[.slice (some ⟨s + 1, 0, none⟩) ws.length ws.length] ∧
        Bk wr G 107 #[.func (.func 55) #[] #[.pointer (some ⟨s + 1 + 1, 0, none⟩), .pointer (some ⟨G, 0, none⟩)]] ∧ Below s w wr) (fun i _ => ns.length - (intOf i).toNat)
      case atStart => exact ⟨0, alone ws.length, by omega, rfl, RT.alone ws.length, Hro0.out, Hbg0.out, HB0.out, HG0.out, Hb0.out⟩
      case round =>
        clear Hro0 Hbg0 HB0 HG0 Hb0
        obtain ⟨k, rt, hk, rfl, hR, hro, hbg, hB, hG, hb⟩ := hrel
        have HR := Lib.hid hR
        have Hro := Lib.hid hro
        have Hbg := Lib.hid hbg
        have Hbx := Lib.hid hB
        have HG := Lib.hid hG
        have Hb := Lib.hid hb
        clear hR hro hbg hB hG hb
        by_cases hlt : k < ns.length
        · obtain ⟨b1, o1, x, y, z, rfl, k0, k1, k2, ht⟩ := (HB.out _ Hb.out).get (k := k) hlt
          have he := HE.out _ (List.mem_of_getElem? ht.out)
          dsimp only at he
          have hC := comp_spec HE.out k (by omega)
          have hj := Lib.hid (comp_take (n := ws.length) ht.out)
          have HC := Lib.hid hC
          have hnb := Bk.new wr 52 #[.int .i64 x, .int .i64 y, .int .i64 z]
          have hn0 : (wr.alloc (.cells #[.int .i64 x, .int .i64 y, .int .i64 z] 52)).cell? ⟨wr.heap.size, 0, none⟩ = some (.int .i64 x) := hnb.cell 0
          have Hnb := Lib.hid hnb
          clear hC hnb
          by_cases hx0 : x = 0
          · subst hx0
            go_wp2_with fail
            go_roundw
            case rel => exact ⟨k + 1, rt, by omega, by go_num, by rw [hj.out, joined, if_pos rfl]; exact HR.out, Hro.out.alloc _, Hbg.out.alloc _, Hbx.out.alloc _, HG.out.alloc _, Hb.out.alloc (hbz.out _ Hb.out) _⟩
            case measure => simp [intOf]; omega
          · have hx1 : (x == 0) = false := by simpa using hx0
            obtain ⟨xn, rfl⟩ : ∃ xn : Nat, x = (xn : Int) := ⟨x.toNat, by omega⟩
            obtain ⟨yn, rfl⟩ : ∃ yn : Nat, y = (yn : Int) := ⟨y.toNat, by omega⟩
            go_wp2_with fail
            clear hn0 k0 k1 k2
            have hTB : s + 1 + 1 ≠ wr.heap.size := by have := Hbx.out.lt; omega
            have hTG : G ≠ wr.heap.size := by have := HG.out.lt; omega
            have hTs : s ≠ wr.heap.size := by have := Hbg.out.lt; omega
            have hTr : s + 1 ≠ wr.heap.size := by have := Hro.out.lt; omega
            have HR0 := Lib.hid (Hro.out.alloc (.cells #[.int .i64 xn, .int .i64 yn, .int .i64 z] 52))
            have Hg0 := Lib.hid (Hbg.out.alloc (.cells #[.int .i64 xn, .int .i64 yn, .int .i64 z] 52))
            have Hx0 := Lib.hid (Hbx.out.alloc (.cells #[.int .i64 xn, .int .i64 yn, .int .i64 z] 52))
            have HG0 := Lib.hid (HG.out.alloc (.cells #[.int .i64 xn, .int .i64 yn, .int .i64 z] 52))
            have Hb0 := Lib.hid (Hb.out.alloc (hbz.out _ Hb.out) (.cells #[.int .i64 xn, .int .i64 yn, .int .i64 z] 52))
            clear Hro Hbg Hbx HG Hb
            generalize hW2 : wr.alloc (.cells #[.int .i64 xn, .int .i64 yn, .int .i64 z] 52) = W2 at *
            clear hW2
            generalize wr.heap.size = T at *
            have HX0 := Lib.hid (show Bk W2.drew _ _ _ from Hx0.out)
            have HGG0 := Lib.hid (show Bk W2.drew _ _ _ from HG0.out)
            have HRR0 := Lib.hid (show Bk W2.drew _ _ _ from HR0.out)
            have hrG : s + 1 ≠ G := HR0.out.ne_ HG0.out (by decide)
            have HS0 := Lib.hid (And.intro (show W2.drew.cell? ⟨G, 0, none⟩ = some (.func (.func 55) #[] #[.pointer (some ⟨s + 1 + 1, 0, none⟩), .pointer (some ⟨G, 0, none⟩)]) from HG0.out.cell 0) (And.intro (show W2.drew.cell? ⟨T, 0, none⟩ = some (.int .i64 xn) from Hnb.out.cell 0) (show W2.drew.cell? ⟨T, 1, none⟩ = some (.int .i64 yn) from Hnb.out.cell 1)))
            obtain ⟨fp, hfp⟩ : ∃ z, Hid ((comp (ns.take k) ws.length).getD xn 0 = z) := ⟨_, Lib.hid rfl⟩
            obtain ⟨fq, hfq⟩ : ∃ z, Hid ((comp (ns.take k) ws.length).getD yn 0 = z) := ⟨_, Lib.hid rfl⟩
            refine wp_region_noPanic ?_
            refine region_H (S := fun W => W.cell? ⟨G, 0, none⟩ = some (.func (.func 55) #[] #[.pointer (some ⟨s + 1 + 1, 0, none⟩), .pointer (some ⟨G, 0, none⟩)]) ∧ W.cell? ⟨T, 0, none⟩ = some (.int .i64 xn) ∧ W.cell? ⟨T, 1, none⟩ = some (.int .i64 yn)) (by kernel_rfl) ?_
            change wpH _ _ _ _ 10 _ _ W2.drew
            refine H_takeD (k := 0) (v := .func (.func 55) #[] #[.pointer (some ⟨s + 1 + 1, 0, none⟩), .pointer (some ⟨G, 0, none⟩)]) (d := some 44) rfl rfl (by decide +kernel) (fun _ _ _ h => h) (Or.inl ⟨by rfl, fun W hW => by obtain ⟨s0, s1, s2⟩ := hW; go_simp⟩) HS0.out ?_
            try simp only [Act.put, List.setIfInBounds_toArray, List.set_cons_zero, List.set_cons_succ]
            refine H_takeD (k := 1) (v := .pointer (some ⟨T, 0, none⟩)) (d := some 45) rfl rfl (by decide +kernel) (fun _ _ _ h => h) (Or.inl ⟨by rfl, fun W hW => by obtain ⟨s0, s1, s2⟩ := hW; go_simp⟩) HS0.out ?_
            try simp only [Act.put, List.setIfInBounds_toArray, List.set_cons_zero, List.set_cons_succ]
            refine H_takeD (k := 2) (v := .int .i64 xn) (d := some 46) rfl rfl (by decide +kernel) (fun _ _ _ h => h) (Or.inl ⟨by rfl, fun W hW => by obtain ⟨s0, s1, s2⟩ := hW; go_simp⟩) HS0.out ?_
            try simp only [Act.put, List.setIfInBounds_toArray, List.set_cons_zero, List.set_cons_succ]
            refine H_takeD (k := 4) (v := .func (.func 55) #[] #[.pointer (some ⟨s + 1 + 1, 0, none⟩), .pointer (some ⟨G, 0, none⟩)]) (d := some 48) rfl rfl (by decide +kernel) (fun _ _ _ h => h) (Or.inl ⟨by rfl, fun W hW => by obtain ⟨s0, s1, s2⟩ := hW; go_simp⟩) HS0.out ?_
            try simp only [Act.put, List.setIfInBounds_toArray, List.set_cons_zero, List.set_cons_succ]
            refine H_takeD (k := 5) (v := .pointer (some ⟨T, 1, none⟩)) (d := some 49) rfl rfl (by decide +kernel) (fun _ _ _ h => h) (Or.inl ⟨by rfl, fun W hW => by obtain ⟨s0, s1, s2⟩ := hW; go_simp⟩) HS0.out ?_
            try simp only [Act.put, List.setIfInBounds_toArray, List.set_cons_zero, List.set_cons_succ]
            refine H_takeD (k := 6) (v := .int .i64 yn) (d := some 50) rfl rfl (by decide +kernel) (fun _ _ _ h => h) (Or.inl ⟨by rfl, fun W hW => by obtain ⟨s0, s1, s2⟩ := hW; go_simp⟩) HS0.out ?_
            try simp only [Act.put, List.setIfInBounds_toArray, List.set_cons_zero, List.set_cons_succ]
            refine H_one (i := 3) (by decide +kernel) (H_step rfl rfl (fun K hK6 => ?_))
            have hK6 := Lib.hid hK6
            go_simp
            go_at_call 55
            refine (find_n (comp (ns.take k) ws.length) ws.length (s + 1 + 1) G (s + 1) HC.out.len xn _ W2.drew (by omega) HR.out HX0.out HGG0.out HRR0.out).mono ?_
            rintro e w1 ⟨he, rt1, hRT1, hg1, ht1⟩
            obtain rfl : e = .returned (.int .i64 fp) := by rw [he, hfp.out]
            clear he
            have HRT1 := Lib.hid hRT1
            have HRR1 := Lib.hid hg1
            have HT1 := Lib.hid ((Turn.drew (w := W2) (s + 1)).trans ht1)
            have HX1 := Lib.hid (HT1.out.bk Hx0.out (by omega))
            have HGG1 := Lib.hid (HT1.out.bk HG0.out (Ne.symm hrG))
            have HN1 := Lib.hid (HT1.out.bk Hnb.out (Ne.symm hTr))
            have HS1 := Lib.hid (And.intro (show w1.cell? ⟨G, 0, none⟩ = some (.func (.func 55) #[] #[.pointer (some ⟨s + 1 + 1, 0, none⟩), .pointer (some ⟨G, 0, none⟩)]) from HGG1.out.cell 0) (And.intro (show w1.cell? ⟨T, 0, none⟩ = some (.int .i64 xn) from HN1.out.cell 0) (show w1.cell? ⟨T, 1, none⟩ = some (.int .i64 yn) from HN1.out.cell 1)))
            clear hRT1 hg1 ht1
            refine hK6.out _ _ HS1.out ?_
            try simp only [Act.put, List.setIfInBounds_toArray, List.set_cons_zero, List.set_cons_succ]
            refine H_one (i := 7) (by decide +kernel) (H_step rfl rfl (fun K hK7 => ?_))
            have hK7 := Lib.hid hK7
            go_simp
            go_at_call 55
            refine (find_n (comp (ns.take k) ws.length) ws.length (s + 1 + 1) G (s + 1) HC.out.len yn _ w1 (by omega) HRT1.out HX1.out HGG1.out HRR1.out).mono ?_
            rintro e w2 ⟨he, rt2, hRT2, hg2, ht2⟩
            obtain rfl : e = .returned (.int .i64 fq) := by rw [he, hfq.out]
            clear he
            have HRT2 := Lib.hid hRT2
            have HRR2 := Lib.hid hg2
            have HT2 := Lib.hid (HT1.out.trans ht2)
            have HX2 := Lib.hid (HT2.out.bk Hx0.out (by omega))
            have HGG2 := Lib.hid (HT2.out.bk HG0.out (Ne.symm hrG))
            have HN2 := Lib.hid (HT2.out.bk Hnb.out (Ne.symm hTr))
            have HS2 := Lib.hid (And.intro (show w2.cell? ⟨G, 0, none⟩ = some (.func (.func 55) #[] #[.pointer (some ⟨s + 1 + 1, 0, none⟩), .pointer (some ⟨G, 0, none⟩)]) from HGG2.out.cell 0) (And.intro (show w2.cell? ⟨T, 0, none⟩ = some (.int .i64 xn) from HN2.out.cell 0) (show w2.cell? ⟨T, 1, none⟩ = some (.int .i64 yn) from HN2.out.cell 1)))
            clear hRT2 hg2 ht2
            refine hK7.out _ _ HS2.out ?_
            try simp only [Act.put, List.setIfInBounds_toArray, List.set_cons_zero, List.set_cons_succ]
            refine H_takeD (k := 8) (v := .int .i64 fp) (d := some 8) rfl rfl (by decide +kernel) (fun _ _ _ h => h) (Or.inl ⟨by rfl, fun W hW => by obtain ⟨s0, s1, s2⟩ := hW; go_simp⟩) HS2.out ?_
            try simp only [Act.put, List.setIfInBounds_toArray, List.set_cons_zero, List.set_cons_succ]
            refine H_takeD (k := 9) (v := .int .i64 fq) (d := some 9) rfl rfl (by decide +kernel) (fun _ _ _ h => h) (Or.inl ⟨by rfl, fun W hW => by obtain ⟨s0, s1, s2⟩ := hW; go_simp⟩) HS2.out ?_
            try simp only [Act.put, List.setIfInBounds_toArray, List.set_cons_zero, List.set_cons_succ]
            refine H_end (by decide +kernel) (NoPanic.normal ?_)
            try simp only [Act.put, List.setIfInBounds_toArray, List.set_cons_zero, List.set_cons_succ]
            clear hK6 hK7 HS0 HS1 HX0 HGG0 HRR0 HRT1 HRR1 HT1 HX1 HGG1 HN1 HS2 HN2
            obtain ⟨p, q, e1, e2, hp, hq, hRJ⟩ := HRT2.out.join HC.out (a := xn) (b := yn) (by omega) (by omega)
            obtain rfl : fp = (p : Int) := by rw [← hfp.out, e1]
            obtain rfl : fq = (q : Int) := by rw [← hfq.out, e2]
            have hRJ' : Hid (RT (rt2.set (max p q) ((min p q : Nat) : Int)) (comp (ns.take (k + 1)) ws.length)) := by
              show RT _ _
              rw [hj.out, joined, if_neg (by show ¬ ((xn : Int) = 0); exact hx0)]
              exact hRJ
            have hmxl : max p q < ws.length := by omega
            have hmx : ∀ (W : World) (ts : Array TypeId) (t : TypeId), (Builtin.max_ ts t #[.int .i64 p, .int .i64 q]).run Try.prog W = .ok (.int .i64 ((max p q : Nat) : Int)) W := fun W ts t => by
              rw [Lib.run_max_ints W ts t .i64 .i64 p q]
              congr 2
              omega
            have hmn : ∀ (W : World) (ts : Array TypeId) (t : TypeId), (Builtin.min_ ts t #[.int .i64 p, .int .i64 q]).run Try.prog W = .ok (.int .i64 ((min p q : Nat) : Int)) W := fun W ts t => by
              rw [Lib.run_min_ints W ts t .i64 .i64 p q]
              congr 2
              omega
            clear hRJ e1 e2
            generalize max p q = mx at *
            generalize min p q = mn at *
            have hrl := HRT2.out.len
            have hcl := HC.out.len
            have hr2 : rt2[mx]? = some (rt2[mx]'(by omega)) := List.getElem?_eq_getElem _
            generalize rt2[mx]'(by omega) = rv at hr2
            have hcm : w2.cell? ⟨s + 1, mx, none⟩ = some (.int .i64 rv) := (HRR2.out.cell mx).trans (rowI_get hr2)
            have hfm := HRR2.out.frozen mx
            have hcB : w2.cell? ⟨s + 1 + 1, 0, none⟩ = some (.slice (some ⟨s + 1, 0, none⟩) ws.length ws.length) := HX2.out.cell 0
            have j1 : (0 : Int) ≤ (mx : Int) := by omega
            clear hrl hcl hr2 hfp hfq
            go_wp2_with fail
            go_roundw
            case rel =>
              have h := HRR2.out.set_ mx (.int .i64 mn)
              rw [rowI_put] at h
              refine ⟨k + 1, _, by omega, by go_num, hRJ'.out, h, (HT2.out.bk Hg0.out (by omega)).far (by simp) _, HX2.out.far (by simp) _, HGG2.out.far (Ne.symm hrG) _, (HT2.out.below Hb0.out (by omega)).setCell (by show s ≤ s + 1; omega) _⟩
            case measure => simp [intOf]; omega
        · obtain rfl : k = ns.length := by omega
          rw [List.take_length] at HR
          have hC := comp_all HE.out
          generalize hof : comp ns ws.length = of at *
          have Hof := Lib.hid hof
          have HC := Lib.hid hC
          clear hof hC
          have hmm := @run_makeMap Try.prog
          have hc1 : (wr.alloc (.map #[] 0)).cell? ⟨s, 0, none⟩ = some (.slice A ws.length c) := (Hbg.out.alloc _).cell 0
          have hc2 : ((wr.alloc (.map #[] 0)).alloc (.cells (rowI (List.replicate ws.length 0)) 3)).cell? ⟨s, 0, none⟩ = some (.slice A ws.length c) := ((Hbg.out.alloc _).alloc _).cell 0
          have hks : KS ((wr.alloc (.map #[] 0)).alloc (.cells (rowI (List.replicate ws.length 0)) 3)) s (wr.heap.size + 1 + 1) wr.heap.size (wr.heap.size + 1) G #[.slice A ws.length c, .slice B ns.length d] ws.length of rt (List.replicate ws.length 0) [] 0 (.slice none 0 0) (fun _ => undef) (fun _ => undef) (fun _ => undef) (xF of ws.length 0) (xU ws of ws.length 0) (xN (ns.take 0) of ws.length) := by
            have l1 := Hro.out.lt
            have l2 := Hbx.out.lt
            have l3 := HG.out.lt
            have e0 : (fun _ => none : Int → Option Int) = pidx [] := by funext x; simp [pidx]
            have hmp := (MapF.new iV iV Try.prog 3 wr).alloc (.cells (rowI (List.replicate ws.length 0)) 3)
            rw [e0] at hmp
            exact ⟨HR.out, (Hro.out.alloc _).alloc _, (Hbg.out.alloc _).alloc _, (Hbx.out.alloc _).alloc _, (HG.out.alloc _).alloc _, ⟨_, hmp⟩, Bk.new' _ _ _ (by simp), World.ownsRow_nil _ _ _ _, ⟨fun j hj => by omega, fun i j hi => by omega⟩, ⟨fun j hj => by omega, fun i j hi => by omega⟩, ⟨fun j hj => by omega, fun i j hi => by omega⟩, fun i j hi => by omega, by simp; omega⟩
          have HKS := Lib.hid hks
          have Hb1 := Lib.hid ((Hb.out.alloc (hbz.out _ Hb.out) (.map #[] 0)).alloc (by have := hbz.out _ Hb.out; simp; omega) (.cells (rowI (List.replicate ws.length 0)) 3))
          have hsM : s ≤ wr.heap.size := hbz.out _ Hb.out
          have hsL : s ≤ wr.heap.size + 1 := by omega
          clear hks Hro Hbg Hbx HG Hb HR
          go_wp2_with fail
          clear hc1 hc2 hmm hmk
          generalize hW3 : (wr.alloc (.map #[] 0)).alloc (.cells (rowI (List.replicate ws.length 0)) 3) = W3 at *
          clear hW3
          generalize hb1 : wr.heap.size + 1 + 1 = b1 at *
          generalize hL1 : wr.heap.size + 1 = L at *
          generalize wr.heap.size = M at *
          clear hb1 hL1
          go_loopw [10, 69] (fun v i wr => ∃ (k : Nat) (rt : List Int) (F U N : Nat → Value), k ≤ ws.length ∧ i = .int .i64 k ∧ KS wr s b1 M L G #[.slice A ws.length c, .slice B ns.length d] ws.length of rt (locL of k ++ List.replicate (ws.length - k) 0) (rts of k) (rts of k).length v F U N (xF of ws.length k) (xU ws of ws.length k) (xN (ns.take 0) of ws.length) ∧ Below s w wr) (fun _ i _ => ws.length - (intOf i).toNat)
          case atStart => exact ⟨0, rt, _, _, _, by omega, rfl, HKS.out, Hb1.out⟩
          case round =>
            clear HKS Hb1
            obtain ⟨k, rt, F, U, N, hk, rfl, hks, hb⟩ := hrel
            have HKS := Lib.hid hks
            have Hb := Lib.hid hb
            clear hks hb
            by_cases hlt : k < ws.length
            · by_cases hk0 : k = 0
              · subst hk0
                go_wp2_with fail
                go_roundw
                case rel =>
                  refine ⟨1, rt, F, U, N, by omega, by go_num, ?_, Hb.out⟩
                  obtain ⟨m', hm'⟩ : ∃ m', ws.length = m' + 1 := ⟨ws.length - 1, by omega⟩
                  have e1 : locL of 1 ++ List.replicate (ws.length - 1) 0 = locL of 0 ++ List.replicate (ws.length - 0) 0 := by
                    rw [hm']
                    simp [locL, List.replicate_succ]
                  have e2 : xF of ws.length 1 = xF of ws.length 0 := by
                    funext j
                    rw [xF, fcs_succ]
                    rfl
                  have e3 : xU ws of ws.length 1 = xU ws of ws.length 0 := by
                    funext j
                    rw [xU, inW_succ]
                    rfl
                  rw [e1, e2, e3, rts_zero]
                  exact HKS.out
                case measure => simp [intOf]; omega
              · have hG0 : wr.cell? ⟨G, 0, none⟩ = some (.func (.func 55) #[] #[.pointer (some ⟨s + 1 + 1, 0, none⟩), .pointer (some ⟨G, 0, none⟩)]) := HKS.out.fb.cell 0
                go_wp2_with fail
                clear hG0
                refine (find_n of ws.length (s + 1 + 1) G (s + 1) HC.out.len k rt wr hlt HKS.out.rr HKS.out.box HKS.out.fb HKS.out.root).mono ?_
                rintro e w1 ⟨he, rt1, hR1, hg1, ht1⟩
                obtain ⟨r, hr, hrk, hrr⟩ := HC.out.cn k (by have := HC.out.len; omega)
                rw [hr] at he
                subst he
                have HKS1 := Lib.hid (HKS.out.find hR1 hg1 ht1)
                have Hb1 := Lib.hid (ht1.below Hb.out (by omega))
                obtain ⟨hr0, hrm⟩ := root_ks HC.out hlt hk0 hr hrk hrr
                have Hr := Lib.hid (And.intro hr (And.intro hr0 hrm))
                clear hR1 hg1 ht1 HKS Hb hr hrr hr0 hrm
                have hml := rts_len of k
                have hml1 := rts_len of (k + 1)
                go_upto_if 79 with fail
                go_cut [10] (fun v wx => ∃ F U N, KS wx s b1 M L G #[.slice A ws.length c, .slice B ns.length d] ws.length of rt1 (locL of k ++ List.replicate (ws.length - k) 0) (rts of (k + 1)) (rts of (k + 1)).length v F U N (xF of ws.length k) (xU ws of ws.length k) (xN (ns.take 0) of ws.length) ∧ Below s w wx)
                case first =>
                  by_cases hrk' : r = k
                  · subst hrk'
                    have hrn := root_new hk0 Hr.out.1
                    have hri : (rts of ws.length)[(rts of r).length]? = some r := rts_at (show r + 1 ≤ ws.length by omega) (by rw [hrn]; simp)
                    have hrnot : r ∉ rts of r := fun h => by have := (mem_rts.1 h).1; omega
                    have hx1 : xF of ws.length r (rts of r).length = [] := by rw [xF, rj_at hri]; exact fcs_root HC.out.cn r (Nat.le_refl _) (by have := HC.out.len; omega)
                    have hx2 : xU ws of ws.length r (rts of r).length = [0] := by rw [xU, rj_at hri, inW, fcs_root HC.out.cn r (Nat.le_refl _) (by have := HC.out.len; omega)]; rfl
                    have hx3 : xN (ns.take 0) of ws.length (rts of r).length = [] := rfl
                    obtain ⟨kn, hmp⟩ := HKS1.out.mp
                    obtain ⟨w2, hup, hm2, ht2⟩ := hmp.update inj_iV keyed_int Try.underlying88 (x := (r : Int)) (good_int ⟨by omega, by omega⟩) ((rts of r).length : Int)
                    rw [pidx_snoc hrnot, ← hrn] at hm2
                    have hup' : (Instr.mapUpdate 88 (.map (some M)) (.int .i64 r) (.int .i64 (rts of r).length)).run Try.prog w1 = .ok () w2 := hup
                    obtain ⟨AO, cO, hvO⟩ := own_slice HKS1.out.out
                    subst hvO
                    have HKS2 := Lib.hid (HKS1.out.map hm2 ht2)
                    have Hb2 := Lib.hid (ht2.below Hb1.out hsM)
                    have Hx := Lib.hid (And.intro hx1 (And.intro hx2 hx3))
                    have Hrn := Lib.hid hrn
                    clear hup hm2 ht2 hmp hx1 hx2 hx3 hri hrnot hrn HKS1 Hb1
                    go_wp2_with (at_builtin; refine wpList_app3 (w := w2.alloc (.cells #[.int .i64 0] 3)) rfl _ _ rfl elt_part (HKS2.out.alloc _).out (HKS2.out.alloc _).bd.2.2.2.2.2 rfl rfl (by simp) rfl rfl (by omega) ?_; intro v1 w4 hown4 hg4 hv4 hz4)
                    go_meet
                    have hbd := HKS2.out.bd
                    have hks := (HKS2.out.alloc (.cells #[.int .i64 0] 3)).push (Bk.new w2 3 #[.int .i64 0]) hbd.2.2.2.2.2 (fun j hj => ⟨fun hc => by have := (HKS2.out.fF.lt hj hc.symm).2; omega, fun hc => by have := (HKS2.out.fU.lt hj hc.symm).2; omega⟩) hg4 hown4 Hx.out.1 Hx.out.2.1 Hx.out.2.2
                    have hlen : (rts (of : List Int) (r + 1)).length = (rts of r).length + 1 := by rw [Hrn.out]; simp
                    rw [← hlen] at hks
                    exact ⟨_, _, _, hks, (Hb2.out.alloc (hbz.out _ Hb2.out) _).grown hg4 (by have := hbz.out _ Hb2.out; simp; omega) (fun k hk => by have := ((HKS2.out.alloc (.cells #[.int .i64 0] 3)).out.lt k hk).1; omega)⟩
                  · have hne : (((r : Nat) : Int) == ((k : Nat) : Int)) = false := by simp; omega
                    go_wp2_with fail
                    go_meet
                    refine ⟨F, U, N, ?_, Hb1.out⟩
                    rw [root_old (by rw [Hr.out.1]; omega)]
                    exact HKS1.out
                case rest =>
                clear HKS1 Hb1
                obtain ⟨F, U, N, hks, hb⟩ := hcut
                obtain ⟨wo, rfl⟩ : ∃ x, x = wc := ⟨wc, rfl⟩
                obtain ⟨j, hj, hjr, hpx⟩ := pidx_at Hr.out.2.2
                obtain ⟨g, cO, hv, hgb, hgl⟩ := hks.out.form (by omega)
                subst hv
                obtain ⟨kn, hmp⟩ := hks.mp
                have hlk : (Instr.lookup 88 (.map (some M)) (.int .i64 r) false).run Try.prog wo = .ok (.int .i64 j) wo := by
                  have := hmp.lookup inj_iV keyed_int Try.underlying88 (zero_int wo) (x := (r : Int)) (good_int ⟨by omega, by omega⟩)
                  rw [hpx] at this
                  exact this
                have hjn : (rts of ws.length)[j]? = some r := rts_at (show k + 1 ≤ ws.length by omega) hjr
                obtain ⟨m', hm'⟩ : ∃ m', ws.length - k = m' + 1 := ⟨ws.length - k - 1, by omega⟩
                rw [hm'] at hks
                obtain ⟨c1, c2, c3, c4⟩ := hks.cells hj
                have hxl : (xU ws of ws.length k j).length = loc (inP of r) k := by rw [xU, inW_len, rj_at hjn]; rfl
                have hxle : loc (inP of r) k ≤ 4097 := by have := fcs_le (inP of r) k; unfold loc; omega
                have hoU : wo.ownsRow b1 3 1 (U j) (xU ws of ws.length k j).length ((xU ws of ws.length k j).map (Value.int .i64)) := hks.fU.o j hj
                obtain ⟨AU, cU, hvU⟩ := own_slice hoU
                rw [hvU, hxl] at c2
                have hLl := locL_len of k
                have hcl : wo.cell? ⟨L, k, none⟩ = some (.int .i64 0) := (hks.lo.cell k).trans (rowI_get (by rw [List.getElem?_append_right (by omega), hLl]; simp))
                have hfl := hks.lo.frozen k
                have hset : (rowI (locL of k ++ List.replicate (m' + 1) 0)).setIfInBounds k (.int .i64 ((loc (inP of r) k : Nat) : Int)) = rowI (locL of (k + 1) ++ List.replicate m' 0) := by
                  have e := rowI_set (locL of k) m' ((loc (inP of r) k : Nat) : Int)
                  rw [hLl] at e
                  rw [e, locL_succ, if_neg hk0, Hr.out.1]
                  rfl
                have HKS2 := Lib.hid (hks.local_ k (.int .i64 ((loc (inP of r) k : Nat) : Int)) hset)
                have Hb2 := Lib.hid (hb.setCell (p := ⟨L, k, none⟩) hsL (.int .i64 ((loc (inP of r) k : Nat) : Int)))
                have hgL : L ≠ g := by have := hks.bd; omega
                have Hjn := Lib.hid hjn
                have HvU := Lib.hid hvU
                have Hm' := Lib.hid hm'
                have hj0 : (0 : Int) ≤ (j : Int) := by omega
                clear hks hb hmp hset hLl hxl hoU hjr hpx hjn hvU hm'
                have hxfl : (xF of ws.length k j).length ≤ k := fcs_le _ _
                go_wp2_with (at_builtin; refine wpList_app3 (w := wo.setCell ⟨L, k, none⟩ (.int .i64 ((loc (inP of r) k : Nat) : Int))) rfl _ _ rfl elt_int.big (HKS2.out.fF.o j hj) HKS2.out.bd.2.2.2.2.2 rfl rfl (by simp) rfl rfl (by omega) ?_; intro v6 w6 hown6 hg6 hv6 hz6; obtain ⟨A6, c6, rfl⟩ := own_slice hown6; obtain ⟨d1, d2, d3, d4⟩ := HKS2.out.after hg6 ⟨j, hj, .inl rfl⟩ hj; have d5 := d4 (j * 3))
                have HKS3 := Lib.hid (HKS2.out.appF hj hg6 hown6 hv6 (xF_step Hr.out.1 hk0 Hr.out.2.1 Hjn.out))
                have Hb3 := Lib.hid ((Hb2.out.grown hg6 (hbz.out _ Hb2.out) (fun q hq => by have h1 := ((HKS2.out.fF.o j hj).lt q hq).1; have := HKS2.out.bd; omega)).setCell (p := ⟨g, j * 3, none⟩) (by have := HKS2.out.bd; show s ≤ g; omega) (.slice A6 ((xF of ws.length k j).length + 1) c6))
                clear HKS2 Hb2 hown6 hg6 hv6 hz6 d1 d2 d3 d4 d5 c1 c2 c3 c4 hcl hfl hlk
                generalize hW7 : w6.setCell ⟨g, j * 3, none⟩ (.slice A6 ((xF of ws.length k j).length + 1) c6) = W7 at *
                clear hW7
                obtain ⟨c1, c2, c3, c4⟩ := HKS3.out.cells hj
                rw [HvU.out] at c2
                obtain ⟨x, hxk⟩ : ∃ x, Hid (ws.getD k 0 = x) := ⟨_, Lib.hid rfl⟩
                obtain ⟨bA, oA, hAe, hcA⟩ : ∃ bA oA, A = some ⟨bA, oA, none⟩ ∧ W7.cell? ⟨bA, oA + k, none⟩ = some (.int .i64 x) := by
                  obtain ⟨bA, oA, e, h⟩ := (HA.out W7 Hb3.out).at_ hlt
                  refine ⟨bA, oA, e, ?_⟩
                  rw [h, ← hxk.out, List.getD, List.getElem?_eq_getElem hlt]
                  rfl
                subst hAe
                have hwn := Lib.hid (fun (W : World) (hW : Below s w W) => show W.cell? ⟨bA, oA + k, none⟩ = some (.int .i64 x) from by
                  obtain ⟨bA', oA', e, h⟩ := (HA.out W hW).at_ hlt
                  injection e with e
                  injection e with e1 e2
                  subst e1 e2
                  rw [h, ← hxk.out, List.getD, List.getElem?_eq_getElem hlt]
                  rfl)
                have hcg : W7.cell? ⟨s, 0, none⟩ = some (.slice (some ⟨bA, oA, none⟩) ws.length c) := HKS3.out.gr.cell 0
                have HKS4 := Lib.hid (HKS3.out.drew.alloc (.cells #[.int .i64 x] 3))
                have Hb4 := Lib.hid ((Hb3.out.drew).alloc (show s ≤ W7.heap.size from hbz.out _ Hb3.out) (.cells #[.int .i64 x] 3))
                have hlen : (xU ws of ws.length k j).length ≤ 5000 := by rw [xU, inW_len]; have := fcs_le (inP of (rj of ws.length j)) k; omega
                have hoU : (W7.drew.alloc (.cells #[.int .i64 x] 3)).ownsRow b1 3 1 (.slice AU (xU ws of ws.length k j).length cU) (xU ws of ws.length k j).length ((xU ws of ws.length k j).map (Value.int .i64)) := HvU.out ▸ HKS4.out.fU.o j hj
                have HoU := Lib.hid hoU
                have hbW := HKS4.out.bd.2.2.2.2.2
                have Hnew := Lib.hid (Bk.new W7.drew 3 #[.int .i64 x])
                obtain ⟨q1, q2, q3, q4⟩ := HKS4.out.cells hj
                rw [HvU.out] at q2
                have HS0 := Lib.hid (And.intro (show W7.drew.cell? ⟨g, j * 3 + 1, none⟩ = some (.slice AU (xU ws of ws.length k j).length cU) from c2) (And.intro (show W7.drew.cell? ⟨s, 0, none⟩ = some (.slice (some ⟨bA, oA, none⟩) ws.length c) from hcg) (show W7.drew.cell? ⟨bA, oA + k, none⟩ = some (.int .i64 x) from hcA)))
                have HS1 := Lib.hid (And.intro (show (W7.drew.alloc (.cells #[.int .i64 x] 3)).cell? ⟨g, j * 3 + 1, none⟩ = some (.slice AU (xU ws of ws.length k j).length cU) from q2) (And.intro (show (W7.drew.alloc (.cells #[.int .i64 x] 3)).cell? ⟨s, 0, none⟩ = some (.slice (some ⟨bA, oA, none⟩) ws.length c) from HKS4.out.gr.cell 0) (show (W7.drew.alloc (.cells #[.int .i64 x] 3)).cell? ⟨bA, oA + k, none⟩ = some (.int .i64 x) from hwn.out _ Hb4.out)))
                clear HKS3 Hb3 c1 c2 c3 c4 hcg hcA hoU q1 q2 q3 q4
                refine wp_region_noPanic ?_
                refine region_T (s := 16) (S := fun W => W.cell? ⟨g, j * 3 + 1, none⟩ = some (.slice AU (xU ws of ws.length k j).length cU) ∧ W.cell? ⟨s, 0, none⟩ = some (.slice (some ⟨bA, oA, none⟩) ws.length c) ∧ W.cell? ⟨bA, oA + k, none⟩ = some (.int .i64 x)) (by kernel_rfl) ?_
                change wpT _ _ _ _ _ 17 _ _ W7.drew
                refine T_take (k := 0) (v := .pointer (some ⟨g, j * 3, none⟩)) rfl (by decide +kernel) (fun _ _ _ h => h) (Or.inl ⟨by rfl, fun W hW => by obtain ⟨s0, s1, s2⟩ := hW; go_simp⟩) HS0.out ?_
                try simp only [Act.put, List.setIfInBounds_toArray, List.set_cons_zero, List.set_cons_succ]
                refine T_take (k := 1) (v := .pointer (some ⟨g, j * 3, none⟩)) rfl (by decide +kernel) (fun _ _ _ h => h) (Or.inl ⟨by rfl, fun W hW => by obtain ⟨s0, s1, s2⟩ := hW; go_simp⟩) HS0.out ?_
                try simp only [Act.put, List.setIfInBounds_toArray, List.set_cons_zero, List.set_cons_succ]
                refine T_take (k := 2) (v := .pointer (some ⟨g, j * 3, none⟩)) rfl (by decide +kernel) (fun _ _ _ h => h) (Or.inl ⟨by rfl, fun W hW => by obtain ⟨s0, s1, s2⟩ := hW; go_simp⟩) HS0.out ?_
                try simp only [Act.put, List.setIfInBounds_toArray, List.set_cons_zero, List.set_cons_succ]
                refine T_take (k := 3) (v := .pointer (some ⟨g, j * 3 + 1, none⟩)) rfl (by decide +kernel) (fun _ _ _ h => h) (Or.inl ⟨by rfl, fun W hW => by obtain ⟨s0, s1, s2⟩ := hW; go_simp⟩) HS0.out ?_
                try simp only [Act.put, List.setIfInBounds_toArray, List.set_cons_zero, List.set_cons_succ]
                refine T_take (k := 4) (v := .pointer (some ⟨g, j * 3 + 1, none⟩)) rfl (by decide +kernel) (fun _ _ _ h => h) (Or.inl ⟨by rfl, fun W hW => by obtain ⟨s0, s1, s2⟩ := hW; go_simp⟩) HS0.out ?_
                try simp only [Act.put, List.setIfInBounds_toArray, List.set_cons_zero, List.set_cons_succ]
                refine T_take (k := 5) (v := .slice AU (xU ws of ws.length k j).length cU) rfl (by decide +kernel) (fun _ _ _ h => h) (Or.inl ⟨by rfl, fun W hW => by obtain ⟨s0, s1, s2⟩ := hW; go_simp⟩) HS0.out ?_
                try simp only [Act.put, List.setIfInBounds_toArray, List.set_cons_zero, List.set_cons_succ]
                refine T_take (k := 6) (v := .pointer (some ⟨s, 0, none⟩)) rfl (by decide +kernel) (fun _ _ _ h => h) (Or.inl ⟨by rfl, fun W hW => by obtain ⟨s0, s1, s2⟩ := hW; go_simp⟩) HS0.out ?_
                try simp only [Act.put, List.setIfInBounds_toArray, List.set_cons_zero, List.set_cons_succ]
                refine T_take (k := 7) (v := .slice (some ⟨bA, oA, none⟩) ws.length c) rfl (by decide +kernel) (fun _ _ _ h => h) (Or.inl ⟨by rfl, fun W hW => by obtain ⟨s0, s1, s2⟩ := hW; go_simp⟩) HS0.out ?_
                try simp only [Act.put, List.setIfInBounds_toArray, List.set_cons_zero, List.set_cons_succ]
                refine T_take (k := 8) (v := .int .i64 k) rfl (by decide +kernel) (fun _ _ _ h => h) (Or.inl ⟨by rfl, fun W hW => by obtain ⟨s0, s1, s2⟩ := hW; go_simp⟩) HS0.out ?_
                try simp only [Act.put, List.setIfInBounds_toArray, List.set_cons_zero, List.set_cons_succ]
                refine T_take (k := 9) (v := .pointer (some ⟨bA, oA + k, none⟩)) rfl (by decide +kernel) (fun _ _ _ h => h) (Or.inl ⟨by rfl, fun W hW => by obtain ⟨s0, s1, s2⟩ := hW; go_simp⟩) HS0.out ?_
                try simp only [Act.put, List.setIfInBounds_toArray, List.set_cons_zero, List.set_cons_succ]
                refine T_take (k := 10) (v := .int .i64 x) rfl (by decide +kernel) (fun _ _ _ h => h) (Or.inl ⟨by rfl, fun W hW => by obtain ⟨s0, s1, s2⟩ := hW; go_simp⟩) HS0.out ?_
                try simp only [Act.put, List.setIfInBounds_toArray, List.set_cons_zero, List.set_cons_succ]
                refine T_one (i := 11) (by decide +kernel) rfl rfl (fun K hK11 => ?_)
                have hK11 := Lib.hid hK11
                go_simp
                refine hK11.out _ _ HS1.out ?_
                try simp only [Act.put, List.setIfInBounds_toArray, List.set_cons_zero, List.set_cons_succ]
                refine T_one (i := 12) (by decide +kernel) rfl rfl (fun K hK12 => ?_)
                have hK12 := Lib.hid hK12
                refine app_wp3 (us := [.int .i64 x]) (c := 1) (H := W7.heap.size) (v := .slice AU (xU ws of ws.length k j).length cU) (.tmp 119) (.tmp 125) rfl elt_int.big (by simp [Act.eval]) (by simp [Act.eval]) HoU.out Hnew.out rfl rfl (by omega) hbW ?_
                intro v8 w8 hown8 hg8 hv8
                obtain ⟨A8, c8, rfl⟩ := own_slice hown8
                obtain ⟨d1, d2, d3, d4⟩ := HKS4.out.after (HvU.out ▸ hg8) ⟨j, hj, .inr (.inl rfl)⟩ hj
                rw [HvU.out] at d2
                have d5 := d4 (j * 3 + 1)
                have HS2 := Lib.hid (And.intro d2 (And.intro (show w8.cell? ⟨s, 0, none⟩ = some (.slice (some ⟨bA, oA, none⟩) ws.length c) from (HKS4.out.gr_grown hg8 (fun r hr => own_far HoU.out hr) 0).1) (hwn.out _ (Hb4.out.grown hg8 (hbz.out _ Hb4.out) (fun q hq => by have h1 := (HoU.out.lt q hq).1; have := HKS4.out.bd; omega)))))
                refine hK12.out _ _ HS2.out ?_
                try simp only [Act.put, List.setIfInBounds_toArray, List.set_cons_zero, List.set_cons_succ]
                refine T_one (i := 13) (by decide +kernel) rfl rfl (fun K hK13 => ?_)
                have hK13 := Lib.hid hK13
                go_simp
                refine hK13.out _ _ HS2.out ?_
                try simp only [Act.put, List.setIfInBounds_toArray, List.set_cons_zero, List.set_cons_succ]
                refine T_one (i := 14) (by decide +kernel) rfl rfl (fun K hK14 => ?_)
                have hK14 := Lib.hid hK14
                go_simp
                refine hK14.out _ _ HS2.out ?_
                try simp only [Act.put, List.setIfInBounds_toArray, List.set_cons_zero, List.set_cons_succ]
                refine T_take (k := 15) (v := .pointer (some ⟨g, j * 3 + 1, none⟩)) rfl (by decide +kernel) (fun _ _ _ h => h) (Or.inl ⟨by rfl, fun W hW => by obtain ⟨s0, s1, s2⟩ := hW; go_simp⟩) HS2.out ?_
                try simp only [Act.put, List.setIfInBounds_toArray, List.set_cons_zero, List.set_cons_succ]
                refine T_last (by decide +kernel) (by decide +kernel) (by decide +kernel) rfl rfl (fun K hKl => ?_)
                have hKl := Lib.hid hKl
                go_simp
                refine hKl.out _ _ (NoPanic.normal ?_)
                try simp only [Act.put, List.setIfInBounds_toArray, List.set_cons_zero, List.set_cons_succ]
                clear hKl hK11 hK12 hK13 hK14 HS0 HS1 HS2
                go_wp2_with fail
                go_roundw
                case rel =>
                  have hks := HKS4.out.appU hj (HvU.out ▸ hg8) hown8 (HvU.out ▸ hv8) (xU_step (ws := ws) Hr.out.1 hk0 Hr.out.2.1 Hjn.out |>.trans (by rw [hxk.out]))
                  rw [show m' = ws.length - (k + 1) by have := Hm'.out; omega] at hks
                  exact ⟨k + 1, rt1, _, _, N, by omega, by go_num, hks, (Hb4.out.grown hg8 (hbz.out _ Hb4.out) (fun q hq => by have h1 := (HoU.out.lt q hq).1; have := HKS4.out.bd; omega)).setCell (p := ⟨g, j * 3 + 1, none⟩) (by have := HKS4.out.bd; show s ≤ g; omega) _⟩
                case measure => simp [intOf]; omega
            · obtain rfl : k = ws.length := by omega
              rw [Nat.sub_self] at HKS
              simp only [List.replicate_zero, List.append_nil] at HKS
              obtain ⟨AO, cO, hvO⟩ := own_slice HKS.out.out
              subst hvO
              have hcg1 : wr.cell? ⟨s, 1, none⟩ = some (.slice B ns.length d) := HKS.out.gr.cell 1
              go_wp2_with fail
              clear hcg1
              go_loopw [134] (fun i wr => ∃ (k : Nat) (rt : List Int) (N : Nat → Value), k ≤ ns.length ∧ i = .int .i64 k ∧ KS wr s b1 M L G #[.slice A ws.length c, .slice B ns.length d] ws.length of rt (locL of ws.length) (rts of ws.length) (rts of ws.length).length (.slice AO (rts of ws.length).length cO) F U N (xF of ws.length ws.length) (xU ws of ws.length ws.length) (xN (ns.take k) of ws.length) ∧ Below s w wr) (fun i _ => ns.length - (intOf i).toNat)
              case atStart => exact ⟨0, rt, N, by omega, rfl, HKS.out, Hb.out⟩
              case round =>
                clear HKS Hb
                obtain ⟨k, rt, N, hk, rfl, hks, hb⟩ := hrel
                have HKS := Lib.hid hks
                have Hb := Lib.hid hb
                clear hks hb
                by_cases hlt : k < ns.length
                · obtain ⟨b1', o1, x, y, z, rfl, k0, k1, k2, ht⟩ := (HB.out _ Hb.out).get (k := k) hlt
                  have he := HE.out _ (List.mem_of_getElem? ht.out)
                  dsimp only at he
                  have hnb := Bk.new wr 52 #[.int .i64 x, .int .i64 y, .int .i64 z]
                  have hn0 : (wr.alloc (.cells #[.int .i64 x, .int .i64 y, .int .i64 z] 52)).cell? ⟨wr.heap.size, 0, none⟩ = some (.int .i64 x) := hnb.cell 0
                  have Hnb := Lib.hid hnb
                  clear hnb
                  have HKS0 := Lib.hid (HKS.out.alloc (.cells #[.int .i64 x, .int .i64 y, .int .i64 z] 52))
                  have Hb0 := Lib.hid (Hb.out.alloc (hbz.out _ Hb.out) (.cells #[.int .i64 x, .int .i64 y, .int .i64 z] 52))
                  have hbT : b1 ≤ wr.heap.size := HKS.out.bd.2.2.2.2.2
                  have hNT : ∀ j, j < (rts of ws.length).length → some wr.heap.size ≠ (N j).ownBlock := fun j hj hc => by have := (HKS.out.fN.lt hj hc.symm).2; omega
                  have HNT := Lib.hid hNT
                  clear HKS Hb hNT
                  by_cases hx0 : x = 0
                  · subst hx0
                    go_wp2_with fail
                    go_roundw
                    case rel => exact ⟨k + 1, rt, N, by omega, by go_num, by rw [xN_zero ht.out rfl]; exact HKS0.out, Hb0.out⟩
                    case measure => simp [intOf]; omega
                  · have hxp : 0 < x := by omega
                    have hG0 : (wr.alloc (.cells #[.int .i64 x, .int .i64 y, .int .i64 z] 52)).cell? ⟨G, 0, none⟩ = some (.func (.func 55) #[] #[.pointer (some ⟨s + 1 + 1, 0, none⟩), .pointer (some ⟨G, 0, none⟩)]) := HKS0.out.fb.cell 0
                    go_wp2_with fail
                    clear hG0 k0 k1 k2 hn0
                    obtain ⟨xn, rfl⟩ : ∃ xn : Nat, x = (xn : Int) := ⟨x.toNat, by omega⟩
                    obtain ⟨yn, rfl⟩ : ∃ yn : Nat, y = (yn : Int) := ⟨y.toNat, by omega⟩
                    refine (find_n of ws.length (s + 1 + 1) G (s + 1) HC.out.len xn rt _ (by omega) HKS0.out.rr HKS0.out.box HKS0.out.fb HKS0.out.root).mono ?_
                    rintro e w1 ⟨he', rt1, hR1, hg1, ht1⟩
                    obtain ⟨r, hr, hrk, hrr⟩ := HC.out.cn xn (by have := HC.out.len; omega)
                    rw [hr] at he'
                    subst he'
                    have hks1 := HKS0.out.find hR1 hg1 ht1
                    have Hb1 := Lib.hid (ht1.below Hb0.out (by omega))
                    have hxn0 : xn ≠ 0 := by omega
                    obtain ⟨hr0, hrm⟩ := root_ks HC.out (show xn < ws.length by omega) hxn0 hr hrk hrr
                    obtain ⟨j, hj, hjr, hpx⟩ := pidx_at (mem_rts.2 ⟨by omega, hr0, hrr⟩ : r ∈ rts of ws.length)
                    obtain ⟨kn, hmp⟩ := hks1.mp
                    have hlk : (Instr.lookup 88 (.map (some M)) (.int .i64 r) false).run Try.prog w1 = .ok (.int .i64 j) w1 := by
                      have := hmp.lookup inj_iV keyed_int Try.underlying88 (zero_int w1) (x := (r : Int)) (good_int ⟨by omega, by omega⟩)
                      rw [hpx] at this
                      exact this
                    have hyr : of.getD yn 0 = (r : Int) := by
                      have := HC.out.e _ (List.mem_of_getElem? ht.out) (by show (xn : Int) ≠ 0; omega)
                      simp only [Int.toNat_natCast] at this
                      rw [← this, hr]
                    have hbdd := hks1.bd
                    have hcT := (ht1.bk Hnb.out (by omega))
                    have HcT := Lib.hid hcT
                    have Hyr := Lib.hid (And.intro hr (And.intro hr0 hyr))
                    have Hjr := Lib.hid hjr
                    have hj0 : (0 : Int) ≤ (j : Int) := by omega
                    obtain ⟨g, cO', hv, hgb, hgl⟩ := hks1.out.form (by omega)
                    injection hv with hv1 hv2 hv3
                    subst hv1 hv3
                    have HKS1 := Lib.hid hks1
                    clear hks1 hR1 hg1 ht1 HKS0 Hb0 Hnb hcT hr hr0 hyr hrk hrr hrm hpx hmp hjr hbdd
                    generalize hT : wr.heap.size = T at *
                    clear hT
                    go_wp2_with fail
                    clear hlk
                    obtain ⟨a1, ha1⟩ : ∃ z, Hid (((loc (inP of r) xn : Nat) : Int) = z) := ⟨_, Lib.hid rfl⟩
                    obtain ⟨a2, ha2⟩ : ∃ z, Hid (((loc (inP of r) yn : Nat) : Int) = z) := ⟨_, Lib.hid rfl⟩
                    have hrx : (rowI (locL of ws.length))[xn]? = some (.int .i64 a1) := by
                      have := locL_at (of := of) (n := ws.length) (j := xn) (by omega) hxn0
                      rw [Hyr.out.1] at this
                      rw [← ha1.out]
                      exact rowI_get this
                    have hry : (rowI (locL of ws.length))[yn]? = some (.int .i64 a2) := by
                      have := locL_at (of := of) (n := ws.length) (j := yn) (by omega) (by omega)
                      rw [Hyr.out.2.2] at this
                      rw [← ha2.out]
                      exact rowI_get this
                    obtain ⟨AN, cN, hvN⟩ := own_slice (HKS1.out.fN.o j hj)
                    have HvN := Lib.hid hvN
                    have HKS4 := Lib.hid (HKS1.out.drew.alloc (.cells #[.int .i64 a1, .int .i64 a2, .int .i64 z] 52))
                    have Hb4 := Lib.hid ((Hb1.out.drew).alloc (show s ≤ w1.heap.size from hbz.out _ Hb1.out) (.cells #[.int .i64 a1, .int .i64 a2, .int .i64 z] 52))
                    have hlen : (xN (ns.take k) of ws.length j).length ≤ 20000 := by
                      rw [xN, inN, List.length_map]
                      have := List.length_filter_le (fun t => inP of (rj of ws.length j) t.1.toNat) (ns.take k)
                      simp only [List.length_take] at this
                      omega
                    have hoN : (w1.drew.alloc (.cells #[.int .i64 a1, .int .i64 a2, .int .i64 z] 52)).ownsRow b1 52 3 (.slice AN (xN (ns.take k) of ws.length j).length cN) (xN (ns.take k) of ws.length j).length (triC (xN (ns.take k) of ws.length j)) := hvN ▸ HKS4.out.fN.o j hj
                    have HoN := Lib.hid hoN
                    have hbW := HKS4.out.bd.2.2.2.2.2
                    have Hnew := Lib.hid (Bk.new w1.drew 52 #[.int .i64 a1, .int .i64 a2, .int .i64 z])
                    have HTn := Lib.hid (show Bk w1.drew T 52 _ from HcT.out)
                    have HTm := Lib.hid (HTn.out.alloc (.cells #[.int .i64 a1, .int .i64 a2, .int .i64 z] 52))
                    obtain ⟨p1, p2, p3, p4⟩ := HKS1.out.cells hj
                    rw [hvN] at p3
                    obtain ⟨q1, q2, q3, q4⟩ := HKS4.out.cells hj
                    rw [hvN] at q3
                    have HS0 := Lib.hid (show SS g (j * 3 + 1 + 1) T L xn yn (.slice AN (xN (ns.take k) of ws.length j).length cN) xn yn z a1 a2 w1.drew from ⟨p3, HTn.out.cell 0, HTn.out.cell 1, HTn.out.cell 2, (HKS1.out.lo.cell xn).trans hrx, (HKS1.out.lo.cell yn).trans hry⟩)
                    have HS1 := Lib.hid (show SS g (j * 3 + 1 + 1) T L xn yn (.slice AN (xN (ns.take k) of ws.length j).length cN) xn yn z a1 a2 (w1.drew.alloc (.cells #[.int .i64 a1, .int .i64 a2, .int .i64 z] 52)) from ⟨q3, HTm.out.cell 0, HTm.out.cell 1, HTm.out.cell 2, (HKS4.out.lo.cell xn).trans hrx, (HKS4.out.lo.cell yn).trans hry⟩)
                    have Hrx := Lib.hid (And.intro hrx hry)
                    have j0 : (0 : Int) ≤ (xn : Int) := by omega
                    have j1 : (0 : Int) ≤ (yn : Int) := by omega
                    have j2 : (xn : Int) < ws.length := by omega
                    have j3 : (yn : Int) < ws.length := by omega
                    clear HKS1 Hb1 hoN q1 q2 q3 q4 p1 p2 p3 p4 hrx hry hvN HcT HTn
                    refine wp_region_noPanic ?_
                    refine region_T (s := 24) (S := SS g (j * 3 + 1 + 1) T L xn yn (.slice AN (xN (ns.take k) of ws.length j).length cN) xn yn z a1 a2) (by kernel_rfl) ?_
                    change wpT _ _ _ _ _ 25 _ _ w1.drew
                    refine T_take (k := 0) (v := .pointer (some ⟨g, j * 3, none⟩)) rfl (by decide +kernel) (fun _ _ _ h => h) (Or.inl ⟨by rfl, fun W hW => by obtain ⟨s0, s1, s2, s3, s4, s5⟩ := hW; go_simp⟩) HS0.out ?_
                    try simp only [Act.put, List.setIfInBounds_toArray, List.set_cons_zero, List.set_cons_succ]
                    refine T_take (k := 1) (v := .pointer (some ⟨g, j * 3, none⟩)) rfl (by decide +kernel) (fun _ _ _ h => h) (Or.inl ⟨by rfl, fun W hW => by obtain ⟨s0, s1, s2, s3, s4, s5⟩ := hW; go_simp⟩) HS0.out ?_
                    try simp only [Act.put, List.setIfInBounds_toArray, List.set_cons_zero, List.set_cons_succ]
                    refine T_take (k := 2) (v := .pointer (some ⟨g, j * 3, none⟩)) rfl (by decide +kernel) (fun _ _ _ h => h) (Or.inl ⟨by rfl, fun W hW => by obtain ⟨s0, s1, s2, s3, s4, s5⟩ := hW; go_simp⟩) HS0.out ?_
                    try simp only [Act.put, List.setIfInBounds_toArray, List.set_cons_zero, List.set_cons_succ]
                    refine T_take (k := 3) (v := .pointer (some ⟨g, j * 3 + 1, none⟩)) rfl (by decide +kernel) (fun _ _ _ h => h) (Or.inl ⟨by rfl, fun W hW => by obtain ⟨s0, s1, s2, s3, s4, s5⟩ := hW; go_simp⟩) HS0.out ?_
                    try simp only [Act.put, List.setIfInBounds_toArray, List.set_cons_zero, List.set_cons_succ]
                    refine T_take (k := 4) (v := .pointer (some ⟨g, j * 3 + 1 + 1, none⟩)) rfl (by decide +kernel) (fun _ _ _ h => h) (Or.inl ⟨by rfl, fun W hW => by obtain ⟨s0, s1, s2, s3, s4, s5⟩ := hW; go_simp⟩) HS0.out ?_
                    try simp only [Act.put, List.setIfInBounds_toArray, List.set_cons_zero, List.set_cons_succ]
                    refine T_take (k := 5) (v := .slice AN (xN (ns.take k) of ws.length j).length cN) rfl (by decide +kernel) (fun _ _ _ h => h) (Or.inl ⟨by rfl, fun W hW => by obtain ⟨s0, s1, s2, s3, s4, s5⟩ := hW; go_simp⟩) HS0.out ?_
                    try simp only [Act.put, List.setIfInBounds_toArray, List.set_cons_zero, List.set_cons_succ]
                    refine T_take (k := 6) (v := .slice (some ⟨L, 0, none⟩) ws.length ws.length) rfl (by decide +kernel) (fun _ _ _ h => h) (Or.inl ⟨by rfl, fun W hW => by obtain ⟨s0, s1, s2, s3, s4, s5⟩ := hW; go_simp⟩) HS0.out ?_
                    try simp only [Act.put, List.setIfInBounds_toArray, List.set_cons_zero, List.set_cons_succ]
                    refine T_take (k := 7) (v := .pointer (some ⟨T, 0, none⟩)) rfl (by decide +kernel) (fun _ _ _ h => h) (Or.inl ⟨by rfl, fun W hW => by obtain ⟨s0, s1, s2, s3, s4, s5⟩ := hW; go_simp⟩) HS0.out ?_
                    try simp only [Act.put, List.setIfInBounds_toArray, List.set_cons_zero, List.set_cons_succ]
                    refine T_take (k := 8) (v := .int .i64 xn) rfl (by decide +kernel) (fun _ _ _ h => h) (Or.inl ⟨by rfl, fun W hW => by obtain ⟨s0, s1, s2, s3, s4, s5⟩ := hW; go_simp⟩) HS0.out ?_
                    try simp only [Act.put, List.setIfInBounds_toArray, List.set_cons_zero, List.set_cons_succ]
                    refine T_take (k := 9) (v := .pointer (some ⟨L, xn, none⟩)) rfl (by decide +kernel) (fun _ _ _ h => h) (Or.inl ⟨by rfl, fun W hW => by obtain ⟨s0, s1, s2, s3, s4, s5⟩ := hW; go_simp⟩) HS0.out ?_
                    try simp only [Act.put, List.setIfInBounds_toArray, List.set_cons_zero, List.set_cons_succ]
                    refine T_take (k := 10) (v := .int .i64 a1) rfl (by decide +kernel) (fun _ _ _ h => h) (Or.inl ⟨by rfl, fun W hW => by obtain ⟨s0, s1, s2, s3, s4, s5⟩ := hW; go_simp⟩) HS0.out ?_
                    try simp only [Act.put, List.setIfInBounds_toArray, List.set_cons_zero, List.set_cons_succ]
                    refine T_take (k := 11) (v := .slice (some ⟨L, 0, none⟩) ws.length ws.length) rfl (by decide +kernel) (fun _ _ _ h => h) (Or.inl ⟨by rfl, fun W hW => by obtain ⟨s0, s1, s2, s3, s4, s5⟩ := hW; go_simp⟩) HS0.out ?_
                    try simp only [Act.put, List.setIfInBounds_toArray, List.set_cons_zero, List.set_cons_succ]
                    refine T_take (k := 12) (v := .pointer (some ⟨T, 1, none⟩)) rfl (by decide +kernel) (fun _ _ _ h => h) (Or.inl ⟨by rfl, fun W hW => by obtain ⟨s0, s1, s2, s3, s4, s5⟩ := hW; go_simp⟩) HS0.out ?_
                    try simp only [Act.put, List.setIfInBounds_toArray, List.set_cons_zero, List.set_cons_succ]
                    refine T_take (k := 13) (v := .int .i64 yn) rfl (by decide +kernel) (fun _ _ _ h => h) (Or.inl ⟨by rfl, fun W hW => by obtain ⟨s0, s1, s2, s3, s4, s5⟩ := hW; go_simp⟩) HS0.out ?_
                    try simp only [Act.put, List.setIfInBounds_toArray, List.set_cons_zero, List.set_cons_succ]
                    refine T_take (k := 14) (v := .pointer (some ⟨L, yn, none⟩)) rfl (by decide +kernel) (fun _ _ _ h => h) (Or.inl ⟨by rfl, fun W hW => by obtain ⟨s0, s1, s2, s3, s4, s5⟩ := hW; go_simp⟩) HS0.out ?_
                    try simp only [Act.put, List.setIfInBounds_toArray, List.set_cons_zero, List.set_cons_succ]
                    refine T_take (k := 15) (v := .int .i64 a2) rfl (by decide +kernel) (fun _ _ _ h => h) (Or.inl ⟨by rfl, fun W hW => by obtain ⟨s0, s1, s2, s3, s4, s5⟩ := hW; go_simp⟩) HS0.out ?_
                    try simp only [Act.put, List.setIfInBounds_toArray, List.set_cons_zero, List.set_cons_succ]
                    refine T_take (k := 16) (v := .pointer (some ⟨T, 2, none⟩)) rfl (by decide +kernel) (fun _ _ _ h => h) (Or.inl ⟨by rfl, fun W hW => by obtain ⟨s0, s1, s2, s3, s4, s5⟩ := hW; go_simp⟩) HS0.out ?_
                    try simp only [Act.put, List.setIfInBounds_toArray, List.set_cons_zero, List.set_cons_succ]
                    refine T_take (k := 17) (v := .int .i64 z) rfl (by decide +kernel) (fun _ _ _ h => h) (Or.inl ⟨by rfl, fun W hW => by obtain ⟨s0, s1, s2, s3, s4, s5⟩ := hW; go_simp⟩) HS0.out ?_
                    try simp only [Act.put, List.setIfInBounds_toArray, List.set_cons_zero, List.set_cons_succ]
                    refine T_take (k := 18) (v := .agg #[.int .i64 a1, .int .i64 a2, .int .i64 z]) rfl (by decide +kernel) (fun _ _ _ h => h) (Or.inl ⟨by rfl, fun W hW => by obtain ⟨s0, s1, s2, s3, s4, s5⟩ := hW; go_simp⟩) HS0.out ?_
                    try simp only [Act.put, List.setIfInBounds_toArray, List.set_cons_zero, List.set_cons_succ]
                    refine T_one (i := 19) (by decide +kernel) rfl rfl (fun K hK19 => ?_)
                    have hK19 := Lib.hid hK19
                    go_simp
                    refine hK19.out _ _ HS1.out ?_
                    try simp only [Act.put, List.setIfInBounds_toArray, List.set_cons_zero, List.set_cons_succ]
                    refine T_one (i := 20) (by decide +kernel) rfl rfl (fun K hK20 => ?_)
                    have hK20 := Lib.hid hK20
                    refine app_wp3 (us := [.int .i64 a1, .int .i64 a2, .int .i64 z]) (c := 1) (H := w1.heap.size) (v := .slice AN (xN (ns.take k) of ws.length j).length cN) (.tmp 154) (.tmp 168) rfl elt_tri.big (by simp [Act.eval]) (by simp [Act.eval]) HoN.out Hnew.out rfl rfl (by omega) hbW ?_
                    intro v8 w8 hown8 hg8 hv8
                    obtain ⟨A8, c8, rfl⟩ := own_slice hown8
                    obtain ⟨d1, d2, d3, d4⟩ := HKS4.out.after (HvN.out ▸ hg8) ⟨j, hj, .inr (.inr rfl)⟩ hj
                    rw [HvN.out] at d3
                    have d5 := d4 (j * 3 + 1 + 1)
                    have HT8 := Lib.hid (HTm.out.grown hg8 (HvN.out ▸ HNT.out j hj))
                    have HS2 := Lib.hid (show SS g (j * 3 + 1 + 1) T L xn yn (.slice AN (xN (ns.take k) of ws.length j).length cN) xn yn z a1 a2 w8 from ⟨d3, HT8.out.cell 0, HT8.out.cell 1, HT8.out.cell 2, (HKS4.out.gr_grown hg8 (fun r hr => own_far HoN.out hr) xn).2.trans Hrx.out.1, (HKS4.out.gr_grown hg8 (fun r hr => own_far HoN.out hr) yn).2.trans Hrx.out.2⟩)
                    refine hK20.out _ _ HS2.out ?_
                    try simp only [Act.put, List.setIfInBounds_toArray, List.set_cons_zero, List.set_cons_succ]
                    refine T_one (i := 21) (by decide +kernel) rfl rfl (fun K hK21 => ?_)
                    have hK21 := Lib.hid hK21
                    go_simp
                    refine hK21.out _ _ HS2.out ?_
                    try simp only [Act.put, List.setIfInBounds_toArray, List.set_cons_zero, List.set_cons_succ]
                    refine T_one (i := 22) (by decide +kernel) rfl rfl (fun K hK22 => ?_)
                    have hK22 := Lib.hid hK22
                    go_simp
                    refine hK22.out _ _ HS2.out ?_
                    try simp only [Act.put, List.setIfInBounds_toArray, List.set_cons_zero, List.set_cons_succ]
                    refine T_take (k := 23) (v := .pointer (some ⟨g, j * 3 + 1 + 1, none⟩)) rfl (by decide +kernel) (fun _ _ _ h => h) (Or.inl ⟨by rfl, fun W hW => by obtain ⟨s0, s1, s2, s3, s4, s5⟩ := hW; go_simp⟩) HS2.out ?_
                    try simp only [Act.put, List.setIfInBounds_toArray, List.set_cons_zero, List.set_cons_succ]
                    refine T_last (by decide +kernel) (by decide +kernel) (by decide +kernel) rfl rfl (fun K hKl => ?_)
                    have hKl := Lib.hid hKl
                    go_simp
                    refine hKl.out _ _ (NoPanic.normal ?_)
                    try simp only [Act.put, List.setIfInBounds_toArray, List.set_cons_zero, List.set_cons_succ]
                    clear hKl hK19 hK20 hK21 hK22 HS0 HS1 HS2
                    go_wp2_with fail
                    go_roundw
                    case rel =>
                      have hst := xN_step (n := ws.length) ht.out (by simpa using Hyr.out.1) (by simpa using hxn0) Hyr.out.2.1 Hjr.out
                      have hks := HKS4.out.appN hj (x := (a1, a2, z)) (HvN.out ▸ hg8) hown8 (HvN.out ▸ hv8) (hst.trans (by rw [← ha1.out, ← ha2.out]; rfl))
                      exact ⟨k + 1, rt1, _, by omega, by go_num, hks, (Hb4.out.grown hg8 (hbz.out _ Hb4.out) (fun q hq => by have h1 := (HoN.out.lt q hq).1; have := HKS4.out.bd; omega)).setCell (p := ⟨g, j * 3 + 2, none⟩) (by have := HKS4.out.bd; show s ≤ g; omega) _⟩
                    case measure => simp [intOf]; omega
                · obtain rfl : k = ns.length := by omega
                  rw [List.take_length] at HKS
                  have hpl : (partsD ws ns).length = (rts of ws.length).length := by rw [partsD, Hof.out, partsO, List.length_map]
                  have hpr : PR wr s AO (partsD ws ns) := by rw [partsD, Hof.out]; exact HKS.out.parts (by have := HKS.out.bd; omega)
                  have Hres := Lib.hid (And.intro hpl hpr)
                  clear hpl hpr HKS
                  go_wp2_with fail
                  go_ret
                  refine ⟨AO, cO, ?_, by rw [Hs.out]; exact Hres.out.2, by rw [Hs.out]; exact Hb.out⟩
                  rw [Hres.out.1]
                  rfl
end Go.Proofs.Ytmdgdphhedgojaa

import Derived.Test.YtaegfljpodhnhaaR37
import Derived.Test.YtaegfljpodhnhaaR38
import Derived.Test.YtaegfljpodhnhaaR32
import Derived.Test.YtaegfljpodhnhaaR27
import Derived.Test.YtaegfljpodhnhaaT3
import Derived.Test.YtaegfljpodhnhaaR25
import Derived.Test.YtaegfljpodhnhaaR40
import Derived.Deep.DeepCutAuto
namespace Go.Proofs.Ytaegfljpodhnhaa
open Go.RowKit Go.Maps

set_option linter.unusedSimpArgs false in
set_option maxHeartbeats 16000000 in
set_option maxRecDepth 100000 in
theorem chains_walk (A B C : Option Addr) (ca cb cc : Nat) (l m k : List Int) (at_ how by_ scale_ : Int) (w : World) (hA : SI w A l) (hB : SI w B m) (hC : SI w C k) (hwl : W64 l) (hwm : W64 m) (hwk : W64 k)
    (h1 : -9223372036854775808 ≤ at_ ∧ at_ ≤ 9223372036854775807) (h2 : -9223372036854775808 ≤ how ∧ how ≤ 9223372036854775807) (h3 : -9223372036854775808 ≤ by_ ∧ by_ ≤ 9223372036854775807) (h4 : -9223372036854775808 ≤ scale_ ∧ scale_ ≤ 9223372036854775807) :
    Calls Try.prog 3 #[.slice A l.length ca, .slice B m.length cb, .slice C k.length cc, .int .i64 at_, .int .i64 how, .int .i64 by_, .int .i64 scale_] w fun e w' => e = .returned (.bool true) ∧ Below w.heap.size w w' := by
  go_enter Try.func3, Try.ntmps3
  go_wp2_with fail
  refine (graphs_any A B ca cb l m at_ how by_ w hA hB hwl hwm h1 h2 h3).mono ?_
  rintro e w1 ⟨g, gs, rfl, hG1, hb1⟩
  have HG1 := Lib.hid hG1
  have Hb1 := Lib.hid hb1
  clear hG1 hb1
  go_wp2_with fail
  refine (leasts_any C cc k by_ w1 (hC.below Hb1.out) hwk h3).mono ?_
  rintro e w2 ⟨q, ks, rfl, hK, hb2⟩
  have HG := Lib.hid (HG1.out.below hb2)
  have HK := Lib.hid hK
  have HB2 := Lib.hid (Hb1.out.trans (hb2.mono Hb1.out.size))
  clear hK hb2 HG1 Hb1
  go_wp2_with fail
  go_loopw [17] (fun i wr => ∃ j : Nat, j ≤ 3 ∧ i = .int .i64 j ∧ Below w2.heap.size w2 wr) (fun i _ => 3 - (intOf i).toNat)
  case atStart => exact ⟨0, by omega, rfl, Below.refl _ _⟩
  case round =>
    obtain ⟨j, hj, rfl, hb⟩ := hrel
    by_cases hlt : j < 3
    · obtain ⟨A1, c1, B1, d1, hga, hgb, hs1, hs2, hl1, hl2⟩ := HG.out j hlt
      generalize (gs j).1 = ws at *
      generalize (gs j).2 = ns at *
      have HSg0 := Lib.hid (fun W (hW : Below w2.heap.size w2 W) => And.intro ((hW.cell (World.block_lt_of_cell? _ _ hga)).trans hga) ((hW.cell (World.block_lt_of_cell? _ _ hgb)).trans hgb))
      have HSg := HSg0
      have Hs1 := Lib.hid hs1
      have Hs2 := Lib.hid hs2
      have Hbd := Lib.hid hb.drew
      have hj0 : (0 : Int) ≤ (j : Int) := by omega
      have hj3 : (j : Int) < 3 := by omega
      have HS0 := Lib.hid (HSg.out _ Hbd.out)
      have hv := bne_self_eq_false (validE ws ns)
      clear hga hgb hs1 hs2 hb hj
      go_upto_region 6 with fail
      refine wp_region_noPanic ?_
      refine region_H (S := fun W => W.cell? ⟨g, j * 2, none⟩ = some (.slice A1 ws.length c1) ∧ W.cell? ⟨g, j * 2 + 1, none⟩ = some (.slice B1 ns.length d1)) (by kernel_rfl) ?_
      change wpH _ _ _ _ 12 _ _ wr.drew
      refine H_take (k := 0) (v := .slice (some ⟨g, 0, none⟩) 3 3) rfl (by decide +kernel) (fun _ _ _ h => h) (Or.inl ⟨by rfl, fun W hW => by obtain ⟨s0, s1⟩ := hW; go_simp⟩) HS0.out ?_
      try simp only [Act.put, List.setIfInBounds_toArray, List.set_cons_zero, List.set_cons_succ]
      refine H_take (k := 1) (v := .int .i64 j) rfl (by decide +kernel) (fun _ _ _ h => h) (Or.inl ⟨by rfl, fun W hW => by obtain ⟨s0, s1⟩ := hW; go_simp⟩) HS0.out ?_
      try simp only [Act.put, List.setIfInBounds_toArray, List.set_cons_zero, List.set_cons_succ]
      refine H_take (k := 2) (v := .pointer (some ⟨g, j * 2, none⟩)) rfl (by decide +kernel) (fun _ _ _ h => h) (Or.inl ⟨by rfl, fun W hW => by obtain ⟨s0, s1⟩ := hW; go_simp⟩) HS0.out ?_
      try simp only [Act.put, List.setIfInBounds_toArray, List.set_cons_zero, List.set_cons_succ]
      refine H_take (k := 3) (v := .agg #[.slice A1 ws.length c1, .slice B1 ns.length d1]) rfl (by decide +kernel) (fun _ _ _ h => h) (Or.inl ⟨by rfl, fun W hW => by obtain ⟨s0, s1⟩ := hW; go_simp⟩) HS0.out ?_
      try simp only [Act.put, List.setIfInBounds_toArray, List.set_cons_zero, List.set_cons_succ]
      refine H_take (k := 6) (v := .slice (some ⟨g, 0, none⟩) 3 3) rfl (by decide +kernel) (fun _ _ _ h => h) (Or.inl ⟨by rfl, fun W hW => by obtain ⟨s0, s1⟩ := hW; go_simp⟩) HS0.out ?_
      try simp only [Act.put, List.setIfInBounds_toArray, List.set_cons_zero, List.set_cons_succ]
      refine H_take (k := 7) (v := .int .i64 j) rfl (by decide +kernel) (fun _ _ _ h => h) (Or.inl ⟨by rfl, fun W hW => by obtain ⟨s0, s1⟩ := hW; go_simp⟩) HS0.out ?_
      try simp only [Act.put, List.setIfInBounds_toArray, List.set_cons_zero, List.set_cons_succ]
      refine H_take (k := 8) (v := .pointer (some ⟨g, j * 2, none⟩)) rfl (by decide +kernel) (fun _ _ _ h => h) (Or.inl ⟨by rfl, fun W hW => by obtain ⟨s0, s1⟩ := hW; go_simp⟩) HS0.out ?_
      try simp only [Act.put, List.setIfInBounds_toArray, List.set_cons_zero, List.set_cons_succ]
      refine H_take (k := 9) (v := .agg #[.slice A1 ws.length c1, .slice B1 ns.length d1]) rfl (by decide +kernel) (fun _ _ _ h => h) (Or.inl ⟨by rfl, fun W hW => by obtain ⟨s0, s1⟩ := hW; go_simp⟩) HS0.out ?_
      try simp only [Act.put, List.setIfInBounds_toArray, List.set_cons_zero, List.set_cons_succ]
      refine H_one (i := 4) (by decide +kernel) (H_step rfl rfl (fun K hK8 => ?_))
      have hK8 := Lib.hid hK8
      go_simp
      go_at_call 13
      refine (own_any A1 B1 c1 d1 ws.length ns.length _).mono ?_
      rintro e w4 ⟨rfl, hb4⟩
      have Hb4 := Lib.hid (Hbd.out.trans (hb4.mono Hbd.out.size))
      have HS4 := Lib.hid (HSg.out _ Hb4.out)
      clear hb4
      refine hK8.out _ _ HS4.out ?_
      try simp only [Act.put, List.setIfInBounds_toArray, List.set_cons_zero, List.set_cons_succ]
      refine H_one (i := 5) (by decide +kernel) (H_step rfl rfl (fun K hK9 => ?_))
      have hK9 := Lib.hid hK9
      go_simp
      go_at_call 12
      refine (valid_any A1 B1 c1 d1 ws ns _ (Hs1.out.below Hb4.out) (Hs2.out.below Hb4.out) (by omega) (by omega)).mono ?_
      rintro e w5 ⟨rfl, hb5⟩
      have Hb5 := Lib.hid (Hb4.out.trans (hb5.mono Hb4.out.size))
      have HS5 := Lib.hid (HSg.out _ Hb5.out)
      clear hb5
      refine hK9.out _ _ HS5.out ?_
      try simp only [Act.put, List.setIfInBounds_toArray, List.set_cons_zero, List.set_cons_succ]
      refine H_one (i := 10) (by decide +kernel) (H_step rfl rfl (fun K hK10 => ?_))
      have hK10 := Lib.hid hK10
      go_simp
      go_at_call 14
      refine (refValid_any A1 B1 c1 d1 ws ns _ (Hs1.out.below Hb5.out) (Hs2.out.below Hb5.out) (by omega) (by omega)).mono ?_
      rintro e w6 ⟨rfl, hb6⟩
      have Hb6 := Lib.hid (Hb5.out.trans (hb6.mono Hb5.out.size))
      have HS6 := Lib.hid (HSg.out _ Hb6.out)
      clear hb6
      refine hK10.out _ _ HS6.out ?_
      try simp only [Act.put, List.setIfInBounds_toArray, List.set_cons_zero, List.set_cons_succ]
      refine H_one (i := 11) (by decide +kernel) (H_step rfl rfl (fun K hK11 => ?_))
      have hK11 := Lib.hid hK11
      go_simp
      refine hK11.out _ _ HS6.out ?_
      try simp only [Act.put, List.setIfInBounds_toArray, List.set_cons_zero, List.set_cons_succ]
      refine H_end (by decide +kernel) (NoPanic.normal ?_)
      try simp only [Act.put, List.setIfInBounds_toArray, List.set_cons_zero, List.set_cons_succ]
      clear HS0 HS4 HS5 HS6 Hb4 Hb5 HSg
      go_wp2_with fail
      go_loopw [18] (fun v wr => ∃ i : Nat, i ≤ 4 ∧ v = .int .i64 i ∧ Below w2.heap.size w2 wr) (fun v _ => 4 - (intOf v).toNat)
      case atStart => exact ⟨0, by omega, rfl, Hb6.out⟩
      case round =>
        clear Hb6 Hbd
        obtain ⟨i, hi, rfl, hb⟩ := hrel
        by_cases hlt2 : i < 4
        · obtain ⟨C1, f1, hka, hk1, hk2, hk3⟩ := HK.out i hlt2
          generalize ks i = ls at *
          have HSg := Lib.hid (fun W (hW : Below w2.heap.size w2 W) => And.intro (HSg0.out W hW).1 (And.intro (HSg0.out W hW).2 ((hW.cell (World.block_lt_of_cell? _ _ hka)).trans hka)))
          have Hs3 := Lib.hid hk1
          have Hbd := Lib.hid hb.drew
          have hi0 : (0 : Int) ≤ (i : Int) := by omega
          have hi4 : (i : Int) < 4 := by omega
          have HS0 := Lib.hid (HSg.out _ Hbd.out)
          clear hka hk1 hb hi
          go_upto_region 11 with fail
          go_cut [19, 20] (fun v x wx => ∃ t D m, v = .pointer (some ⟨t, 0, none⟩) ∧ x = .int .i64 (ofE ws ns ls) ∧ Bk wx t 36 #[.slice D (ofL ws ns ls).length m] ∧ SLL wx D (ofL ws ns ls) ∧ Below w2.heap.size w2 wx)
          case first =>
            refine wp_region_noPanic ?_
            refine region_H (S := fun W => W.cell? ⟨g, j * 2, none⟩ = some (.slice A1 ws.length c1) ∧ W.cell? ⟨g, j * 2 + 1, none⟩ = some (.slice B1 ns.length d1) ∧ W.cell? ⟨q, i, none⟩ = some (.slice C1 ls.length f1)) (by kernel_rfl) ?_
            change wpH _ _ _ _ 16 _ _ wr.drew
            refine H_take (k := 0) (v := .slice (some ⟨g, 0, none⟩) 3 3) rfl (by decide +kernel) (fun _ _ _ h => h) (Or.inl ⟨by rfl, fun W hW => by obtain ⟨s0, s1, s2⟩ := hW; go_simp⟩) HS0.out ?_
            try simp only [Act.put, List.setIfInBounds_toArray, List.set_cons_zero, List.set_cons_succ]
            refine H_take (k := 1) (v := .int .i64 j) rfl (by decide +kernel) (fun _ _ _ h => h) (Or.inl ⟨by rfl, fun W hW => by obtain ⟨s0, s1, s2⟩ := hW; go_simp⟩) HS0.out ?_
            try simp only [Act.put, List.setIfInBounds_toArray, List.set_cons_zero, List.set_cons_succ]
            refine H_take (k := 2) (v := .pointer (some ⟨g, j * 2, none⟩)) rfl (by decide +kernel) (fun _ _ _ h => h) (Or.inl ⟨by rfl, fun W hW => by obtain ⟨s0, s1, s2⟩ := hW; go_simp⟩) HS0.out ?_
            try simp only [Act.put, List.setIfInBounds_toArray, List.set_cons_zero, List.set_cons_succ]
            refine H_take (k := 3) (v := .agg #[.slice A1 ws.length c1, .slice B1 ns.length d1]) rfl (by decide +kernel) (fun _ _ _ h => h) (Or.inl ⟨by rfl, fun W hW => by obtain ⟨s0, s1, s2⟩ := hW; go_simp⟩) HS0.out ?_
            try simp only [Act.put, List.setIfInBounds_toArray, List.set_cons_zero, List.set_cons_succ]
            refine H_take (k := 5) (v := .slice (some ⟨q, 0, none⟩) 4 4) rfl (by decide +kernel) (fun _ _ _ h => h) (Or.inl ⟨by rfl, fun W hW => by obtain ⟨s0, s1, s2⟩ := hW; go_simp⟩) HS0.out ?_
            try simp only [Act.put, List.setIfInBounds_toArray, List.set_cons_zero, List.set_cons_succ]
            refine H_take (k := 6) (v := .int .i64 i) rfl (by decide +kernel) (fun _ _ _ h => h) (Or.inl ⟨by rfl, fun W hW => by obtain ⟨s0, s1, s2⟩ := hW; go_simp⟩) HS0.out ?_
            try simp only [Act.put, List.setIfInBounds_toArray, List.set_cons_zero, List.set_cons_succ]
            refine H_take (k := 7) (v := .pointer (some ⟨q, i, none⟩)) rfl (by decide +kernel) (fun _ _ _ h => h) (Or.inl ⟨by rfl, fun W hW => by obtain ⟨s0, s1, s2⟩ := hW; go_simp⟩) HS0.out ?_
            try simp only [Act.put, List.setIfInBounds_toArray, List.set_cons_zero, List.set_cons_succ]
            refine H_take (k := 8) (v := .slice C1 ls.length f1) rfl (by decide +kernel) (fun _ _ _ h => h) (Or.inl ⟨by rfl, fun W hW => by obtain ⟨s0, s1, s2⟩ := hW; go_simp⟩) HS0.out ?_
            try simp only [Act.put, List.setIfInBounds_toArray, List.set_cons_zero, List.set_cons_succ]
            refine H_two (i := 4) (j := 13) (by decide +kernel) (H_step rfl rfl (fun K hK8 => ?_)) (H_step rfl rfl (fun K hK8 => ?_))
            · have hK8 := Lib.hid hK8
              go_simp
              go_at_call 13
              refine (own_any A1 B1 c1 d1 ws.length ns.length _).mono ?_
              rintro e w7 ⟨rfl, hb7⟩
              have Hb7 := Lib.hid (Hbd.out.trans (hb7.mono Hbd.out.size))
              have HS7 := Lib.hid (HSg.out _ Hb7.out)
              clear hb7
              refine hK8.out _ _ HS7.out ?_
              try simp only [Act.put, List.setIfInBounds_toArray, List.set_cons_zero, List.set_cons_succ]
              refine H_two (i := 9) (j := 13) (by decide +kernel) (H_step rfl rfl (fun K hK9 => ?_)) (H_step rfl rfl (fun K hK9 => ?_))
              · have hK9 := Lib.hid hK9
                go_simp
                go_at_call 15
                refine (of_any A1 B1 C1 c1 d1 f1 ws ns ls _ (Hs1.out.below Hb7.out) (Hs2.out.below Hb7.out) (Hs3.out.below Hb7.out) (by omega) (by omega) (by omega)).mono ?_
                rintro e w8 ⟨D8, m8, vs8, rfl, hown8, hLL8, hb8⟩
                have Hb8 := Lib.hid (Hb7.out.trans (hb8.mono Hb7.out.size))
                have HS8 := Lib.hid (HSg.out _ Hb8.out)
                have Hown8 := Lib.hid (own_mono hown8 (Nat.zero_le _))
                have HLL8 := Lib.hid hLL8
                clear hb8 hown8 hLL8
                refine hK9.out _ _ HS8.out ?_
                try simp only [Act.put, List.setIfInBounds_toArray, List.set_cons_zero, List.set_cons_succ]
                refine H_take (k := 10) (v := .tuple #[.agg #[.slice D8 (ofL ws ns ls).length m8], .int .i64 (ofE ws ns ls)]) rfl (by decide +kernel) (fun _ _ _ h => h) (Or.inl ⟨by rfl, fun W hW => by obtain ⟨s0, s1, s2⟩ := hW; go_simp⟩) HS8.out ?_
                try simp only [Act.put, List.setIfInBounds_toArray, List.set_cons_zero, List.set_cons_succ]
                refine H_take (k := 11) (v := .agg #[.slice D8 (ofL ws ns ls).length m8]) rfl (by decide +kernel) (fun _ _ _ h => h) (Or.inl ⟨by rfl, fun W hW => by obtain ⟨s0, s1, s2⟩ := hW; go_simp⟩) HS8.out ?_
                try simp only [Act.put, List.setIfInBounds_toArray, List.set_cons_zero, List.set_cons_succ]
                refine H_take (k := 12) (v := .int .i64 (ofE ws ns ls)) rfl (by decide +kernel) (fun _ _ _ h => h) (Or.inl ⟨by rfl, fun W hW => by obtain ⟨s0, s1, s2⟩ := hW; go_simp⟩) HS8.out ?_
                try simp only [Act.put, List.setIfInBounds_toArray, List.set_cons_zero, List.set_cons_succ]
                refine H_one (i := 13) (by decide +kernel) (H_step rfl rfl (fun K hK13 => ?_))
                have hK13 := Lib.hid hK13
                go_simp
                have Hba := Lib.hid (show Below w2.heap.size w2 ((w8.alloc (.cells #[.slice none 0 0] 36))) from Hb8.out.alloc Hb8.out.size (.cells #[.slice none 0 0] 36))
                have Hbka := Lib.hid (show Bk ((w8.alloc (.cells #[.slice none 0 0] 36))) w8.heap.size 36 #[.slice none 0 0] from Bk.new (w8) 36 #[.slice none 0 0])
                have HSa := Lib.hid (HSg.out _ Hba.out)
                have Howna := Lib.hid (own_below Hown8.out ((Below.refl _ _).alloc (Nat.le_refl _) (.cells #[.slice none 0 0] 36)))
                have HLLa := Lib.hid (HLL8.out.below ((Below.refl _ _).alloc (Nat.le_refl _) (.cells #[.slice none 0 0] 36)))
                have hta : w2.heap.size ≤ w8.heap.size := Hb8.out.size
                generalize (w8.alloc (.cells #[.slice none 0 0] 36)) = wa at *
                generalize w8.heap.size = ta at *
                refine hK13.out _ _ HSa.out ?_
                try simp only [Act.put, List.setIfInBounds_toArray, List.set_cons_zero, List.set_cons_succ]
                refine H_one (i := 14) (by decide +kernel) (H_step rfl rfl (fun K hK14 => ?_))
                have hK14 := Lib.hid hK14
                go_simp
                have hca : (wa).cell? ⟨ta, 0, none⟩ = some (.slice none 0 0) := Hbka.out.cell 0
                have hfa := Hbka.out.frozen 0
                have Hbz := Lib.hid (Hba.out.setCell (p := ⟨ta, 0, none⟩) hta (.slice D8 (ofL ws ns ls).length m8))
                have Hbkz := Lib.hid (Hbka.out.set_ 0 (.slice D8 (ofL ws ns ls).length m8))
                have HSz := Lib.hid (HSg.out _ Hbz.out)
                have Hownz := Lib.hid (own_set (i := 0) Howna.out (Hbka.out.ne_own Howna.out (by decide)) (.slice D8 (ofL ws ns ls).length m8))
                have HLLz := Lib.hid (HLLa.out.set_ Hbka.out (by decide) 0 (.slice D8 (ofL ws ns ls).length m8))
                go_simp
                refine hK14.out _ _ HSz.out ?_
                try simp only [Act.put, List.setIfInBounds_toArray, List.set_cons_zero, List.set_cons_succ]
                refine H_one (i := 15) (by decide +kernel) (H_step rfl rfl (fun K hK15 => ?_))
                have hK15 := Lib.hid hK15
                go_simp
                refine hK15.out _ _ HSz.out ?_
                try simp only [Act.put, List.setIfInBounds_toArray, List.set_cons_zero, List.set_cons_succ]
                refine H_end (by decide +kernel) (NoPanic.normal ?_)
                try simp only [Act.put, List.setIfInBounds_toArray, List.set_cons_zero, List.set_cons_succ]
                go_wp2_with fail
                go_meet
                exact ⟨ta, D8, m8, rfl, rfl, Hbkz.out, SLL.of_rows Hownz.out HLLz.out (fun l hl => by have := ofL_lens (ws := ws) (ns := ns) (ls := ls) l hl; omega), Hbz.out⟩
              · have hK9 := Lib.hid hK9
                go_simp
                have Hba := Lib.hid (show Below w2.heap.size w2 ((w7.alloc (.cells #[.slice none 0 0] 36))) from Hb7.out.alloc Hb7.out.size (.cells #[.slice none 0 0] 36))
                have Hbka := Lib.hid (show Bk ((w7.alloc (.cells #[.slice none 0 0] 36))) w7.heap.size 36 #[.slice none 0 0] from Bk.new (w7) 36 #[.slice none 0 0])
                have HSa := Lib.hid (HSg.out _ Hba.out)
                have hta : w2.heap.size ≤ w7.heap.size := Hb7.out.size
                generalize (w7.alloc (.cells #[.slice none 0 0] 36)) = wa at *
                generalize w7.heap.size = ta at *
                refine hK9.out _ _ HSa.out ?_
                try simp only [Act.put, List.setIfInBounds_toArray, List.set_cons_zero, List.set_cons_succ]
                refine H_one (i := 9) (by decide +kernel) (H_step rfl rfl (fun K hK10 => ?_))
                have hK10 := Lib.hid hK10
                go_simp
                go_at_call 15
                refine (of_any A1 B1 C1 c1 d1 f1 ws ns ls _ (Hs1.out.below Hba.out) (Hs2.out.below Hba.out) (Hs3.out.below Hba.out) (by omega) (by omega) (by omega)).mono ?_
                rintro e w8 ⟨D8, m8, vs8, rfl, hown8, hLL8, hb8⟩
                have Hb8 := Lib.hid (Hba.out.trans (hb8.mono Hba.out.size))
                have HS8 := Lib.hid (HSg.out _ Hb8.out)
                have Hown8 := Lib.hid (own_mono hown8 (Nat.zero_le _))
                have HLL8 := Lib.hid hLL8
                have Hbk8 := Lib.hid (Hbka.out.below hb8 Hbka.out.lt)
                clear hb8 hown8 hLL8
                refine hK10.out _ _ HS8.out ?_
                try simp only [Act.put, List.setIfInBounds_toArray, List.set_cons_zero, List.set_cons_succ]
                refine H_take (k := 10) (v := .tuple #[.agg #[.slice D8 (ofL ws ns ls).length m8], .int .i64 (ofE ws ns ls)]) rfl (by decide +kernel) (fun _ _ _ h => h) (Or.inl ⟨by rfl, fun W hW => by obtain ⟨s0, s1, s2⟩ := hW; go_simp⟩) HS8.out ?_
                try simp only [Act.put, List.setIfInBounds_toArray, List.set_cons_zero, List.set_cons_succ]
                refine H_take (k := 11) (v := .agg #[.slice D8 (ofL ws ns ls).length m8]) rfl (by decide +kernel) (fun _ _ _ h => h) (Or.inl ⟨by rfl, fun W hW => by obtain ⟨s0, s1, s2⟩ := hW; go_simp⟩) HS8.out ?_
                try simp only [Act.put, List.setIfInBounds_toArray, List.set_cons_zero, List.set_cons_succ]
                refine H_take (k := 12) (v := .int .i64 (ofE ws ns ls)) rfl (by decide +kernel) (fun _ _ _ h => h) (Or.inl ⟨by rfl, fun W hW => by obtain ⟨s0, s1, s2⟩ := hW; go_simp⟩) HS8.out ?_
                try simp only [Act.put, List.setIfInBounds_toArray, List.set_cons_zero, List.set_cons_succ]
                refine H_one (i := 14) (by decide +kernel) (H_step rfl rfl (fun K hK14 => ?_))
                have hK14 := Lib.hid hK14
                go_simp
                have hca : (w8).cell? ⟨ta, 0, none⟩ = some (.slice none 0 0) := Hbk8.out.cell 0
                have hfa := Hbk8.out.frozen 0
                have Hbz := Lib.hid (Hb8.out.setCell (p := ⟨ta, 0, none⟩) hta (.slice D8 (ofL ws ns ls).length m8))
                have Hbkz := Lib.hid (Hbk8.out.set_ 0 (.slice D8 (ofL ws ns ls).length m8))
                have HSz := Lib.hid (HSg.out _ Hbz.out)
                have Hownz := Lib.hid (own_set (i := 0) Hown8.out (Hbk8.out.ne_own Hown8.out (by decide)) (.slice D8 (ofL ws ns ls).length m8))
                have HLLz := Lib.hid (HLL8.out.set_ Hbk8.out (by decide) 0 (.slice D8 (ofL ws ns ls).length m8))
                go_simp
                refine hK14.out _ _ HSz.out ?_
                try simp only [Act.put, List.setIfInBounds_toArray, List.set_cons_zero, List.set_cons_succ]
                refine H_one (i := 15) (by decide +kernel) (H_step rfl rfl (fun K hK15 => ?_))
                have hK15 := Lib.hid hK15
                go_simp
                refine hK15.out _ _ HSz.out ?_
                try simp only [Act.put, List.setIfInBounds_toArray, List.set_cons_zero, List.set_cons_succ]
                refine H_end (by decide +kernel) (NoPanic.normal ?_)
                try simp only [Act.put, List.setIfInBounds_toArray, List.set_cons_zero, List.set_cons_succ]
                go_wp2_with fail
                go_meet
                exact ⟨ta, D8, m8, rfl, rfl, Hbkz.out, SLL.of_rows Hownz.out HLLz.out (fun l hl => by have := ofL_lens (ws := ws) (ns := ns) (ls := ls) l hl; omega), Hbz.out⟩
            · have hK8 := Lib.hid hK8
              go_simp
              have Hba := Lib.hid (show Below w2.heap.size w2 ((wr.alloc (.cells #[.slice none 0 0] 36)).drew) from Hbd.out.alloc Hbd.out.size (.cells #[.slice none 0 0] 36))
              have Hbka := Lib.hid (show Bk ((wr.alloc (.cells #[.slice none 0 0] 36)).drew) wr.heap.size 36 #[.slice none 0 0] from Bk.new (wr.drew) 36 #[.slice none 0 0])
              have HSa := Lib.hid (HSg.out _ Hba.out)
              have hta : w2.heap.size ≤ wr.heap.size := Hbd.out.size
              generalize (wr.alloc (.cells #[.slice none 0 0] 36)).drew = wa at *
              generalize wr.heap.size = ta at *
              refine hK8.out _ _ HSa.out ?_
              try simp only [Act.put, List.setIfInBounds_toArray, List.set_cons_zero, List.set_cons_succ]
              refine H_one (i := 4) (by decide +kernel) (H_step rfl rfl (fun K hK9 => ?_))
              have hK9 := Lib.hid hK9
              go_simp
              go_at_call 13
              refine (own_any A1 B1 c1 d1 ws.length ns.length _).mono ?_
              rintro e w7 ⟨rfl, hb7⟩
              have Hb7 := Lib.hid (Hba.out.trans (hb7.mono Hba.out.size))
              have HS7 := Lib.hid (HSg.out _ Hb7.out)
              have Hbk7 := Lib.hid (Hbka.out.below hb7 Hbka.out.lt)
              clear hb7
              refine hK9.out _ _ HS7.out ?_
              try simp only [Act.put, List.setIfInBounds_toArray, List.set_cons_zero, List.set_cons_succ]
              refine H_one (i := 9) (by decide +kernel) (H_step rfl rfl (fun K hK10 => ?_))
              have hK10 := Lib.hid hK10
              go_simp
              go_at_call 15
              refine (of_any A1 B1 C1 c1 d1 f1 ws ns ls _ (Hs1.out.below Hb7.out) (Hs2.out.below Hb7.out) (Hs3.out.below Hb7.out) (by omega) (by omega) (by omega)).mono ?_
              rintro e w8 ⟨D8, m8, vs8, rfl, hown8, hLL8, hb8⟩
              have Hb8 := Lib.hid (Hb7.out.trans (hb8.mono Hb7.out.size))
              have HS8 := Lib.hid (HSg.out _ Hb8.out)
              have Hown8 := Lib.hid (own_mono hown8 (Nat.zero_le _))
              have HLL8 := Lib.hid hLL8
              have Hbk8 := Lib.hid (Hbk7.out.below hb8 Hbk7.out.lt)
              clear hb8 hown8 hLL8
              refine hK10.out _ _ HS8.out ?_
              try simp only [Act.put, List.setIfInBounds_toArray, List.set_cons_zero, List.set_cons_succ]
              refine H_take (k := 10) (v := .tuple #[.agg #[.slice D8 (ofL ws ns ls).length m8], .int .i64 (ofE ws ns ls)]) rfl (by decide +kernel) (fun _ _ _ h => h) (Or.inl ⟨by rfl, fun W hW => by obtain ⟨s0, s1, s2⟩ := hW; go_simp⟩) HS8.out ?_
              try simp only [Act.put, List.setIfInBounds_toArray, List.set_cons_zero, List.set_cons_succ]
              refine H_take (k := 11) (v := .agg #[.slice D8 (ofL ws ns ls).length m8]) rfl (by decide +kernel) (fun _ _ _ h => h) (Or.inl ⟨by rfl, fun W hW => by obtain ⟨s0, s1, s2⟩ := hW; go_simp⟩) HS8.out ?_
              try simp only [Act.put, List.setIfInBounds_toArray, List.set_cons_zero, List.set_cons_succ]
              refine H_take (k := 12) (v := .int .i64 (ofE ws ns ls)) rfl (by decide +kernel) (fun _ _ _ h => h) (Or.inl ⟨by rfl, fun W hW => by obtain ⟨s0, s1, s2⟩ := hW; go_simp⟩) HS8.out ?_
              try simp only [Act.put, List.setIfInBounds_toArray, List.set_cons_zero, List.set_cons_succ]
              refine H_one (i := 14) (by decide +kernel) (H_step rfl rfl (fun K hK14 => ?_))
              have hK14 := Lib.hid hK14
              go_simp
              have hca : (w8).cell? ⟨ta, 0, none⟩ = some (.slice none 0 0) := Hbk8.out.cell 0
              have hfa := Hbk8.out.frozen 0
              have Hbz := Lib.hid (Hb8.out.setCell (p := ⟨ta, 0, none⟩) hta (.slice D8 (ofL ws ns ls).length m8))
              have Hbkz := Lib.hid (Hbk8.out.set_ 0 (.slice D8 (ofL ws ns ls).length m8))
              have HSz := Lib.hid (HSg.out _ Hbz.out)
              have Hownz := Lib.hid (own_set (i := 0) Hown8.out (Hbk8.out.ne_own Hown8.out (by decide)) (.slice D8 (ofL ws ns ls).length m8))
              have HLLz := Lib.hid (HLL8.out.set_ Hbk8.out (by decide) 0 (.slice D8 (ofL ws ns ls).length m8))
              go_simp
              refine hK14.out _ _ HSz.out ?_
              try simp only [Act.put, List.setIfInBounds_toArray, List.set_cons_zero, List.set_cons_succ]
              refine H_one (i := 15) (by decide +kernel) (H_step rfl rfl (fun K hK15 => ?_))
              have hK15 := Lib.hid hK15
              go_simp
              refine hK15.out _ _ HSz.out ?_
              try simp only [Act.put, List.setIfInBounds_toArray, List.set_cons_zero, List.set_cons_succ]
              refine H_end (by decide +kernel) (NoPanic.normal ?_)
              try simp only [Act.put, List.setIfInBounds_toArray, List.set_cons_zero, List.set_cons_succ]
              go_wp2_with fail
              go_meet
              exact ⟨ta, D8, m8, rfl, rfl, Hbkz.out, SLL.of_rows Hownz.out HLLz.out (fun l hl => by have := ofL_lens (ws := ws) (ns := ns) (ls := ls) l hl; omega), Hbz.out⟩
          case rest =>
          obtain ⟨t8, D8, m8, rfl, rfl, hbk8, hsl8, hb8⟩ := hcut
          have Hbk8 := Lib.hid (hbk8.drewN 1)
          have Hsl8 := Lib.hid (hsl8.qt ⟨1, rfl⟩)
          have Hbd2 := Lib.hid hb8.drew
          have HS2 := Lib.hid (HSg.out _ Hbd2.out)
          clear hbk8 hsl8 hb8 HS0 Hbd
          go_upto_region 12 with fail
          refine wp_region_noPanic ?_
          refine region_H (S := fun W => W.cell? ⟨g, j * 2, none⟩ = some (.slice A1 ws.length c1) ∧ W.cell? ⟨g, j * 2 + 1, none⟩ = some (.slice B1 ns.length d1) ∧ W.cell? ⟨q, i, none⟩ = some (.slice C1 ls.length f1)) (by kernel_rfl) ?_
          change wpH _ _ _ _ 14 _ _ wc.drew
          refine H_take (k := 0) (v := .slice (some ⟨g, 0, none⟩) 3 3) rfl (by decide +kernel) (fun _ _ _ h => h) (Or.inl ⟨by rfl, fun W hW => by obtain ⟨s0, s1, s2⟩ := hW; go_simp⟩) HS2.out ?_
          try simp only [Act.put, List.setIfInBounds_toArray, List.set_cons_zero, List.set_cons_succ]
          refine H_take (k := 1) (v := .int .i64 j) rfl (by decide +kernel) (fun _ _ _ h => h) (Or.inl ⟨by rfl, fun W hW => by obtain ⟨s0, s1, s2⟩ := hW; go_simp⟩) HS2.out ?_
          try simp only [Act.put, List.setIfInBounds_toArray, List.set_cons_zero, List.set_cons_succ]
          refine H_take (k := 2) (v := .pointer (some ⟨g, j * 2, none⟩)) rfl (by decide +kernel) (fun _ _ _ h => h) (Or.inl ⟨by rfl, fun W hW => by obtain ⟨s0, s1, s2⟩ := hW; go_simp⟩) HS2.out ?_
          try simp only [Act.put, List.setIfInBounds_toArray, List.set_cons_zero, List.set_cons_succ]
          refine H_take (k := 3) (v := .agg #[.slice A1 ws.length c1, .slice B1 ns.length d1]) rfl (by decide +kernel) (fun _ _ _ h => h) (Or.inl ⟨by rfl, fun W hW => by obtain ⟨s0, s1, s2⟩ := hW; go_simp⟩) HS2.out ?_
          try simp only [Act.put, List.setIfInBounds_toArray, List.set_cons_zero, List.set_cons_succ]
          refine H_take (k := 4) (v := .slice (some ⟨q, 0, none⟩) 4 4) rfl (by decide +kernel) (fun _ _ _ h => h) (Or.inl ⟨by rfl, fun W hW => by obtain ⟨s0, s1, s2⟩ := hW; go_simp⟩) HS2.out ?_
          try simp only [Act.put, List.setIfInBounds_toArray, List.set_cons_zero, List.set_cons_succ]
          refine H_take (k := 5) (v := .int .i64 i) rfl (by decide +kernel) (fun _ _ _ h => h) (Or.inl ⟨by rfl, fun W hW => by obtain ⟨s0, s1, s2⟩ := hW; go_simp⟩) HS2.out ?_
          try simp only [Act.put, List.setIfInBounds_toArray, List.set_cons_zero, List.set_cons_succ]
          refine H_take (k := 6) (v := .pointer (some ⟨q, i, none⟩)) rfl (by decide +kernel) (fun _ _ _ h => h) (Or.inl ⟨by rfl, fun W hW => by obtain ⟨s0, s1, s2⟩ := hW; go_simp⟩) HS2.out ?_
          try simp only [Act.put, List.setIfInBounds_toArray, List.set_cons_zero, List.set_cons_succ]
          refine H_take (k := 7) (v := .slice C1 ls.length f1) rfl (by decide +kernel) (fun _ _ _ h => h) (Or.inl ⟨by rfl, fun W hW => by obtain ⟨s0, s1, s2⟩ := hW; go_simp⟩) HS2.out ?_
          try simp only [Act.put, List.setIfInBounds_toArray, List.set_cons_zero, List.set_cons_succ]
          refine H_one (i := 8) (by decide +kernel) (H_step rfl rfl (fun K hK8 => ?_))
          have hK8 := Lib.hid hK8
          go_simp
          go_at_call 16
          refine (refOf_any A1 B1 C1 c1 d1 f1 ws ns ls _ (Hs1.out.below Hbd2.out) (Hs2.out.below Hbd2.out) (Hs3.out.below Hbd2.out) (by omega) (by omega) (by omega)).mono ?_
          rintro e w9 ⟨D9, m9, rfl, hsl9, hb9⟩
          have Hb9 := Lib.hid (Hbd2.out.trans (hb9.mono Hbd2.out.size))
          have HS9 := Lib.hid (HSg.out _ Hb9.out)
          have Hsl9 := Lib.hid hsl9
          have Hsl8 := Lib.hid (Hsl8.out.below hb9)
          have Hbk8 := Lib.hid (Hbk8.out.below hb9 Hbk8.out.lt)
          clear hb9 hsl9
          refine hK8.out _ _ HS9.out ?_
          try simp only [Act.put, List.setIfInBounds_toArray, List.set_cons_zero, List.set_cons_succ]
          refine H_take (k := 9) (v := .tuple #[.slice D9 (ofL ws ns ls).length m9, .int .i64 (ofE ws ns ls)]) rfl (by decide +kernel) (fun _ _ _ h => h) (Or.inl ⟨by rfl, fun W hW => by obtain ⟨s0, s1, s2⟩ := hW; go_simp⟩) HS9.out ?_
          try simp only [Act.put, List.setIfInBounds_toArray, List.set_cons_zero, List.set_cons_succ]
          refine H_take (k := 10) (v := .slice D9 (ofL ws ns ls).length m9) rfl (by decide +kernel) (fun _ _ _ h => h) (Or.inl ⟨by rfl, fun W hW => by obtain ⟨s0, s1, s2⟩ := hW; go_simp⟩) HS9.out ?_
          try simp only [Act.put, List.setIfInBounds_toArray, List.set_cons_zero, List.set_cons_succ]
          refine H_take (k := 11) (v := .int .i64 (ofE ws ns ls)) rfl (by decide +kernel) (fun _ _ _ h => h) (Or.inl ⟨by rfl, fun W hW => by obtain ⟨s0, s1, s2⟩ := hW; go_simp⟩) HS9.out ?_
          try simp only [Act.put, List.setIfInBounds_toArray, List.set_cons_zero, List.set_cons_succ]
          refine H_one (i := 12) (by decide +kernel) (H_step rfl rfl (fun K hK12 => ?_))
          have hK12 := Lib.hid hK12
          go_simp
          refine hK12.out _ _ HS9.out ?_
          try simp only [Act.put, List.setIfInBounds_toArray, List.set_cons_zero, List.set_cons_succ]
          refine H_one (i := 13) (by decide +kernel) (H_step rfl rfl (fun K hK13 => ?_))
          have hK13 := Lib.hid hK13
          go_simp
          refine hK13.out _ _ HS9.out ?_
          try simp only [Act.put, List.setIfInBounds_toArray, List.set_cons_zero, List.set_cons_succ]
          refine H_end (by decide +kernel) (NoPanic.normal ?_)
          try simp only [Act.put, List.setIfInBounds_toArray, List.set_cons_zero, List.set_cons_succ]
          clear HS9 HS2
          have hLl : ∀ l ∈ ofL ws ns ls, l.length ≤ 4611686018427387904 := fun l hl => by
            have := ofL_lens (ws := ws) (ns := ns) (ls := ls) l hl
            omega
          have hLn : (ofL ws ns ls).length ≤ 4611686018427387904 := by
            have : (ofL ws ns ls).length ≤ ls.length := by unfold ofL; split <;> simp [lists_len]
            omega
          have hbe := bne_self_eq_false (ofE ws ns ls)
          have Hc8 := Lib.hid (show w9.cell? ⟨t8, 0, none⟩ = some (.slice D8 (ofL ws ns ls).length m8) from Hbk8.out.cell 0)
          generalize ofL ws ns ls = L at *
          have Hsm := Lib.hid (fun W (hq : Qt w9 W) => show Calls Try.prog 17 #[.slice D8 L.length m8, .slice D9 L.length m9] W (fun e w' => e = .returned (.bool true) ∧ Qt W w') from by
            have := sameLists_any D8 D9 m8 m9 L L W (Hsl8.out.qt hq) (Hsl9.out.qt hq) hLn hLl hLl
            rw [show decide (L = L) = true from by simp] at this
            exact this)
          have hc8 := Hc8.out
          clear Hsl8 Hsl9 hLl hLn Hbk8 Hc8
          go_upto_region 15 with (go_at_call 17; refine (Hsm.out _ ⟨0, rfl⟩).mono ?_; rintro e w10 ⟨rfl, hq10⟩)
          have Hb10 := Lib.hid (hq10.bl Hb9.out)
          have hs3 := (HSg.out _ Hb10.out).2.2
          clear Hsm hq10 Hb9 hbe hc8
          have Har := Lib.hid (fun W => around_any scale_ ((ls.length : Int) + 1) W h4.1 h4.2 (by omega) (by omega))
          have hwr : IntKind.i64.wrap ((ls.length : Int) + 1) = (ls.length : Int) + 1 := IntWalk.i64_in _ (by omega)
          generalize around scale_ ((ls.length : Int) + 1) = r0 at *
          go_upto_region 16 with (go_at_call 18; refine (Har.out _).mono ?_; rintro e w' ⟨rfl, rfl⟩)
          clear Har hwr hs3
          have Hbs := Lib.hid (Hb10.out.alloc Hb10.out.size (.cells #[.int .i64 r0, .int .i64 scale_, .int .i64 (-1)] 3))
          have Hbks := Lib.hid (Bk.new w10 3 #[.int .i64 r0, .int .i64 scale_, .int .i64 (-1)])
          generalize w10.alloc (.cells #[.int .i64 r0, .int .i64 scale_, .int .i64 (-1)] 3) = wS at *
          generalize w10.heap.size = ts at *
          have Hs1S := Lib.hid (Hs1.out.below Hbs.out)
          have Hs2S := Lib.hid (Hs2.out.below Hbs.out)
          have Hs3S := Lib.hid (Hs3.out.below Hbs.out)
          go_wp2_with fail
          go_loopw [24] (fun v wr => ∃ n : Nat, n ≤ 3 ∧ v = .int .i64 n ∧ Below wS.heap.size wS wr) (fun v _ => 3 - (intOf v).toNat)
          case atStart => exact ⟨0, by omega, rfl, Below.refl _ _⟩
          case round =>
            obtain ⟨n, hn, rfl, hb⟩ := hrel
            by_cases hlt3 : n < 3
            · obtain ⟨s, hsS⟩ : ∃ s, wS.cell? ⟨ts, n, none⟩ = some (.int .i64 s) := by
                rcases (by omega : n = 0 ∨ n = 1 ∨ n = 2) with rfl | rfl | rfl
                · exact ⟨_, Hbks.out.cell 0⟩
                · exact ⟨_, Hbks.out.cell 1⟩
                · exact ⟨_, Hbks.out.cell 2⟩
              have HSq := Lib.hid (fun W (hW : Below wS.heap.size wS W) => And.intro (HSg.out W (Hbs.out.trans (hW.mono Hbs.out.size))).1 (And.intro (HSg.out W (Hbs.out.trans (hW.mono Hbs.out.size))).2.1 (And.intro (HSg.out W (Hbs.out.trans (hW.mono Hbs.out.size))).2.2 ((hW.cell (World.block_lt_of_cell? _ _ hsS)).trans hsS))))
              have HbS := Lib.hid hb.drew
              have hn0 : (0 : Int) ≤ (n : Int) := by omega
              have hn3 : (n : Int) < 3 := by omega
              have HS0 := Lib.hid (HSq.out _ HbS.out)
              clear hsS hb hn
              go_upto_region 19 with fail
              refine wp_region_noPanic ?_
              refine region_H (S := fun W => W.cell? ⟨g, j * 2, none⟩ = some (.slice A1 ws.length c1) ∧ W.cell? ⟨g, j * 2 + 1, none⟩ = some (.slice B1 ns.length d1) ∧ W.cell? ⟨q, i, none⟩ = some (.slice C1 ls.length f1) ∧ W.cell? ⟨ts, n, none⟩ = some (.int .i64 s)) (by kernel_rfl) ?_
              change wpH _ _ _ _ 19 _ _ wr.drew
              refine H_take (k := 0) (v := .slice (some ⟨g, 0, none⟩) 3 3) rfl (by decide +kernel) (fun _ _ _ h => h) (Or.inl ⟨by rfl, fun W hW => by obtain ⟨s0, s1, s2, s3⟩ := hW; go_simp⟩) HS0.out ?_
              try simp only [Act.put, List.setIfInBounds_toArray, List.set_cons_zero, List.set_cons_succ]
              refine H_take (k := 1) (v := .int .i64 j) rfl (by decide +kernel) (fun _ _ _ h => h) (Or.inl ⟨by rfl, fun W hW => by obtain ⟨s0, s1, s2, s3⟩ := hW; go_simp⟩) HS0.out ?_
              try simp only [Act.put, List.setIfInBounds_toArray, List.set_cons_zero, List.set_cons_succ]
              refine H_take (k := 2) (v := .pointer (some ⟨g, j * 2, none⟩)) rfl (by decide +kernel) (fun _ _ _ h => h) (Or.inl ⟨by rfl, fun W hW => by obtain ⟨s0, s1, s2, s3⟩ := hW; go_simp⟩) HS0.out ?_
              try simp only [Act.put, List.setIfInBounds_toArray, List.set_cons_zero, List.set_cons_succ]
              refine H_take (k := 3) (v := .agg #[.slice A1 ws.length c1, .slice B1 ns.length d1]) rfl (by decide +kernel) (fun _ _ _ h => h) (Or.inl ⟨by rfl, fun W hW => by obtain ⟨s0, s1, s2, s3⟩ := hW; go_simp⟩) HS0.out ?_
              try simp only [Act.put, List.setIfInBounds_toArray, List.set_cons_zero, List.set_cons_succ]
              refine H_take (k := 5) (v := .slice (some ⟨q, 0, none⟩) 4 4) rfl (by decide +kernel) (fun _ _ _ h => h) (Or.inl ⟨by rfl, fun W hW => by obtain ⟨s0, s1, s2, s3⟩ := hW; go_simp⟩) HS0.out ?_
              try simp only [Act.put, List.setIfInBounds_toArray, List.set_cons_zero, List.set_cons_succ]
              refine H_take (k := 6) (v := .int .i64 i) rfl (by decide +kernel) (fun _ _ _ h => h) (Or.inl ⟨by rfl, fun W hW => by obtain ⟨s0, s1, s2, s3⟩ := hW; go_simp⟩) HS0.out ?_
              try simp only [Act.put, List.setIfInBounds_toArray, List.set_cons_zero, List.set_cons_succ]
              refine H_take (k := 7) (v := .pointer (some ⟨q, i, none⟩)) rfl (by decide +kernel) (fun _ _ _ h => h) (Or.inl ⟨by rfl, fun W hW => by obtain ⟨s0, s1, s2, s3⟩ := hW; go_simp⟩) HS0.out ?_
              try simp only [Act.put, List.setIfInBounds_toArray, List.set_cons_zero, List.set_cons_succ]
              refine H_take (k := 8) (v := .slice C1 ls.length f1) rfl (by decide +kernel) (fun _ _ _ h => h) (Or.inl ⟨by rfl, fun W hW => by obtain ⟨s0, s1, s2, s3⟩ := hW; go_simp⟩) HS0.out ?_
              try simp only [Act.put, List.setIfInBounds_toArray, List.set_cons_zero, List.set_cons_succ]
              refine H_take (k := 9) (v := .slice (some ⟨ts, 0, none⟩) 3 3) rfl (by decide +kernel) (fun _ _ _ h => h) (Or.inl ⟨by rfl, fun W hW => by obtain ⟨s0, s1, s2, s3⟩ := hW; go_simp⟩) HS0.out ?_
              try simp only [Act.put, List.setIfInBounds_toArray, List.set_cons_zero, List.set_cons_succ]
              refine H_take (k := 10) (v := .int .i64 n) rfl (by decide +kernel) (fun _ _ _ h => h) (Or.inl ⟨by rfl, fun W hW => by obtain ⟨s0, s1, s2, s3⟩ := hW; go_simp⟩) HS0.out ?_
              try simp only [Act.put, List.setIfInBounds_toArray, List.set_cons_zero, List.set_cons_succ]
              refine H_take (k := 11) (v := .pointer (some ⟨ts, n, none⟩)) rfl (by decide +kernel) (fun _ _ _ h => h) (Or.inl ⟨by rfl, fun W hW => by obtain ⟨s0, s1, s2, s3⟩ := hW; go_simp⟩) HS0.out ?_
              try simp only [Act.put, List.setIfInBounds_toArray, List.set_cons_zero, List.set_cons_succ]
              refine H_take (k := 12) (v := .int .i64 s) rfl (by decide +kernel) (fun _ _ _ h => h) (Or.inl ⟨by rfl, fun W hW => by obtain ⟨s0, s1, s2, s3⟩ := hW; go_simp⟩) HS0.out ?_
              try simp only [Act.put, List.setIfInBounds_toArray, List.set_cons_zero, List.set_cons_succ]
              refine H_one (i := 4) (by decide +kernel) (H_step rfl rfl (fun K hK12 => ?_))
              have hK12 := Lib.hid hK12
              go_simp
              go_at_call 13
              refine (own_any A1 B1 c1 d1 ws.length ns.length _).mono ?_
              rintro e w13 ⟨rfl, hb13⟩
              have Hb13 := Lib.hid (HbS.out.trans (hb13.mono HbS.out.size))
              have HS13 := Lib.hid (HSq.out _ Hb13.out)
              clear hb13
              refine hK12.out _ _ HS13.out ?_
              try simp only [Act.put, List.setIfInBounds_toArray, List.set_cons_zero, List.set_cons_succ]
              refine H_one (i := 13) (by decide +kernel) (H_step rfl rfl (fun K hK13 => ?_))
              have hK13 := Lib.hid hK13
              go_simp
              go_at_call 19
              refine (steps_any A1 B1 C1 c1 d1 f1 ws ns ls s _ (Hs1S.out.below Hb13.out) (Hs2S.out.below Hb13.out) (Hs3S.out.below Hb13.out) (by omega) (by omega) (by omega) hk2).mono ?_
              rintro e w14 ⟨D14, m14, rfl, hown14, hb14⟩
              have Hb14 := Lib.hid (Hb13.out.trans (hb14.mono Hb13.out.size))
              have HS14 := Lib.hid (HSq.out _ Hb14.out)
              have Hp14 := Lib.hid (SL.of_own hown14)
              clear hb14 hown14
              refine hK13.out _ _ HS14.out ?_
              try simp only [Act.put, List.setIfInBounds_toArray, List.set_cons_zero, List.set_cons_succ]
              refine H_take (k := 14) (v := .tuple #[.slice D14 (stL ws ns ls s).length m14, .int .i64 (stE ws ns ls s)]) rfl (by decide +kernel) (fun _ _ _ h => h) (Or.inl ⟨by rfl, fun W hW => by obtain ⟨s0, s1, s2, s3⟩ := hW; go_simp⟩) HS14.out ?_
              try simp only [Act.put, List.setIfInBounds_toArray, List.set_cons_zero, List.set_cons_succ]
              refine H_take (k := 15) (v := .slice D14 (stL ws ns ls s).length m14) rfl (by decide +kernel) (fun _ _ _ h => h) (Or.inl ⟨by rfl, fun W hW => by obtain ⟨s0, s1, s2, s3⟩ := hW; go_simp⟩) HS14.out ?_
              try simp only [Act.put, List.setIfInBounds_toArray, List.set_cons_zero, List.set_cons_succ]
              refine H_take (k := 16) (v := .int .i64 (stE ws ns ls s)) rfl (by decide +kernel) (fun _ _ _ h => h) (Or.inl ⟨by rfl, fun W hW => by obtain ⟨s0, s1, s2, s3⟩ := hW; go_simp⟩) HS14.out ?_
              try simp only [Act.put, List.setIfInBounds_toArray, List.set_cons_zero, List.set_cons_succ]
              refine H_one (i := 17) (by decide +kernel) (H_step rfl rfl (fun K hK17 => ?_))
              have hK17 := Lib.hid hK17
              go_simp
              refine hK17.out _ _ HS14.out ?_
              try simp only [Act.put, List.setIfInBounds_toArray, List.set_cons_zero, List.set_cons_succ]
              refine H_one (i := 18) (by decide +kernel) (H_step rfl rfl (fun K hK18 => ?_))
              have hK18 := Lib.hid hK18
              go_simp
              refine hK18.out _ _ HS14.out ?_
              try simp only [Act.put, List.setIfInBounds_toArray, List.set_cons_zero, List.set_cons_succ]
              refine H_end (by decide +kernel) (NoPanic.normal ?_)
              try simp only [Act.put, List.setIfInBounds_toArray, List.set_cons_zero, List.set_cons_succ]
              clear HS0 HS13 HS14 HbS Hb13
              have HbS2 := Lib.hid Hb14.out.drew
              have HS0b := Lib.hid (HSq.out _ HbS2.out)
              have Hp14 := Lib.hid (Hp14.out.qt (w' := w14.drew) ⟨1, rfl⟩)
              go_upto_region 20 with fail
              refine wp_region_noPanic ?_
              refine region_H (S := fun W => W.cell? ⟨g, j * 2, none⟩ = some (.slice A1 ws.length c1) ∧ W.cell? ⟨g, j * 2 + 1, none⟩ = some (.slice B1 ns.length d1) ∧ W.cell? ⟨q, i, none⟩ = some (.slice C1 ls.length f1) ∧ W.cell? ⟨ts, n, none⟩ = some (.int .i64 s)) (by kernel_rfl) ?_
              change wpH _ _ _ _ 18 _ _ w14.drew
              refine H_take (k := 0) (v := .slice (some ⟨g, 0, none⟩) 3 3) rfl (by decide +kernel) (fun _ _ _ h => h) (Or.inl ⟨by rfl, fun W hW => by obtain ⟨s0, s1, s2, s3⟩ := hW; go_simp⟩) HS0b.out ?_
              try simp only [Act.put, List.setIfInBounds_toArray, List.set_cons_zero, List.set_cons_succ]
              refine H_take (k := 1) (v := .int .i64 j) rfl (by decide +kernel) (fun _ _ _ h => h) (Or.inl ⟨by rfl, fun W hW => by obtain ⟨s0, s1, s2, s3⟩ := hW; go_simp⟩) HS0b.out ?_
              try simp only [Act.put, List.setIfInBounds_toArray, List.set_cons_zero, List.set_cons_succ]
              refine H_take (k := 2) (v := .pointer (some ⟨g, j * 2, none⟩)) rfl (by decide +kernel) (fun _ _ _ h => h) (Or.inl ⟨by rfl, fun W hW => by obtain ⟨s0, s1, s2, s3⟩ := hW; go_simp⟩) HS0b.out ?_
              try simp only [Act.put, List.setIfInBounds_toArray, List.set_cons_zero, List.set_cons_succ]
              refine H_take (k := 3) (v := .agg #[.slice A1 ws.length c1, .slice B1 ns.length d1]) rfl (by decide +kernel) (fun _ _ _ h => h) (Or.inl ⟨by rfl, fun W hW => by obtain ⟨s0, s1, s2, s3⟩ := hW; go_simp⟩) HS0b.out ?_
              try simp only [Act.put, List.setIfInBounds_toArray, List.set_cons_zero, List.set_cons_succ]
              refine H_take (k := 4) (v := .slice (some ⟨q, 0, none⟩) 4 4) rfl (by decide +kernel) (fun _ _ _ h => h) (Or.inl ⟨by rfl, fun W hW => by obtain ⟨s0, s1, s2, s3⟩ := hW; go_simp⟩) HS0b.out ?_
              try simp only [Act.put, List.setIfInBounds_toArray, List.set_cons_zero, List.set_cons_succ]
              refine H_take (k := 5) (v := .int .i64 i) rfl (by decide +kernel) (fun _ _ _ h => h) (Or.inl ⟨by rfl, fun W hW => by obtain ⟨s0, s1, s2, s3⟩ := hW; go_simp⟩) HS0b.out ?_
              try simp only [Act.put, List.setIfInBounds_toArray, List.set_cons_zero, List.set_cons_succ]
              refine H_take (k := 6) (v := .pointer (some ⟨q, i, none⟩)) rfl (by decide +kernel) (fun _ _ _ h => h) (Or.inl ⟨by rfl, fun W hW => by obtain ⟨s0, s1, s2, s3⟩ := hW; go_simp⟩) HS0b.out ?_
              try simp only [Act.put, List.setIfInBounds_toArray, List.set_cons_zero, List.set_cons_succ]
              refine H_take (k := 7) (v := .slice C1 ls.length f1) rfl (by decide +kernel) (fun _ _ _ h => h) (Or.inl ⟨by rfl, fun W hW => by obtain ⟨s0, s1, s2, s3⟩ := hW; go_simp⟩) HS0b.out ?_
              try simp only [Act.put, List.setIfInBounds_toArray, List.set_cons_zero, List.set_cons_succ]
              refine H_take (k := 8) (v := .slice (some ⟨ts, 0, none⟩) 3 3) rfl (by decide +kernel) (fun _ _ _ h => h) (Or.inl ⟨by rfl, fun W hW => by obtain ⟨s0, s1, s2, s3⟩ := hW; go_simp⟩) HS0b.out ?_
              try simp only [Act.put, List.setIfInBounds_toArray, List.set_cons_zero, List.set_cons_succ]
              refine H_take (k := 9) (v := .int .i64 n) rfl (by decide +kernel) (fun _ _ _ h => h) (Or.inl ⟨by rfl, fun W hW => by obtain ⟨s0, s1, s2, s3⟩ := hW; go_simp⟩) HS0b.out ?_
              try simp only [Act.put, List.setIfInBounds_toArray, List.set_cons_zero, List.set_cons_succ]
              refine H_take (k := 10) (v := .pointer (some ⟨ts, n, none⟩)) rfl (by decide +kernel) (fun _ _ _ h => h) (Or.inl ⟨by rfl, fun W hW => by obtain ⟨s0, s1, s2, s3⟩ := hW; go_simp⟩) HS0b.out ?_
              try simp only [Act.put, List.setIfInBounds_toArray, List.set_cons_zero, List.set_cons_succ]
              refine H_take (k := 11) (v := .int .i64 s) rfl (by decide +kernel) (fun _ _ _ h => h) (Or.inl ⟨by rfl, fun W hW => by obtain ⟨s0, s1, s2, s3⟩ := hW; go_simp⟩) HS0b.out ?_
              try simp only [Act.put, List.setIfInBounds_toArray, List.set_cons_zero, List.set_cons_succ]
              refine H_one (i := 12) (by decide +kernel) (H_step rfl rfl (fun K hK12 => ?_))
              have hK12 := Lib.hid hK12
              go_simp
              go_at_call 20
              refine (refSteps_any A1 B1 C1 c1 d1 f1 ws ns ls s _ (Hs1S.out.below HbS2.out) (Hs2S.out.below HbS2.out) (Hs3S.out.below HbS2.out) (by omega) (by omega) (by omega)).mono ?_
              rintro e w15 ⟨D15, m15, rfl, hp15, hb15⟩
              have Hb15 := Lib.hid (HbS2.out.trans (hb15.mono HbS2.out.size))
              have HS15 := Lib.hid (HSq.out _ Hb15.out)
              have Hp15 := Lib.hid hp15
              have Hp14 := Lib.hid (Hp14.out.below hb15)
              clear hb15 hp15
              refine hK12.out _ _ HS15.out ?_
              try simp only [Act.put, List.setIfInBounds_toArray, List.set_cons_zero, List.set_cons_succ]
              refine H_take (k := 13) (v := .tuple #[.slice D15 (stL ws ns ls s).length m15, .int .i64 (stE ws ns ls s)]) rfl (by decide +kernel) (fun _ _ _ h => h) (Or.inl ⟨by rfl, fun W hW => by obtain ⟨s0, s1, s2, s3⟩ := hW; go_simp⟩) HS15.out ?_
              try simp only [Act.put, List.setIfInBounds_toArray, List.set_cons_zero, List.set_cons_succ]
              refine H_take (k := 14) (v := .slice D15 (stL ws ns ls s).length m15) rfl (by decide +kernel) (fun _ _ _ h => h) (Or.inl ⟨by rfl, fun W hW => by obtain ⟨s0, s1, s2, s3⟩ := hW; go_simp⟩) HS15.out ?_
              try simp only [Act.put, List.setIfInBounds_toArray, List.set_cons_zero, List.set_cons_succ]
              refine H_take (k := 15) (v := .int .i64 (stE ws ns ls s)) rfl (by decide +kernel) (fun _ _ _ h => h) (Or.inl ⟨by rfl, fun W hW => by obtain ⟨s0, s1, s2, s3⟩ := hW; go_simp⟩) HS15.out ?_
              try simp only [Act.put, List.setIfInBounds_toArray, List.set_cons_zero, List.set_cons_succ]
              refine H_one (i := 16) (by decide +kernel) (H_step rfl rfl (fun K hK16 => ?_))
              have hK16 := Lib.hid hK16
              go_simp
              refine hK16.out _ _ HS15.out ?_
              try simp only [Act.put, List.setIfInBounds_toArray, List.set_cons_zero, List.set_cons_succ]
              refine H_one (i := 17) (by decide +kernel) (H_step rfl rfl (fun K hK17 => ?_))
              have hK17 := Lib.hid hK17
              go_simp
              refine hK17.out _ _ HS15.out ?_
              try simp only [Act.put, List.setIfInBounds_toArray, List.set_cons_zero, List.set_cons_succ]
              refine H_end (by decide +kernel) (NoPanic.normal ?_)
              try simp only [Act.put, List.setIfInBounds_toArray, List.set_cons_zero, List.set_cons_succ]
              clear HS0b HS15 HbS2 HSq Hb14
              have hbe := bne_self_eq_false (stE ws ns ls s)
              have hSn := stL_len ws ns ls s
              generalize stL ws ns ls s = T at *
              have hbl := bne_self_eq_false (T.length : Int)
              go_wp2_with fail
              go_loopw [29] (fun v wr => ∃ x : Nat, x ≤ T.length ∧ v = .int .i64 x ∧ Qt w15 wr) (fun v _ => T.length - (intOf v).toNat)
              case atStart => exact ⟨0, by omega, rfl, ⟨0, rfl⟩⟩
              case round =>
                obtain ⟨x, hx, rfl, hq⟩ := hrel
                by_cases hlt4 : x < T.length
                · obtain ⟨b1, o1, p1, p2, rfl, hd0, hd1, hz1⟩ := (Hp14.out.qt hq).pair hlt4
                  obtain ⟨b2, o2, q1, q2, rfl, hd2, hd3, hz2⟩ := (Hp15.out.qt hq).pair hlt4
                  have he := hz1.out.symm.trans hz2.out
                  injection he with he
                  injection he with he1 he2
                  subst he1 he2
                  have hx0 : (0 : Int) ≤ (x : Int) := by omega
                  have Hq := Lib.hid hq
                  clear hq
                  go_wp2_with fail
                  go_quiet (fail)
                  have Hq2 := Lib.hid (Hq.out.drewN nq)
                  go_wp2_with fail
                  go_roundw
                  case rel => exact ⟨x + 1, by omega, by go_num, Hq2.out⟩
                  case measure => simp [intOf]; omega
                · obtain rfl : x = T.length := by omega
                  have Hbq := Lib.hid (hq.bl Hb15.out)
                  clear hq
                  go_wp2_with fail
                  go_roundw
                  case rel => exact ⟨n + 1, by omega, by go_num, Hbq.out⟩
                  case measure => simp [intOf]; omega
            · obtain rfl : n = 3 := by omega
              have Hbq := Lib.hid (Hbs.out.trans (hb.mono Hbs.out.size))
              go_wp2_with fail
              go_roundw
              case rel => exact ⟨i + 1, by omega, by go_num, Hbq.out⟩
              case measure => simp [intOf]; omega
        · obtain rfl : i = 4 := by omega
          have Hbq := Lib.hid hb
          go_wp2_with fail
          go_roundw
          case rel => exact ⟨j + 1, by omega, by go_num, Hbq.out⟩
          case measure => simp [intOf]; omega
    · obtain rfl : j = 3 := by omega
      have Hbq := Lib.hid (HB2.out.trans (hb.mono HB2.out.size))
      clear hb
      obtain ⟨cs, hmk, hv1, hv2⟩ := big_make
      have Hv1 := Lib.hid hv1
      have Hv2 := Lib.hid hv2
      clear hv1 hv2
      go_wp2_with fail
      have Hk := Lib.hid (Bk.new wr 3 cs)
      have Hx := Lib.hid (Hbq.out.alloc Hbq.out.size (.cells cs 3))
      clear hmk
      refine (Hv1.out _ _ _ Hk.out).mono ?_
      rintro e wa ⟨rfl, hba⟩
      have Hk := Lib.hid (Hk.out.below hba Hk.out.lt)
      have Hx := Lib.hid (Hx.out.trans (hba.mono Hx.out.size))
      clear hba
      go_wp2_with fail
      refine (Hv2.out _ _ _ Hk.out).mono ?_
      rintro e wb ⟨rfl, hbb⟩
      have Hx := Lib.hid (Hx.out.trans (hbb.mono Hx.out.size))
      obtain ⟨ct, hmt, hv3⟩ := near_make wb
      have Hv3 := Lib.hid (hv3 _ 16385 (Bk.new wb 52 ct))
      clear hbb hv3
      go_wp2_with fail
      clear hmt
      have Hx := Lib.hid (Hx.out.alloc Hx.out.size (.cells ct 52))
      refine Hv3.out.mono ?_
      rintro e wc ⟨rfl, hbc⟩
      have Hx := Lib.hid (Hx.out.trans (hbc.mono Hx.out.size))
      clear hbc
      go_wp2_with fail
      refine (lives_any _).mono ?_
      rintro e wd ⟨rfl, hbd⟩
      go_wp2_with fail
      go_ret
      exact ⟨rfl, Hx.out.trans (hbd.mono Hx.out.size)⟩
end Go.Proofs.Ytaegfljpodhnhaa

import Derived.Test.YtaegfljpodhnhaaN02
import Derived.Test.YtaegfljpodhnhaaG06
import Derived.Test.YtaegfljpodhnhaaR27
import Derived.Test.YtaegfljpodhnhaaT3
import Derived.Deep.DeepCutAuto
namespace Go.Proofs.Ytaegfljpodhnhaa
open Go.RowKit Go.Maps

set_option linter.unusedSimpArgs false in
set_option maxHeartbeats 8000000 in
set_option maxRecDepth 100000 in
theorem nests_walk (A B : Option Addr) (c d : Nat) (l k : List Int) (w : World) (hA : SI w A l) (hB : SI w B k) (hwl : W64 l) (hwk : W64 k) :
    Calls Try.prog 8 #[.slice A l.length c, .slice B k.length d] w fun e w' => e = .returned (.bool true) ∧ Below w.heap.size w w' := by
  go_enter Try.func8, Try.ntmps8
  go_wp2_with fail
  refine (some_any A c l 16 w hA hwl (by omega) (by omega)).mono ?_
  rintro e w1 ⟨v1, v2, ws, ns, rfl, hown1, hown2, hG, hb1⟩
  obtain ⟨A1, c1, rfl⟩ := own_slice hown1
  obtain ⟨A2, c2, rfl⟩ := own_slice hown2
  have Hb1 := Lib.hid hb1
  have Hs1 := Lib.hid (own_si hown1)
  have Hs2 := Lib.hid (SL.of_own hown2 : ST w1 A2 ns)
  clear hb1 hown1 hown2
  go_wp2_with fail
  refine (own_any A1 A2 c1 c2 ws.length ns.length w1).mono ?_
  rintro e w2 ⟨rfl, hb2⟩
  have hb12 := Hb1.out.trans (hb2.mono Hb1.out.size)
  have Hb2 := Lib.hid (hb12.alloc hb12.size (.cells #[.slice A1 ws.length c1, .slice A2 ns.length c2] 31))
  have Hs1 := Lib.hid ((Hs1.out.below hb2).alloc (.cells #[.slice A1 ws.length c1, .slice A2 ns.length c2] 31))
  have Hs2 := Lib.hid ((Hs2.out.below hb2).alloc (.cells #[.slice A1 ws.length c1, .slice A2 ns.length c2] 31))
  have Hg := Lib.hid (Bk.new w2 31 #[.slice A1 ws.length c1, .slice A2 ns.length c2])
  clear hb2 hb12 Hb1
  go_wp2_with fail
  generalize w2.alloc (.cells #[.slice A1 ws.length c1, .slice A2 ns.length c2] 31) = W2 at *
  generalize w2.heap.size = tg at *
  refine (least_any B d k W2 (hB.below Hb2.out) hwk).mono ?_
  rintro e w3 ⟨v3, ls, rfl, hown3, hT, hb3⟩
  obtain ⟨A3, c3, rfl⟩ := own_slice hown3
  have Hls := Lib.hid (own_si hown3)
  have Hs1 := Lib.hid (Hs1.out.below hb3)
  have Hs2 := Lib.hid (Hs2.out.below hb3)
  have Hg := Lib.hid (Hg.out.below hb3 Hg.out.lt)
  have Hb3 := Lib.hid (Hb2.out.trans (hb3.mono Hb2.out.size))
  have hcg0 : w3.cell? ⟨tg, 0, none⟩ = some (.slice A1 ws.length c1) := Hg.out.cell 0
  have hcg1 : w3.cell? ⟨tg, 1, none⟩ = some (.slice A2 ns.length c2) := Hg.out.cell 1
  clear hown3 hb3 Hb2
  have Hn := Lib.hid (fun s (hs : s < ls.length) => nest_at hG hT hs)
  have hE : ofE ws ns ls = 0 := orI_two.2 ⟨hG.ok (by omega) (by omega), hT.ok (by omega)⟩
  have hLn : (ofL ws ns ls).length = ls.length := by rw [ofL, if_pos hE, lists_len]
  have n1 := hG.n1
  have n2 := hG.n2
  have n3 := hG.n3
  have m1 := hT.n1
  have m2 := hT.n2
  have HE := Lib.hid hE
  have HLn := Lib.hid hLn
  have Hml := Lib.hid (fun (l : List Int) (hl : l ∈ ofL ws ns ls) => (show l.length ≤ 1099511627776 by have := ofL_lens (ws := ws) (ns := ns) (ls := ls) l hl; omega))
  clear hE hLn hG hT
  go_wp2_with fail
  refine (of_ok A1 A2 A3 c1 c2 c3 ws ns ls _ w3 Hs1.out Hs2.out Hls.out HE.out rfl).mono ?_
  rintro e w4 ⟨D, m, rfl, hD, hb4⟩
  rw [HLn.out]
  clear HE
  generalize ofL ws ns ls = L at *
  have hb34 := Hb3.out.trans (hb4.mono Hb3.out.size)
  have Hb5 := Lib.hid (hb34.alloc hb34.size (.cells #[.slice D ls.length m] 36))
  have Hs1 := Lib.hid ((Hs1.out.below hb4).alloc (.cells #[.slice D ls.length m] 36))
  have Hs2 := Lib.hid ((Hs2.out.below hb4).alloc (.cells #[.slice D ls.length m] 36))
  have Hls := Lib.hid ((Hls.out.below hb4).alloc (.cells #[.slice D ls.length m] 36))
  have HD := Lib.hid (hD.below ((Below.refl _ _).alloc (Nat.le_refl _) (.cells #[.slice D ls.length m] 36)))
  have Hg := Lib.hid ((Hg.out.below hb4 Hg.out.lt).alloc (.cells #[.slice D ls.length m] 36))
  have Hc := Lib.hid (Bk.new w4 36 #[.slice D ls.length m])
  have hcc : (w4.alloc (.cells #[.slice D ls.length m] 36)).cell? ⟨w4.heap.size, 0, none⟩ = some (.slice D ls.length m) := Hc.out.cell 0
  clear hcg0 hcg1 hb4 hb34 hD Hb3
  go_wp2_with fail
  clear hcc
  generalize w4.alloc (.cells #[.slice D ls.length m] 36) = W5 at *
  generalize w4.heap.size = tc at *
  have HQ := Lib.hid (fun W (hW : Below W5.heap.size W5 W) => And.intro ((Hg.out.below hW Hg.out.lt).cell 0) (And.intro ((Hg.out.below hW Hg.out.lt).cell 1) ((Hc.out.below hW Hc.out.lt).cell 0)))
  clear Hg Hc
  go_loopw [9] (fun v wr => ∃ s : Nat, s ≤ ls.length ∧ v = .int .i64 s ∧ Below W5.heap.size W5 wr) (fun v _ => ls.length - (intOf v).toNat)
  case atStart => exact ⟨0, by omega, rfl, Below.refl _ _⟩
  case round =>
    obtain ⟨s, hs, rfl, hb⟩ := hrel
    by_cases hlt : s < ls.length
    · obtain ⟨l0, hl0, hll, hne, hnest, hat, hatW, hatN, hqw, hqn, hleast⟩ := Hn.out s hlt
      obtain ⟨bD, oD, BL, cL, l1, rfl, hcD, hsL, hl1⟩ := HD.out.get (k := s) (by rw [HLn.out]; exact hlt)
      obtain rfl : l1 = l0 := by have := hl1.out.symm.trans hl0; injection this
      rw [hll] at hcD
      have HcD := Lib.hid (fun W (hW : Below W5.heap.size W5 W) => (hW.cell (World.block_lt_of_cell? _ _ hcD)).trans hcD)
      have HsL := Lib.hid (fun W (hW : Below W5.heap.size W5 W) => hsL.below hW)
      have Hll := Lib.hid hll
      have Hne := Lib.hid hne
      have Hat := Lib.hid hat
      have HatW := Lib.hid hatW
      have HatN := Lib.hid hatN
      have Hleast := Lib.hid hleast
      have Hnest : Hid (0 < s → ∃ bB cB l', (∀ W, Below W5.heap.size W5 W → W.cell? ⟨bD, oD + (s - 1), none⟩ = some (.slice bB ws.length cB)) ∧ (∀ W, Below W5.heap.size W5 W → SI W bB l') ∧ l'.length = ws.length ∧ ∀ a b, a < ws.length → b < ws.length → l'.getD a 0 = l'.getD b 0 → l1.getD a 0 = l1.getD b 0) := fun h0 => by
        obtain ⟨l', e', hl', h2⟩ := hnest h0
        obtain ⟨b2, o2, B2, c2', l2, he, hc2, hs2, hl2⟩ := HD.out.get (k := s - 1) (by rw [HLn.out]; omega)
        injection he with he
        injection he with he1 he2
        subst he1 he2
        obtain rfl : l2 = l' := by have := hl2.out.symm.trans e'; injection this
        rw [hl'] at hc2
        exact ⟨B2, c2', l2, fun W hW => (hW.cell (World.block_lt_of_cell? _ _ hc2)).trans hc2, fun W hW => hs2.below hW, hl', h2⟩
      obtain ⟨hq0, hq1, hq2⟩ := HQ.out _ hb
      have hcD1 := HcD.out _ hb
      have hs0 : (0 : Int) ≤ (s : Int) := by omega
      have Hb := Lib.hid hb
      clear hl0 hll hne hnest hat hatW hatN hleast hcD hsL hl1 hb
      go_wp2_with fail
      go_loopw [11] (fun v wr => ∃ a : Nat, a ≤ ws.length ∧ v = .int .i64 a ∧ Below W5.heap.size W5 wr) (fun v _ => ws.length - (intOf v).toNat)
      case atStart => exact ⟨0, by omega, rfl, Hb.out⟩
      case round =>
        clear Hb hq0 hq1 hq2 hcD1
        obtain ⟨a, ha, rfl, hb⟩ := hrel
        by_cases hla : a < ws.length
        · have Hb := Lib.hid hb
          have ha0 : (0 : Int) ≤ (a : Int) := by omega
          clear hb ha
          go_upto_region 15 with fail
          go_cut [73] (fun v wx => v = .bool false ∧ Below W5.heap.size W5 wx)
          case first =>
            as_aux_lemma =>
            obtain ⟨bL, oL, x, rfl, hcx, hx⟩ := (HsL.out _ Hb.out).get (k := a) (by rw [Hll.out]; exact hla)
            obtain ⟨b2, o2, x0, he, hc0, hx0⟩ := (HsL.out _ Hb.out).get (k := 0) (by rw [Hll.out]; omega)
            injection he with he
            injection he with he1 he2
            subst he1 he2
            rw [Nat.add_zero] at hc0
            have hqn : ∀ nq, Qt wr (wr.drewN nq) := fun nq => ⟨nq, rfl⟩
            have Hqn := Lib.hid hqn
            clear hqn
            by_cases hz : 0 < a
            · have hne' : (x == x0) = false := by
                have := Hne.out a hz hla
                rw [getD_of hx.out, getD_of hx0.out] at this
                simpa using this
              have hz' : (0 : Int) < (a : Int) := by omega
              have hl0 : 0 < ws.length := by omega
              go_wp2_with fail
              go_quiet (fail)
              go_wp2_with fail
              go_meet
              exact ⟨rfl, (Hqn.out _).bl Hb.out⟩
            · obtain rfl : a = 0 := by omega
              go_wp2_with fail
              go_quiet (fail)
              go_wp2_with fail
              go_meet
              exact ⟨rfl, (Hqn.out _).bl Hb.out⟩
          case rest =>
          obtain ⟨rfl, hb⟩ := hcut
          obtain ⟨wa, rfl⟩ : ∃ x, x = wc := ⟨wc, rfl⟩
          have Hb := Lib.hid hb
          clear hb
          go_wp2_with fail
          go_loopw [12] (fun v wr => ∃ b : Nat, b ≤ ws.length ∧ v = .int .i64 b ∧ Below W5.heap.size W5 wr) (fun v _ => ws.length - (intOf v).toNat)
          case atStart => exact ⟨0, by omega, rfl, Hb.out⟩
          case round =>
            clear Hb
            obtain ⟨b, hbl, rfl, hb⟩ := hrel
            have Hb := Lib.hid hb
            clear hb
            by_cases hlb : b < ws.length
            · by_cases hz : 0 < s
              · obtain ⟨bB, cB, l', hcB, hsB, hl', htog⟩ := Hnest.out hz
                have hcB1 := hcB _ Hb.out
                have hcD1 := HcD.out _ Hb.out
                obtain ⟨hq0, hq1, hq2⟩ := HQ.out _ Hb.out
                obtain ⟨b3, o3, y, rfl, hcy, hy⟩ := (hsB _ Hb.out).get (k := a) (by rw [hl']; exact hla)
                obtain ⟨b2, o2, y2, he, hcy2, hy2⟩ := (hsB _ Hb.out).get (k := b) (by rw [hl']; exact hlb)
                injection he with he
                injection he with he1 he2
                subst he1 he2
                obtain ⟨bL, oL, x, rfl, hcx, hx⟩ := (HsL.out _ Hb.out).get (k := a) (by rw [Hll.out]; exact hla)
                obtain ⟨b2, o2, x2, he, hcx2, hx2⟩ := (HsL.out _ Hb.out).get (k := b) (by rw [Hll.out]; exact hlb)
                injection he with he
                injection he with he1 he2
                subst he1 he2
                have htg := htog a b hla hlb
                rw [getD_of hy.out, getD_of hy2.out, getD_of hx.out, getD_of hx2.out] at htg
                have Htg := Lib.hid htg
                have hb0 : (0 : Int) ≤ (b : Int) := by omega
                have e1 : IntKind.i64.wrap ((s : Int) - 1) = (s : Int) - 1 := IntWalk.i64_in _ (by omega)
                have e2 : ((s : Int) - 1).toNat = s - 1 := by omega
                have i1 : (0 : Int) ≤ (s : Int) - 1 := by omega
                have i2 : (s : Int) - 1 < ls.length := by omega
                have i3 : (0 : Int) < (s : Int) := by omega
                have hqn : ∀ nq, Qt wr (wr.drewN nq) := fun nq => ⟨nq, rfl⟩
                have Hqn := Lib.hid hqn
                clear hqn htog hcB hsB hl' htg hy hy2 hx hx2
                by_cases hyy : y = y2
                · have hy1 : (y == y2) = true := by simpa using hyy
                  have hx1 : (x != x2) = false := by have := Htg.out hyy; simp [this]
                  clear hyy
                  go_wp2_with fail
                  go_quiet (fail)
                  go_wp2_with fail
                  go_roundw
                  case rel => exact ⟨b + 1, by omega, by go_num, (Hqn.out _).bl Hb.out⟩
                  case measure => simp [intOf]; omega
                · have hy1 : (y == y2) = false := by simpa using hyy
                  clear hyy
                  go_wp2_with fail
                  go_quiet (fail)
                  go_wp2_with fail
                  go_roundw
                  case rel => exact ⟨b + 1, by omega, by go_num, (Hqn.out _).bl Hb.out⟩
                  case measure => simp [intOf]; omega
              · obtain rfl : s = 0 := by omega
                go_wp2_with fail
                go_roundw
                case rel => exact ⟨a + 1, by omega, by go_num, Hb.out⟩
                case measure => simp [intOf]; omega
            · obtain rfl : b = ws.length := by omega
              go_wp2_with fail
              go_roundw
              case rel => exact ⟨a + 1, by omega, by go_num, Hb.out⟩
              case measure => simp [intOf]; omega
        · obtain rfl : a = ws.length := by omega
          have Hb := Lib.hid hb
          clear hb ha hla
          have hatc := at_any A1 A2 (some ⟨bD, oD, none⟩) c1 c2 m ws ns L s wr (Hs1.out.below Hb.out) (Hs2.out.below Hb.out) (HD.out.below Hb.out) (by omega) (by omega) Hml.out
          rw [HLn.out, HatW.out, HatN.out, Hat.out] at hatc
          have Hatc := Lib.hid hatc
          obtain ⟨hq0, hq1, hq2⟩ := HQ.out _ Hb.out
          clear hatc HatW HatN Hat HcD HsL Hnest Hne
          generalize qW ws l1 = TW at *
          generalize qN ns l1 = TN at *
          go_wp2_with fail
          refine Hatc.out.mono ?_
          rintro e w6 ⟨X, x, Y, y, rfl, hX, hY, hb6⟩
          clear hq0 hq1 hq2 Hatc
          have hb66 := Hb.out.trans (hb6.mono Hb.out.size)
          have Hb7 := Lib.hid (hb66.alloc hb66.size (.cells #[.slice X TW.length x, .slice Y TN.length y] 31))
          have HX := Lib.hid (hX.below ((Below.refl _ _).alloc (Nat.le_refl _) (.cells #[.slice X TW.length x, .slice Y TN.length y] 31)))
          have HY := Lib.hid (hY.below ((Below.refl _ _).alloc (Nat.le_refl _) (.cells #[.slice X TW.length x, .slice Y TN.length y] 31)))
          have Hls7 := Lib.hid (Hls.out.below Hb7.out)
          have Hh := Lib.hid (Bk.new w6 31 #[.slice X TW.length x, .slice Y TN.length y])
          clear hX hY hb6 hb66 Hb
          go_wp2_with fail
          generalize w6.alloc (.cells #[.slice X TW.length x, .slice Y TN.length y] 31) = W7 at *
          generalize w6.heap.size = th at *
          have HR := Lib.hid (fun W (hW : Below W7.heap.size W7 W) => And.intro ((Hh.out.below hW Hh.out.lt).cell 0) ((Hh.out.below hW Hh.out.lt).cell 1))
          clear Hh
          go_loopw [15] (fun v wr => ∃ a : Nat, 1 ≤ a ∧ v = .int .i64 a ∧ Below W7.heap.size W7 wr) (fun v _ => TW.length - (intOf v).toNat)
          case atStart => exact ⟨1, by omega, rfl, Below.refl _ _⟩
          case round =>
            obtain ⟨a, ha1, rfl, hb⟩ := hrel
            by_cases hla : a < TW.length
            · have Hb := Lib.hid hb
              obtain ⟨hq0, hq1⟩ := HR.out _ hb
              have ha0 : (0 : Int) ≤ (a : Int) := by omega
              clear hb
              go_wp2_with fail
              clear hq0 hq1
              go_loopw [16, 17] (fun v v2 wr => ∃ (i : Nat) (q : Bool), i ≤ TN.length ∧ v = .bool q ∧ v2 = .int .i64 i ∧ Hid (q = true → ∃ t ∈ TN, t.1 = a ∨ t.2.1 = a ∧ t.1 ≠ 0) ∧ Below W7.heap.size W7 wr) (fun _ v2 _ => TN.length - (intOf v2).toNat)
              case atStart => exact ⟨0, false, by omega, rfl, rfl, Lib.hid (fun h => by cases h), Hb.out⟩
              case round =>
                clear Hb
                obtain ⟨i, q, hi, rfl, rfl, Hq, hb⟩ := hrel
                have Hb := Lib.hid hb
                obtain ⟨hq0, hq1⟩ := HR.out _ hb
                clear hb
                by_cases hli : i < TN.length
                · have hi0 : (0 : Int) ≤ (i : Int) := by omega
                  obtain ⟨b1, o1, tx, ty, tz, rfl, k0, k1, k2, ht⟩ := (HY.out.below Hb.out).get (k := i) hli
                  cases q
                  · by_cases hx : tx = (a : Int)
                    · have Hx := Lib.hid (show ∃ t ∈ TN, t.1 = (a : Int) ∨ t.2.1 = a ∧ t.1 ≠ 0 from ⟨_, List.mem_of_getElem? ht.out, .inl hx⟩)
                      have hx1 : (tx == (a : Int)) = true := by simpa using hx
                      clear hx
                      go_wp2_with fail
                      go_roundw
                      case rel => exact ⟨i + 1, true, by omega, rfl, by go_num, Lib.hid (fun _ => Hx.out), Hb.out⟩
                      case measure => simp [intOf]; omega
                    · have hx1 : (tx == (a : Int)) = false := by simpa using hx
                      clear hx
                      by_cases hy : ty = (a : Int)
                      · have hy1 : (ty == (a : Int)) = true := by simpa using hy
                        by_cases hx : tx = 0
                        · have hx2 : (tx != 0) = false := by simp [hx]
                          clear hx hy
                          go_wp2_with fail
                          go_roundw
                          case rel => exact ⟨i + 1, false, by omega, rfl, by go_num, Lib.hid (fun h => by cases h), Hb.out⟩
                          case measure => simp [intOf]; omega
                        · have hx2 : (tx != 0) = true := by simpa using hx
                          have Hx := Lib.hid (show ∃ t ∈ TN, t.1 = (a : Int) ∨ t.2.1 = a ∧ t.1 ≠ 0 from ⟨_, List.mem_of_getElem? ht.out, .inr ⟨hy, hx⟩⟩)
                          clear hx hy
                          go_wp2_with fail
                          go_roundw
                          case rel => exact ⟨i + 1, true, by omega, rfl, by go_num, Lib.hid (fun _ => Hx.out), Hb.out⟩
                          case measure => simp [intOf]; omega
                      · have hy1 : (ty == (a : Int)) = false := by simpa using hy
                        clear hy
                        go_wp2_with fail
                        go_roundw
                        case rel => exact ⟨i + 1, false, by omega, rfl, by go_num, Lib.hid (fun h => by cases h), Hb.out⟩
                        case measure => simp [intOf]; omega
                  · go_wp2_with fail
                    go_roundw
                    case rel => exact ⟨i + 1, true, by omega, rfl, by go_num, Hq, Hb.out⟩
                    case measure => simp [intOf]; omega
                · obtain rfl : i = TN.length := by omega
                  have hqn : ∀ nq, Qt wr (wr.drewN nq) := fun nq => ⟨nq, rfl⟩
                  have Hqn := Lib.hid hqn
                  clear hqn hli hi
                  obtain ⟨bX, oX, u, rfl, hcu, hu⟩ := (HX.out.below Hb.out).get (k := a) hla
                  obtain ⟨bS, oS, v, rfl, hcv, hv⟩ := (Hls7.out.below Hb.out).get (k := s) hlt
                  cases q
                  · go_wp2_with fail
                    go_quiet (fail)
                    go_wp2_with fail
                    go_roundw
                    case rel => exact ⟨a + 1, by omega, by go_num, (Hqn.out _).bl Hb.out⟩
                    case measure => simp [intOf]; omega
                  · have huv : ¬ u < v := by
                      obtain ⟨t, ht, h⟩ := Hq.out rfl
                      have := Hleast.out a ha1 hla t ht h
                      rw [getD_of hu.out, getD_of hv.out] at this
                      omega
                    have huv1 : decide (u < v) = false := by simpa using huv
                    have huv2 : v ≤ u := by omega
                    clear huv
                    go_wp2_with fail
                    go_quiet (fail)
                    go_wp2_with fail
                    go_roundw
                    case rel => exact ⟨a + 1, by omega, by go_num, (Hqn.out _).bl Hb.out⟩
                    case measure => simp [intOf]; omega
            · obtain ⟨hq0, hq1⟩ := HR.out _ hb
              have HbE := Lib.hid (Hb7.out.trans (hb.mono Hb7.out.size))
              have hla' : TW.length ≤ a := by omega
              clear hb hla
              go_wp2_with fail
              go_roundw
              case rel => exact ⟨s + 1, by omega, by go_num, HbE.out⟩
              case measure => simp [intOf]; omega
    · obtain rfl : s = ls.length := by omega
      go_wp2_with fail
      refine (lives_any wr).mono ?_
      rintro e wd ⟨rfl, hbd⟩
      go_wp2_with fail
      go_ret
      have h := Hb5.out.trans (hb.mono Hb5.out.size)
      exact ⟨rfl, h.trans (hbd.mono h.size)⟩
end Go.Proofs.Ytaegfljpodhnhaa

import Derived.Test.YtmdgdphhedgojaaR04
namespace Go.Proofs.Ytmdgdphhedgojaa
open Go.RowKit

/-- The merge that comes next, among the first groups: the pair, whether there is one, and the weight. -/
def nextTo (ws : List Int) (ns : List (Int × Int × Int)) (of : List Int) (least : Int) : Nat → Int × Int × Bool × Int
  | 0 => (0, 0, false, 0)
  | a + 1 =>
    if (of.getD a 0 != a || (a : Int) == of.getD 0 0) then nextTo ws ns of least a
    else if (decide (least ≤ weight ws of a) || (nextTo ws ns of least a).2.2.1 && decide ((nextTo ws ns of least a).2.2.2 ≤ weight ws of a)) then nextTo ws ns of least a
    else if 0 ≤ nb ns of a then (a, nb ns of a, true, weight ws of a)
    else nextTo ws ns of least a

def next (ws : List Int) (ns : List (Int × Int × Int)) (of : List Int) (least : Int) : Int × Int × Bool × Int := nextTo ws ns of least of.length

theorem weight_bd {ws of : List Int} {g : Int} (h : W40 ws) (hl : of.length ≤ 4096) : 0 ≤ weight ws of g ∧ weight ws of g ≤ 4503599627370496 := by
  have := weightTo_bd (of := of) (g := g) h of.length
  unfold weight; omega

theorem nb_bd {n : Nat} {ns : List (Int × Int × Int)} {of : List Int} {a : Int} (h : NOK n ns) (hl : ns.length ≤ 16384) : -1 ≤ nb ns of a ∧ nb ns of a < of.length := by
  have := nbTo_bd (of := of) (a := a) h hl of.length
  unfold nb; omega

theorem nextTo_bd {ws : List Int} {n : Nat} {ns : List (Int × Int × Int)} {of : List Int} {least : Int} (hw : W40 ws) (hl : of.length ≤ 4096) (h : NOK n ns) (hl2 : ns.length ≤ 16384) (k : Nat) (hk : k ≤ of.length) :
    0 ≤ (nextTo ws ns of least k).1 ∧ (nextTo ws ns of least k).1 ≤ of.length ∧ 0 ≤ (nextTo ws ns of least k).2.1 ∧ (nextTo ws ns of least k).2.1 ≤ of.length ∧ 0 ≤ (nextTo ws ns of least k).2.2.2 ∧ (nextTo ws ns of least k).2.2.2 ≤ 4503599627370496 := by
  induction k with
  | zero => simp [nextTo]
  | succ k ih =>
    have h1 := weight_bd (g := k) hw hl
    have h2 := nb_bd (of := of) (a := k) h hl2
    have ih := ih (by omega)
    unfold nextTo
    split
    · exact ih
    · split
      · exact ih
      · split
        · simp only []; omega
        · exact ih

set_option maxHeartbeats 2000000 in
theorem next_any (A B C : Option Addr) (c d f : Nat) (ws : List Int) (ns : List (Int × Int × Int)) (of : List Int) (least : Int) (w : World) (hA : SI w A ws) (hB : ST w B ns) (hC : SI w C of) (hw : W40 ws) (hl : of.length = ws.length) (hl2 : ws.length ≤ 4096) (hn : NOK of.length ns) (hl3 : ns.length ≤ 16384) :
    Calls Try.prog 62 #[.agg #[.slice A ws.length c, .slice B ns.length d], .slice C of.length f, .int .i64 least] w fun e w' => e = .returned (.tuple #[.agg #[.int .i64 (next ws ns of least).1, .int .i64 (next ws ns of least).2.1], .bool (next ws ns of least).2.2.1]) ∧ Below w.heap.size w w' := by
  have Hl := Lib.hid hl
  have hle : of.length ≤ ws.length := by omega
  have hle2 : ws.length ≤ of.length := by omega
  clear hl
  go_enter Try.func62, Try.ntmps62
  go_wp2
  go_loopw [9, 10, 11] (fun found wt i wr => ∃ k : Nat, k ≤ of.length ∧ i = .int .i64 k ∧ found = .bool (nextTo ws ns of least k).2.2.1 ∧ wt = .int .i64 (nextTo ws ns of least k).2.2.2 ∧ Below w.heap.size w wr ∧
    Bk wr w.heap.size 30 #[.slice A ws.length c, .slice B ns.length d] ∧ Bk wr (w.heap.size + 1) 114 #[.int .i64 0, .int .i64 0] ∧ Bk wr (w.heap.size + 2) 114 #[.int .i64 (nextTo ws ns of least k).1, .int .i64 (nextTo ws ns of least k).2.1]) (fun _ _ i _ => of.length - (intOf i).toNat)
  case atStart => exact ⟨0, by omega, rfl, rfl, rfl, (((Below.refl _ _).alloc (Nat.le_refl _) _).alloc (by simp) _).alloc (by simp; omega) _, ((Bk.new _ _ _).alloc _).alloc _, (Bk.new' _ _ _ (by simp)).alloc _, Bk.new' _ _ _ (by simp)⟩
  case round =>
    obtain ⟨k, hk, rfl, rfl, rfl, hb, hbk, hbr, hbo⟩ := hrel
    have hc0 : wr.cell? ⟨w.heap.size, 0, none⟩ = some (.slice A ws.length c) := hbk.cell 0
    have hc1 : wr.cell? ⟨w.heap.size, 1, none⟩ = some (.slice B ns.length d) := hbk.cell 1
    obtain ⟨hd1, hd2, hd3, hd4, hd5, hd6⟩ := nextTo_bd (least := least) hw (by omega) hn hl3 k hk
    by_cases hlt : k < of.length
    · obtain ⟨b2, o2, p, rfl, hc3, hp⟩ := (hC.below hb).get (k := k) hlt
      obtain ⟨b3, o3, q, he, hc4, hq⟩ := (hC.below hb).get (k := 0) (by omega)
      injection he with he
      injection he with he1 he2
      subst he1 he2
      rw [Nat.add_zero] at hc4
      have hwb := weight_bd (of := of) (g := k) hw (by omega)
      have hnb := nb_bd (of := of) (a := k) hn hl3
      have hs : Hid (nextTo ws ns of least (k + 1) = if (p != (k : Int) || (k : Int) == q) then nextTo ws ns of least k
        else if (decide (least ≤ weight ws of k) || (nextTo ws ns of least k).2.2.1 && decide ((nextTo ws ns of least k).2.2.2 ≤ weight ws of k)) then nextTo ws ns of least k
        else if 0 ≤ nb ns of k then ((k : Int), nb ns of k, true, weight ws of k) else nextTo ws ns of least k) := by
        show _ = _; rw [nextTo, getD_of hp.out, getD_of hq.out]
      have hbs := hb.size
      have hkk := hbo.lt
      generalize nextTo ws ns of least k = s at *
      obtain ⟨s1, s2, s3, s4⟩ := s
      dsimp only at hd1 hd2 hd3 hd4 hd5 hd6 hbo
      have Hbk := Lib.hid hbk
      have Hbr := Lib.hid hbr
      have Hbo := Lib.hid hbo
      clear hbk hbr hbo
      have hgW := fun (W : World) (x) (hX : SI W A ws) (hY : SI W (some ⟨b2, o2, none⟩) of) => weight_any A B (some ⟨b2, o2, none⟩) c d f ws of ns.length x W hX hY hw Hl.out hl2
      have HgW := Lib.hid hgW
      clear hgW
      cases h1 : (p != (k : Int))
      · cases h2 : ((k : Int) == q)
        · by_cases h3 : least ≤ weight ws of k
          · have hs2 : Hid (nextTo ws ns of least (k + 1) = (s1, s2, s3, s4)) := by show _ = _; rw [hs.out, if_neg (by simp [h1, h2]), if_pos (by simp [h3])]
            go_wp2_with fail
            refine (HgW.out _ _ (hA.below hb) (hC.below hb)).mono ?_
            rintro e w1 ⟨rfl, hb1⟩
            go_wp2_with fail
            go_roundw
            case rel => exact ⟨k + 1, by omega, by go_num, by rw [hs2.out], by rw [hs2.out], hb.trans (hb1.mono hbs), Hbk.out.below hb1 (by omega), Hbr.out.below hb1 (by omega), by rw [hs2.out]; exact Hbo.out.below hb1 (by omega)⟩
            case measure => simp [intOf]; omega
          · have hskip : ∀ b, s3 = b → (b && decide (s4 ≤ weight ws of k)) = true → nextTo ws ns of least (k + 1) = (s1, s2, s3, s4) := fun b hb' hx => by rw [hs.out, if_neg (by simp [h1, h2]), if_pos (by simp only [hb'] at hx ⊢; simp [hx])]
            have Hskip := Lib.hid hskip
            have hgo : ∀ b, s3 = b → (b && decide (s4 ≤ weight ws of k)) = false → nextTo ws ns of least (k + 1) = if 0 ≤ nb ns of k then ((k : Int), nb ns of k, true, weight ws of k) else (s1, s2, s3, s4) := fun b hb' hx => by rw [hs.out, if_neg (by simp [h1, h2]), if_neg (by simp only [hb'] at hx ⊢; simp only [hx]; simp [h3])]
            have Hgo := Lib.hid hgo
            clear hskip hgo
            have hgN := fun (W : World) (hX : ST W B ns) (hY : SI W (some ⟨b2, o2, none⟩) of) => nb_any A B (some ⟨b2, o2, none⟩) c d f ws.length ns of k W hX hY hn hl3 (by omega)
            have HgN := Lib.hid hgN
            clear hgN
            by_cases h5 : s3 = true ∧ s4 ≤ weight ws of k
            · obtain ⟨h5, h6⟩ := h5
              have hs2 : Hid (nextTo ws ns of least (k + 1) = (s1, s2, s3, s4)) := Hskip.out true h5 (by simp [h6])
              subst h5
              go_wp2_with fail
              refine (HgW.out _ _ (hA.below hb) (hC.below hb)).mono ?_
              rintro e w1 ⟨rfl, hb1⟩
              go_wp2_with fail
              go_roundw
              case rel => exact ⟨k + 1, by omega, by go_num, by rw [hs2.out], by rw [hs2.out], hb.trans (hb1.mono hbs), Hbk.out.below hb1 (by omega), Hbr.out.below hb1 (by omega), by rw [hs2.out]; exact Hbo.out.below hb1 (by omega)⟩
              case measure => simp [intOf]; omega
            · have hs3 : Hid (nextTo ws ns of least (k + 1) = if 0 ≤ nb ns of k then ((k : Int), nb ns of k, true, weight ws of k) else (s1, s2, s3, s4)) := Hgo.out s3 rfl (by cases s3 <;> simp at h5 ⊢; omega)
              by_cases h7 : 0 ≤ nb ns of k
              · have hs2 : Hid (nextTo ws ns of least (k + 1) = ((k : Int), nb ns of k, true, weight ws of k)) := by show _ = _; rw [hs3.out, if_pos h7]
                cases s3
                · clear h5
                  go_wp2_with fail
                  refine (HgW.out _ _ (hA.below hb) (hC.below hb)).mono ?_
                  rintro e w1 ⟨rfl, hb1⟩
                  have hz1 := hb1.size
                  have hc01 : w1.cell? ⟨w.heap.size, 0, none⟩ = some (.slice A ws.length c) := (Hbk.out.below hb1 (by omega)).cell 0
                  have hc11 : w1.cell? ⟨w.heap.size, 1, none⟩ = some (.slice B ns.length d) := (Hbk.out.below hb1 (by omega)).cell 1
                  go_wp2_with fail
                  have hbb := hb.trans (hb1.mono hbs)
                  refine (HgN.out _ (hB.below hbb) (hC.below hbb)).mono ?_
                  rintro e w2 ⟨rfl, hb2⟩
                  have hz2 := hb2.size
                  have hbf := Lib.hid ((Hbo.out.below hb1 (by omega)).below hb2 (by omega))
                  have hf0 := hbf.out.frozen 0
                  have hf1 := hbf.out.frozen 1
                  have hv0 : w2.cell? ⟨w.heap.size + 2, 0, none⟩ = _ := hbf.out.cell 0
                  have hv1 : w2.cell? ⟨w.heap.size + 2, 1, none⟩ = _ := hbf.out.cell 1
                  have Hbb := Lib.hid (hbb.trans (hb2.mono (by omega)))
                  have Hbk2 := Lib.hid ((Hbk.out.below hb1 (by omega)).below hb2 (by omega))
                  have Hbr2 := Lib.hid ((Hbr.out.below hb1 (by omega)).below hb2 (by omega))
                  clear hb1 hb2 hc01 hc11 hbb
                  go_wp2_with fail
                  go_roundw
                  case rel => exact ⟨k + 1, by omega, by go_num, by rw [hs2.out], by rw [hs2.out], (Hbb.out.setCell (by simp <;> omega) _).setCell (by simp <;> omega) _, (Hbk2.out.far (by simp <;> omega) _).far (by simp <;> omega) _, (Hbr2.out.far (by simp <;> omega) _).far (by simp <;> omega) _, by rw [hs2.out]; exact (hbf.out.set_ 0 _).set_ 1 _⟩
                  case measure => simp [intOf]; omega
                · have h6 : weight ws of k < s4 := by simp at h5; omega
                  clear h5
                  go_wp2_with fail
                  refine (HgW.out _ _ (hA.below hb) (hC.below hb)).mono ?_
                  rintro e w1 ⟨rfl, hb1⟩
                  have hz1 := hb1.size
                  have hc01 : w1.cell? ⟨w.heap.size, 0, none⟩ = some (.slice A ws.length c) := (Hbk.out.below hb1 (by omega)).cell 0
                  have hc11 : w1.cell? ⟨w.heap.size, 1, none⟩ = some (.slice B ns.length d) := (Hbk.out.below hb1 (by omega)).cell 1
                  go_wp2_with fail
                  have hbb := hb.trans (hb1.mono hbs)
                  refine (HgN.out _ (hB.below hbb) (hC.below hbb)).mono ?_
                  rintro e w2 ⟨rfl, hb2⟩
                  have hz2 := hb2.size
                  have hbf := Lib.hid ((Hbo.out.below hb1 (by omega)).below hb2 (by omega))
                  have hf0 := hbf.out.frozen 0
                  have hf1 := hbf.out.frozen 1
                  have hv0 : w2.cell? ⟨w.heap.size + 2, 0, none⟩ = _ := hbf.out.cell 0
                  have hv1 : w2.cell? ⟨w.heap.size + 2, 1, none⟩ = _ := hbf.out.cell 1
                  have Hbb := Lib.hid (hbb.trans (hb2.mono (by omega)))
                  have Hbk2 := Lib.hid ((Hbk.out.below hb1 (by omega)).below hb2 (by omega))
                  have Hbr2 := Lib.hid ((Hbr.out.below hb1 (by omega)).below hb2 (by omega))
                  clear hb1 hb2 hc01 hc11 hbb
                  go_wp2_with fail
                  go_roundw
                  case rel => exact ⟨k + 1, by omega, by go_num, by rw [hs2.out], by rw [hs2.out], (Hbb.out.setCell (by simp <;> omega) _).setCell (by simp <;> omega) _, (Hbk2.out.far (by simp <;> omega) _).far (by simp <;> omega) _, (Hbr2.out.far (by simp <;> omega) _).far (by simp <;> omega) _, by rw [hs2.out]; exact (hbf.out.set_ 0 _).set_ 1 _⟩
                  case measure => simp [intOf]; omega
              · have hs2 : Hid (nextTo ws ns of least (k + 1) = (s1, s2, s3, s4)) := by show _ = _; rw [hs3.out, if_neg h7]
                cases s3
                · clear h5
                  go_wp2_with fail
                  refine (HgW.out _ _ (hA.below hb) (hC.below hb)).mono ?_
                  rintro e w1 ⟨rfl, hb1⟩
                  have hz1 := hb1.size
                  have hc01 : w1.cell? ⟨w.heap.size, 0, none⟩ = some (.slice A ws.length c) := (Hbk.out.below hb1 (by omega)).cell 0
                  have hc11 : w1.cell? ⟨w.heap.size, 1, none⟩ = some (.slice B ns.length d) := (Hbk.out.below hb1 (by omega)).cell 1
                  go_wp2_with fail
                  have hbb := hb.trans (hb1.mono hbs)
                  refine (HgN.out _ (hB.below hbb) (hC.below hbb)).mono ?_
                  rintro e w2 ⟨rfl, hb2⟩
                  have hz2 := hb2.size
                  have hbf := Lib.hid ((Hbo.out.below hb1 (by omega)).below hb2 (by omega))
                  have Hbb := Lib.hid (hbb.trans (hb2.mono (by omega)))
                  have Hbk2 := Lib.hid ((Hbk.out.below hb1 (by omega)).below hb2 (by omega))
                  have Hbr2 := Lib.hid ((Hbr.out.below hb1 (by omega)).below hb2 (by omega))
                  clear hb1 hb2 hc01 hc11 hbb
                  go_wp2_with fail
                  go_roundw
                  case rel => exact ⟨k + 1, by omega, by go_num, by rw [hs2.out], by rw [hs2.out], Hbb.out, Hbk2.out, Hbr2.out, by rw [hs2.out]; exact hbf.out⟩
                  case measure => simp [intOf]; omega
                · have h6 : weight ws of k < s4 := by simp at h5; omega
                  clear h5
                  go_wp2_with fail
                  refine (HgW.out _ _ (hA.below hb) (hC.below hb)).mono ?_
                  rintro e w1 ⟨rfl, hb1⟩
                  have hz1 := hb1.size
                  have hc01 : w1.cell? ⟨w.heap.size, 0, none⟩ = some (.slice A ws.length c) := (Hbk.out.below hb1 (by omega)).cell 0
                  have hc11 : w1.cell? ⟨w.heap.size, 1, none⟩ = some (.slice B ns.length d) := (Hbk.out.below hb1 (by omega)).cell 1
                  go_wp2_with fail
                  have hbb := hb.trans (hb1.mono hbs)
                  refine (HgN.out _ (hB.below hbb) (hC.below hbb)).mono ?_
                  rintro e w2 ⟨rfl, hb2⟩
                  have hz2 := hb2.size
                  have hbf := Lib.hid ((Hbo.out.below hb1 (by omega)).below hb2 (by omega))
                  have Hbb := Lib.hid (hbb.trans (hb2.mono (by omega)))
                  have Hbk2 := Lib.hid ((Hbk.out.below hb1 (by omega)).below hb2 (by omega))
                  have Hbr2 := Lib.hid ((Hbr.out.below hb1 (by omega)).below hb2 (by omega))
                  clear hb1 hb2 hc01 hc11 hbb
                  go_wp2_with fail
                  go_roundw
                  case rel => exact ⟨k + 1, by omega, by go_num, by rw [hs2.out], by rw [hs2.out], Hbb.out, Hbk2.out, Hbr2.out, by rw [hs2.out]; exact hbf.out⟩
                  case measure => simp [intOf]; omega
        · have hs2 : Hid (nextTo ws ns of least (k + 1) = (s1, s2, s3, s4)) := by show _ = _; rw [hs.out, if_pos (by simp [h1, h2])]
          go_wp2_with fail
          go_roundw
          case rel => exact ⟨k + 1, by omega, by go_num, by rw [hs2.out], by rw [hs2.out], hb, Hbk.out, Hbr.out, by rw [hs2.out]; exact Hbo.out⟩
          case measure => simp [intOf]; omega
      · have hs2 : Hid (nextTo ws ns of least (k + 1) = (s1, s2, s3, s4)) := by show _ = _; rw [hs.out, if_pos (by simp [h1])]
        go_wp2_with fail
        go_roundw
        case rel => exact ⟨k + 1, by omega, by go_num, by rw [hs2.out], by rw [hs2.out], hb, Hbk.out, Hbr.out, by rw [hs2.out]; exact Hbo.out⟩
        case measure => simp [intOf]; omega
    · obtain rfl : k = of.length := by omega
      have ho0 : wr.cell? ⟨w.heap.size + 2, 0, none⟩ = _ := hbo.cell 0
      have ho1 : wr.cell? ⟨w.heap.size + 2, 1, none⟩ = _ := hbo.cell 1
      have hr0 : wr.cell? ⟨w.heap.size + 1, 0, none⟩ = _ := hbr.cell 0
      have hr1 : wr.cell? ⟨w.heap.size + 1, 1, none⟩ = _ := hbr.cell 1
      have hf0 := hbr.frozen 0
      have hf1 := hbr.frozen 1
      have hz0 := ((hbr.set_ 0 (.int .i64 (nextTo ws ns of least of.length).1)).set_ 1 (.int .i64 (nextTo ws ns of least of.length).2.1)).cell 0
      have hz1 := ((hbr.set_ 0 (.int .i64 (nextTo ws ns of least of.length).1)).set_ 1 (.int .i64 (nextTo ws ns of least of.length).2.1)).cell 1
      go_wp2
      refine bodyPost_ret (v := .tuple #[.agg #[.int .i64 (next ws ns of least).1, .int .i64 (next ws ns of least).2.1], .bool (next ws ns of least).2.2.1]) (by simp [results, Try.results62, go_sem, hz0, hz1, next]) rfl ⟨rfl, ?_⟩
      exact (hb.setCell (by simp) _).setCell (by simp) _
end Go.Proofs.Ytmdgdphhedgojaa

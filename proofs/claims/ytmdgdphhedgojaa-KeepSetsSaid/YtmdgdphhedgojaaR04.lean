import Derived.Test.YtmdgdphhedgojaaR03
namespace Go.Proofs.Ytmdgdphhedgojaa
open Go.RowKit

/-- The best neighbour of a group, and the length, among the first groups. -/
def nbTo (ns : List (Int × Int × Int)) (of : List Int) (a : Int) : Nat → Int × Int
  | 0 => (-1, 0)
  | b + 1 =>
    if (of.getD b 0 != b || (b : Int) == a || (b : Int) == of.getD 0 0) then nbTo ns of a b
    else if (nbTo ns of a b).2 < common ns of a b then (b, common ns of a b) else nbTo ns of a b

def nb (ns : List (Int × Int × Int)) (of : List Int) (a : Int) : Int := (nbTo ns of a of.length).1

theorem common_bd {n : Nat} {ns : List (Int × Int × Int)} {of : List Int} {a b : Int} (h : NOK n ns) (hl : ns.length ≤ 16384) : 0 ≤ common ns of a b ∧ common ns of a b ≤ 18014398509481984 := by
  have := commonTo_bd (of := of) (a := a) (b := b) h ns.length
  unfold common
  omega

theorem nbTo_bd {n : Nat} {ns : List (Int × Int × Int)} {of : List Int} {a : Int} (h : NOK n ns) (hl : ns.length ≤ 16384) (k : Nat) :
    0 ≤ (nbTo ns of a k).2 ∧ (nbTo ns of a k).2 ≤ 18014398509481984 ∧ -1 ≤ (nbTo ns of a k).1 ∧ (nbTo ns of a k).1 < k := by
  induction k with
  | zero => simp [nbTo]
  | succ k ih =>
    have := common_bd (of := of) (a := a) (b := k) h hl
    unfold nbTo
    split
    · omega
    · split
      · simp only []; omega
      · omega

set_option maxHeartbeats 1000000 in
theorem nb_any (A B C : Option Addr) (c d f : Nat) (m : Nat) (ns : List (Int × Int × Int)) (of : List Int) (a : Int) (w : World) (hB : ST w B ns) (hC : SI w C of) (hn : NOK of.length ns) (hl : ns.length ≤ 16384) (hl2 : of.length ≤ 4096) :
    Calls Try.prog 72 #[.agg #[.slice A m c, .slice B ns.length d], .slice C of.length f, .int .i64 a] w fun e w' => e = .returned (.int .i64 (nb ns of a)) ∧ Below w.heap.size w w' := by
  go_enter Try.func72, Try.ntmps72
  go_wp2
  go_loopw [7, 8, 9] (fun best len i wr => ∃ k : Nat, k ≤ of.length ∧ i = .int .i64 k ∧ best = .int .i64 (nbTo ns of a k).1 ∧ len = .int .i64 (nbTo ns of a k).2 ∧ Below w.heap.size w wr ∧ Bk wr w.heap.size 30 #[.slice A m c, .slice B ns.length d] ) (fun _ _ i _ => of.length - (intOf i).toNat)
  case atStart => exact ⟨0, by omega, rfl, rfl, rfl, (Below.refl _ _).alloc (Nat.le_refl _) _, Bk.new _ _ _⟩
  case round =>
    obtain ⟨k, hk, rfl, rfl, rfl, hb, hbk⟩ := hrel
    have hc0 : wr.cell? ⟨w.heap.size, 0, none⟩ = some (.slice A m c) := hbk.cell 0
    have hc1 : wr.cell? ⟨w.heap.size, 1, none⟩ = some (.slice B ns.length d) := hbk.cell 1
    obtain ⟨hd1, hd2, hd3, hd4⟩ := nbTo_bd (of := of) (a := a) hn hl k
    by_cases hlt : k < of.length
    · obtain ⟨b2, o2, p, rfl, hc3, hp⟩ := (hC.below hb).get (k := k) hlt
      obtain ⟨b3, o3, q, he, hc4, hq⟩ := (hC.below hb).get (k := 0) (by omega)
      injection he with he
      injection he with he1 he2
      subst he1 he2
      rw [Nat.add_zero] at hc4
      have hcm := common_bd (of := of) (a := a) (b := k) hn hl
      have hs : Hid (nbTo ns of a (k + 1) = if (p != k || (k : Int) == a || (k : Int) == q) then nbTo ns of a k
    else if (nbTo ns of a k).2 < common ns of a k then ((k : Int), common ns of a k) else nbTo ns of a k) := by
        show _ = _; rw [nbTo, getD_of hp.out, getD_of hq.out]
      have hbs := hb.size
      have hkk := hbk.lt
      generalize nbTo ns of a k = s at *
      obtain ⟨s1, s2⟩ := s
      dsimp only at hd1 hd2 hd3 hd4
      have Hbk := Lib.hid hbk
      clear hbk
      cases h1 : (p != (k : Int))
      · cases h2 : ((k : Int) == a)
        · cases h3 : ((k : Int) == q)
          · by_cases h4 : s2 < common ns of a k
            · have hs2 : Hid (nbTo ns of a (k + 1) = ((k : Int), common ns of a k)) := by show _ = _; rw [hs.out, if_neg (by simp [h1, h2, h3]), if_pos h4]
              go_wp2_with (go_at_call 77; refine (common_any _ _ _ _ _ _ _ _ _ _ _ _ (hB.below hb) (hC.below hb) hn hl).mono ?_; rintro e w1 ⟨rfl, hb1⟩)
              go_roundw
              case rel => exact ⟨k + 1, by omega, by go_num, by rw [hs2.out], by rw [hs2.out], hb.trans (hb1.mono hbs), Hbk.out.below hb1 hkk⟩
              case measure => simp [intOf]; omega
            · have hs2 : Hid (nbTo ns of a (k + 1) = (s1, s2)) := by show _ = _; rw [hs.out, if_neg (by simp [h1, h2, h3]), if_neg h4]
              go_wp2_with (go_at_call 77; refine (common_any _ _ _ _ _ _ _ _ _ _ _ _ (hB.below hb) (hC.below hb) hn hl).mono ?_; rintro e w1 ⟨rfl, hb1⟩)
              go_roundw
              case rel => exact ⟨k + 1, by omega, by go_num, by rw [hs2.out], by rw [hs2.out], hb.trans (hb1.mono hbs), Hbk.out.below hb1 hkk⟩
              case measure => simp [intOf]; omega
          · go_wp2
            go_roundw
            case rel => exact ⟨k + 1, by omega, by go_num, by rw [hs.out]; simp [h1, h2, h3], by rw [hs.out]; simp [h1, h2, h3], hb, Hbk.out⟩
            case measure => simp [intOf]; omega
        · go_wp2
          go_roundw
          case rel => exact ⟨k + 1, by omega, by go_num, by rw [hs.out]; simp [h1, h2], by rw [hs.out]; simp [h1, h2], hb, Hbk.out⟩
          case measure => simp [intOf]; omega
      · go_wp2
        go_roundw
        case rel => exact ⟨k + 1, by omega, by go_num, by rw [hs.out]; simp [h1], by rw [hs.out]; simp [h1], hb, Hbk.out⟩
        case measure => simp [intOf]; omega
    · obtain rfl : k = of.length := by omega
      go_wp2
      go_ret
      exact ⟨rfl, hb⟩

/-- The groups after a merge. -/
def merged (of : List Int) (m : Int × Int) : List Int := of.map fun x => if (x == m.1 || x == m.2) then (if m.2 < m.1 then m.2 else m.1) else x

theorem take_snoc' {α : Type} {l : List α} {k : Nat} {x : α} (h : l[k]? = some x) : l.take (k + 1) = l.take k ++ [x] := by
  rw [List.take_add_one, h]; rfl

set_option maxHeartbeats 1000000 in
theorem merged_any (C : Option Addr) (f : Nat) (of : List Int) (a b : Int) (w : World) (hC : SI w C of) (hl : of.length ≤ 4096) :
    Calls Try.prog 63 #[.slice C of.length f, .agg #[.int .i64 a, .int .i64 b]] w fun e w' => ∃ v, e = .returned v ∧ w'.ownsRow w.heap.size 3 1 v of.length ((merged of (a, b)).map (Value.int .i64)) ∧ Below w.heap.size w w' := by
  go_enter Try.func63, Try.ntmps63
  go_wp2
  go_loopw [5, 6] (fun v i wr => ∃ k : Nat, k ≤ of.length ∧ i = .int .i64 k ∧ wr.ownsRow w.heap.size 3 1 v k ((merged (of.take k) (a, b)).map (Value.int .i64)) ∧ Below w.heap.size w wr ∧ Bk wr w.heap.size 114 #[.int .i64 a, .int .i64 b]) (fun _ i _ => of.length - (intOf i).toNat)
  case atStart => exact ⟨0, by omega, rfl, World.ownsRow_nil _ _ _ _, (Below.refl _ _).alloc (Nat.le_refl _) _, Bk.new _ _ _⟩
  case round =>
    obtain ⟨k, hk, rfl, hown, hb, hbk⟩ := hrel
    have hc0 : wr.cell? ⟨w.heap.size, 0, none⟩ = some (.int .i64 a) := hbk.cell 0
    have hc1 : wr.cell? ⟨w.heap.size, 1, none⟩ = some (.int .i64 b) := hbk.cell 1
    have hnb := hbk.ne_own hown (by decide)
    have Hbk := Lib.hid hbk
    clear hbk
    by_cases hlt : k < of.length
    · obtain ⟨b2, o2, p, rfl, hc3, hp⟩ := (hC.below hb).get (k := k) hlt
      have i0 : (0 : Int) ≤ (k : Int) := by omega
      have hs : Hid (merged (of.take (k + 1)) (a, b) = merged (of.take k) (a, b) ++ [if (p == a || p == b) then (if b < a then b else a) else p]) := by
        show _ = _; rw [take_snoc' hp.out]; simp [merged]
      cases h1 : (p == a)
      · cases h2 : (p == b)
        all_goals
          go_wp2
          go_quiet (fail)
          have hown2 : (wr.drewN nq).ownsRow w.heap.size 3 1 _ _ _ := hown
          have hb2 := below_drewN hb nq
          have hd0 : (wr.drewN nq).cell? _ = _ := hc0
          have hd1 : (wr.drewN nq).cell? _ = _ := hc1
          have hd3 : (wr.drewN nq).cell? _ = _ := hc3
          have Hbk2 : Hid _ := Lib.hid (Hbk.out.drewN nq)
          generalize wr.drewN nq = wq at hown2 hb2 hd0 hd1 hd3 Hbk2 ⊢
          clear hc0 hc1 hc3 Hbk hown hb
          go_wp2_with (at_builtin; refine wpList_app1 rfl _ _ rfl elt_int hown2 hb2 rfl rfl (by simp) rfl rfl (by omega) ?_; intro v1 w1 hown1 hb1 hg1 _ _)
          go_roundw
          case rel => exact ⟨k + 1, by omega, by go_num, by rw [hs.out, h1, h2, List.map_append]; exact hown1, hb1, Hbk2.out.grown hg1 hnb⟩
          case measure => simp [intOf]; omega
      · go_wp2
        go_quiet (fail)
        have hown2 : (wr.drewN nq).ownsRow w.heap.size 3 1 _ _ _ := hown
        have hb2 := below_drewN hb nq
        have hd0 : (wr.drewN nq).cell? _ = _ := hc0
        have hd1 : (wr.drewN nq).cell? _ = _ := hc1
        have hd3 : (wr.drewN nq).cell? _ = _ := hc3
        have Hbk2 : Hid _ := Lib.hid (Hbk.out.drewN nq)
        generalize wr.drewN nq = wq at hown2 hb2 hd0 hd1 hd3 Hbk2 ⊢
        clear hc0 hc1 hc3 Hbk hown hb
        go_wp2_with (at_builtin; refine wpList_app1 rfl _ _ rfl elt_int hown2 hb2 rfl rfl (by simp) rfl rfl (by omega) ?_; intro v1 w1 hown1 hb1 hg1 _ _)
        go_roundw
        case rel => exact ⟨k + 1, by omega, by go_num, by rw [hs.out, h1, List.map_append]; exact hown1, hb1, Hbk2.out.grown hg1 hnb⟩
        case measure => simp [intOf]; omega
    · obtain rfl : k = of.length := by omega
      rw [List.take_length] at hown
      go_wp2
      go_ret
      exact ⟨_, rfl, hown, hb⟩
end Go.Proofs.Ytmdgdphhedgojaa

import Derived.Test.YtmdgdphhedgojaaR22
namespace Go.Proofs.Ytmdgdphhedgojaa
open Go.RowKit Go.Maps

/-- The lists behind a slice of slices. -/
def SLL (w : World) (A : Option Addr) (ls : List (List Int)) : Prop := ∃ vs, SL w A vs ∧ vs.length = ls.length ∧ ∀ (j : Nat) v l, vs[j]? = some v → ls[j]? = some l → ∃ B c, v = Value.slice B l.length c ∧ SI w B l

section
variable {w w' : World} {A : Option Addr} {ls : List (List Int)}
theorem SLL.below (h : SLL w A ls) (hb : Below w.heap.size w w') : SLL w' A ls := by
  obtain ⟨vs, h1, h2, h3⟩ := h
  refine ⟨vs, h1.below hb, h2, fun j v l hv hl => ?_⟩
  obtain ⟨B, c, e, hs⟩ := h3 j v l hv hl
  exact ⟨B, c, e, hs.below hb⟩
theorem SLL.qt (h : SLL w A ls) (hq : Qt w w') : SLL w' A ls := by obtain ⟨m, rfl⟩ := hq; exact h
theorem SLL.of_rows {base n c : Nat} {vs : List Value} (ho : w.ownsRow base 22 1 (.slice A n c) n vs) (h : LL w vs ls) (hl : ∀ l ∈ ls, l.length ≤ 1099511627776) : SLL w A ls :=
  ⟨vs, SL.of_own ho, h.len, fun j v l hv hl' => by
    obtain ⟨g, e, hg⟩ := h.el j v l hv hl'
    exact ⟨_, _, e, si_row hg (hl l (List.mem_of_getElem? hl'))⟩⟩
theorem SLL.get {k : Nat} (h : SLL w A ls) (hk : k < ls.length) : ∃ b o B c l, A = some ⟨b, o, none⟩ ∧ w.cell? ⟨b, o + k, none⟩ = some (.slice B l.length c) ∧ SI w B l ∧ Hid (ls[k]? = some l) := by
  obtain ⟨vs, h1, h2, h3⟩ := h
  have hv : vs[k]? = some vs[k] := List.getElem?_eq_getElem (by omega)
  have hl : ls[k]? = some ls[k] := List.getElem?_eq_getElem hk
  obtain ⟨B, c, e, hs⟩ := h3 k _ _ hv hl
  obtain ⟨b, o, e1, _, hc⟩ := h1 k _ hv
  exact ⟨b, o, B, c, ls[k], e1, by rw [hc, e], hs, hl⟩
end

set_option maxHeartbeats 1000000 in
theorem sameLists_any (A B : Option Addr) (c d : Nat) (xs ys : List (List Int)) (w : World) (hA : SLL w A xs) (hB : SLL w B ys) (hl : xs.length ≤ 4611686018427387904)
    (hx : ∀ l ∈ xs, l.length ≤ 4611686018427387904) (hy : ∀ l ∈ ys, l.length ≤ 4611686018427387904) :
    Calls Try.prog 16 #[.slice A xs.length c, .slice B ys.length d] w fun e w' => e = .returned (.bool (decide (xs = ys))) ∧ Qt w w' := by
  by_cases hne : xs.length = ys.length
  · have Hne := Lib.hid hne
    have hle1 : xs.length ≤ ys.length := by omega
    have hle2 : ys.length ≤ xs.length := by omega
    clear hne
    go_enter Try.func16, Try.ntmps16
    go_wp2
    go_loopw [5] (fun i wr => ∃ k : Nat, k ≤ xs.length ∧ i = .int .i64 k ∧ Hid (∀ j, j < k → xs[j]? = ys[j]?) ∧ Qt w wr) (fun i _ => xs.length - (intOf i).toNat)
    case atStart => exact ⟨0, by omega, rfl, (fun j h => by omega), Qt.refl w⟩
    case round =>
      obtain ⟨k, hk, rfl, hall, hq⟩ := hrel
      by_cases hlt : k < xs.length
      · obtain ⟨b1, o1, B1, c1, l1, rfl, hc1, hs1, hx1⟩ := (hA.qt hq).get hlt
        obtain ⟨b2, o2, B2, c2, l2, rfl, hc2, hs2, hy1⟩ := (hB.qt hq).get (k := k) (by omega)
        have hcall : ∀ m, Calls Try.prog 40 #[.slice B1 l1.length c1, .slice B2 l2.length c2] (wr.drewN m) fun e w' => e = .returned (.bool (decide (l1 = l2))) ∧ Qt (wr.drewN m) w' := fun m =>
          sameInts_any B1 B2 c1 c2 l1 l2 _ (hs1.drewN m) (hs2.drewN m) (hx _ (List.mem_of_getElem? hx1.out)) (hy _ (List.mem_of_getElem? hy1.out))
        have Hcall := Lib.hid hcall
        clear hcall
        have i0 : (0 : Int) ≤ (k : Int) := by omega
        have i2 : k < ys.length := by omega
        cases hb : decide (l1 = l2)
        · have hne : xs ≠ ys := fun e => by
            subst e
            have := hx1.out.symm.trans hy1.out
            injection this with this
            subst this
            simp at hb
          have hd : Hid (decide (xs = ys) = false) := by show _ = _; simpa using hne
          clear hne
          rw [hb] at Hcall
          clear hb
          go_wp2_with fail
          go_quiet ((go_at_call 40; exact (Hcall.out _).mono fun _ _ h => ⟨h.1, by obtain ⟨n, e⟩ := h.2; exact ⟨_, by rw [e, World.drewN_drewN]⟩⟩))
          go_wp2_with fail
          go_ret
          exact ⟨ret_bool hd.out.symm, hq.trans ⟨_, rfl⟩⟩
        · have he : Hid (∀ j, j < k + 1 → xs[j]? = ys[j]?) := fun j hj => by
            rcases Nat.lt_or_ge j k with h | h
            · exact hall.out j h
            · obtain rfl : j = k := by omega
              rw [hx1.out, hy1.out, of_decide_eq_true hb]
          rw [hb] at Hcall
          clear hb
          go_wp2_with fail
          go_quiet ((go_at_call 40; exact (Hcall.out _).mono fun _ _ h => ⟨h.1, by obtain ⟨n, e⟩ := h.2; exact ⟨_, by rw [e, World.drewN_drewN]⟩⟩))
          go_wp2_with fail
          go_roundw
          case rel => exact ⟨k + 1, by omega, by go_num, he, hq.trans ⟨_, rfl⟩⟩
          case measure => simp [intOf]; omega
      · have he : Hid (decide (xs = ys) = true) := by
          refine decide_eq_true (List.ext_getElem? fun j => ?_)
          by_cases hj : j < k
          · exact hall.out j hj
          · rw [List.getElem?_eq_none (by omega), List.getElem?_eq_none (by omega)]
        go_wp2_with fail
        go_ret
        exact ⟨ret_bool he.out.symm, hq⟩
  · have he : Hid (decide (xs = ys) = false) := decide_eq_false fun h => hne (by rw [h])
    go_enter Try.func16, Try.ntmps16
    go_wp2
    go_ret
    exact ⟨ret_bool he.out.symm, Qt.refl _⟩

theorem own_any (A B : Option Addr) (c d n m : Nat) (w : World) :
    Calls Try.prog 14 #[.agg #[.slice A n c, .slice B m d]] w fun e w' => e = .returned (.agg #[.slice A n c, .slice B m d]) ∧ Below w.heap.size w w' := by
  go_enter Try.func14, Try.ntmps14
  go_wp2
  refine bodyPost_ret (v := .agg #[.slice A n c, .slice B m d]) (by simp [results, Try.results14, go_sem]) rfl ⟨rfl, ?_⟩
  exact ((Below.refl _ _).alloc (Nat.le_refl _) _).alloc (by simp) _

theorem sorted_snoc {zs : List Int} {x : Int} (h : sorted zs) (hx : ∀ z ∈ zs, z ≤ x) : sorted (zs ++ [x]) := fun j hj => by
  simp at hj
  by_cases h1 : j + 1 < zs.length
  · have := h j h1
    simp only [List.getD] at this ⊢
    rw [List.getElem?_append_left (by omega), List.getElem?_append_left h1]
    exact this
  · have hj' : j + 1 = zs.length := by omega
    simp only [List.getD]
    rw [List.getElem?_append_left (by omega), List.getElem?_append_right (by omega), hj', Nat.sub_self, List.getElem?_eq_getElem (by omega)]
    exact hx _ (List.getElem_mem _)

/-- Thresholds that were made. -/
structure GoodT (zs : List Int) (m : Int) : Prop where
  n1 : 1 ≤ zs.length
  n2 : zs.length ≤ 5
  b : ∀ z ∈ zs, 0 ≤ z ∧ z ≤ m
  s : sorted zs

theorem GoodT.ok {zs : List Int} {m : Int} (h : GoodT zs m) (hm : m ≤ 1152921504606846976) : thrE zs = 0 := by
  have n1 := h.n1
  have n2 := h.n2
  have g : ∀ k, k < zs.length → 0 ≤ zs.getD k 0 ∧ zs.getD k 0 ≤ m := fun k hk => by
    have := h.b zs[k] (List.getElem_mem hk)
    simpa [List.getD, hk] using this
  have g0 := g 0 (by omega)
  have g1 := g (zs.length - 1) (by omega)
  unfold thrE
  rw [if_neg]
  simp only [thrB, Bool.or_eq_true, decide_eq_true_eq, not_or, Bool.not_eq_true', decide_eq_false_iff_not, Decidable.not_not]
  exact ⟨⟨⟨⟨by omega, by omega⟩, by omega⟩, h.s⟩, by omega⟩

set_option maxHeartbeats 1000000 in
theorem least_any (A : Option Addr) (c : Nat) (l : List Int) (w : World) (hA : SI w A l) (hw : W64 l) :
    Calls Try.prog 9 #[.slice A l.length c] w fun e w' => ∃ v zs, e = .returned v ∧ w'.ownsRow w.heap.size 3 1 v zs.length (zs.map (Value.int .i64)) ∧ GoodT zs 45 ∧ Below w.heap.size w w' := by
  go_enter Try.func9, Try.ntmps9
  go_wp2
  have hp := pick_bd l 0 4 (by omega)
  go_loopw [3, 4, 5] (fun v last i wr => ∃ (zs : List Int) (x : Int), zs.length ≤ 1 + (pick l 0 4).toNat ∧ i = .int .i64 zs.length ∧ last = .int .i64 x ∧ 0 ≤ x ∧ x ≤ 9 * zs.length ∧ Hid (∀ z ∈ zs, 0 ≤ z ∧ z ≤ x) ∧ Hid (sorted zs) ∧ wr.ownsRow w.heap.size 3 1 v zs.length (zs.map (Value.int .i64)) ∧ Below w.heap.size w wr) (fun _ _ i _ => 1 + (pick l 0 4).toNat - (intOf i).toNat)
  case atStart => exact ⟨[], 0, by simp, rfl, rfl, by omega, by simp, (fun z hz => by simp at hz), (fun j hj => by simp at hj), World.ownsRow_nil _ _ _ _, Below.refl _ _⟩
  case round =>
    obtain ⟨zs, x, hk, rfl, rfl, hx0, hx1, hzb, hzs, hown, hb⟩ := hrel
    have hbs := hb.size
    have hA' := hA.below hb
    have hcall : ∀ (i m : Int), 1 ≤ m → m ≤ 9223372036854775807 → Calls Try.prog 31 #[.slice A l.length c, .int .i64 i, .int .i64 m] wr fun e w' => e = .returned (.int .i64 (pick l i m)) ∧ wr = w' := fun i m h1 h2 => pick_any A c l i m wr hA' hw h1 h2
    have Hcall := Lib.hid hcall
    clear hcall hA'
    have hp2 := pick_bd l (1 + (zs.length : Int)) 9 (by omega)
    obtain ⟨hp21, hp22⟩ := hp2
    obtain ⟨hp1, hp3⟩ := hp
    by_cases hlt : zs.length < 1 + (pick l 0 4).toNat
    · have hlt2 : (zs.length : Int) < 1 + pick l 0 4 := by omega
      have Hx : Hid (∀ y, y = x + pick l (1 + (zs.length : Int)) 9 → ∀ z ∈ zs, z ≤ y) := fun y hy z hz => by have := hzb.out z hz; omega
      go_wp2_with (first
        | (go_at_call 31; refine (Hcall.out _ _ (by omega) (by omega)).mono ?_; rintro e w' ⟨rfl, rfl⟩)
        | (at_builtin; refine wpList_app2 (w := wr) rfl _ _ rfl elt_int hown hbs rfl rfl (by simp) rfl rfl (by omega) ?_; intro v1 w1 hown1 hg1 hz1))
      go_roundw
      case rel =>
        refine ⟨zs ++ [x + pick l (1 + (zs.length : Int)) 9], x + pick l (1 + (zs.length : Int)) 9, by simp; omega, by simp, rfl, by omega, by simp; omega, ?_, sorted_snoc hzs.out (Hx.out _ rfl), by simpa using hown1, hb.grown hg1 hbs (fun k hk => (hown.lt k hk).1)⟩
        intro z hz
        rcases List.mem_append.1 hz with hz | hz
        · have := hzb.out z hz; omega
        · have : z = x + pick l (1 + (zs.length : Int)) 9 := by simpa using hz
          omega
      case measure => simp [intOf]; omega
    · have hlt2 : 1 + pick l 0 4 ≤ (zs.length : Int) := by omega
      go_wp2_with (go_at_call 31; refine (Hcall.out _ _ (by omega) (by omega)).mono ?_; rintro e w' ⟨rfl, rfl⟩)
      go_ret
      exact ⟨_, zs, rfl, hown, ⟨by omega, by omega, fun z hz => by have := hzb.out z hz; omega, hzs.out⟩, hb⟩
end Go.Proofs.Ytmdgdphhedgojaa

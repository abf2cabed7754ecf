import Derived.Test.YtmdgdphhedgojaaR02
namespace Go.Proofs.Ytmdgdphhedgojaa
open Go.RowKit

/-- The cells of a list of triples. -/
def triC (ns : List (Int × Int × Int)) : List Value := ns.flatMap fun t => [.int .i64 t.1, .int .i64 t.2.1, .int .i64 t.2.2]

/-- The weight of a group among the first faces. -/
def weightTo (ws of : List Int) (g : Int) : Nat → Int
  | 0 => 0
  | k + 1 => weightTo ws of g k + if of.getD k 0 = g then ws.getD k 0 else 0

def weight (ws of : List Int) (g : Int) : Int := weightTo ws of g of.length

/-- Numbers from 0 to 2^40. -/
def W40 (zs : List Int) : Prop := ∀ z ∈ zs, 0 ≤ z ∧ z ≤ 1099511627776

theorem W40.getD {zs : List Int} (h : W40 zs) (k : Nat) : 0 ≤ zs.getD k 0 ∧ zs.getD k 0 ≤ 1099511627776 := by
  by_cases hk : k < zs.length
  · have := h zs[k] (List.getElem_mem hk)
    simpa [List.getD, hk] using this
  · simp [List.getD, hk]

theorem weightTo_bd {ws of : List Int} {g : Int} (h : W40 ws) (k : Nat) : 0 ≤ weightTo ws of g k ∧ weightTo ws of g k ≤ 1099511627776 * k := by
  induction k with
  | zero => simp [weightTo]
  | succ k ih =>
    have := h.getD k
    unfold weightTo
    split <;> omega

theorem getD_of {zs : List Int} {k : Nat} {x : Int} (h : zs[k]? = some x) : zs.getD k 0 = x := by simp [List.getD, h]

set_option maxHeartbeats 800000 in
theorem weight_any (A B C : Option Addr) (c d f : Nat) (ws of : List Int) (m : Nat) (g : Int) (w : World) (hA : SI w A ws) (hC : SI w C of) (hw : W40 ws) (hl : of.length = ws.length) (hl2 : ws.length ≤ 4096) :
    Calls Try.prog 71 #[.agg #[.slice A ws.length c, .slice B m d], .slice C of.length f, .int .i64 g] w fun e w' => e = .returned (.int .i64 (weight ws of g)) ∧ Below w.heap.size w w' := by
  have Hl := Lib.hid hl
  have hle : of.length ≤ ws.length := by omega
  clear hl
  go_enter Try.func71, Try.ntmps71
  go_wp2
  go_loopw [7, 8] (fun s i wr => ∃ k : Nat, k ≤ of.length ∧ i = .int .i64 k ∧ s = .int .i64 (weightTo ws of g k) ∧ Below w.heap.size w wr ∧ wr.cell? ⟨w.heap.size, 0, none⟩ = some (.slice A ws.length c)) (fun _ i _ => of.length - (intOf i).toNat)
  case atStart => exact ⟨0, by omega, rfl, rfl, (Below.refl _ _).alloc (Nat.le_refl _) _, by go_simp⟩
  case round =>
    obtain ⟨k, hk, rfl, rfl, hb, hc⟩ := hrel
    have hbd := weightTo_bd (of := of) (g := g) hw k
    by_cases hlt : k < of.length
    · obtain ⟨b1, o1, x, rfl, hc1, hx⟩ := (hA.below hb).get (k := k) (by omega)
      obtain ⟨b2, o2, y, rfl, hc2, hy⟩ := (hC.below hb).get hlt
      have hxb := hw.getD k
      rw [getD_of hx.out] at hxb
      have hs : Hid (weightTo ws of g (k + 1) = weightTo ws of g k + if y = g then x else 0) := by
        show _ = _; rw [weightTo, getD_of hx.out, getD_of hy.out]
      obtain ⟨hbd1, hbd2⟩ := hbd
      obtain ⟨hxb1, hxb2⟩ := hxb
      generalize weightTo ws of g k = s at *
      go_wp2
      · have ht : (y == g) = true := by assumption
        go_roundw
        case rel => exact ⟨k + 1, by omega, by go_num, by rw [hs.out, if_pos (by simpa using ht)], hb, hc⟩
        case measure => simp [intOf]; omega
      · have ht : (y == g) = false := by assumption
        go_roundw
        case rel => exact ⟨k + 1, by omega, by go_num, by rw [hs.out, if_neg (by simpa using ht), Int.add_zero], hb, hc⟩
        case measure => simp [intOf]; omega
    · obtain rfl : k = of.length := by omega
      go_wp2
      go_ret
      exact ⟨rfl, hb⟩

theorem triC_len (ns : List (Int × Int × Int)) : (triC ns).length = ns.length * 3 := by
  induction ns with
  | nil => rfl
  | cons t ns ih => simp only [triC, List.flatMap_cons, List.length_append, List.length_cons, List.length_nil] at ih ⊢; omega

theorem triC_cons (t : Int × Int × Int) (ns : List (Int × Int × Int)) : triC (t :: ns) = [.int .i64 t.1, .int .i64 t.2.1, .int .i64 t.2.2] ++ triC ns := rfl
theorem triC_append (a b : List (Int × Int × Int)) : triC (a ++ b) = triC a ++ triC b := by simp [triC]

theorem triC_at : ∀ (ns : List (Int × Int × Int)) (k : Nat) (t : Int × Int × Int), ns[k]? = some t →
    (triC ns)[k * 3]? = some (.int .i64 t.1) ∧ (triC ns)[k * 3 + 1]? = some (.int .i64 t.2.1) ∧ (triC ns)[k * 3 + 2]? = some (.int .i64 t.2.2)
  | [], k, t, h => by simp at h
  | u :: ns, 0, t, h => by simp at h; subst h; simp [triC_cons]
  | u :: ns, k + 1, t, h => by
    have ih := triC_at ns k t (by simpa using h)
    rw [triC_cons]
    have e : ∀ j, (k + 1) * 3 + j = 3 + (k * 3 + j) := fun j => by omega
    have e' : ∀ j, ([Value.int .i64 u.1, .int .i64 u.2.1, .int .i64 u.2.2] ++ triC ns)[3 + j]? = (triC ns)[j]? := fun j => by
      rw [List.getElem?_append_right (by simp)]; simp
    exact ⟨by have := e 0; simp only [Nat.add_zero] at this; rw [this, e']; exact ih.1, by rw [e 1, e']; exact ih.2.1, by rw [e 2, e']; exact ih.2.2⟩

/-- The triples of a slice. -/
def ST (w : World) (A : Option Addr) (ns : List (Int × Int × Int)) : Prop := SL w A (triC ns)
section
variable {w w' : World} {A : Option Addr} {ns : List (Int × Int × Int)}
theorem ST.below (h : ST w A ns) (hb : Below w.heap.size w w') : ST w' A ns := SL.below h hb
theorem ST.drewN (h : ST w A ns) (k : Nat) : ST (w.drewN k) A ns := h
theorem ST.alloc (h : ST w A ns) (o : Obj) : ST (w.alloc o) A ns := SL.alloc h o
theorem ST.get {k : Nat} (h : ST w A ns) (hk : k < ns.length) : ∃ b o x y z, A = some ⟨b, o, none⟩ ∧ w.cell? ⟨b, o + k * 3, none⟩ = some (.int .i64 x) ∧ w.cell? ⟨b, o + k * 3 + 1, none⟩ = some (.int .i64 y) ∧ w.cell? ⟨b, o + k * 3 + 2, none⟩ = some (.int .i64 z) ∧ Hid (ns[k]? = some (x, y, z)) := by
  have hn : ns[k]? = some ns[k] := List.getElem?_eq_getElem hk
  obtain ⟨h0, h1, h2⟩ := triC_at ns k _ hn
  obtain ⟨b, o, e0, _, c0⟩ := h _ _ h0
  subst e0
  have c1 := SL.two h h0 h1
  have c2 := SL.two h h0 h2
  rw [← Nat.add_assoc] at c1 c2
  exact ⟨b, o, _, _, _, rfl, c0, c1, c2, hn⟩
end

/-- The common length of two groups, of the first borders. -/
def commonTo (ns : List (Int × Int × Int)) (of : List Int) (a b : Int) : Nat → Int
  | 0 => 0
  | k + 1 => commonTo ns of a b k + if (of.getD (ns.getD k (0, 0, 0)).1.toNat 0 == a && of.getD (ns.getD k (0, 0, 0)).2.1.toNat 0 == b || of.getD (ns.getD k (0, 0, 0)).1.toNat 0 == b && of.getD (ns.getD k (0, 0, 0)).2.1.toNat 0 == a) then (ns.getD k (0, 0, 0)).2.2 else 0

def common (ns : List (Int × Int × Int)) (of : List Int) (a b : Int) : Int := commonTo ns of a b ns.length

/-- The borders are between n faces, their lengths from 1 to 2^40. -/
def NOK (n : Nat) (ns : List (Int × Int × Int)) : Prop := ∀ t ∈ ns, 0 ≤ t.1 ∧ t.1 < n ∧ 0 ≤ t.2.1 ∧ t.2.1 < n ∧ 1 ≤ t.2.2 ∧ t.2.2 ≤ 1099511627776

theorem tri_getD {ns : List (Int × Int × Int)} {k : Nat} {t : Int × Int × Int} (h : ns[k]? = some t) : ns.getD k (0, 0, 0) = t := by simp [List.getD, h]

theorem NOK.at {n : Nat} {ns : List (Int × Int × Int)} {k : Nat} {t : Int × Int × Int} (h : NOK n ns) (hk : ns[k]? = some t) : 0 ≤ t.1 ∧ t.1 < n ∧ 0 ≤ t.2.1 ∧ t.2.1 < n ∧ 1 ≤ t.2.2 ∧ t.2.2 ≤ 1099511627776 :=
  h t (List.mem_of_getElem? hk)

theorem commonTo_bd {n : Nat} {ns : List (Int × Int × Int)} {of : List Int} {a b : Int} (h : NOK n ns) (k : Nat) : 0 ≤ commonTo ns of a b k ∧ commonTo ns of a b k ≤ 1099511627776 * k := by
  induction k with
  | zero => simp [commonTo]
  | succ k ih =>
    have : 0 ≤ (ns.getD k (0, 0, 0)).2.2 ∧ (ns.getD k (0, 0, 0)).2.2 ≤ 1099511627776 := by
      by_cases hk : k < ns.length
      · have hn : ns[k]? = some ns[k] := List.getElem?_eq_getElem hk
        have := h.at hn
        rw [tri_getD hn]; omega
      · simp [List.getD, hk]
    unfold commonTo
    split <;> omega

set_option maxHeartbeats 800000 in
theorem common_any (A B C : Option Addr) (c d f : Nat) (m : Nat) (ns : List (Int × Int × Int)) (of : List Int) (a b : Int) (w : World) (hB : ST w B ns) (hC : SI w C of) (hn : NOK of.length ns) (hl : ns.length ≤ 16384) :
    Calls Try.prog 77 #[.agg #[.slice A m c, .slice B ns.length d], .slice C of.length f, .int .i64 a, .int .i64 b] w fun e w' => e = .returned (.int .i64 (common ns of a b)) ∧ Below w.heap.size w w' := by
  go_enter Try.func77, Try.ntmps77
  go_wp2
  go_loopw [9, 10] (fun s i wr => ∃ k : Nat, k ≤ ns.length ∧ i = .int .i64 k ∧ s = .int .i64 (commonTo ns of a b k) ∧ Below w.heap.size w wr ∧ wr.cell? ⟨w.heap.size, 1, none⟩ = some (.slice B ns.length d)) (fun _ i _ => ns.length - (intOf i).toNat)
  case atStart => exact ⟨0, by omega, rfl, rfl, (Below.refl _ _).alloc (Nat.le_refl _) _, by go_simp⟩
  case round =>
    obtain ⟨k, hk, rfl, rfl, hb, hc⟩ := hrel
    have hbd := commonTo_bd (of := of) (a := a) (b := b) hn k
    by_cases hlt : k < ns.length
    · obtain ⟨b1, o1, x, y, z, rfl, hc0, hc1, hc2, ht⟩ := (hB.below hb).get hlt
      obtain ⟨hx1, hx2, hy1, hy2, hz1, hz2⟩ := hn.at ht.out
      dsimp only at hx1 hx2 hy1 hy2 hz1 hz2
      obtain ⟨x, rfl⟩ := Int.eq_ofNat_of_zero_le hx1
      obtain ⟨y, rfl⟩ := Int.eq_ofNat_of_zero_le hy1
      obtain ⟨b2, o2, p, rfl, hc3, hp⟩ := (hC.below hb).get (k := x) (by omega)
      obtain ⟨b3, o3, q, he, hc4, hq⟩ := (hC.below hb).get (k := y) (by omega)
      injection he with he
      injection he with he1 he2
      subst he1 he2
      have hs : Hid (commonTo ns of a b (k + 1) = commonTo ns of a b k + if (p == a && q == b || p == b && q == a) then z else 0) := by
        show _ = _; rw [commonTo, tri_getD ht.out]; simp only [Int.toNat_natCast]; rw [getD_of hp.out, getD_of hq.out]
      obtain ⟨hbd1, hbd2⟩ := hbd
      generalize commonTo ns of a b k = s at *
      cases hpa : (p == a)
      · cases hpb : (p == b)
        · go_wp2
          go_roundw
          case rel => exact ⟨k + 1, by omega, by go_num, by rw [hs.out]; simp [hpa, hpb], hb, hc⟩
          case measure => simp [intOf]; omega
        · cases hqa : (q == a)
          all_goals
            go_wp2
            go_roundw
            case rel => exact ⟨k + 1, by omega, by go_num, by rw [hs.out]; simp [hpa, hpb, hqa], hb, hc⟩
            case measure => simp [intOf]; omega
      · cases hqb : (q == b)
        · cases hpb : (p == b)
          · go_wp2
            go_roundw
            case rel => exact ⟨k + 1, by omega, by go_num, by rw [hs.out]; simp [hqb, hpb], hb, hc⟩
            case measure => simp [intOf]; omega
          · cases hqa : (q == a)
            all_goals
              go_wp2
              go_roundw
              case rel => exact ⟨k + 1, by omega, by go_num, by rw [hs.out]; simp [hqb, hpb, hqa], hb, hc⟩
              case measure => simp [intOf]; omega
        · go_wp2
          go_roundw
          case rel => exact ⟨k + 1, by omega, by go_num, by rw [hs.out]; simp [hpa, hqb], hb, hc⟩
          case measure => simp [intOf]; omega
    · obtain rfl : k = ns.length := by omega
      go_wp2
      go_ret
      exact ⟨rfl, hb⟩
end Go.Proofs.Ytmdgdphhedgojaa

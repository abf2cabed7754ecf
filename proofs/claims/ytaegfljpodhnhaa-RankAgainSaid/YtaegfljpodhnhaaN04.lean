import Derived.Test.YtaegfljpodhnhaaN02
namespace Go.Proofs.Ytaegfljpodhnhaa
open Go.RowKit Go.Maps

/-- Sums. -/
def sumN (f : Nat → Int) : Nat → Int
  | 0 => 0
  | n + 1 => sumN f n + f n
theorem sumN_congr {f g : Nat → Int} : ∀ n, (∀ i, i < n → f i = g i) → sumN f n = sumN g n
  | 0, _ => rfl
  | n + 1, h => by rw [sumN, sumN, sumN_congr n (fun i hi => h i (by omega)), h n (by omega)]
theorem sumN_add {f g : Nat → Int} : ∀ n, sumN (fun i => f i + g i) n = sumN f n + sumN g n
  | 0 => rfl
  | n + 1 => by simp only [sumN, sumN_add n]; omega
theorem sumN_zero {f : Nat → Int} : ∀ n, (∀ i, i < n → f i = 0) → sumN f n = 0
  | 0, _ => rfl
  | n + 1, h => by rw [sumN, sumN_zero n (fun i hi => h i (by omega)), h n (by omega)]; rfl
theorem sumN_single {f : Nat → Int} {p : Nat} : ∀ n, p < n → (∀ i, i < n → i ≠ p → f i = 0) → sumN f n = f p
  | 0, hp, _ => by omega
  | n + 1, hp, h => by
    rw [sumN]
    by_cases hn : p = n
    · rw [hn, sumN_zero n (fun i hi => h i (by omega) (by omega)), Int.zero_add]
    · rw [sumN_single n (by omega) (fun i hi => h i (by omega)), h n (by omega) (fun e => hn e.symm), Int.add_zero]
theorem sumN_swap {f : Nat → Nat → Int} {n : Nat} : ∀ m, sumN (fun i => sumN (f i) n) m = sumN (fun j => sumN (fun i => f i j) m) n
  | 0 => (sumN_zero n (fun _ _ => rfl)).symm
  | m + 1 => by
    have h : sumN (fun j => sumN (fun i => f i j) (m + 1)) n = sumN (fun j => sumN (fun i => f i j) m + f m j) n := rfl
    rw [h, sumN_add, ← sumN_swap m]
    rfl
theorem sumN_if {f : Nat → Int} {c : Prop} [Decidable c] (n : Nat) : (if c then sumN f n else 0) = sumN (fun i => if c then f i else 0) n := by
  by_cases h : c
  · rw [if_pos h]; exact sumN_congr n (fun i _ => by rw [if_pos h])
  · rw [if_neg h, sumN_zero n (fun i _ => by rw [if_neg h])]

theorem weightTo_sum (ws of : List Int) (g : Int) : ∀ k, weightTo ws of g k = sumN (fun i => if of.getD i 0 = g then ws.getD i 0 else 0) k
  | 0 => rfl
  | k + 1 => by rw [weightTo, sumN, weightTo_sum ws of g k]

/-- What a border adds to a common length. -/
def phi (of : List Int) (a b : Int) (t : Int × Int × Int) : Int :=
  if (of.getD t.1.toNat 0 = a ∧ of.getD t.2.1.toNat 0 = b) ∨ (of.getD t.1.toNat 0 = b ∧ of.getD t.2.1.toNat 0 = a) then t.2.2 else 0
theorem commonTo_sum (ns : List (Int × Int × Int)) (of : List Int) (a b : Int) : ∀ k, commonTo ns of a b k = sumN (fun e => phi of a b (ns.getD e (0, 0, 0))) k
  | 0 => rfl
  | k + 1 => by
    rw [commonTo, sumN, commonTo_sum ns of a b k]
    congr 1
    unfold phi
    simp only [Bool.or_eq_true, Bool.and_eq_true, beq_iff_eq]
theorem common_map (ns : List (Int × Int × Int)) (of : List Int) (a b : Int) : common ns of a b = (ns.map (phi of a b)).sum := by
  have key : ∀ k, k ≤ ns.length → commonTo ns of a b k = ((ns.take k).map (phi of a b)).sum := by
    intro k
    induction k with
    | zero => intro _; rfl
    | succ k ih =>
      intro hk
      have hx : ns[k]? = some ns[k] := List.getElem?_eq_getElem (by omega)
      have e : commonTo ns of a b (k + 1) = commonTo ns of a b k + phi of a b (ns.getD k (0, 0, 0)) := by rw [commonTo_sum, commonTo_sum]; rfl
      rw [e, ih (by omega), take_snoc' hx, List.map_append, List.sum_append, tri_getD hx]
      simp
  have h := key ns.length (Nat.le_refl _)
  rw [List.take_length] at h
  exact h
theorem row_sum {n : Nat} {ns : List (Int × Int × Int)} (hN : NOK n ns) (l q : List Int) (a b : Int) (i : Nat) : ∀ m, ((rowTo ns l i m).map (phi q a b)).sum = sumN (fun m => phi q a b ((i : Int), ((i + 1 + m : Nat) : Int), common ns l (i : Int) ((i + 1 + m : Nat) : Int))) m
  | 0 => rfl
  | m + 1 => by
    rw [rowTo, List.map_append, List.sum_append, row_sum hN l q a b i m, sumN]
    congr 1
    split
    · simp
    · rename_i h
      have h0 := (commonTo_bd (of := l) (a := (i : Int)) (b := ((i + 1 + m : Nat) : Int)) hN ns.length).1
      have h1 : common ns l (i : Int) ((i + 1 + m : Nat) : Int) = 0 := by unfold common at h ⊢; omega
      rw [h1]
      simp [phi]
theorem nr_sum {n : Nat} {ns : List (Int × Int × Int)} (hN : NOK n ns) (l q : List Int) (a b : Int) (G : Nat) : ∀ i, ((nrTo ns l G i).map (phi q a b)).sum = sumN (fun i => sumN (fun m => phi q a b ((i : Int), ((i + 1 + m : Nat) : Int), common ns l (i : Int) ((i + 1 + m : Nat) : Int))) (G - (i + 1))) i
  | 0 => rfl
  | i + 1 => by rw [nrTo, List.map_append, List.sum_append, nr_sum hN l q a b G i, row_sum hN, sumN]

/-- The first face of a group. -/
def ro (l : List Int) (v : Nat) : Nat := l.idxOf (v : Int)
/-- The groups of the faces, off groups of groups. -/
def lift (l q : List Int) : List Int := l.map fun x => ((ro l (q.getD x.toNat 0).toNat : Nat) : Int)
theorem lift_len (l q : List Int) : (lift l q).length = l.length := by simp [lift]

/-- Groups, and groups of these. -/
structure Two (l q : List Int) : Prop where
  g : GoodL l
  c : CN q
  n : q.length = gk l l.length

section
variable {l q : List Int}
theorem good_at (h : GoodL l) {k : Nat} (hk : k < l.length) : ∃ u : Nat, l.getD k 0 = u ∧ u < gk l l.length := by
  have := gk_lt h hk hk
  exact ⟨(l.getD k 0).toNat, by omega, by omega⟩
theorem Two.at (h : Two l q) {v : Nat} (hv : v < gk l l.length) : ∃ r : Nat, q.getD v 0 = r ∧ r < gk l l.length ∧ q.getD r 0 = r := by
  obtain ⟨r, h1, h2, h3⟩ := h.c v (by rw [h.n]; exact hv)
  exact ⟨r, h1, by omega, h3⟩
theorem ro_at {v : Nat} (hv : v < gk l l.length) : ro l v < l.length ∧ l.getD (ro l v) 0 = v := by
  have hm := gk_mem hv
  have h1 := List.idxOf_lt_length_of_mem hm
  have h2 := List.getElem_idxOf h1
  exact ⟨h1, by simp only [ro, List.getD, List.getElem?_eq_getElem h1, h2, Option.getD_some]⟩
theorem ro_lt (h : GoodL l) {u v : Nat} (huv : u < v) (hv : v < gk l l.length) : ro l u < ro l v := by
  obtain ⟨h1, h2⟩ := ro_at hv
  have h3 := h (ro l v) h1
  rw [h2] at h3
  obtain ⟨j, hj, e⟩ := gk_occ l u (ro l v) (by omega)
  have hx : l[j]? = some (u : Int) := by
    rw [← e, List.getD, List.getElem?_eq_getElem (by omega)]
    rfl
  have := idx_le hx
  unfold ro at hj ⊢
  omega
theorem ro_inj (h : GoodL l) {u v : Nat} (hu : u < gk l l.length) (hv : v < gk l l.length) (e : ro l u = ro l v) : u = v := by
  rcases Nat.lt_trichotomy u v with h1 | h1 | h1
  · have := ro_lt h h1 hv; omega
  · exact h1
  · have := ro_lt h h1 hu; omega
theorem ro_le (h : GoodL l) {u v : Nat} (hu : u < gk l l.length) (hv : v < gk l l.length) : ro l u ≤ ro l v ↔ u ≤ v := by
  rcases Nat.lt_trichotomy u v with h1 | h1 | h1
  · have := ro_lt h h1 hv; omega
  · rw [h1]; omega
  · have := ro_lt h h1 hu; omega
theorem lift_at {k u : Nat} (hk : k < l.length) (hu : l.getD k 0 = u) {r : Nat} (hr : q.getD u 0 = r) : (lift l q).getD k 0 = (ro l r : Int) := by
  have hx : l[k]? = some (u : Int) := by
    rw [← hu, List.getD, List.getElem?_eq_getElem hk]
    rfl
  rw [List.getD, lift, List.getElem?_map, hx]
  simp only [Option.map_some, Option.getD_some, Int.toNat_natCast, hr]
theorem lift_ro {v r : Nat} (hv : v < gk l l.length) (hr : q.getD v 0 = r) : (lift l q).getD (ro l v) 0 = (ro l r : Int) := lift_at (ro_at hv).1 (ro_at hv).2 hr
theorem Two.eq_iff (h : Two l q) {k u r a : Nat} (hk : k < l.length) (hu : l.getD k 0 = u) (hul : u < gk l l.length) (hr : q.getD u 0 = r) (ha : a < gk l l.length) : (lift l q).getD k 0 = (ro l a : Int) ↔ r = a := by
  obtain ⟨r', h1, h2, _⟩ := h.at hul
  obtain rfl : r' = r := by omega
  rw [lift_at hk hu hr]
  constructor
  · intro e; exact ro_inj h.g h2 ha (by omega)
  · intro e; rw [e]

/-- The weight of a group of groups. -/
theorem weight_lift (h : Two l q) (ws : List Int) {a : Nat} (ha : a < gk l l.length) : weight ws (lift l q) (ro l a) = weight (qW ws l) q a := by
  unfold weight
  rw [weightTo_sum, weightTo_sum, lift_len, h.n]
  have e1 : sumN (fun i => if q.getD i 0 = (a : Int) then (qW ws l).getD i 0 else 0) (gk l l.length) = sumN (fun i => sumN (fun x => if q.getD i 0 = (a : Int) then (if l.getD x 0 = (i : Int) then ws.getD x 0 else 0) else 0) l.length) (gk l l.length) := by
    refine sumN_congr _ (fun i hi => ?_)
    rw [List.getD, List.getD, qW_at ws hi, Option.getD_some, ← sumN_if, weight, weightTo_sum]
  rw [e1, sumN_swap]
  refine sumN_congr _ (fun x hx => ?_)
  obtain ⟨u, hu, hul⟩ := good_at h.g hx
  obtain ⟨r, hr, _⟩ := h.at hul
  rw [sumN_single _ hul]
  · rw [hu, if_pos rfl, hr]
    by_cases hra : r = a
    · rw [if_pos ((h.eq_iff hx hu hul hr ha).2 hra), if_pos (by rw [hra])]
    · rw [if_neg (fun e => hra ((h.eq_iff hx hu hul hr ha).1 e)), if_neg (by omega)]
  · intro i _ hne
    rw [hu, if_neg (show ¬ ((u : Int) = (i : Int)) by omega), ite_self]

/-- The common length of two groups of groups. -/
theorem common_lift (h : Two l q) {ns : List (Int × Int × Int)} (hN : NOK l.length ns) {a b : Nat} (ha : a < gk l l.length) (hb : b < gk l l.length) (hab : a ≠ b) : common ns (lift l q) (ro l a) (ro l b) = common (qN ns l) q a b := by
  rw [common_map (qN ns l), qN, nr_sum hN]
  have e1 : sumN (fun i => sumN (fun m => phi q a b ((i : Int), ((i + 1 + m : Nat) : Int), common ns l (i : Int) ((i + 1 + m : Nat) : Int))) (gk l l.length - (i + 1))) (gk l l.length) =
      sumN (fun i => sumN (fun m => sumN (fun e => if (q.getD i 0 = (a : Int) ∧ q.getD (i + 1 + m) 0 = (b : Int)) ∨ (q.getD i 0 = (b : Int) ∧ q.getD (i + 1 + m) 0 = (a : Int)) then phi l (i : Int) ((i + 1 + m : Nat) : Int) (ns.getD e (0, 0, 0)) else 0) ns.length) (gk l l.length - (i + 1))) (gk l l.length) := by
    refine sumN_congr _ (fun i hi => sumN_congr _ (fun m hm => ?_))
    rw [← sumN_if, ← commonTo_sum]
    unfold phi common
    simp only [Int.toNat_natCast]
  rw [e1]
  have e2 : ∀ i, sumN (fun m => sumN (fun e => if (q.getD i 0 = (a : Int) ∧ q.getD (i + 1 + m) 0 = (b : Int)) ∨ (q.getD i 0 = (b : Int) ∧ q.getD (i + 1 + m) 0 = (a : Int)) then phi l (i : Int) ((i + 1 + m : Nat) : Int) (ns.getD e (0, 0, 0)) else 0) ns.length) (gk l l.length - (i + 1)) = sumN (fun e => sumN (fun m => if (q.getD i 0 = (a : Int) ∧ q.getD (i + 1 + m) 0 = (b : Int)) ∨ (q.getD i 0 = (b : Int) ∧ q.getD (i + 1 + m) 0 = (a : Int)) then phi l (i : Int) ((i + 1 + m : Nat) : Int) (ns.getD e (0, 0, 0)) else 0) (gk l l.length - (i + 1))) ns.length := fun i => sumN_swap _
  rw [sumN_congr _ (fun i _ => e2 i), sumN_swap]
  unfold common
  rw [commonTo_sum]
  refine sumN_congr _ (fun e he => ?_)
  have ht : ns[e]? = some ns[e] := List.getElem?_eq_getElem he
  have hz := hN.at ht
  rw [tri_getD ht]
  generalize ns[e] = t at hz
  obtain ⟨x, y, z⟩ := t
  simp only at hz
  obtain ⟨u, hu, hul⟩ := good_at h.g (show x.toNat < l.length by omega)
  obtain ⟨v, hv, hvl⟩ := good_at h.g (show y.toNat < l.length by omega)
  obtain ⟨r, hr, _⟩ := h.at hul
  obtain ⟨s, hs, _⟩ := h.at hvl
  have hphi : ∀ i j : Nat, phi l (i : Int) (j : Int) (x, y, z) = if (u = i ∧ v = j) ∨ (u = j ∧ v = i) then z else 0 := fun i j => by
    unfold phi
    simp only [hu, hv]
    split <;> split <;> first | rfl | omega
  have hL : phi (lift l q) (ro l a) (ro l b) (x, y, z) = if (r = a ∧ s = b) ∨ (r = b ∧ s = a) then z else 0 := by
    unfold phi
    simp only [h.eq_iff (show x.toNat < l.length by omega) hu hul hr ha, h.eq_iff (show x.toNat < l.length by omega) hu hul hr hb, h.eq_iff (show y.toNat < l.length by omega) hv hvl hs ha, h.eq_iff (show y.toNat < l.length by omega) hv hvl hs hb]
  rw [hL]
  simp only [hphi]
  have hlo : ∀ p w : Nat, p < w → w < gk l l.length → (∀ i m, ((u = i ∧ v = i + 1 + m) ∨ (u = i + 1 + m ∧ v = i)) ↔ (i = p ∧ i + 1 + m = w)) →
      sumN (fun i => sumN (fun m => if (q.getD i 0 = (a : Int) ∧ q.getD (i + 1 + m) 0 = (b : Int)) ∨ (q.getD i 0 = (b : Int) ∧ q.getD (i + 1 + m) 0 = (a : Int)) then (if (u = i ∧ v = i + 1 + m) ∨ (u = i + 1 + m ∧ v = i) then z else 0) else 0) (gk l l.length - (i + 1))) (gk l l.length) =
        if (q.getD p 0 = (a : Int) ∧ q.getD w 0 = (b : Int)) ∨ (q.getD p 0 = (b : Int) ∧ q.getD w 0 = (a : Int)) then z else 0 := fun p w hpw hw hiff => by
    rw [sumN_single (p := p) _ (by omega)]
    · rw [sumN_single (p := w - (p + 1)) _ (by omega)]
      · rw [if_pos ((hiff p (w - (p + 1))).2 ⟨rfl, by omega⟩), show p + 1 + (w - (p + 1)) = w by omega]
      · intro m _ hne
        rw [if_neg (c := (u = p ∧ v = p + 1 + m) ∨ (u = p + 1 + m ∧ v = p)) (fun hc => hne (by have := (hiff p m).1 hc; omega)), ite_self]
    · intro i _ hne
      refine sumN_zero _ (fun m _ => ?_)
      rw [if_neg (c := (u = i ∧ v = i + 1 + m) ∨ (u = i + 1 + m ∧ v = i)) (fun hc => hne ((hiff i m).1 hc).1), ite_self]
  rcases Nat.lt_trichotomy u v with huv | huv | huv
  · rw [hlo u v huv hvl (fun i m => by omega), hr, hs]
    split <;> split <;> first | rfl | omega
  · subst huv
    rw [sumN_zero _ (fun i _ => sumN_zero _ (fun m _ => by rw [if_neg (c := (u = i ∧ u = i + 1 + m) ∨ (u = i + 1 + m ∧ u = i)) (by omega), ite_self]))]
    rw [if_neg]
    omega
  · rw [hlo v u huv hul (fun i m => by omega), hr, hs]
    split <;> split <;> first | rfl | omega
end
end Go.Proofs.Ytaegfljpodhnhaa

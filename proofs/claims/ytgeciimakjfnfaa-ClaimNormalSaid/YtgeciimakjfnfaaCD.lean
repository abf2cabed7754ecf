import Derived.Test.YtgeciimakjfnfaaCM
namespace Go.Proofs.Ytgeciimakjfnfaa

/-! Days. -/
/-- One span more. -/
def stepD (out : List (Int × Int)) (d t : Int) : List (Int × Int) := match out.getLast? with
  | some p => if p.2 = d - 1 then out.dropLast ++ [(p.1, t)] else out ++ [(d, t)]
  | none => [(d, t)]
theorem stepD_nil (d t : Int) : stepD [] d t = [(d, t)] := rfl
theorem stepD_join {u : List (Int × Int)} {p : Int × Int} {d t : Int} (h : p.2 = d - 1) : stepD (u ++ [p]) d t = u ++ [(p.1, t)] := by
  unfold stepD; rw [List.getLast?_concat]; simp only [if_pos h, List.dropLast_concat]
theorem stepD_new {u : List (Int × Int)} {p : Int × Int} {d t : Int} (h : ¬ p.2 = d - 1) : stepD (u ++ [p]) d t = u ++ [p] ++ [(d, t)] := by
  unfold stepD; rw [List.getLast?_concat]; simp only [if_neg h]
theorem stepD_len (out : List (Int × Int)) (d t : Int) : (stepD out d t).length ≤ out.length + 1 := by
  rcases List.eq_nil_or_concat out with rfl | ⟨u, p, rfl⟩
  · simp [stepD]
  · rw [List.concat_eq_append]
    by_cases h : p.2 = d - 1
    · rw [stepD_join h]; simp
    · rw [stepD_new h]; simp
/-- The first k spans between days of a list: those that are shown. -/
def daysF (sh : Int → Bool) (ds : List Int) : Nat → List (Int × Int)
  | 0 => []
  | k + 1 => if sh (ds.getD k 0) then stepD (daysF sh ds k) (ds.getD k 0) (ds.getD (k + 1) 0 - 1) else daysF sh ds k
theorem daysF_len (sh : Int → Bool) (ds : List Int) : ∀ k, (daysF sh ds k).length ≤ k
  | 0 => Nat.le_refl _
  | k + 1 => by
    have := daysF_len sh ds k
    have := stepD_len (daysF sh ds k) (ds.getD k 0) (ds.getD (k + 1) 0 - 1)
    unfold daysF
    split <;> omega
/-- The first day behind a day on which something turns. -/
def nextD (l : List Cl) (day : Int) : Int := l.foldl (fun o c => let o1 := if c.fr > day then min o c.fr else o; if c.til + 1 > day then min o1 (c.til + 1) else o1) 73049
/-- A day on which something turns. -/
def turnD (l : List Cl) (x : Int) : Prop := x = 0 ∨ x = 73049 ∨ ∃ c ∈ l, x = c.fr ∨ x = c.til + 1
theorem nextD_snoc (l : List Cl) (c : Cl) (day : Int) : nextD (l ++ [c]) day = (let o1 := if c.fr > day then min (nextD l day) c.fr else nextD l day; if c.til + 1 > day then min o1 (c.til + 1) else o1) := by
  unfold nextD; rw [List.foldl_append]; rfl
theorem nextD_spec (day : Int) (hd : day < 73049) : ∀ (n : Nat) (l : List Cl), l.length = n → (day < nextD l day ∧ nextD l day ≤ 73049) ∧ (nextD l day = 73049 ∨ ∃ c ∈ l, nextD l day = c.fr ∨ nextD l day = c.til + 1) ∧ ∀ c ∈ l, (c.fr > day → nextD l day ≤ c.fr) ∧ (c.til + 1 > day → nextD l day ≤ c.til + 1)
  | 0, l, h => by
    rw [List.eq_nil_of_length_eq_zero h]
    exact ⟨⟨hd, Int.le_refl _⟩, .inl rfl, fun c hc => by cases hc⟩
  | n + 1, l, h => by
    rcases List.eq_nil_or_concat l with rfl | ⟨m, c, rfl⟩
    · simp at h
    · rw [List.concat_eq_append] at *
      obtain ⟨h1, h2, h3⟩ := nextD_spec day hd n m (by simpa using h)
      rw [nextD_snoc]
      generalize nextD m day = o at *
      simp only
      refine ⟨?_, ?_, fun x hx => ?_⟩
      · split <;> split <;> omega
      · have h2' : o = 73049 ∨ ∃ b ∈ m ++ [c], o = b.fr ∨ o = b.til + 1 := h2.imp id fun ⟨b, hb, r⟩ => ⟨b, by simp [hb], r⟩
        have hc1 : ∀ z : Int, z = c.fr ∨ z = c.til + 1 → (z = 73049 ∨ ∃ b ∈ m ++ [c], z = b.fr ∨ z = b.til + 1) := fun z hz => .inr ⟨c, by simp, hz⟩
        have hmin : ∀ a b : Int, min a b = a ∨ min a b = b := fun a b => by omega
        split
        · split
          · rcases hmin (min o c.fr) (c.til + 1) with e | e
            · rw [e]
              rcases hmin o c.fr with e | e
              · rw [e]; exact h2'
              · rw [e]; exact hc1 _ (.inl rfl)
            · rw [e]; exact hc1 _ (.inr rfl)
          · rcases hmin o (c.til + 1) with e | e
            · rw [e]; exact h2'
            · rw [e]; exact hc1 _ (.inr rfl)
        · split
          · rcases hmin o c.fr with e | e
            · rw [e]; exact h2'
            · rw [e]; exact hc1 _ (.inl rfl)
          · exact h2'
      · rcases List.mem_append.1 hx with hx | hx
        · have := h3 x hx
          split <;> split <;> omega
        · rw [List.mem_singleton.1 hx]
          split <;> split <;> omega
/-- The days on which something turns, in order. -/
structure TD (l : List Cl) (ds : List Int) : Prop where
  so : ds.Pairwise (· < ·)
  mem : ∀ x, x ∈ ds ↔ turnD l x
theorem TD.rng {l : List Cl} {ds : List Int} (h : TD l ds) (hv : ∀ c ∈ l, clE c = 0) {x : Int} (hx : x ∈ ds) : 0 ≤ x ∧ x ≤ 73049 := by
  rcases (h.mem x).1 hx with rfl | rfl | ⟨c, hc, e⟩
  · omega
  · omega
  · have := clE_iff.1 (hv c hc); omega
theorem getD_at {ds : List Int} {k : Nat} (h : k < ds.length) : ds.getD k 0 = ds[k] := by simp [List.getD, h]
theorem TD.lt {l : List Cl} {ds : List Int} (h : TD l ds) {i j : Nat} (hij : i < j) (hj : j < ds.length) : ds.getD i 0 < ds.getD j 0 := by
  rw [getD_at hj, getD_at (by omega)]
  exact (List.pairwise_iff_getElem.1 h.so) i j (by omega) hj hij
theorem TD.two {l : List Cl} {ds : List Int} (h : TD l ds) : 2 ≤ ds.length := by
  have h0 := (h.mem 0).2 (.inl rfl)
  have h1 := (h.mem 73049).2 (.inr (.inl rfl))
  rcases ds with _ | ⟨a, _ | ⟨b, ds⟩⟩
  · cases h0
  · rw [List.mem_singleton] at h0 h1; omega
  · simp
theorem TD.first {l : List Cl} {ds : List Int} (h : TD l ds) (hv : ∀ c ∈ l, clE c = 0) : ds.getD 0 0 = 0 := by
  have h2 := h.two
  obtain ⟨i, hi, e⟩ := List.mem_iff_getElem.1 ((h.mem 0).2 (.inl rfl))
  rcases Nat.eq_zero_or_pos i with rfl | hp
  · rw [getD_at hi, e]
  · have := h.lt hp hi
    have h3 := h.rng hv (x := ds.getD 0 0) (by rw [getD_at (by omega)]; exact List.getElem_mem _)
    rw [getD_at hi, e] at this
    omega
theorem TD.last {l : List Cl} {ds : List Int} (h : TD l ds) (hv : ∀ c ∈ l, clE c = 0) : ds.getD (ds.length - 1) 0 = 73049 := by
  have h2 := h.two
  obtain ⟨i, hi, e⟩ := List.mem_iff_getElem.1 ((h.mem 73049).2 (.inr (.inl rfl)))
  have h3 := h.rng hv (x := ds.getD (ds.length - 1) 0) (by rw [getD_at (by omega)]; exact List.getElem_mem _)
  rcases Nat.lt_or_ge i (ds.length - 1) with hp | hp
  · have := h.lt hp (by omega)
    rw [getD_at hi, e] at this
    omega
  · have : i = ds.length - 1 := by omega
    subst this
    rw [getD_at hi, e]
theorem TD.next {l : List Cl} {ds : List Int} (h : TD l ds) (hv : ∀ c ∈ l, clE c = 0) {k : Nat} (hk : k + 1 < ds.length) : nextD l (ds.getD k 0) = ds.getD (k + 1) 0 := by
  have hlt := h.lt (show k < k + 1 by omega) hk
  have hr1 := h.rng hv (x := ds.getD (k + 1) 0) (by rw [getD_at hk]; exact List.getElem_mem _)
  obtain ⟨⟨h1, h2⟩, h3, h4⟩ := nextD_spec (ds.getD k 0) (by omega) _ l rfl
  have hm : nextD l (ds.getD k 0) ∈ ds := (h.mem _).2 (by
    rcases h3 with h3 | h3
    · exact .inr (.inl h3)
    · exact .inr (.inr h3))
  obtain ⟨j, hj, e⟩ := List.mem_iff_getElem.1 hm
  have hle : nextD l (ds.getD k 0) ≤ ds.getD (k + 1) 0 := by
    have : turnD l (ds.getD (k + 1) 0) := (h.mem _).1 (by rw [getD_at hk]; exact List.getElem_mem _)
    have hk0 := h.rng hv (x := ds.getD k 0) (by rw [getD_at (by omega)]; exact List.getElem_mem _)
    rcases this with e1 | e1 | ⟨c, hc, e1 | e1⟩
    · omega
    · omega
    · have := (h4 c hc).1 (by omega); omega
    · have := (h4 c hc).2 (by omega); omega
  rcases Nat.lt_trichotomy j (k + 1) with hjk | hjk | hjk
  · rcases Nat.lt_or_ge j k with hjk2 | hjk2
    · have := h.lt hjk2 (by omega)
      rw [getD_at hj, e] at this
      omega
    · have : j = k := by omega
      subst this
      have h5 := getD_at hj
      omega
  · subst hjk; rw [getD_at hj, e]
  · have := h.lt hjk hj
    rw [getD_at hj, e] at this
    omega
/-- Between two days of the list nothing turns. -/
def flatD (sh : Int → Bool) (l : List Cl) : Prop := ∀ a b : Int, 0 ≤ a → a ≤ b → b ≤ 73048 → (∀ x, a < x → x ≤ b → ¬ turnD l x) → sh a = sh b
theorem stepD_cov {out : List (Int × Int)} {d dn : Int} (h0 : 0 ≤ d) (hd : d < dn) (h : ∀ p ∈ out, 0 ≤ p.1 ∧ p.1 ≤ p.2 ∧ p.2 < d) :
    (∀ p ∈ stepD out d (dn - 1), 0 ≤ p.1 ∧ p.1 ≤ p.2 ∧ p.2 < dn) ∧ ∀ x, (∃ p ∈ stepD out d (dn - 1), p.1 ≤ x ∧ x ≤ p.2) ↔ (∃ p ∈ out, p.1 ≤ x ∧ x ≤ p.2) ∨ (d ≤ x ∧ x < dn) := by
  rcases List.eq_nil_or_concat out with rfl | ⟨u, q, rfl⟩
  · rw [stepD_nil]
    refine ⟨fun p hp => ?_, fun x => ⟨fun ⟨p, hp, r⟩ => ?_, fun r => ?_⟩⟩
    · rw [List.mem_singleton.1 hp]; exact ⟨h0, by simp only; omega, by simp only; omega⟩
    · rw [List.mem_singleton.1 hp] at r; simp only at r; exact .inr (by omega)
    · rcases r with ⟨p, hp, _⟩ | r
      · cases hp
      · exact ⟨_, List.mem_singleton.2 rfl, by simp only; omega, by simp only; omega⟩
  · rw [List.concat_eq_append] at *
    have hq := h q (by simp)
    by_cases hj : q.2 = d - 1
    · rw [stepD_join hj]
      refine ⟨fun p hp => ?_, fun x => ⟨fun ⟨p, hp, r⟩ => ?_, fun r => ?_⟩⟩
      · rcases List.mem_append.1 hp with hp | hp
        · have := h p (by simp [hp]); omega
        · rw [List.mem_singleton.1 hp]; exact ⟨hq.1, by simp only; omega, by simp only; omega⟩
      · rcases List.mem_append.1 hp with hp | hp
        · exact .inl ⟨p, by simp [hp], r⟩
        · rw [List.mem_singleton.1 hp] at r
          simp only at r
          by_cases hx : x ≤ q.2
          · exact .inl ⟨q, by simp, r.1, hx⟩
          · exact .inr (by omega)
      · rcases r with ⟨p, hp, r⟩ | r
        · rcases List.mem_append.1 hp with hp | hp
          · exact ⟨p, by simp [hp], r⟩
          · rw [List.mem_singleton.1 hp] at r
            exact ⟨(q.1, dn - 1), by simp, by simp only; omega, by simp only; omega⟩
        · exact ⟨(q.1, dn - 1), by simp, by simp only; omega, by simp only; omega⟩
    · rw [stepD_new hj]
      refine ⟨fun p hp => ?_, fun x => ⟨fun ⟨p, hp, r⟩ => ?_, fun r => ?_⟩⟩
      · rcases List.mem_append.1 hp with hp | hp
        · have := h p hp; omega
        · rw [List.mem_singleton.1 hp]; exact ⟨h0, by simp only; omega, by simp only; omega⟩
      · rcases List.mem_append.1 hp with hp | hp
        · exact .inl ⟨p, hp, r⟩
        · rw [List.mem_singleton.1 hp] at r; simp only at r; exact .inr (by omega)
      · rcases r with ⟨p, hp, r⟩ | r
        · exact ⟨p, List.mem_append_left _ hp, r⟩
        · exact ⟨(d, dn - 1), by simp, by simp only; omega, by simp only; omega⟩
theorem daysF_succ (sh : Int → Bool) (ds : List Int) (k : Nat) : daysF sh ds (k + 1) = if sh (ds.getD k 0) then stepD (daysF sh ds k) (ds.getD k 0) (ds.getD (k + 1) 0 - 1) else daysF sh ds k := rfl
theorem daysF_spec {sh : Int → Bool} {l : List Cl} {ds : List Int} (h : TD l ds) (hv : ∀ c ∈ l, clE c = 0) (hf : flatD sh l) : ∀ k, k < ds.length →
    (∀ p ∈ daysF sh ds k, 0 ≤ p.1 ∧ p.1 ≤ p.2 ∧ p.2 < ds.getD k 0) ∧ ∀ x, (∃ p ∈ daysF sh ds k, p.1 ≤ x ∧ x ≤ p.2) ↔ 0 ≤ x ∧ x < ds.getD k 0 ∧ sh x = true
  | 0, _ => by
    refine ⟨fun p hp => (by cases hp), fun x => ⟨fun ⟨p, hp, _⟩ => (by cases hp), fun ⟨h1, h2, _⟩ => ?_⟩⟩
    rw [h.first hv] at h2; omega
  | k + 1, hk => by
    obtain ⟨h1, h2⟩ := daysF_spec h hv hf k (by omega)
    have hlt := h.lt (show k < k + 1 by omega) hk
    have hr0 := h.rng hv (x := ds.getD k 0) (by rw [getD_at (by omega)]; exact List.getElem_mem _)
    have hr1 := h.rng hv (x := ds.getD (k + 1) 0) (by rw [getD_at hk]; exact List.getElem_mem _)
    have hflat : ∀ x, ds.getD k 0 ≤ x → x < ds.getD (k + 1) 0 → sh x = sh (ds.getD k 0) := fun x hx1 hx2 =>
      (hf _ x (by omega) hx1 (by omega) fun y hy1 hy2 ht => by
        obtain ⟨j, hj, e⟩ := List.mem_iff_getElem.1 ((h.mem y).2 ht)
        rw [← getD_at hj] at e
        have a1 : k < j := by
          rcases Nat.lt_or_ge k j with q | q
          · exact q
          · rcases Nat.lt_or_ge j k with q2 | q2
            · have := h.lt q2 (by omega); omega
            · have : j = k := by omega
              subst this; omega
        have a2 : j < k + 1 := by
          rcases Nat.lt_or_ge j (k + 1) with q | q
          · exact q
          · rcases Nat.lt_or_ge (k + 1) j with q2 | q2
            · have := h.lt q2 hj; omega
            · have : j = k + 1 := by omega
              subst this; omega
        omega).symm
    rw [daysF_succ]
    generalize ds.getD k 0 = d at *
    generalize ds.getD (k + 1) 0 = dn at *
    generalize daysF sh ds k = out at *
    by_cases hs : sh d = true
    · rw [if_pos hs]
      obtain ⟨a1, a2⟩ := stepD_cov (out := out) hr0.1 hlt h1
      refine ⟨a1, fun x => ?_⟩
      rw [a2 x, h2 x]
      constructor
      · rintro (⟨b1, b2, b3⟩ | ⟨b1, b2⟩)
        · exact ⟨b1, by omega, b3⟩
        · exact ⟨by omega, b2, by rw [hflat x b1 b2]; exact hs⟩
      · rintro ⟨b1, b2, b3⟩
        by_cases hx : x < d
        · exact .inl ⟨b1, hx, b3⟩
        · exact .inr ⟨by omega, b2⟩
    · rw [if_neg hs]
      refine ⟨fun p hp => by have := h1 p hp; omega, fun x => ?_⟩
      rw [h2 x]
      constructor
      · rintro ⟨b1, b2, b3⟩
        exact ⟨b1, by omega, b3⟩
      · rintro ⟨b1, b2, b3⟩
        by_cases hx : x < d
        · exact ⟨b1, hx, b3⟩
        · rw [hflat x (by omega) b2] at b3
          exact (hs b3).elim
/-- All spans of days that are shown. -/
def daysAll (sh : Int → Bool) (ds : List Int) : List (Int × Int) := daysF sh ds (ds.length - 1)
theorem daysAll_spec {sh : Int → Bool} {l : List Cl} {ds : List Int} (h : TD l ds) (hv : ∀ c ∈ l, clE c = 0) (hf : flatD sh l) :
    (∀ p ∈ daysAll sh ds, 0 ≤ p.1 ∧ p.1 ≤ p.2 ∧ p.2 ≤ 73048) ∧ ∀ x, 0 ≤ x → x ≤ 73048 → ((∃ p ∈ daysAll sh ds, p.1 ≤ x ∧ x ≤ p.2) ↔ sh x = true) := by
  have h2 := h.two
  obtain ⟨a1, a2⟩ := daysF_spec h hv hf (ds.length - 1) (by omega)
  rw [h.last hv] at a1 a2
  refine ⟨fun p hp => by have := a1 p hp; omega, fun x hx1 hx2 => ?_⟩
  rw [daysAll, a2 x]
  exact ⟨fun r => r.2.2, fun r => ⟨hx1, by omega, r⟩⟩
end Go.Proofs.Ytgeciimakjfnfaa

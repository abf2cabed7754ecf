import Derived.Test.YtmdgdphhedgojaaK01
namespace Go.Proofs.Ytmdgdphhedgojaa
open Go.RowKit Go.Maps

/-- The faces of a part. -/
def fcs (p : Nat → Bool) (n : Nat) : List Nat := (List.range n).filter p
/-- The number of a face in its part. -/
def loc (p : Nat → Bool) (f : Nat) : Nat := (fcs p f).length + 1
theorem fcs_succ (p : Nat → Bool) (n : Nat) : fcs p (n + 1) = fcs p n ++ if p n then [n] else [] := by
  unfold fcs
  rw [List.range_succ, List.filter_append]
  congr 1
  cases h : p n <;> simp [h]
theorem fcs_len_succ (p : Nat → Bool) (n : Nat) : (fcs p (n + 1)).length = (fcs p n).length + if p n then 1 else 0 := by
  rw [fcs_succ, List.length_append]
  cases p n <;> rfl
theorem fcs_mono (p : Nat → Bool) {a b : Nat} (h : a ≤ b) : (fcs p a).length ≤ (fcs p b).length := by
  induction b with
  | zero => obtain rfl : a = 0 := by omega
            exact Nat.le_refl _
  | succ b ih =>
    rw [fcs_len_succ]
    by_cases hab : a = b + 1
    · rw [hab, fcs_len_succ]; exact Nat.le_refl _
    · have := ih (by omega)
      omega
theorem fcs_le (p : Nat → Bool) (n : Nat) : (fcs p n).length ≤ n := by
  unfold fcs
  have := List.length_filter_le p (List.range n)
  simpa using this
theorem fcs_at {p : Nat → Bool} {f : Nat} (hp : p f = true) : ∀ n, f < n → (fcs p n)[(fcs p f).length]? = some f
  | 0, h => by omega
  | n + 1, h => by
    rw [fcs_succ]
    by_cases hf : f = n
    · rw [← hf, hp, List.getElem?_append_right (Nat.le_refl _), Nat.sub_self]
      rfl
    · have ih := fcs_at hp n (by omega)
      rw [List.getElem?_append_left (List.getElem?_eq_some_iff.1 ih).1]
      exact ih
theorem fcs_get {p : Nat → Bool} {j f : Nat} : ∀ n, (fcs p n)[j]? = some f → f < n ∧ p f = true ∧ (fcs p f).length = j
  | 0, h => by simp [fcs] at h
  | n + 1, h => by
    rw [fcs_succ] at h
    by_cases hj : j < (fcs p n).length
    · rw [List.getElem?_append_left hj] at h
      obtain ⟨h1, h2, h3⟩ := fcs_get n h
      exact ⟨by omega, h2, h3⟩
    · rw [List.getElem?_append_right (by omega)] at h
      cases hp : p n
      · rw [hp] at h; simp at h
      · rw [hp] at h
        obtain ⟨h1, h2⟩ := List.getElem?_eq_some_iff.1 h
        simp at h1 h2
        subst h2
        exact ⟨by omega, hp, by omega⟩
theorem loc_lt {p : Nat → Bool} {f g : Nat} (hp : p f = true) (h : f < g) : loc p f < loc p g := by
  have h1 := fcs_mono p (show f + 1 ≤ g from h)
  rw [fcs_len_succ, hp] at h1
  unfold loc
  simp at h1
  omega
theorem loc_inj {p : Nat → Bool} {f g : Nat} (hf : p f = true) (hg : p g = true) : loc p f = loc p g ↔ f = g := by
  constructor
  · intro e
    rcases Nat.lt_trichotomy f g with h | h | h
    · have := loc_lt hf h; omega
    · exact h
    · have := loc_lt hg h; omega
  · intro e; rw [e]
theorem loc_le {p : Nat → Bool} {f g : Nat} (hf : p f = true) (hg : p g = true) : loc p f ≤ loc p g ↔ f ≤ g := by
  rcases Nat.lt_trichotomy f g with h | h | h
  · have := loc_lt hf h; omega
  · rw [h]; omega
  · have := loc_lt hg h; omega
theorem loc_top {p : Nat → Bool} {f n : Nat} (hf : p f = true) (h : f < n) : loc p f < (fcs p n).length + 1 := by
  have := loc_lt hf h
  unfold loc at *
  omega
theorem loc_back {p : Nat → Bool} {y n : Nat} (h0 : y ≠ 0) (h : y < (fcs p n).length + 1) : ∃ f, f < n ∧ p f = true ∧ y = loc p f := by
  have hx : (fcs p n)[y - 1]? = some (fcs p n)[y - 1] := List.getElem?_eq_getElem (by omega)
  obtain ⟨h1, h2, h3⟩ := fcs_get n hx
  exact ⟨_, h1, h2, by unfold loc; omega⟩

/-- The input of a part. -/
def inW (ws : List Int) (p : Nat → Bool) (n : Nat) : List Int := 0 :: (fcs p n).map fun f => ws.getD f 0
def reN (p : Nat → Bool) (t : Int × Int × Int) : Int × Int × Int := ((loc p t.1.toNat : Nat), (loc p t.2.1.toNat : Nat), t.2.2)
def inN (ns : List (Int × Int × Int)) (p : Nat → Bool) : List (Int × Int × Int) := (ns.filter fun t => p t.1.toNat).map (reN p)
theorem inW_at {ws : List Int} {p : Nat → Bool} {n f : Nat} (hp : p f = true) (h : f < n) : (inW ws p n).getD (loc p f) 0 = ws.getD f 0 := by
  rw [inW, loc, List.getD, List.getElem?_cons_succ, List.getElem?_map, fcs_at hp n h]
  rfl
theorem inW_len (ws : List Int) (p : Nat → Bool) (n : Nat) : (inW ws p n).length = (fcs p n).length + 1 := by simp [inW]

/-- A set of faces that no border leaves, but for the face 0. -/
structure Shut (p : Nat → Bool) (n : Nat) (ns : List (Int × Int × Int)) : Prop where
  z : p 0 = false
  e : ∀ t ∈ ns, 0 ≤ t.1 ∧ t.1 < t.2.1 ∧ t.2.1 < n
  c : ∀ t ∈ ns, t.1 ≠ 0 → p t.1.toNat = p t.2.1.toNat

/-- The groups of all faces, and those of the faces of a part. -/
structure Loc (p : Nat → Bool) (n : Nat) (of q : List Int) : Prop where
  ol : of.length = n
  ql : q.length = (fcs p n).length + 1
  oc : CN of
  qc : CN q
  i : ∀ f, f < n → p f = true → ∃ g : Nat, g < n ∧ p g = true ∧ of.getD f 0 = g ∧ q.getD (loc p f) 0 = (loc p g : Nat)
  o : ∀ f, f < n → p f = false → ∀ g : Nat, p g = true → of.getD f 0 ≠ g

theorem sum_of_zero {l : List (Int × Int × Int)} {g : Int × Int × Int → Int} (h : ∀ t ∈ l, g t = 0) : (l.map g).sum = 0 := by
  induction l with
  | nil => rfl
  | cons t l ih => rw [List.map_cons, List.sum_cons, h t (by simp), ih (fun t ht => h t (by simp [ht]))]; rfl
theorem common_edge {ns : List (Int × Int × Int)} {of : List Int} {a b : Int} (h : 0 < common ns of a b) : ∃ t ∈ ns, (of.getD t.1.toNat 0 = a ∧ of.getD t.2.1.toNat 0 = b) ∨ (of.getD t.1.toNat 0 = b ∧ of.getD t.2.1.toNat 0 = a) := by
  by_cases hex : ∃ t ∈ ns, (of.getD t.1.toNat 0 = a ∧ of.getD t.2.1.toNat 0 = b) ∨ (of.getD t.1.toNat 0 = b ∧ of.getD t.2.1.toNat 0 = a)
  · exact hex
  · rw [common_map, sum_of_zero (fun t ht => by unfold phi; rw [if_neg (fun hc => hex ⟨t, ht, hc⟩)])] at h
    omega

section
variable {p : Nat → Bool} {n : Nat} {of q ws : List Int} {ns : List (Int × Int × Int)} {m : Int}
theorem cn_zero' (hC : CN of) (h : 0 < of.length) : of.getD 0 0 = 0 := by
  obtain ⟨r, r1, r2, _⟩ := hC 0 h
  omega
theorem Loc.iff (h : Loc p n of q) {f a : Nat} (hf : f < n) (hp : p f = true) (ha : p a = true) : of.getD f 0 = (a : Int) ↔ q.getD (loc p f) 0 = (loc p a : Nat) := by
  obtain ⟨g, _, hg, e1, e2⟩ := h.i f hf hp
  rw [e1, e2]
  have := loc_inj (p := p) hg ha
  omega
theorem Loc.weight (h : Loc p n of q) {a : Nat} (ha : p a = true) : weight ws of a = Go.Proofs.Ytmdgdphhedgojaa.weight (inW ws p n) q (loc p a : Nat) := by
  unfold Go.Proofs.Ytmdgdphhedgojaa.weight
  rw [weightTo_sum, weightTo_sum, h.ol, h.ql]
  have key : ∀ k, k ≤ n → sumN (fun f => if of.getD f 0 = (a : Int) then ws.getD f 0 else 0) k = sumN (fun j => if q.getD j 0 = ((loc p a : Nat) : Int) then (inW ws p n).getD j 0 else 0) ((fcs p k).length + 1) := by
    intro k
    induction k with
    | zero =>
      intro _
      show (0 : Int) = 0 + if q.getD 0 0 = ((loc p a : Nat) : Int) then (0 : Int) else 0
      rw [ite_self]
      rfl
    | succ k ih =>
      intro hk
      rw [sumN, ih (by omega), fcs_len_succ]
      cases hp : p k
      · rw [if_neg (h.o k (by omega) hp a ha)]
        simp
      · have hi := h.iff (show k < n by omega) hp ha
        have e : sumN (fun j => if q.getD j 0 = ((loc p a : Nat) : Int) then (inW ws p n).getD j 0 else 0) ((fcs p k).length + (if true = true then 1 else 0) + 1) = sumN (fun j => if q.getD j 0 = ((loc p a : Nat) : Int) then (inW ws p n).getD j 0 else 0) ((fcs p k).length + 1) + if q.getD (loc p k) 0 = ((loc p a : Nat) : Int) then (inW ws p n).getD (loc p k) 0 else 0 := rfl
        rw [e, inW_at hp (by omega)]
        congr 1
        by_cases hc : of.getD k 0 = (a : Int)
        · rw [if_pos hc, if_pos (hi.1 hc)]
        · rw [if_neg hc, if_neg (fun e => hc (hi.2 e))]
  exact key n (Nat.le_refl _)
theorem Loc.common (h : Loc p n of q) (hS : Shut p n ns) {a b : Nat} (ha : p a = true) (hb : p b = true) : common ns of a b = Go.Proofs.Ytmdgdphhedgojaa.common (inN ns p) q (loc p a : Nat) (loc p b : Nat) := by
  rw [common_map, common_map, inN]
  have key : ∀ l : List (Int × Int × Int), (∀ t ∈ l, t ∈ ns) → (l.map (phi of a b)).sum = (((l.filter fun t => p t.1.toNat).map (reN p)).map (phi q (loc p a : Nat) (loc p b : Nat))).sum := by
    intro l
    induction l with
    | nil => intro _; rfl
    | cons t l ih =>
      intro hl
      have ih := ih (fun t ht => hl t (by simp [ht]))
      have he := hS.e t (hl t (by simp))
      have hc := hS.c t (hl t (by simp))
      rw [List.map_cons, List.sum_cons, ih, List.filter_cons]
      cases hp : p t.1.toNat
      · have h1 := h.o t.1.toNat (by omega) hp a ha
        have h2 := h.o t.1.toNat (by omega) hp b hb
        have : phi of a b t = 0 := by
          unfold phi
          rw [if_neg]
          rintro (⟨e, _⟩ | ⟨e, _⟩)
          · exact h1 e
          · exact h2 e
        rw [this, Int.zero_add]
        rfl
      · have ht0 : t.1 ≠ 0 := fun e => by
          rw [e] at hp
          have := hS.z
          simp at hp
          rw [this] at hp
          cases hp
        have hp2 : p t.2.1.toNat = true := by rw [← hc ht0]; exact hp
        rw [if_pos rfl, List.map_cons, List.map_cons, List.sum_cons]
        congr 1
        unfold phi reN
        dsimp only
        simp only [Int.toNat_natCast, h.iff (show t.1.toNat < n by omega) hp ha, h.iff (show t.1.toNat < n by omega) hp hb, h.iff (show t.2.1.toNat < n by omega) hp2 ha, h.iff (show t.2.1.toNat < n by omega) hp2 hb]
  exact key ns (fun t ht => ht)
theorem Loc.z (h : Loc p n of q) (hn : 0 < n) : of.getD 0 0 = 0 ∧ q.getD 0 0 = 0 := ⟨cn_zero' h.oc (by rw [h.ol]; exact hn), cn_zero' h.qc (by rw [h.ql]; omega)⟩
theorem Shut.ne (hS : Shut p n ns) {a : Nat} (ha : p a = true) : a ≠ 0 := fun e => by
  rw [e, hS.z] at ha
  cases ha
/-- Neighbours lie on one side. -/
theorem Loc.side (h : Loc p n of q) (hS : Shut p n ns) {a b : Nat} (ha : p a = true) (_hb : b < n) (hb0 : (b : Int) ≠ of.getD 0 0) (hbr : of.getD b 0 = b) (hc : 0 < Go.Proofs.Ytmdgdphhedgojaa.common ns of a b ∨ 0 < Go.Proofs.Ytmdgdphhedgojaa.common ns of b a) : p b = true := by
  have key : ∃ t ∈ ns, (of.getD t.1.toNat 0 = (a : Int) ∧ of.getD t.2.1.toNat 0 = b) ∨ (of.getD t.1.toNat 0 = b ∧ of.getD t.2.1.toNat 0 = a) := by
    rcases hc with hc | hc
    · exact common_edge hc
    · obtain ⟨t, ht, h1⟩ := common_edge hc
      exact ⟨t, ht, h1.symm⟩
  obtain ⟨t, ht, hor⟩ := key
  have he := hS.e t ht
  have hcl := hS.c t ht
  have hz := h.z (by omega)
  have hin : ∀ x : Nat, x < n → of.getD x 0 = (a : Int) → p x = true := fun x hx e => by
    cases hp : p x
    · exact (h.o x hx hp a ha e).elim
    · rfl
  have hout : ∀ x : Nat, x < n → p x = true → of.getD x 0 = (b : Int) → p b = true := fun x hx hp e => by
    obtain ⟨g, _, hg, e1, _⟩ := h.i x hx hp
    obtain rfl : g = b := by omega
    exact hg
  have ha0 := hS.ne ha
  rcases hor with ⟨e1, e2⟩ | ⟨e1, e2⟩
  · have h1 := hin t.1.toNat (by omega) e1
    have h0 : t.1 ≠ 0 := fun e => by rw [e] at h1; exact hS.ne h1 rfl
    exact hout t.2.1.toNat (by omega) (by rw [← hcl h0]; exact h1) e2
  · have h1 := hin t.2.1.toNat (by omega) e2
    have h0 : t.1 ≠ 0 := fun e => by
      rw [e] at e1
      exact hb0 e1.symm
    exact hout t.1.toNat (by omega) (by rw [hcl h0]; exact h1) e1

theorem Loc.adm (h : Loc p n of q) (hS : Shut p n ns) {a y : Nat} (ha : p a = true) (hy : p y = true) (hyn : y < n) : Adm ns of a y ↔ Adm (inN ns p) q (loc p a : Nat) (loc p y) := by
  obtain ⟨z1, z2⟩ := h.z (by omega)
  unfold Adm
  rw [z1, z2, h.common hS ha hy, h.iff hyn hy hy]
  have h1 := loc_inj (p := p) hy ha
  have h2 := hS.ne hy
  have h3 : loc p y ≠ 0 := by unfold loc; omega
  constructor
  · rintro ⟨e1, e2, e3, e4⟩
    exact ⟨e1, by omega, by omega, e4⟩
  · rintro ⟨e1, e2, e3, e4⟩
    exact ⟨e1, by omega, by omega, e4⟩
theorem Loc.nb (h : Loc p n of q) (hS : Shut p n ns) {a : Nat} (ha : p a = true) (han : a < n) :
    (nb ns of a = -1 ∧ Go.Proofs.Ytmdgdphhedgojaa.nb (inN ns p) q (loc p a : Nat) = -1) ∨ ∃ b, b < n ∧ p b = true ∧ of.getD b 0 = b ∧ nb ns of a = b ∧ Go.Proofs.Ytmdgdphhedgojaa.nb (inN ns p) q (loc p a : Nat) = (loc p b : Nat) := by
  obtain ⟨z1, z2⟩ := h.z (by omega)
  unfold Go.Proofs.Ytmdgdphhedgojaa.nb
  rcases nbTo_best (ns := ns) (of := of) (a := a) of.length with ⟨e1, no1⟩ | ⟨b, e1, hb, A1, best1⟩ <;>
  rcases nbTo_best (ns := inN ns p) (of := q) (a := ((loc p a : Nat) : Int)) q.length with ⟨e2, no2⟩ | ⟨y, e2, hy, A2, best2⟩ <;> rw [e1, e2]
  · exact .inl ⟨rfl, rfl⟩
  · rw [h.ql] at hy
    obtain ⟨f, hf, hpf, rfl⟩ := loc_back (by have := A2.2.2.1; rw [z2] at this; omega) hy
    exact (no1 f (by rw [h.ol]; exact hf) ((h.adm hS ha hpf hf).2 A2)).elim
  · rw [h.ol] at hb
    have hpb := h.side hS ha hb A1.2.2.1 A1.1 (.inl A1.2.2.2)
    exact (no2 _ (by rw [h.ql]; exact loc_top hpb hb) ((h.adm hS ha hpb hb).1 A1)).elim
  · rw [h.ol] at hb
    rw [h.ql] at hy
    have hpb := h.side hS ha hb A1.2.2.1 A1.1 (.inl A1.2.2.2)
    obtain ⟨f, hf, hpf, rfl⟩ := loc_back (by have := A2.2.2.1; rw [z2] at this; omega) hy
    have h1 := best1 f (by rw [h.ol]; exact hf) ((h.adm hS ha hpf hf).2 A2)
    have h2 := best2 (loc p b) (by rw [h.ql]; exact loc_top hpb hb) ((h.adm hS ha hpb hb).1 A1)
    rw [← h.common hS ha hpb, ← h.common hS ha hpf, loc_le hpf hpb] at h2
    obtain rfl : f = b := by omega
    exact .inr ⟨f, hf, hpf, A1.1, rfl, rfl⟩
theorem Loc.go (h : Loc p n of q) (hS : Shut p n ns) {a : Nat} (ha : p a = true) (han : a < n) : Go1 ws ns of m a ↔ Go1 (inW ws p n) (inN ns p) q m (loc p a) := by
  obtain ⟨z1, z2⟩ := h.z (by omega)
  have h0 := hS.ne ha
  have h3 : loc p a ≠ 0 := by unfold loc; omega
  unfold Go1
  rw [z1, z2, h.iff han ha ha, h.weight ha]
  rcases h.nb hS ha han with ⟨e1, e2⟩ | ⟨b, _, _, _, e1, e2⟩
  · rw [e1, e2]; omega
  · rw [e1, e2]; omega

/-- The merge that comes next, and the one of the part. -/
theorem Loc.none (h : Loc p n of q) (hS : Shut p n ns) (hn : 0 < n) (hf : (next ws ns of m).2.2.1 = false) : (next (inW ws p n) (inN ns p) q m).2.2.1 = false := by
  obtain ⟨z1, z2⟩ := h.z hn
  unfold next at hf ⊢
  rcases nextTo_best (ws := inW ws p n) (ns := inN ns p) (of := q) (least := m) q.length with ⟨e1, _⟩ | ⟨y, e1, hy, A1, _⟩
  · rw [e1]
  · rw [h.ql] at hy
    obtain ⟨f, hf', hpf, rfl⟩ := loc_back (by have := A1.2.1; rw [z2] at this; omega) hy
    rcases nextTo_best (ws := ws) (ns := ns) (of := of) (least := m) of.length with ⟨_, no2⟩ | ⟨a, e2, _⟩
    · exact (no2 f (by rw [h.ol]; exact hf') ((h.go hS hpf hf').2 A1)).elim
    · rw [e2] at hf; cases hf
theorem Loc.some (h : Loc p n of q) (hS : Shut p n ns) (hf : (next ws ns of m).2.2.1 = true) :
    ∃ a b : Nat, (next ws ns of m).1 = a ∧ (next ws ns of m).2.1 = b ∧ a < n ∧ b < n ∧ of.getD a 0 = a ∧ of.getD b 0 = b ∧
      ((p a = true ∧ p b = true ∧ (next (inW ws p n) (inN ns p) q m).2.2.1 = true ∧ (next (inW ws p n) (inN ns p) q m).1 = (loc p a : Nat) ∧ (next (inW ws p n) (inN ns p) q m).2.1 = (loc p b : Nat)) ∨ (p a = false ∧ p b = false)) := by
  unfold next at hf ⊢
  rcases nextTo_best (ws := ws) (ns := ns) (of := of) (least := m) of.length with ⟨e1, _⟩ | ⟨a, e1, ha, A1, best1⟩
  · rw [e1] at hf; cases hf
  · rw [h.ol] at ha
    obtain ⟨z1, z2⟩ := h.z (by omega)
    obtain ⟨b, e2, hb, r1, r2, r3, _⟩ := nbTo_spec (ns := ns) (of := of) (a := a) of.length A1.2.2.2
    have e2' : Go.Proofs.Ytmdgdphhedgojaa.nb ns of a = b := e2
    rw [h.ol] at hb
    rw [e1]
    refine ⟨a, b, rfl, e2', ha, hb, A1.1, r1, ?_⟩
    cases hp : p a
    · right
      refine ⟨rfl, ?_⟩
      cases hpb : p b
      · rfl
      · have hadm : 0 < Go.Proofs.Ytmdgdphhedgojaa.common ns of a b := by
          rcases nbTo_best (ns := ns) (of := of) (a := a) of.length with ⟨e3, _⟩ | ⟨b', e3, _, A3, _⟩
          · rw [e3] at e2; simp at e2
          · rw [e3] at e2
            have : b' = b := by simp at e2; omega
            rw [← this]; exact A3.2.2.2
        have := h.side hS hpb ha A1.2.1 A1.1 (.inr hadm)
        rw [hp] at this
        cases this
    · left
      rcases h.nb hS hp ha with ⟨e3, _⟩ | ⟨b', hb', hpb', _, e3, e4⟩
      · rw [e2'] at e3; omega
      · obtain rfl : b' = b := by omega
        refine ⟨rfl, hpb', ?_⟩
        rcases nextTo_best (ws := inW ws p n) (ns := inN ns p) (of := q) (least := m) q.length with ⟨_, no2⟩ | ⟨y, e5, hy, A2, best2⟩
        · exact (no2 _ (by rw [h.ql]; exact loc_top hp ha) ((h.go hS hp ha).1 A1)).elim
        · rw [h.ql] at hy
          obtain ⟨f, hf', hpf, rfl⟩ := loc_back (by have := A2.2.1; rw [z2] at this; omega) hy
          have h1 := best1 f (by rw [h.ol]; exact hf') ((h.go hS hpf hf').2 A2)
          have h2 := best2 (loc p a) (by rw [h.ql]; exact loc_top hp ha) ((h.go hS hp ha).1 A1)
          rw [← h.weight hp, ← h.weight hpf, loc_le hpf hp] at h2
          obtain rfl : f = a := by omega
          rw [e5]
          exact ⟨rfl, rfl, e4⟩

theorem merged_far {of : List Int} {a b : Nat} {k : Nat} {v : Int} (hk : k < of.length) (e : of.getD k 0 = v) (h1 : v ≠ a) (h2 : v ≠ b) : (merged of (a, b)).getD k 0 = v := by
  rw [getD_merged _ _ _ hk, e, if_neg]
  simp only [Bool.or_eq_true, beq_iff_eq]
  omega
theorem merged_near {of : List Int} {a b : Nat} {k : Nat} {v : Nat} (hk : k < of.length) (e : of.getD k 0 = v) (h1 : v = a ∨ v = b) : (merged of (a, b)).getD k 0 = ((min a b : Nat) : Int) := by
  rw [getD_merged _ _ _ hk, e, if_pos (by simp only [Bool.or_eq_true, beq_iff_eq]; omega)]
  dsimp only
  split <;> omega
theorem Loc.merge1 (h : Loc p n of q) {a b : Nat} (ha : p a = true) (hb : p b = true) (han : a < n) (hbn : b < n) (ra : of.getD a 0 = a) (rb : of.getD b 0 = b) : Loc p n (merged of (a, b)) (merged q ((loc p a : Nat), (loc p b : Nat))) := by
  have ra' := (h.iff han ha ha).1 ra
  have rb' := (h.iff hbn hb hb).1 rb
  have hmin : p (min a b) = true := by rcases Nat.le_total a b with h | h <;> simp [h, ha, hb]
  have hloc : min (loc p a) (loc p b) = loc p (min a b) := by
    have := loc_le (p := p) ha hb
    rcases Nat.le_total a b with h | h
    · rw [Nat.min_eq_left h, Nat.min_eq_left (this.2 h)]
    · rw [Nat.min_eq_right h, Nat.min_eq_right ((loc_le hb ha).2 h)]
  refine ⟨by rw [merged_len, h.ol], by rw [merged_len, h.ql], h.oc.merge (by rw [h.ol]; exact han) (by rw [h.ol]; exact hbn) ra rb, h.qc.merge (by rw [h.ql]; exact loc_top ha han) (by rw [h.ql]; exact loc_top hb hbn) ra' rb', fun f hf hp => ?_, fun f hf hp g hg => ?_⟩
  · obtain ⟨g, hgn, hg, e1, e2⟩ := h.i f hf hp
    by_cases hc : g = a ∨ g = b
    · refine ⟨min a b, by omega, hmin, merged_near (by rw [h.ol]; exact hf) e1 hc, ?_⟩
      rw [merged_near (by rw [h.ql]; exact loc_top hp hf) e2 (by rcases hc with rfl | rfl <;> simp), hloc]
    · refine ⟨g, hgn, hg, merged_far (by rw [h.ol]; exact hf) e1 (by omega) (by omega), merged_far (by rw [h.ql]; exact loc_top hp hf) e2 ?_ ?_⟩
      · have := loc_inj (p := p) hg ha; omega
      · have := loc_inj (p := p) hg hb; omega
  · rw [merged_far (by rw [h.ol]; exact hf) rfl (h.o f hf hp a ha) (h.o f hf hp b hb)]
    exact h.o f hf hp g hg
theorem Loc.merge0 (h : Loc p n of q) {a b : Nat} (ha : p a = false) (hb : p b = false) (han : a < n) (hbn : b < n) (ra : of.getD a 0 = a) (rb : of.getD b 0 = b) : Loc p n (merged of (a, b)) q := by
  refine ⟨by rw [merged_len, h.ol], h.ql, h.oc.merge (by rw [h.ol]; exact han) (by rw [h.ol]; exact hbn) ra rb, h.qc, fun f hf hp => ?_, fun f hf hp g hg => ?_⟩
  · obtain ⟨g, hgn, hg, e1, e2⟩ := h.i f hf hp
    refine ⟨g, hgn, hg, merged_far (by rw [h.ol]; exact hf) e1 (fun e => ?_) (fun e => ?_), e2⟩
    · obtain rfl : g = a := by omega
      rw [ha] at hg; cases hg
    · obtain rfl : g = b := by omega
      rw [hb] at hg; cases hg
  · obtain ⟨r, hr, _⟩ := h.oc f (by rw [h.ol]; exact hf)
    by_cases hc : r = a ∨ r = b
    · rw [merged_near (by rw [h.ol]; exact hf) hr hc]
      intro e
      have : min a b = g := by omega
      rcases Nat.le_total a b with h1 | h1
      · rw [Nat.min_eq_left h1] at this; rw [← this, ha] at hg; cases hg
      · rw [Nat.min_eq_right h1] at this; rw [← this, hb] at hg; cases hg
    · rw [merged_far (by rw [h.ol]; exact hf) hr (by omega) (by omega), ← hr]
      exact h.o f hf hp g hg

theorem scaleF_fuel : ∀ (f f' : Nat) (of : List Int), roots of ≤ f → roots of ≤ f' → scaleF ws ns m f of = scaleF ws ns m f' of
  | f, f', of, hf, hf' => by
    cases hn : (next ws ns of m).2.2.1
    · have s : ∀ k, scaleF ws ns m k of = (of, []) := fun k => by
        cases k
        · rfl
        · rw [scaleF, hn]; rfl
      rw [s, s]
    · have r1 := next_roots hn
      match f, f' with
      | 0, _ => omega
      | _ + 1, 0 => omega
      | f + 1, f' + 1 => rw [scaleF, if_pos hn, scaleF, if_pos hn, scaleF_fuel f f' _ (by omega) (by omega)]
theorem scale_step (hn : (next ws ns of m).2.2.1 = true) : (scale ws ns of m).1 = (scale ws ns (merged of ((next ws ns of m).1, (next ws ns of m).2.1)) m).1 := by
  have r1 := next_roots hn
  have r2 := roots_le of
  unfold scale
  rw [merged_len]
  match of.length, r2 with
  | 0, r2 => omega
  | k + 1, r2 =>
    rw [scaleF, if_pos hn]
    dsimp only
    rw [scaleF_fuel (k + 1) k _ (by omega) (by omega)]
theorem scale_stop (hn : (next ws ns of m).2.2.1 = false) : scale ws ns of m = (of, []) := by
  unfold scale
  cases of.length
  · rfl
  · rw [scaleF, hn]; rfl

/-- Merging all is merging each part. -/
theorem scaleF_part (hS : Shut p n ns) (hn : 0 < n) : ∀ (f : Nat) (of q : List Int), Loc p n of q → roots of ≤ f → Loc p n (scaleF ws ns m f of).1 (scale (inW ws p n) (inN ns p) q m).1
  | f, of, q, h, hf => by
    cases hx : (next ws ns of m).2.2.1
    · have s : scaleF ws ns m f of = (of, []) := by
        cases f
        · rfl
        · rw [scaleF, hx]; rfl
      rw [s, scale_stop (h.none hS hn hx)]
      exact h
    · have r1 := next_roots hx
      obtain ⟨a, b, e1, e2, han, hbn, ra, rb, hor⟩ := h.some hS hx
      match f with
      | 0 => omega
      | f + 1 =>
        rw [scaleF, if_pos hx]
        rw [e1, e2] at r1
        rw [e1, e2]
        rcases hor with ⟨ha, hb, hx', e3, e4⟩ | ⟨ha, hb⟩
        · rw [scale_step hx', e3, e4]
          exact scaleF_part hS hn f _ _ (h.merge1 ha hb han hbn ra rb) (by omega)
        · exact scaleF_part hS hn f _ _ (h.merge0 ha hb han hbn ra rb) (by omega)
theorem after_part (hS : Shut p n ns) (hn : 0 < n) : ∀ (ls of q : List Int), Loc p n of q → Loc p n (after ws ns of ls) (after (inW ws p n) (inN ns p) q ls)
  | [], _, _, h => h
  | _ :: ls, of, q, h => after_part hS hn ls _ _ (scaleF_part hS hn of.length of q h (roots_le of))
theorem loc_alone : Loc p n (alone n) (alone ((fcs p n).length + 1)) := by
  refine ⟨alone_len n, alone_len _, alone_cn n, alone_cn _, fun f hf hp => ⟨f, hf, hp, alone_at hf, alone_at (loc_top hp hf)⟩, fun f hf hp g hg e => ?_⟩
  rw [alone_at hf] at e
  obtain rfl : f = g := by omega
  rw [hp] at hg
  cases hg
/-- The groups of a scale, and those of a part. -/
theorem ofAt_part (hS : Shut p ws.length ns) (hn : 0 < ws.length) (ls : List Int) (s : Nat) : Loc p ws.length (ofAt ws ns ls s) (ofAt (inW ws p ws.length) (inN ns p) ls s) := by
  unfold ofAt
  rw [inW_len]
  exact after_part hS hn _ _ _ loc_alone
end
end Go.Proofs.Ytmdgdphhedgojaa

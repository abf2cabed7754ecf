import Derived.Test.YtmdgdphhedgojaaR14
namespace Go.Proofs.Ytmdgdphhedgojaa
open Go.RowKit Go.Maps

/-- The group after a merge. -/
def sub (gone st x : Int) : Int := if x = gone then st else x

theorem sub_cases (gone st x : Int) : (x = gone ∧ sub gone st x = st) ∨ (x ≠ gone ∧ sub gone st x = x) := by
  unfold sub; split
  · exact .inl ⟨by assumption, rfl⟩
  · exact .inr ⟨by assumption, rfl⟩

theorem sub_ne {gone st : Int} (h : st ≠ gone) (x : Int) : sub gone st x ≠ gone := by
  unfold sub; split
  · exact h
  · assumption

theorem merged_eq (of : List Int) (a b : Int) : merged of (a, b) = of.map (sub (max a b) (min a b)) := by
  unfold merged
  apply List.map_congr_left
  intro x _
  unfold sub
  simp only [Bool.or_eq_true, beq_iff_eq]
  repeat' split
  all_goals omega

theorem getD_map_sub {of : List Int} {gone st : Int} {k : Nat} (hk : k < of.length) : (of.map (sub gone st)).getD k 0 = sub gone st (of.getD k 0) := by
  simp [List.getD, hk]

theorem common_sub {ns : List (Int × Int × Int)} {of : List Int} {gone st : Int} (hn : NOK of.length ns) (hs : st ≠ gone) {c d : Int} (hcd : c ≠ d) (k : Nat) :
    commonTo ns (of.map (sub gone st)) c d k = if c = gone ∨ d = gone then 0 else commonTo ns of c d k + (if c = st then commonTo ns of gone d k else 0) + (if d = st then commonTo ns of c gone k else 0) := by
  induction k with
  | zero => simp [commonTo]
  | succ k ih =>
    by_cases hk : k < ns.length
    · have ht : ns[k]? = some ns[k] := List.getElem?_eq_getElem hk
      have hb := hn.at ht
      rw [commonTo, commonTo, commonTo, commonTo, ih, tri_getD ht, getD_map_sub (by omega), getD_map_sub (by omega)]
      generalize of.getD ns[k].1.toNat 0 = X
      generalize of.getD ns[k].2.1.toNat 0 = Y
      generalize ns[k].2.2 = z
      generalize commonTo ns of c d k = A
      generalize commonTo ns of gone d k = B
      generalize commonTo ns of c gone k = C
      clear ih ht hb
      simp only [Bool.or_eq_true, Bool.and_eq_true, beq_iff_eq]
      rcases sub_cases gone st X with ⟨hX, e⟩ | ⟨hX, e⟩ <;> rw [e] <;> clear e <;> rcases sub_cases gone st Y with ⟨hY, e⟩ | ⟨hY, e⟩ <;> rw [e] <;> clear e <;> (repeat' split) <;> omega
    · have e : ns.getD k (0, 0, 0) = (0, 0, 0) := by simp [List.getD, hk]
      have e0 : ∀ (l : List Int) (a b : Int), commonTo ns l a b (k + 1) = commonTo ns l a b k := fun l a b => by
        rw [commonTo, e]; simp
      rw [e0, e0, e0, e0, ih]

theorem weight_sub {ws of : List Int} {gone st : Int} (hs : st ≠ gone) (y : Int) (k : Nat) (hk : k ≤ of.length) :
    weightTo ws (of.map (sub gone st)) y k = if y = gone then 0 else weightTo ws of y k + if y = st then weightTo ws of gone k else 0 := by
  induction k with
  | zero => simp [weightTo]
  | succ k ih =>
    rw [weightTo, weightTo, weightTo, ih (by omega), getD_map_sub (by omega)]
    generalize of.getD k 0 = X
    generalize weightTo ws of y k = A
    generalize weightTo ws of gone k = B
    clear ih
    rcases sub_cases gone st X with ⟨hX, e⟩ | ⟨hX, e⟩ <;> rw [e] <;> clear e <;> (repeat' split) <;> omega

/-- One old border is put at its new place. -/
def addS (gone st : Int) (f : Int × Int → Option Int) (t : Int × Int × Int) : Int × Int → Option Int :=
  if sub gone st t.1 = sub gone st t.2.1 then f else setF f (sub gone st t.1, sub gone st t.2.1) ((f (sub gone st t.1, sub gone st t.2.1)).getD 0 + t.2.2)

def addF (gone st : Int) (f : Int × Int → Option Int) (l : List (Int × Int × Int)) : Int × Int → Option Int := l.foldl (addS gone st) f

theorem addF_snoc (gone st : Int) (f : Int × Int → Option Int) (l : List (Int × Int × Int)) (t : Int × Int × Int) : addF gone st f (l ++ [t]) = addS gone st (addF gone st f l) t := by
  simp [addF]

theorem addS_other {gone st : Int} {f : Int × Int → Option Int} {t : Int × Int × Int} {p : Int × Int} (h : (sub gone st t.1, sub gone st t.2.1) = p → p.1 = p.2) : addS gone st f t p = f p := by
  unfold addS
  split
  · rfl
  · rename_i hne
    refine if_neg (fun e => hne ?_)
    have h1 := h e.symm
    rw [e] at h1
    exact h1

theorem addF_none {gone st : Int} {p : Int × Int} : ∀ {l : List (Int × Int × Int)} {f : Int × Int → Option Int}, (∀ t ∈ l, (sub gone st t.1, sub gone st t.2.1) = p → p.1 = p.2) → addF gone st f l p = f p
  | [], _, _ => rfl
  | t :: l, f, h => by
    have := addF_none (l := l) (f := addS gone st f t) (fun u hu => h u (by simp [hu]))
    rw [show addF gone st f (t :: l) = addF gone st (addS gone st f t) l from rfl, this]
    exact addS_other (h t (by simp))

theorem addF_one {gone st : Int} {p : Int × Int} {t : Int × Int × Int} {l1 l2 : List (Int × Int × Int)} {f : Int × Int → Option Int} (ht : (sub gone st t.1, sub gone st t.2.1) = p) (hp : p.1 ≠ p.2)
    (h1 : ∀ u ∈ l1, (sub gone st u.1, sub gone st u.2.1) ≠ p) (h2 : ∀ u ∈ l2, (sub gone st u.1, sub gone st u.2.1) ≠ p) : addF gone st f (l1 ++ t :: l2) p = some ((f p).getD 0 + t.2.2) := by
  have e : addF gone st f (l1 ++ t :: l2) = addF gone st (addS gone st (addF gone st f l1) t) l2 := by simp [addF]
  rw [e, addF_none (fun u hu e => (h2 u hu e).elim)]
  have e1 := addF_none (f := f) (l := l1) (gone := gone) (st := st) (p := p) (fun u hu e => (h1 u hu e).elim)
  subst ht
  unfold addS
  rw [if_neg hp]
  unfold setF
  rw [if_pos rfl, e1]

/-- The old borders of a group that goes. -/
structure Olds (f : Int × Int → Option Int) (gone : Int) (l : List (Int × Int × Int)) : Prop where
  a : ∀ t ∈ l, f (t.1, t.2.1) = some t.2.2 ∧ t.1 ≠ t.2.1 ∧ (t.1 = gone ∨ t.2.1 = gone)
  n : (l.map fun t => (t.1, t.2.1)).Nodup

theorem Olds.one {f : Int × Int → Option Int} {gone st : Int} {l1 l2 : List (Int × Int × Int)} {t : Int × Int × Int} (h : Olds f gone (l1 ++ t :: l2)) (hne : sub gone st t.1 ≠ sub gone st t.2.1) :
    (∀ u ∈ l1, (sub gone st u.1, sub gone st u.2.1) ≠ (sub gone st t.1, sub gone st t.2.1)) ∧ ∀ u ∈ l2, (sub gone st u.1, sub gone st u.2.1) ≠ (sub gone st t.1, sub gone st t.2.1) := by
  have key : ∀ u ∈ l1 ++ t :: l2, (sub gone st u.1, sub gone st u.2.1) = (sub gone st t.1, sub gone st t.2.1) → (u.1, u.2.1) = (t.1, t.2.1) := fun u hu e => by
    have h1 := (h.a u hu).2
    have h2 := (h.a t (by simp)).2
    injection e with e1 e2
    unfold sub at e1 e2 hne
    refine Prod.ext ?_ ?_ <;> dsimp only <;> (repeat' split at e1) <;> (repeat' split at e2) <;> (repeat' split at hne) <;> omega
  have hnd := h.n
  rw [List.map_append, List.map_cons, List.nodup_append] at hnd
  obtain ⟨_, hn2, hn3⟩ := hnd
  rw [List.nodup_cons] at hn2
  refine ⟨fun u hu e => ?_, fun u hu e => ?_⟩
  · exact hn3 _ (List.mem_map_of_mem hu) _ (by simp) (key u (by simp [hu]) e)
  · exact hn2.1 (key u (by simp [hu]) e ▸ List.mem_map_of_mem hu)

/-- The borders that stay. -/
def keepF (gone : Int) (f : Int × Int → Option Int) : Int × Int → Option Int := fun p => if p.1 = gone ∨ p.2 = gone then none else f p

theorem near_zero {n : Nat} {ns : List (Int × Int × Int)} {of : List Int} (h : NOK n ns) {i : Nat} {a b : Int} (hp : a ≠ b) (h0 : nearF ns of i (a, b) = none) : commonTo ns of a b i = 0 := by
  have := nearF_getD (of := of) h i (p := (a, b)) hp
  rw [h0] at this
  exact this.symm

theorem near_some {ns : List (Int × Int × Int)} {of : List Int} {i : Nat} {a b v : Int} (h0 : nearF ns of i (a, b) = some v) : a ≠ b ∧ commonTo ns of a b i = v ∧ 0 < v := by
  unfold nearF at h0
  split at h0
  · rename_i hc
    injection h0 with h0
    exact ⟨hc.1, h0, h0 ▸ hc.2⟩
  · cases h0

theorem near_merge {ns : List (Int × Int × Int)} {of : List Int} {gone st : Int} {l : List (Int × Int × Int)} (hn : NOK of.length ns) (hs : st ≠ gone) (hl : Olds (nearF ns of ns.length) gone l)
    (hall : ∀ p, nearF ns of ns.length p ≠ none → p.1 = gone ∨ p.2 = gone → ∃ t ∈ l, (t.1, t.2.1) = p) :
    addF gone st (keepF gone (nearF ns of ns.length)) l = nearF ns (of.map (sub gone st)) ns.length := by
  funext p
  obtain ⟨c, d⟩ := p
  by_cases hcd : c = d
  · rw [addF_none (fun _ _ _ => hcd)]
    subst hcd
    unfold keepF nearF
    simp
  · have hR : nearF ns (of.map (sub gone st)) ns.length (c, d) = if 0 < commonTo ns (of.map (sub gone st)) c d ns.length then some (commonTo ns (of.map (sub gone st)) c d ns.length) else none := by
      unfold nearF
      simp only [hcd, ne_eq, not_false_eq_true, true_and]
    have hK : nearF ns of ns.length (c, d) = if 0 < commonTo ns of c d ns.length then some (commonTo ns of c d ns.length) else none := by
      unfold nearF
      simp only [hcd, ne_eq, not_false_eq_true, true_and]
    rw [hR, common_sub hn hs hcd]
    clear hR
    have hnn : ∀ a b, 0 ≤ commonTo ns of a b ns.length := fun a b => (commonTo_bd hn ns.length).1
    by_cases hg : c = gone ∨ d = gone
    · rw [if_pos hg, if_neg (by omega), addF_none (fun t _ e => ?_)]
      · exact if_pos hg
      · injection e with e1 e2
        rcases hg with hg | hg
        · exact (sub_ne hs t.1 (e1.trans hg)).elim
        · exact (sub_ne hs t.2.1 (e2.trans hg)).elim
    · rw [if_neg hg]
      have hkeep : keepF gone (nearF ns of ns.length) (c, d) = nearF ns of ns.length (c, d) := if_neg hg
      -- the one old border that comes to lie here
      have one : ∀ x y v, nearF ns of ns.length (x, y) = some v → (x = gone ∨ y = gone) → sub gone st x = c → sub gone st y = d → addF gone st (keepF gone (nearF ns of ns.length)) l (c, d) = some (commonTo ns of c d ns.length + v) := fun x y v hv hxy e1 e2 => by
        obtain ⟨t, ht, et⟩ := hall (x, y) (by rw [hv]; simp) hxy
        obtain ⟨l1, l2, rfl⟩ := List.append_of_mem ht
        injection et with t1 t2
        have ht' := (hl.a t (by simp)).1
        rw [t1, t2, hv] at ht'
        injection ht' with ht'
        have hsub : (sub gone st t.1, sub gone st t.2.1) = (c, d) := by rw [t1, t2, e1, e2]
        have hone := hl.one (st := st) (by rw [t1, t2, e1, e2]; exact hcd)
        rw [hsub] at hone
        rw [addF_one hsub hcd hone.1 hone.2, hkeep, ← ht', nearF_getD hn _ hcd]
      have none_ : (∀ x y, (x = gone ∨ y = gone) → sub gone st x = c → sub gone st y = d → nearF ns of ns.length (x, y) = none) → addF gone st (keepF gone (nearF ns of ns.length)) l (c, d) = nearF ns of ns.length (c, d) := fun h => by
        rw [addF_none (fun t ht e => ?_), hkeep]
        have h1 := hl.a t ht
        injection e with e1 e2
        have := h _ _ h1.2.2 e1 e2
        rw [h1.1] at this
        cases this
      by_cases hc : c = st
      · have hd : d ≠ st := fun h => hcd (hc.trans h.symm)
        have hdg : d ≠ gone := fun h => hg (.inr h)
        rw [if_pos hc, if_neg hd]
        cases hv : nearF ns of ns.length (gone, d) with
        | some v =>
          obtain ⟨h1, h2, h3⟩ := near_some hv
          have := hnn c d
          rw [one gone d v hv (.inl rfl) (by simp [sub, hc]) (by simp [sub, hdg]), h2, if_pos (by omega), Int.add_zero]
        | none =>
          rw [near_zero hn (Ne.symm hdg) hv, Int.add_zero, Int.add_zero, ← hK]
          refine none_ (fun x y hxy e1 e2 => ?_)
          have : x = gone ∧ y = d := by unfold sub at e1 e2; split at e1 <;> split at e2 <;> omega
          rw [this.1, this.2, hv]
      · rw [if_neg hc, Int.add_zero]
        have hcg : c ≠ gone := fun h => hg (.inl h)
        by_cases hd : d = st
        · rw [if_pos hd]
          cases hv : nearF ns of ns.length (c, gone) with
          | some v =>
            obtain ⟨h1, h2, h3⟩ := near_some hv
            have := hnn c d
            rw [one c gone v hv (.inr rfl) (by simp [sub, hcg]) (by simp [sub, hd]), h2, if_pos (by omega)]
          | none =>
            rw [near_zero hn hcg hv, Int.add_zero, ← hK]
            refine none_ (fun x y hxy e1 e2 => ?_)
            have : x = c ∧ y = gone := by unfold sub at e1 e2; split at e1 <;> split at e2 <;> omega
            rw [this.1, this.2, hv]
        · rw [if_neg hd, Int.add_zero, ← hK]
          refine none_ (fun x y hxy e1 e2 => ?_)
          unfold sub at e1 e2; split at e1 <;> split at e2 <;> omega

/-- The value that an old border is added to. -/
theorem addF_before {f : Int × Int → Option Int} {gone st : Int} {l1 l2 : List (Int × Int × Int)} {t : Int × Int × Int} (h : Olds f gone (l1 ++ t :: l2)) (hne : sub gone st t.1 ≠ sub gone st t.2.1) :
    addF gone st (keepF gone f) l1 (sub gone st t.1, sub gone st t.2.1) = keepF gone f (sub gone st t.1, sub gone st t.2.1) :=
  addF_none (fun u hu e => ((h.one hne).1 u hu e).elim)

end Go.Proofs.Ytmdgdphhedgojaa

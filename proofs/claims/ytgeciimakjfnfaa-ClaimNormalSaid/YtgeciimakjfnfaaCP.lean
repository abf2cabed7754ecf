import Derived.Test.YtgeciimakjfnfaaCA
namespace Go.Proofs.Ytgeciimakjfnfaa

theorem Cl.same {a b : Cl} (h1 : a.kind = b.kind) (h2 : a.office = b.office) (h3 : a.fr = b.fr) (h4 : a.til = b.til) (h5 : a.dec = b.dec) : a = b := by
  cases a; cases b; simp only at h1 h2 h3 h4 h5; subst h1 h2 h3 h4 h5; rfl
theorem clE_iff {c : Cl} : clE c = 0 ↔ 0 ≤ c.kind ∧ c.kind ≤ 2 ∧ 0 ≤ c.office ∧ c.office ≤ 63 ∧ 0 ≤ c.dec ∧ c.dec ≤ 1048576 ∧ 0 ≤ c.fr ∧ c.fr ≤ c.til ∧ c.til ≤ 73048 := by
  unfold clE
  constructor
  · intro h
    by_cases k : 0 ≤ c.kind ∧ c.kind ≤ 2 ∧ 0 ≤ c.office ∧ c.office ≤ 63 ∧ 0 ≤ c.dec ∧ c.dec ≤ 1048576 ∧ 0 ≤ c.fr ∧ c.fr ≤ c.til ∧ c.til ≤ 73048
    · exact k
    · rw [if_neg k] at h; cases h
  · exact fun k => if_pos k
/-- Two claims that differ in their days alone. -/
def sameK (a b : Cl) : Prop := a.kind = b.kind ∧ a.office = b.office ∧ a.dec = b.dec
instance (a b : Cl) : Decidable (sameK a b) := inferInstanceAs (Decidable (_ ∧ _))
theorem sameK.symm {a b : Cl} (h : sameK a b) : sameK b a := ⟨h.1.symm, h.2.1.symm, h.2.2.symm⟩
theorem sameK.trans {a b c : Cl} (h : sameK a b) (k : sameK b c) : sameK a c := ⟨h.1.trans k.1, h.2.1.trans k.2.1, h.2.2.trans k.2.2⟩
def lessC (a b : Cl) : Bool := decide (a.kind < b.kind ∨ a.kind = b.kind ∧ (a.office < b.office ∨ a.office = b.office ∧ (a.dec < b.dec ∨ a.dec = b.dec ∧ a.fr < b.fr)))
theorem lessC_iff {a b : Cl} : lessC a b = true ↔ (a.kind < b.kind ∨ a.kind = b.kind ∧ (a.office < b.office ∨ a.office = b.office ∧ (a.dec < b.dec ∨ a.dec = b.dec ∧ a.fr < b.fr))) := decide_eq_true_iff
theorem lessC_not {a b : Cl} (h : lessC a b = false) : ¬ (a.kind < b.kind ∨ a.kind = b.kind ∧ (a.office < b.office ∨ a.office = b.office ∧ (a.dec < b.dec ∨ a.dec = b.dec ∧ a.fr < b.fr))) := by
  rw [← lessC_iff, h]; decide
theorem lessC_trans {a b c : Cl} (h : lessC a b = true) (k : lessC b c = true) : lessC a c = true := by rw [lessC_iff] at *; omega
theorem lessC_irr (a : Cl) : lessC a a = false := by
  cases h : lessC a a
  · rfl
  · rw [lessC_iff] at h; omega
/-- A day of a kind, an office and a decree is covered. -/
def covd (L : List Cl) (k o e d : Int) : Prop := ∃ c ∈ L, c.kind = k ∧ c.office = o ∧ c.dec = e ∧ c.fr ≤ d ∧ d ≤ c.til
theorem covd_app {L M : List Cl} {k o e d : Int} : covd (L ++ M) k o e d ↔ covd L k o e d ∨ covd M k o e d := by
  constructor
  · rintro ⟨c, hc, h⟩
    rcases List.mem_append.1 hc with hc | hc
    · exact .inl ⟨c, hc, h⟩
    · exact .inr ⟨c, hc, h⟩
  · rintro (⟨c, hc, h⟩ | ⟨c, hc, h⟩)
    · exact ⟨c, List.mem_append_left _ hc, h⟩
    · exact ⟨c, List.mem_append_right _ hc, h⟩
theorem covd_perm {L M : List Cl} (h : ∀ c, c ∈ L ↔ c ∈ M) (k o e d : Int) : covd L k o e d ↔ covd M k o e d :=
  ⟨fun ⟨c, hc, r⟩ => ⟨c, (h c).1 hc, r⟩, fun ⟨c, hc, r⟩ => ⟨c, (h c).2 hc, r⟩⟩
theorem covd_nil {k o e d : Int} : ¬ covd [] k o e d := by rintro ⟨c, hc, _⟩; cases hc
theorem covd_one {c : Cl} {k o e d : Int} : covd [c] k o e d ↔ c.kind = k ∧ c.office = o ∧ c.dec = e ∧ c.fr ≤ d ∧ d ≤ c.til :=
  ⟨fun ⟨b, hb, r⟩ => by rw [List.mem_singleton.1 hb] at r; exact r, fun r => ⟨c, List.mem_singleton.2 rfl, r⟩⟩
/-- Two claims that cannot be joined. -/
def apartC (a b : Cl) : Prop := ¬ sameK a b ∨ a.til + 1 < b.fr ∨ b.til + 1 < a.fr
theorem apartC.symm {a b : Cl} (h : apartC a b) : apartC b a := by
  rcases h with h | h | h
  · exact .inl fun k => h k.symm
  · exact .inr (.inr h)
  · exact .inr (.inl h)
/-- A normal form. -/
structure Nf (L : List Cl) : Prop where
  so : L.Pairwise fun a b => lessC a b = true
  ap : L.Pairwise apartC
  ok : ∀ c ∈ L, c.fr ≤ c.til
theorem pw_all {α : Type} {R : α → α → Prop} (hs : ∀ {x y}, R x y → R y x) : ∀ {l : List α}, l.Pairwise R → ∀ {a b}, a ∈ l → b ∈ l → a = b ∨ R a b
  | [], _, a, b, h, _ => by cases h
  | x :: l, h, a, b, ha, hb => by
    have h' := List.pairwise_cons.1 h
    rcases List.mem_cons.1 ha with rfl | ha2
    · rcases List.mem_cons.1 hb with rfl | hb2
      · exact .inl rfl
      · exact .inr (h'.1 _ hb2)
    · rcases List.mem_cons.1 hb with rfl | hb2
      · exact .inr (hs (h'.1 _ ha2))
      · exact pw_all hs h'.2 ha2 hb2
theorem Nf.most {L : List Cl} (h : Nf L) {c : Cl} (hc : c ∈ L) : ¬ covd L c.kind c.office c.dec (c.til + 1) ∧ ¬ covd L c.kind c.office c.dec (c.fr - 1) := by
  have hok := h.ok c hc
  constructor
  all_goals
    rintro ⟨e, he, h1, h2, h3, h4, h5⟩
    have hek := h.ok e he
    rcases pw_all (fun k => apartC.symm k) h.ap hc he with rfl | h6 | h6
    · omega
    · exact h6 ⟨h1.symm, h2.symm, h3.symm⟩
    · omega
theorem Nf.sub {L M : List Cl} (hL : Nf L) (hM : Nf M) (h : ∀ k o e d, covd L k o e d ↔ covd M k o e d) {c : Cl} (hc : c ∈ L) : c ∈ M := by
  have hok := hL.ok c hc
  obtain ⟨d, hd, h1, h2, h3, h4, h5⟩ := (h c.kind c.office c.dec c.fr).1 ⟨c, hc, rfl, rfl, rfl, Int.le_refl _, hok⟩
  have hm := hL.most hc
  have hmd := hM.most hd
  rw [h1, h2, h3] at hmd
  have e1 : d.fr = c.fr := by
    rcases Int.lt_trichotomy d.fr c.fr with k | k | k
    · exact (hm.2 ((h _ _ _ _).2 ⟨d, hd, h1, h2, h3, by omega, by omega⟩)).elim
    · exact k
    · omega
  have e2 : d.til = c.til := by
    rcases Int.lt_trichotomy d.til c.til with k | k | k
    · exact (hmd.1 ((h _ _ _ _).1 ⟨c, hc, rfl, rfl, rfl, by omega, by omega⟩)).elim
    · exact k
    · exact (hm.1 ((h _ _ _ _).2 ⟨d, hd, h1, h2, h3, by omega, by omega⟩)).elim
  rw [← Cl.same h1 h2 e1 e2 h3]
  exact hd
theorem so_ext : ∀ {l m : List Cl}, (l.Pairwise fun a b => lessC a b = true) → (m.Pairwise fun a b => lessC a b = true) → (∀ x, x ∈ l ↔ x ∈ m) → l = m
  | [], [], _, _, _ => rfl
  | [], b :: m, _, _, h => by have := (h b).2 (by simp); simp at this
  | a :: l, [], _, _, h => by have := (h a).1 (by simp); simp at this
  | a :: l, b :: m, hl, hm, h => by
    have hl' := List.pairwise_cons.1 hl
    have hm' := List.pairwise_cons.1 hm
    have e : a = b := by
      rcases List.mem_cons.1 ((h a).1 (by simp)) with h1 | h1
      · exact h1
      · rcases List.mem_cons.1 ((h b).2 (by simp)) with h2 | h2
        · exact h2.symm
        · have h3 := lessC_trans (hl'.1 b h2) (hm'.1 a h1)
          rw [lessC_irr] at h3
          cases h3
    subst e
    congr 1
    refine so_ext hl'.2 hm'.2 fun x => ⟨fun hx => ?_, fun hx => ?_⟩
    · rcases List.mem_cons.1 ((h x).1 (List.mem_cons_of_mem _ hx)) with h1 | h1
      · subst h1
        have := hl'.1 x hx
        rw [lessC_irr] at this
        cases this
      · exact h1
    · rcases List.mem_cons.1 ((h x).2 (List.mem_cons_of_mem _ hx)) with h1 | h1
      · subst h1
        have := hm'.1 x hx
        rw [lessC_irr] at this
        cases this
      · exact h1
/-- Two normal forms that cover the same are equal. -/
theorem Nf.eq {L M : List Cl} (hL : Nf L) (hM : Nf M) (h : ∀ k o e d, covd L k o e d ↔ covd M k o e d) : L = M :=
  so_ext hL.so hM.so fun _ => ⟨fun hx => hL.sub hM h hx, fun hx => hM.sub hL (fun k o e d => (h k o e d).symm) hx⟩

/-! The reference's put. -/
def stepP (s : List Cl × Cl) (x : Cl) : List Cl × Cl :=
  if sameK x s.2 ∧ x.fr ≤ s.2.til + 1 ∧ s.2.fr ≤ x.til + 1 then (s.1, ⟨s.2.kind, s.2.office, min s.2.fr x.fr, max s.2.til x.til, s.2.dec⟩) else (s.1 ++ [x], s.2)
def posC (r : List Cl) (c : Cl) : Nat := (r.takeWhile fun x => lessC x c).length
def insC (r : List Cl) (c : Cl) : List Cl := r.take (posC r c) ++ c :: r.drop (posC r c)
def putC (l : List Cl) (c : Cl) : List Cl := insC (l.foldl stepP ([], c)).1 (l.foldl stepP ([], c)).2
def NF (l : List Cl) : List Cl := l.foldl putC []
theorem posC_le (r : List Cl) (c : Cl) : posC r c ≤ r.length := by
  have := (List.takeWhile_sublist (fun x => lessC x c) (l := r)).length_le
  exact this
theorem posC_eq {r : List Cl} {c : Cl} {k : Nat} (hk : k ≤ r.length) (h1 : ∀ j x, j < k → r[j]? = some x → lessC x c = true) (h2 : ∀ x, r[k]? = some x → lessC x c = false) : posC r c = k := by
  unfold posC
  induction r generalizing k with
  | nil => simp at hk; subst hk; rfl
  | cons y r ih =>
    cases k with
    | zero => rw [List.takeWhile_cons, h2 y rfl]; rfl
    | succ k =>
      rw [List.takeWhile_cons, h1 0 y (by omega) rfl]
      simp only [if_true, List.length_cons]
      rw [ih (k := k) (by simpa using hk) (fun j x hj hx => h1 (j + 1) x (by omega) (by simpa using hx)) (fun x hx => h2 x (by simpa using hx))]
theorem posC_spec (r : List Cl) (c : Cl) : (∀ x ∈ r.take (posC r c), lessC x c = true) ∧ (∀ x, r[posC r c]? = some x → lessC x c = false) := by
  unfold posC
  induction r with
  | nil => simp
  | cons y r ih =>
    rw [List.takeWhile_cons]
    cases h : lessC y c
    · simp [h]
    · simp only [if_true, List.length_cons, List.take_succ_cons, List.getElem?_cons_succ]
      refine ⟨fun x hx => ?_, ih.2⟩
      rcases List.mem_cons.1 hx with rfl | hx
      · exact h
      · exact ih.1 x hx
/-- What holds while the list is searched. -/
structure PI (R : List Cl) (c : Cl) (rest : List Cl) : Prop where
  so : (R ++ rest).Pairwise fun a b => lessC a b = true
  ap : (R ++ rest).Pairwise apartC
  vl : ∀ x ∈ R ++ rest, clE x = 0
  cv : clE c = 0
  out : ∀ e ∈ R, sameK e c → e.til + 1 < c.fr ∨ c.til + 1 < e.fr
theorem PI.step {R : List Cl} {c x : Cl} {rest : List Cl} (h : PI R c (x :: rest)) : PI (stepP (R, c) x).1 (stepP (R, c) x).2 rest ∧ sameK (stepP (R, c) x).2 c ∧ (stepP (R, c) x).1.length ≤ R.length + 1 ∧
    ∀ k o e d, covd ((stepP (R, c) x).1 ++ [(stepP (R, c) x).2] ++ rest) k o e d ↔ covd (R ++ [c] ++ x :: rest) k o e d := by
  have hx := clE_iff.1 (h.vl x (by simp))
  have hc := clE_iff.1 h.cv
  unfold stepP
  simp only
  by_cases ht : sameK x c ∧ x.fr ≤ c.til + 1 ∧ c.fr ≤ x.til + 1
  · rw [if_pos ht]
    obtain ⟨hk, h1, h2⟩ := ht
    have hsub : (R ++ rest).Sublist (R ++ x :: rest) := List.Sublist.append (List.Sublist.refl _) (List.sublist_cons_self _ _)
    refine ⟨⟨h.so.sublist hsub, h.ap.sublist hsub, fun y hy => h.vl y (hsub.subset hy), clE_iff.2 ?_, fun e he hek => ?_⟩, ⟨rfl, rfl, rfl⟩, by simp, fun k o e d => ?_⟩
    · simp only; omega
    · have hekc : sameK e c := hek
      have hex : sameK e x := hekc.trans hk.symm
      have hl := (List.pairwise_append.1 h.so).2.2 e he x (by simp)
      have ha := (List.pairwise_append.1 h.ap).2.2 e he x (by simp)
      have hev := clE_iff.1 (h.vl e (by simp [he]))
      rw [lessC_iff] at hl
      obtain ⟨g1, g2, g3⟩ := hex
      have ha2 : e.til + 1 < x.fr ∨ x.til + 1 < e.fr := by
        rcases ha with ha | ha
        · exact (ha ⟨g1, g2, g3⟩).elim
        · exact ha
      have := h.out e he hekc
      simp only
      omega
    · have hm : covd [(⟨c.kind, c.office, min c.fr x.fr, max c.til x.til, c.dec⟩ : Cl)] k o e d ↔ covd [c] k o e d ∨ covd [x] k o e d := by
        rw [covd_one, covd_one, covd_one]
        obtain ⟨g1, g2, g3⟩ := hk
        simp only
        constructor
        · rintro ⟨a1, a2, a3, a4, a5⟩
          by_cases hd : c.fr ≤ d ∧ d ≤ c.til
          · exact .inl ⟨a1, a2, a3, hd⟩
          · exact .inr ⟨g1.trans a1, g2.trans a2, g3.trans a3, by omega, by omega⟩
        · rintro (⟨a1, a2, a3, a4, a5⟩ | ⟨a1, a2, a3, a4, a5⟩)
          · exact ⟨a1, a2, a3, by omega, by omega⟩
          · exact ⟨g1.symm.trans a1, g2.symm.trans a2, g3.symm.trans a3, by omega, by omega⟩
      rw [covd_app, covd_app, covd_app, covd_app, show x :: rest = [x] ++ rest from rfl, covd_app, hm]
      constructor
      · rintro ((h | (h | h)) | h)
        · exact .inl (.inl h)
        · exact .inl (.inr h)
        · exact .inr (.inl h)
        · exact .inr (.inr h)
      · rintro ((h | h) | (h | h))
        · exact .inl (.inl h)
        · exact .inl (.inr (.inl h))
        · exact .inl (.inr (.inr h))
        · exact .inr h
  · rw [if_neg ht]
    have e : R ++ [x] ++ rest = R ++ x :: rest := by simp
    refine ⟨⟨by rw [e]; exact h.so, by rw [e]; exact h.ap, by rw [e]; exact h.vl, h.cv, fun y hy hyk => ?_⟩, ⟨rfl, rfl, rfl⟩, by simp, fun k o e d => ?_⟩
    · rcases List.mem_append.1 hy with hy | hy
      · exact h.out y hy hyk
      · rw [List.mem_singleton.1 hy] at hyk ⊢
        have : ¬ (x.fr ≤ c.til + 1 ∧ c.fr ≤ x.til + 1) := fun k => ht ⟨hyk, k⟩
        show x.til + 1 < c.fr ∨ c.til + 1 < x.fr
        omega
    · refine covd_perm (fun y => ?_) k o e d
      simp only [List.mem_append, List.mem_cons, List.not_mem_nil, or_false]
      constructor
      · rintro (((h | h) | h) | h)
        · exact .inl (.inl h)
        · exact .inr (.inl h)
        · exact .inl (.inr h)
        · exact .inr (.inr h)
      · rintro ((h | h) | (h | h))
        · exact .inl (.inl (.inl h))
        · exact .inl (.inr h)
        · exact .inl (.inl (.inr h))
        · exact .inr h
theorem PI.all : ∀ {rest : List Cl} {R : List Cl} {c : Cl}, PI R c rest → PI (rest.foldl stepP (R, c)).1 (rest.foldl stepP (R, c)).2 [] ∧ (rest.foldl stepP (R, c)).1.length ≤ R.length + rest.length ∧
    ∀ k o e d, covd ((rest.foldl stepP (R, c)).1 ++ [(rest.foldl stepP (R, c)).2]) k o e d ↔ covd (R ++ [c] ++ rest) k o e d
  | [], R, c, h => ⟨h, by simp, fun k o e d => by simp⟩
  | x :: rest, R, c, h => by
    obtain ⟨h1, _, h3, h4⟩ := h.step
    obtain ⟨h5, h6, h7⟩ := PI.all (R := (stepP (R, c) x).1) (c := (stepP (R, c) x).2) h1
    have h6' : ((x :: rest).foldl stepP (R, c)).1.length ≤ (stepP (R, c) x).1.length + rest.length := h6
    refine ⟨h5, by rw [List.length_cons]; omega, fun k o e d => ?_⟩
    rw [List.foldl_cons, ← h4]
    exact h7 k o e d
theorem insC_mem (R : List Cl) (c x : Cl) : x ∈ insC R c ↔ x ∈ R ++ [c] := by
  unfold insC
  conv => rhs; rw [← List.take_append_drop (posC R c) R]
  simp only [List.mem_append, List.mem_cons, List.not_mem_nil, or_false]
  constructor
  · rintro (h | h | h)
    · exact .inl (.inl h)
    · exact .inr h
    · exact .inl (.inr h)
  · rintro ((h | h) | h)
    · exact .inl h
    · exact .inr (.inr h)
    · exact .inr (.inl h)
theorem insC_nf {R : List Cl} {c : Cl} (h : PI R c []) : Nf (insC R c) := by
  have so := h.so; have ap := h.ap; have vl := h.vl
  rw [List.append_nil] at so ap vl
  have hcv := clE_iff.1 h.cv
  obtain ⟨s1, s2⟩ := posC_spec R c
  have hsp := List.take_append_drop (posC R c) R
  have so2 := so; have ap2 := ap
  rw [← hsp] at so2 ap2
  have hR : ∀ x ∈ R, apartC c x := fun x hx => by
    by_cases hk : sameK x c
    · rcases h.out x hx hk with k | k
      · exact .inr (.inr k)
      · exact .inr (.inl k)
    · exact .inl fun k => hk k.symm
  have hd0 : ∀ x, R[posC R c]? = some x → lessC c x = true := fun x hx => by
    have h1 := lessC_not (s2 x hx)
    have hxm := List.mem_of_getElem? hx
    have hxv := clE_iff.1 (vl x hxm)
    rw [lessC_iff]
    by_cases hk : sameK x c
    · obtain ⟨g1, g2, g3⟩ := hk
      have := h.out x hxm ⟨g1, g2, g3⟩
      omega
    · unfold sameK at hk; omega
  have hd : ∀ x ∈ R.drop (posC R c), lessC c x = true := fun x hx => by
    obtain ⟨j, hj⟩ := List.mem_iff_getElem?.1 hx
    rw [List.getElem?_drop] at hj
    cases j with
    | zero => exact hd0 x hj
    | succ j =>
      obtain ⟨hj1, hj2⟩ := List.getElem?_eq_some_iff.1 hj
      have hp : posC R c < R.length := by omega
      have := (List.pairwise_iff_getElem.1 so) (posC R c) (posC R c + (j + 1)) hp hj1 (by omega)
      rw [hj2] at this
      exact lessC_trans (hd0 _ (List.getElem?_eq_getElem hp)) this
  unfold insC
  refine ⟨?_, ?_, fun x hx => ?_⟩
  · rw [List.pairwise_append]
    refine ⟨(List.pairwise_append.1 so2).1, List.pairwise_cons.2 ⟨hd, (List.pairwise_append.1 so2).2.1⟩, fun a ha b hb => ?_⟩
    rcases List.mem_cons.1 hb with rfl | hb
    · exact s1 a ha
    · exact (List.pairwise_append.1 so2).2.2 a ha b hb
  · rw [List.pairwise_append]
    refine ⟨(List.pairwise_append.1 ap2).1, List.pairwise_cons.2 ⟨fun x hx => hR x (List.mem_of_mem_drop hx), (List.pairwise_append.1 ap2).2.1⟩, fun a ha b hb => ?_⟩
    rcases List.mem_cons.1 hb with rfl | hb
    · exact (hR a (List.mem_of_mem_take ha)).symm
    · exact (List.pairwise_append.1 ap2).2.2 a ha b hb
  · have : x ∈ insC R c := hx
    rw [insC_mem] at this
    rcases List.mem_append.1 this with hx | hx
    · have := clE_iff.1 (vl x hx); omega
    · rw [List.mem_singleton.1 hx]; omega
theorem insC_len (R : List Cl) (c : Cl) : (insC R c).length = R.length + 1 := by
  have := posC_le R c
  unfold insC
  simp; omega
/-- What stands in a list of valid claims in normal form. -/
structure Nv (l L : List Cl) : Prop where
  nf : Nf L
  vl : ∀ c ∈ L, clE c = 0
  le : L.length ≤ l.length
  cov : ∀ k o e d, covd L k o e d ↔ covd l k o e d
theorem Nv.put {l L : List Cl} (h : Nv l L) {c : Cl} (hc : clE c = 0) : Nv (l ++ [c]) (putC L c) := by
  have hP : PI [] c L := ⟨by simpa using h.nf.so, by simpa using h.nf.ap, by simpa using h.vl, hc, fun e he => by cases he⟩
  obtain ⟨h1, h2, h3⟩ := hP.all
  refine ⟨insC_nf h1, fun x hx => ?_, ?_, fun k o e d => ?_⟩
  · rcases List.mem_append.1 ((insC_mem _ _ _).1 hx) with hx | hx
    · exact h1.vl x (by simpa using hx)
    · rw [List.mem_singleton.1 hx]; exact h1.cv
  · unfold putC
    rw [insC_len]
    have := h.le
    simp at h2 ⊢
    omega
  · unfold putC
    rw [covd_perm (insC_mem _ _), h3, covd_app, covd_app, covd_app, h.cov]
    simp only [covd_nil, false_or]
    exact Or.comm
theorem NF_snoc (l : List Cl) (c : Cl) : NF (l ++ [c]) = putC (NF l) c := by unfold NF; rw [List.foldl_append]; rfl
theorem NF_nv (l : List Cl) (hl : ∀ c ∈ l, clE c = 0) : Nv l (NF l) := by
  have : ∀ (n : Nat) (l : List Cl), l.length = n → (∀ c ∈ l, clE c = 0) → Nv l (NF l) := by
    intro n
    induction n with
    | zero =>
      intro l h _
      rw [List.eq_nil_of_length_eq_zero h]
      exact ⟨⟨.nil, .nil, fun _ h => by cases h⟩, fun _ h => (by cases h), Nat.le_refl _, fun _ _ _ _ => Iff.rfl⟩
    | succ n ih =>
      intro l h hv
      rcases List.eq_nil_or_concat l with rfl | ⟨m, c, rfl⟩
      · simp at h
      · rw [List.concat_eq_append] at *
        rw [NF_snoc]
        exact (ih m (by simpa using h) fun x hx => hv x (by simp [hx])).put (hv c (by simp))
  exact this _ l rfl hl
/-- The normal form is what stands in order and covers the same. -/
theorem NF_eq {l L : List Cl} (hl : ∀ c ∈ l, clE c = 0) (hL : Nf L) (h : ∀ k o e d, covd L k o e d ↔ covd l k o e d) : L = NF l :=
  hL.eq (NF_nv l hl).nf fun k o e d => (h k o e d).trans ((NF_nv l hl).cov k o e d).symm
theorem NF_idem {l : List Cl} (hl : ∀ c ∈ l, clE c = 0) : NF (NF l) = NF l := (NF_eq (NF_nv l hl).vl (NF_nv l hl).nf fun _ _ _ _ => Iff.rfl).symm
theorem NF_twice {l m : List Cl} (hl : ∀ c ∈ l, clE c = 0) (h : ∀ c, c ∈ m ↔ c ∈ l) : NF m = NF l :=
  NF_eq hl (NF_nv m fun c hc => hl c ((h c).1 hc)).nf fun k o e d => ((NF_nv m fun c hc => hl c ((h c).1 hc)).cov k o e d).trans (covd_perm h k o e d)
end Go.Proofs.Ytgeciimakjfnfaa

import Derived.Test.YtgeciimakjfnfaaCP
namespace Go.Proofs.Ytgeciimakjfnfaa

/-! The program's merging of claims in order. -/
def stepM (s : List Cl) (c : Cl) : List Cl := match s.getLast? with
  | some t => if c.fr ≤ t.til + 1 then s.dropLast ++ [⟨t.kind, t.office, t.fr, max t.til c.til, t.dec⟩] else s ++ [c]
  | none => [c]
theorem stepM_nil (c : Cl) : stepM [] c = [c] := rfl
theorem stepM_join {u : List Cl} {t c : Cl} (h : c.fr ≤ t.til + 1) : stepM (u ++ [t]) c = u ++ [⟨t.kind, t.office, t.fr, max t.til c.til, t.dec⟩] := by
  unfold stepM
  rw [List.getLast?_concat]
  simp only [if_pos h, List.dropLast_concat]
theorem stepM_new {u : List Cl} {t c : Cl} (h : ¬ c.fr ≤ t.til + 1) : stepM (u ++ [t]) c = u ++ [t] ++ [c] := by
  unfold stepM
  rw [List.getLast?_concat]
  simp only [if_neg h]
def mrg (S : List Cl) : List Cl := S.foldl stepM []
theorem mrg_snoc (S : List Cl) (c : Cl) : mrg (S ++ [c]) = stepM (mrg S) c := by unfold mrg; rw [List.foldl_append]; rfl
def kyOf (c : Cl) : Int × Int × Int := (c.kind, c.office, c.dec)
theorem kyOf_iff {a b : Cl} : kyOf a = kyOf b ↔ sameK a b := by simp [kyOf, sameK]
def partK (S : List Cl) (k : Int × Int × Int) : List Cl := S.filter fun c => decide (kyOf c = k)
theorem partK_snoc_eq (S : List Cl) (c : Cl) : partK (S ++ [c]) (kyOf c) = partK S (kyOf c) ++ [c] := by
  unfold partK; rw [List.filter_append, List.filter_cons_of_pos (by simp), List.filter_nil]
theorem partK_snoc_ne (S : List Cl) (c : Cl) {k : Int × Int × Int} (h : kyOf c ≠ k) : partK (S ++ [c]) k = partK S k := by
  unfold partK; rw [List.filter_append, List.filter_cons_of_neg (by simpa using h), List.filter_nil, List.append_nil]
/-- What merging has made of the claims A of one kind, office and decree. -/
structure MI (k : Int × Int × Int) (A R : List Cl) : Prop where
  ap : R.Pairwise fun a b => a.til + 1 < b.fr
  vl : ∀ c ∈ R, clE c = 0
  ky : ∀ c ∈ R, kyOf c = k
  fr : ∀ c ∈ R, ∃ b ∈ A, c.fr = b.fr
  le : R.length ≤ A.length
  cov : ∀ i o e d, covd R i o e d ↔ covd A i o e d
theorem MI.step {k : Int × Int × Int} {A R : List Cl} (h : MI k A R) {c : Cl} (hc : clE c = 0) (hk : kyOf c = k) (hs : ∀ b ∈ A, b.fr ≤ c.fr) : MI k (A ++ [c]) (stepM R c) := by
  have hcv := clE_iff.1 hc
  rcases List.eq_nil_or_concat R with rfl | ⟨u, t, rfl⟩
  · rw [stepM_nil]
    refine ⟨List.pairwise_singleton _ _, fun x hx => ?_, fun x hx => ?_, fun x hx => ⟨c, by simp, by rw [List.mem_singleton.1 hx]⟩, by simp, fun i o e d => ?_⟩
    · rw [List.mem_singleton.1 hx]; exact hc
    · rw [List.mem_singleton.1 hx]; exact hk
    · rw [covd_app, ← h.cov]; simp only [covd_nil, false_or]
  · rw [List.concat_eq_append] at *
    have htv := clE_iff.1 (h.vl t (by simp))
    have htk := h.ky t (by simp)
    have hks : sameK t c := kyOf_iff.1 (htk.trans hk.symm)
    obtain ⟨b0, hb0, e0⟩ := h.fr t (by simp)
    have htc : t.fr ≤ c.fr := by rw [e0]; exact hs b0 hb0
    have hap := List.pairwise_append.1 h.ap
    by_cases hj : c.fr ≤ t.til + 1
    · rw [stepM_join hj]
      refine ⟨?_, fun x hx => ?_, fun x hx => ?_, fun x hx => ?_, ?_, fun i o e d => ?_⟩
      · rw [List.pairwise_append]
        refine ⟨hap.1, List.pairwise_singleton _ _, fun a ha b hb => ?_⟩
        rw [List.mem_singleton.1 hb]
        exact hap.2.2 a ha t (by simp)
      · rcases List.mem_append.1 hx with hx | hx
        · exact h.vl x (by simp [hx])
        · rw [List.mem_singleton.1 hx]; exact clE_iff.2 (by simp only; omega)
      · rcases List.mem_append.1 hx with hx | hx
        · exact h.ky x (by simp [hx])
        · rw [List.mem_singleton.1 hx]; exact htk
      · rcases List.mem_append.1 hx with hx | hx
        · obtain ⟨b, hb, e⟩ := h.fr x (by simp [hx])
          exact ⟨b, by simp [hb], e⟩
        · rw [List.mem_singleton.1 hx]; exact ⟨b0, by simp [hb0], e0⟩
      · have := h.le; simp at this ⊢; omega
      · rw [covd_app, covd_app (M := [c]), ← h.cov, covd_app, or_assoc]
        refine or_congr Iff.rfl ?_
        rw [covd_one, covd_one, covd_one]
        obtain ⟨g1, g2, g3⟩ := hks
        simp only
        constructor
        · rintro ⟨a1, a2, a3, a4, a5⟩
          by_cases hd : d ≤ t.til
          · exact .inl ⟨a1, a2, a3, a4, hd⟩
          · exact .inr ⟨g1.symm.trans a1, g2.symm.trans a2, g3.symm.trans a3, by omega, by omega⟩
        · rintro (⟨a1, a2, a3, a4, a5⟩ | ⟨a1, a2, a3, a4, a5⟩)
          · exact ⟨a1, a2, a3, by omega, by omega⟩
          · exact ⟨g1.trans a1, g2.trans a2, g3.trans a3, by omega, by omega⟩
    · rw [stepM_new hj]
      refine ⟨?_, fun x hx => ?_, fun x hx => ?_, fun x hx => ?_, ?_, fun i o e d => ?_⟩
      · rw [List.pairwise_append]
        refine ⟨h.ap, List.pairwise_singleton _ _, fun a ha b hb => ?_⟩
        rw [List.mem_singleton.1 hb]
        rcases List.mem_append.1 ha with ha | ha
        · have := hap.2.2 a ha t (by simp); omega
        · rw [List.mem_singleton.1 ha]; omega
      · rcases List.mem_append.1 hx with hx | hx
        · exact h.vl x hx
        · rw [List.mem_singleton.1 hx]; exact hc
      · rcases List.mem_append.1 hx with hx | hx
        · exact h.ky x hx
        · rw [List.mem_singleton.1 hx]; exact hk
      · rcases List.mem_append.1 hx with hx | hx
        · obtain ⟨b, hb, e⟩ := h.fr x hx
          exact ⟨b, by simp [hb], e⟩
        · rw [List.mem_singleton.1 hx]; exact ⟨c, by simp, rfl⟩
      · have := h.le; simp at this ⊢; omega
      · rw [covd_app, covd_app (M := [c]), ← h.cov]
/-- In order, equals in any order. -/
def SoC (S : List Cl) : Prop := S.Pairwise fun a b => lessC b a = false
theorem mrg_mi (k : Int × Int × Int) : ∀ (n : Nat) (S : List Cl), S.length = n → SoC S → (∀ c ∈ S, clE c = 0 ∧ kyOf c = k) → MI k S (mrg S)
  | 0, S, h, _, _ => by
    rw [List.eq_nil_of_length_eq_zero h]
    exact ⟨.nil, fun _ h => (by cases h), fun _ h => (by cases h), fun _ h => (by cases h), Nat.le_refl _, fun _ _ _ _ => Iff.rfl⟩
  | n + 1, S, h, hs, hv => by
    rcases List.eq_nil_or_concat S with rfl | ⟨m, c, rfl⟩
    · simp at h
    · rw [List.concat_eq_append] at *
      have hs' := List.pairwise_append.1 hs
      rw [mrg_snoc]
      refine (mrg_mi k n m (by simpa using h) hs'.1 fun x hx => hv x (by simp [hx])).step (hv c (by simp)).1 (hv c (by simp)).2 fun b hb => ?_
      have h1 := lessC_not (hs'.2.2 b hb c (by simp))
      obtain ⟨g1, g2, g3⟩ := kyOf_iff.1 ((hv b (by simp [hb])).2.trans (hv c (by simp)).2.symm)
      omega
theorem partK_mi {S : List Cl} (hs : SoC S) (hv : ∀ c ∈ S, clE c = 0) (k : Int × Int × Int) : MI k (partK S k) (mrg (partK S k)) :=
  mrg_mi k _ _ rfl (List.Pairwise.sublist List.filter_sublist hs) fun c hc => by
    have := List.mem_filter.1 hc
    exact ⟨hv c this.1, by simpa using this.2⟩
/-- The spans of all keys, one behind the other. -/
def spans (S : List Cl) (ks : List (Int × Int × Int)) : List Cl := ks.flatMap fun k => mrg (partK S k)
theorem spans_snoc (S : List Cl) (ks : List (Int × Int × Int)) (k : Int × Int × Int) : spans S (ks ++ [k]) = spans S ks ++ mrg (partK S k) := by simp [spans]
theorem spans_vl {S : List Cl} (hs : SoC S) (hv : ∀ c ∈ S, clE c = 0) (ks : List (Int × Int × Int)) : ∀ c ∈ spans S ks, clE c = 0 := fun c hc => by
  obtain ⟨k, _, hk⟩ := List.mem_flatMap.1 hc
  exact (partK_mi hs hv k).vl c hk
theorem spans_cov {S : List Cl} (hs : SoC S) (hv : ∀ c ∈ S, clE c = 0) {ks : List (Int × Int × Int)} (hk : ∀ c ∈ S, kyOf c ∈ ks) (i o e d : Int) : covd (spans S ks) i o e d ↔ covd S i o e d := by
  constructor
  · rintro ⟨c, hc, r⟩
    obtain ⟨k, _, hk⟩ := List.mem_flatMap.1 hc
    obtain ⟨b, hb, r2⟩ := ((partK_mi hs hv k).cov i o e d).1 ⟨c, hk, r⟩
    exact ⟨b, (List.mem_filter.1 hb).1, r2⟩
  · rintro ⟨c, hc, r⟩
    obtain ⟨b, hb, r2⟩ := ((partK_mi hs hv (kyOf c)).cov i o e d).2 ⟨c, List.mem_filter.2 ⟨hc, by simp⟩, r⟩
    exact ⟨b, List.mem_flatMap.2 ⟨_, hk c hc, hb⟩, r2⟩
theorem spans_ap {S : List Cl} (hs : SoC S) (hv : ∀ c ∈ S, clE c = 0) : ∀ {ks : List (Int × Int × Int)}, ks.Nodup → (spans S ks).Pairwise apartC
  | [], _ => .nil
  | k :: ks, h => by
    have h' := List.nodup_cons.1 h
    show (mrg (partK S k) ++ spans S ks).Pairwise apartC
    rw [List.pairwise_append]
    have hm := partK_mi hs hv k
    refine ⟨hm.ap.imp fun h => .inr (.inl h), spans_ap hs hv h'.2, fun a ha b hb => .inl fun hk => ?_⟩
    obtain ⟨k2, hk2, hb2⟩ := List.mem_flatMap.1 hb
    have e1 := hm.ky a ha
    have e2 := (partK_mi hs hv k2).ky b hb2
    have := kyOf_iff.2 hk
    rw [e1, e2] at this
    exact h'.1 (this ▸ hk2)
theorem nf_of {L : List Cl} (h1 : L.Pairwise apartC) (h2 : SoC L) (h3 : ∀ c ∈ L, clE c = 0) : Nf L := by
  refine ⟨?_, h1, fun c hc => by have := clE_iff.1 (h3 c hc); omega⟩
  rw [List.pairwise_iff_getElem] at *
  intro i j hi hj hij
  have a1 := h1 i j hi hj hij
  have a2 := lessC_not (List.pairwise_iff_getElem.1 h2 i j hi hj hij)
  have v1 := clE_iff.1 (h3 _ (List.getElem_mem hi))
  have v2 := clE_iff.1 (h3 _ (List.getElem_mem hj))
  rw [lessC_iff]
  unfold apartC sameK at a1
  omega
/-- What the program answers is the normal form. -/
theorem spans_nf {l S L : List Cl} (hl : ∀ c ∈ l, clE c = 0) (hp : S.Perm l) (hs : SoC S) {ks : List (Int × Int × Int)} (hn : ks.Nodup) (hk : ∀ c ∈ S, kyOf c ∈ ks) (hL : L.Perm (spans S ks)) (hL2 : SoC L) : L = NF l := by
  have hv : ∀ c ∈ S, clE c = 0 := fun c hc => hl c (hp.mem_iff.1 hc)
  refine NF_eq hl (nf_of ?_ hL2 fun c hc => spans_vl hs hv ks c (hL.mem_iff.1 hc)) fun i o e d => ?_
  · exact (hL.pairwise_iff fun h => apartC.symm h).2 (spans_ap hs hv hn)
  · rw [covd_perm (fun c => hL.mem_iff), spans_cov hs hv hk, covd_perm fun c => hp.mem_iff]
theorem fm_congr {α β : Type} {f g : α → List β} : ∀ {l : List α}, (∀ x ∈ l, f x = g x) → l.flatMap f = l.flatMap g
  | [], _ => rfl
  | x :: l, h => by rw [List.flatMap_cons, List.flatMap_cons, h x (by simp), fm_congr fun y hy => h y (by simp [hy])]
theorem spans_len : ∀ {ks : List (Int × Int × Int)} {S : List Cl}, SoC S → (∀ c ∈ S, clE c = 0) → ks.Nodup → (spans S ks).length ≤ S.length
  | [], _, _, _, _ => Nat.zero_le _
  | k :: ks, S, hs, hv, h => by
    have h' := List.nodup_cons.1 h
    have hm := (partK_mi hs hv k).le
    have key : (spans S ks) = spans (S.filter fun c => !decide (kyOf c = k)) ks := by
      unfold spans
      refine fm_congr fun k2 hk2 => ?_
      congr 1
      unfold partK
      rw [List.filter_filter]
      refine List.filter_congr fun c _ => ?_
      by_cases e : kyOf c = k2
      · have : kyOf c ≠ k := fun e2 => h'.1 (e2 ▸ e ▸ hk2)
        simp [e]
        intro e3
        exact this (e.trans e3)
      · simp [e]
    have ih := spans_len (S := S.filter fun c => !decide (kyOf c = k)) (List.Pairwise.sublist List.filter_sublist hs) (fun c hc => hv c (List.mem_filter.1 hc).1) h'.2
    have hcount : (partK S k).length + (S.filter fun c => !decide (kyOf c = k)).length = S.length := by
      unfold partK
      clear hm key ih hs hv
      induction S with
      | nil => rfl
      | cons x S ih =>
        by_cases e : kyOf x = k
        · simp [e]; omega
        · simp [e]; omega
    show (mrg (partK S k) ++ spans S ks).length ≤ _
    rw [List.length_append, key]
    omega
end Go.Proofs.Ytgeciimakjfnfaa

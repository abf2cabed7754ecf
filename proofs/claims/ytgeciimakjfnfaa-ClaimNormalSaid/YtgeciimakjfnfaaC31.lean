import Derived.Test.YtgeciimakjfnfaaC30
namespace Go.Proofs.Ytgeciimakjfnfaa
open Go.RowKit Go.Maps

theorem say_cov {l : List Cl} {o k d : Int} : (actL l d).any (pSay o k) = true ↔ ∃ e, covd l k o e d := by
  unfold actL
  rw [List.any_eq_true]
  constructor
  · rintro ⟨c, hc, hp⟩
    obtain ⟨h1, h2⟩ := List.mem_filter.1 hc
    have h3 : c.office = o ∧ c.kind = k := by simpa [pSay] using hp
    have h4 : c.fr ≤ d ∧ d ≤ c.til := by simpa [inB] using h2
    exact ⟨c.dec, c, h1, h3.2, h3.1, rfl, h4.1, h4.2⟩
  · rintro ⟨e, c, h1, h2, h3, _, h5, h6⟩
    exact ⟨c, List.mem_filter.2 ⟨h1, inB_true ⟨h5, h6⟩⟩, pSay_yes h3 h2⟩
theorem ctl_cov {l : List Cl} {d : Int} : (actL l d).any pCtl = true ↔ ∃ o e, covd l 2 o e d := by
  unfold actL
  rw [List.any_eq_true]
  constructor
  · rintro ⟨c, hc, hp⟩
    obtain ⟨h1, h2⟩ := List.mem_filter.1 hc
    have h3 : c.kind = 2 := by simpa [pCtl] using hp
    have h4 : c.fr ≤ d ∧ d ≤ c.til := by simpa [inB] using h2
    exact ⟨c.office, c.dec, c, h1, h3, rfl, rfl, h4.1, h4.2⟩
  · rintro ⟨o, e, c, h1, h2, _, _, h5, h6⟩
    exact ⟨c, List.mem_filter.2 ⟨h1, inB_true ⟨h5, h6⟩⟩, by simp [pCtl, h2]⟩
theorem bool_iff {a b : Bool} (h : a = true ↔ b = true) : a = b := by
  cases a <;> cases b <;> simp_all
theorem says_cov {l m : List Cl} {d : Int} (h : ∀ k o e, covd l k o e d ↔ covd m k o e d) (o : Int) : saysL o (actL l d) = saysL o (actL m d) := by
  have h1 : ∀ k, (actL l d).any (pSay o k) = (actL m d).any (pSay o k) := fun k => bool_iff (say_cov.trans ((exists_congr fun e => h k o e).trans say_cov.symm))
  unfold saysL
  rw [h1 1, h1 0]
theorem firstS_cov {L M : List Cl} (h : ∀ o, saysL o L = saysL o M) : ∀ os, firstS L os = firstS M os
  | [] => rfl
  | o :: os => by rw [firstS, firstS, h o, firstS_cov h os]
theorem shown_cov {l m : List Cl} {k d : Int} {os : List Int} (h : ∀ k o e, covd l k o e d ↔ covd m k o e d) : shownD k os l d = shownD k os m d := by
  unfold shownD shownL
  by_cases hk : k = 2
  · rw [if_pos hk, if_pos hk]
    exact bool_iff (ctl_cov.trans ((exists_congr fun o => exists_congr fun e => h 2 o e).trans ctl_cov.symm))
  · rw [if_neg hk, if_neg hk]
    exact firstS_cov (says_cov h) os
theorem nrm_zero {l : List Cl} (h : nrmE l = 0) : allE l = 0 ∧ (NF l).length ≤ 64 ∧ nrmR l = NF l := by
  have h1 : allE l = 0 := by
    rcases allE_01 l with h1 | h1
    · exact h1
    · have := (nrmE_bad h1).1; omega
  have h2 : (NF l).length ≤ 64 := Classical.byContradiction fun h2 => by have := (nrmE_many h1 h2).1; omega
  exact ⟨h1, h2, (nrmE_ok h1 h2).2⟩
theorem nrm_turned {l : List Cl} (h : nrmE l = 0) : nrmE (l.reverse ++ l) = 0 ∧ nrmR (l.reverse ++ l) = nrmR l := by
  obtain ⟨h1, h2, h3⟩ := nrm_zero h
  have hm : ∀ c, c ∈ l.reverse ++ l ↔ c ∈ l := fun c => by simp
  have e := NF_twice (m := l.reverse ++ l) (allE_iff.1 h1) hm
  have a := allE_iff.2 fun c hc => allE_iff.1 h1 c ((hm c).1 hc)
  have r := nrmE_ok a (by rw [e]; exact h2)
  exact ⟨r.1, by rw [r.2, e, h3]⟩
theorem nrm_again {l : List Cl} (h : nrmE l = 0) : nrmE (nrmR l) = 0 ∧ nrmR (nrmR l) = nrmR l := by
  obtain ⟨h1, h2, h3⟩ := nrm_zero h
  have v := allE_iff.1 h1
  have e := NF_idem v
  have r := nrmE_ok (allE_iff.2 (NF_nv l v).vl) (by rw [e]; exact h2)
  rw [h3]
  exact ⟨r.1, by rw [r.2, e]⟩
theorem nrm_shows {l : List Cl} {k d : Int} {os : List Int} (h : nrmE l = 0) (hv : vwE k os = 0) (hd : inB d 0 73048 = true) : shwE k os l d = 0 ∧ shwE k os (nrmR l) d = 0 ∧ shwR k os (nrmR l) d = shwR k os l d := by
  obtain ⟨h1, h2, h3⟩ := nrm_zero h
  have v := allE_iff.1 h1
  have c1 : ckE k os l = 0 := by rw [ckE, if_pos hv, h1]
  have c2 : ckE k os (NF l) = 0 := by rw [ckE, if_pos hv]; exact allE_iff.2 (NF_nv l v).vl
  obtain ⟨a1, a2⟩ := shw_ok c1 hd
  obtain ⟨b1, b2⟩ := shw_ok c2 hd
  rw [h3]
  exact ⟨a1, b1, by rw [a2, b2]; exact shown_cov fun k o e => (NF_nv l v).cov k o e d⟩
end Go.Proofs.Ytgeciimakjfnfaa

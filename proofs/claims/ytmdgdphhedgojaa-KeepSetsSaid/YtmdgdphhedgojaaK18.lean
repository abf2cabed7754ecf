import Derived.Test.YtmdgdphhedgojaaK17
namespace Go.Proofs.Ytmdgdphhedgojaa
open Go.RowKit Go.Maps

/-- What the groups of a part say of the groups of all. -/
structure POK (of Fl gl : List Int) : Prop where
  len : gl.length = Fl.length + 1
  at_ : ∀ i, i < Fl.length → 0 < Fl.getD i 0 ∧ Fl.getD i 0 < of.length ∧ ∃ j, j ≤ i ∧ Fl.getD j 0 = of.getD (Fl.getD i 0).toNat 0
  same : ∀ i j, i < Fl.length → j < Fl.length → (gl.getD (i + 1) 0 = gl.getD (j + 1) 0 ↔ of.getD (Fl.getD i 0).toNat 0 = of.getD (Fl.getD j 0).toNat 0)

theorem shut_part {ws : List Int} {ns : List (Int × Int × Int)} (hE : EOK ws.length ns) (r : Nat) : Shut (inP (comp ns ws.length) r) ws.length ns := by
  refine ⟨rfl, hE, fun t ht h0 => ?_⟩
  have hC := comp_all hE
  have he := hE t ht
  have h1 : (t.1.toNat != 0) = true := by simp; omega
  have h2 : (t.2.1.toNat != 0) = true := by simp; omega
  unfold inP
  rw [hC.e t ht h0, h1, h2]
theorem partsD_at {ws : List Int} {ns : List (Int × Int × Int)} {k : Nat} {Fl Wl : List Int} {Nl : List (Int × Int × Int)} (h : (partsD ws ns)[k]? = some (Fl, Wl, Nl)) :
    ∃ r, (rts (comp ns ws.length) ws.length)[k]? = some r ∧ Fl = (fcs (inP (comp ns ws.length) r) ws.length).map (fun f : Nat => (f : Int)) ∧ Wl = inW ws (inP (comp ns ws.length) r) ws.length ∧ Nl = inN ns (inP (comp ns ws.length) r) := by
  rw [partsD, partsO, List.getElem?_map] at h
  cases hr : (rts (comp ns ws.length) ws.length)[k]? with
  | none => rw [hr] at h; cases h
  | some r =>
    rw [hr] at h
    have h := Option.some.inj h
    injection h with h1 h2
    injection h2 with h2 h3
    exact ⟨r, rfl, h1.symm, h2.symm, h3.symm⟩
theorem fl_at {p : Nat → Bool} {n i : Nat} (hi : i < ((fcs p n).map fun f : Nat => (f : Int)).length) : ∃ f, f < n ∧ p f = true ∧ ((fcs p n).map fun f : Nat => (f : Int)).getD i 0 = (f : Int) ∧ loc p f = i + 1 := by
  rw [List.length_map] at hi
  have hx : (fcs p n)[i]? = some (fcs p n)[i] := List.getElem?_eq_getElem hi
  obtain ⟨h1, h2, h3⟩ := fcs_get n hx
  exact ⟨_, h1, h2, by simp [List.getD, hx], by rw [loc, h3]⟩
theorem fl_of {p : Nat → Bool} {n f : Nat} (hf : f < n) (hp : p f = true) : loc p f - 1 < ((fcs p n).map fun f : Nat => (f : Int)).length ∧ ((fcs p n).map fun f : Nat => (f : Int)).getD (loc p f - 1) 0 = (f : Int) := by
  have h := fcs_at hp n hf
  have hl := (List.getElem?_eq_some_iff.1 h).1
  rw [loc, Nat.add_sub_cancel]
  exact ⟨by rw [List.length_map]; exact hl, by simp [List.getD, h]⟩
theorem pok_part {ws ls : List Int} {ns : List (Int × Int × Int)} {k s : Nat} {Fl Wl : List Int} {Nl : List (Int × Int × Int)} (hE : EOK ws.length ns) (h : (partsD ws ns)[k]? = some (Fl, Wl, Nl)) : POK (ofAt ws ns ls s) Fl (ix (ofAt Wl Nl ls s)) := by
  obtain ⟨r, hr, rfl, rfl, rfl⟩ := partsD_at h
  have hn : 0 < ws.length := by
    have := (mem_rts.1 (List.mem_of_getElem? hr)).1
    omega
  have hL := ofAt_part (ls := ls) (shut_part hE r) hn s
  have hS := shut_part hE r
  generalize hp : inP (comp ns ws.length) r = p at *
  clear hp
  have hql := (ofAt_cn (inW ws p ws.length) (inN ns p) ls s).2
  generalize ofAt (inW ws p ws.length) (inN ns p) ls s = q at *
  generalize ofAt ws ns ls s = of at *
  rw [inW_len] at hql
  refine ⟨by rw [ix_len, hql, List.length_map], fun i hi => ?_, fun i j hi hj => ?_⟩
  · obtain ⟨f, hf, hpf, hfi, hloc⟩ := fl_at hi
    rw [hfi, Int.toNat_natCast]
    obtain ⟨g, hg, hpg, e1, _⟩ := hL.i f hf hpf
    obtain ⟨r', r1, r2, _⟩ := hL.oc f (by rw [hL.ol]; exact hf)
    have hgf : g ≤ f := by omega
    have h0 := hS.ne hpf
    obtain ⟨l1, l2⟩ := fl_of hg hpg
    refine ⟨by omega, by rw [hL.ol]; omega, loc p g - 1, ?_, by rw [l2, e1]⟩
    have := (loc_le hpg hpf).2 hgf
    omega
  · obtain ⟨f, hf, hpf, hfi, hloc⟩ := fl_at hi
    obtain ⟨f', hf', hpf', hfi', hloc'⟩ := fl_at hj
    rw [hfi, hfi', Int.toNat_natCast, Int.toNat_natCast]
    rw [ix_same (by rw [hql]; rw [List.length_map] at hi; omega) (by rw [hql]; rw [List.length_map] at hj; omega), ← hloc, ← hloc']
    obtain ⟨g, hg, hpg, e1, e2⟩ := hL.i f hf hpf
    obtain ⟨g', hg', hpg', e1', e2'⟩ := hL.i f' hf' hpf'
    rw [e1, e1', e2, e2']
    have := loc_inj hpg hpg'
    omega
/-- Each face but 0 lies in a part. -/
theorem part_of {ws : List Int} {ns : List (Int × Int × Int)} (hE : EOK ws.length ns) {f : Nat} (hf : f < ws.length) (h0 : f ≠ 0) : ∃ (k : Nat) (d : List Int × List Int × List (Int × Int × Int)), (partsD ws ns)[k]? = some d ∧ (f : Int) ∈ d.1 := by
  have hC := comp_all hE
  obtain ⟨r, h1, h2, h3⟩ := hC.cn f (by rw [hC.len]; exact hf)
  have hr0 : r ≠ 0 := fun e => h0 (hC.al f (by rw [hC.len]; exact hf) (by rw [h1, e]; rfl))
  have hm : r ∈ rts (comp ns ws.length) ws.length := mem_rts.2 ⟨by omega, hr0, h3⟩
  obtain ⟨k, hk, e⟩ := List.getElem_of_mem hm
  have hkr : (rts (comp ns ws.length) ws.length)[k]? = some r := by rw [List.getElem?_eq_getElem hk, e]
  have hd : (partsD ws ns)[k]? = some ((fcs (inP (comp ns ws.length) r) ws.length).map (fun f : Nat => (f : Int)), inW ws (inP (comp ns ws.length) r) ws.length, inN ns (inP (comp ns ws.length) r)) := by
    rw [partsD, partsO, List.getElem?_map, hkr]
    rfl
  refine ⟨k, _, hd, ?_⟩
  refine List.mem_map.2 ⟨f, ?_, rfl⟩
  unfold fcs
  rw [List.mem_filter]
  exact ⟨by simpa using hf, inP_at h1 h0⟩

/-- The list of least faces under way: parts ahead of k, and i faces of part k. -/
structure LI (of : List Int) (ds : List (List Int × List Int × List (Int × Int × Int))) (k i : Nat) (l : List Int) : Prop where
  len : l.length = of.length
  z : l.getD 0 0 = 0
  a : ∀ j d, j < k → ds[j]? = some d → ∀ x ∈ d.1, l.getD x.toNat 0 = of.getD x.toNat 0
  b : ∀ d, ds[k]? = some d → ∀ j, j < i → j < d.1.length → l.getD (d.1.getD j 0).toNat 0 = of.getD (d.1.getD j 0).toNat 0
/-- The first faces under way. -/
structure FI (of Fl gl : List Int) (i : Nat) (f : Int → Option Int) : Prop where
  a : ∀ j, j < i → j < Fl.length → f (gl.getD (j + 1) 0) = some (of.getD (Fl.getD j 0).toNat 0)
  b : ∀ x, f x ≠ none → ∃ j, j < i ∧ j < Fl.length ∧ gl.getD (j + 1) 0 = x
theorem FI.nil (of Fl gl : List Int) : FI of Fl gl 0 (fun _ => none) := ⟨fun j hj => by omega, fun x hx => (hx rfl).elim⟩
section
variable {of Fl gl : List Int} {i : Nat} {f : Int → Option Int}
theorem FI.old (h : FI of Fl gl i f) (hP : POK of Fl gl) (hi : i < Fl.length) (hs : (f (gl.getD (i + 1) 0)).isSome = true) : f (gl.getD (i + 1) 0) = some (of.getD (Fl.getD i 0).toNat 0) ∧ FI of Fl gl (i + 1) f := by
  have h1 : f (gl.getD (i + 1) 0) = some (of.getD (Fl.getD i 0).toNat 0) := by
    obtain ⟨j, hj, hjl, e⟩ := h.b _ (fun e => by rw [e] at hs; cases hs)
    rw [← (hP.same j i hjl hi).1 e, ← h.a j hj hjl, e]
  refine ⟨h1, fun j hj hjl => ?_, fun x hx => ?_⟩
  · by_cases e : j = i
    · subst e; exact h1
    · exact h.a j (by omega) hjl
  · obtain ⟨j, hj, hjl, e⟩ := h.b x hx
    exact ⟨j, by omega, hjl, e⟩
theorem FI.new (h : FI of Fl gl i f) (hP : POK of Fl gl) (hC : CN of) (hi : i < Fl.length) (hs : (f (gl.getD (i + 1) 0)).isSome = false) : of.getD (Fl.getD i 0).toNat 0 = Fl.getD i 0 ∧ FI of Fl gl (i + 1) (setF f (gl.getD (i + 1) 0) (Fl.getD i 0)) := by
  have h1 : of.getD (Fl.getD i 0).toNat 0 = Fl.getD i 0 := by
    obtain ⟨p1, p2, j, hj, e⟩ := hP.at_ i hi
    by_cases hji : j = i
    · subst hji; exact e.symm
    · exfalso
      obtain ⟨r, r1, r2, r3⟩ := hC (Fl.getD i 0).toNat (by omega)
      have h2 : of.getD (Fl.getD j 0).toNat 0 = of.getD (Fl.getD i 0).toNat 0 := by rw [e, r1, Int.toNat_natCast, r3]
      have h3 := (hP.same j i (by omega) hi).2 h2
      rw [← h3, h.a j (by omega) (by omega)] at hs
      cases hs
  refine ⟨h1, fun j hj hjl => ?_, fun x hx => ?_⟩
  · unfold setF
    by_cases e : j = i
    · subst e; rw [if_pos rfl, h1]
    · rw [if_neg (fun hc => ?_), h.a j (by omega) hjl]
      rw [← hc, h.a j (by omega) hjl] at hs
      cases hs
  · unfold setF at hx
    split at hx
    · rename_i e; exact ⟨i, by omega, hi, e.symm⟩
    · obtain ⟨j, hj, hjl, e⟩ := h.b x hx
      exact ⟨j, by omega, hjl, e⟩
end
section
variable {of : List Int} {ds : List (List Int × List Int × List (Int × Int × Int))} {k i : Nat} {l : List Int}
theorem LI.start {n : Nat} (h : of.length = n) : LI of ds 0 0 (List.replicate n 0) := ⟨by simp [h], by cases n <;> simp [List.replicate_succ], fun j d hj => by omega, fun d _ j hj => by omega⟩
theorem LI.put (h : LI of ds k i l) {d : List Int × List Int × List (Int × Int × Int)} (hd : ds[k]? = some d) (hi : i < d.1.length) (h0 : 0 < d.1.getD i 0 ∧ d.1.getD i 0 < of.length) : LI of ds k (i + 1) (l.set (d.1.getD i 0).toNat (of.getD (d.1.getD i 0).toNat 0)) := by
  have hl := h.len
  have key : ∀ x : Nat, (l.set (d.1.getD i 0).toNat (of.getD (d.1.getD i 0).toNat 0)).getD x 0 = if x = (d.1.getD i 0).toNat then of.getD (d.1.getD i 0).toNat 0 else l.getD x 0 := fun x => getD_set (by omega)
  refine ⟨by rw [List.length_set, hl], ?_, fun j e hj he x hx => ?_, fun e he j hj hjl => ?_⟩
  · rw [key, if_neg (by omega), h.z]
  · rw [key]
    split
    · rename_i e2; rw [← e2]
    · exact h.a j e hj he x hx
  · rw [hd] at he
    obtain rfl := Option.some.inj he
    rw [key]
    split
    · rename_i e2; rw [← e2]
    · rename_i e2
      by_cases e3 : j = i
      · subst e3; exact (e2 rfl).elim
      · exact h.b d hd j (by omega) hjl
theorem LI.next (h : LI of ds k i l) (hi : ∀ d, ds[k]? = some d → d.1.length ≤ i) : LI of ds (k + 1) 0 l := by
  refine ⟨h.len, h.z, fun j d hj hd x hx => ?_, fun d hd j hj => by omega⟩
  by_cases e : j = k
  · subst e
    obtain ⟨m, hm, rfl⟩ := List.getElem_of_mem hx
    have := h.b d hd m (by have := hi d hd; omega) hm
    rw [show d.1.getD m 0 = d.1[m] by simp [List.getD, hm]] at this
    exact this
  · exact h.a j d (by omega) hd x hx
end
theorem LI.all {ws ls : List Int} {ns : List (Int × Int × Int)} {s : Nat} {l : List Int} (hE : EOK ws.length ns) (h : LI (ofAt ws ns ls s) (partsD ws ns) (partsD ws ns).length 0 l) : l = ofAt ws ns ls s := by
  have hl := h.len
  have ho := (ofAt_cn ws ns ls s)
  refine List.ext_getElem hl fun f h1 h2 => ?_
  have e1 : l.getD f 0 = l[f] := by simp [List.getD, h1]
  have e2 : (ofAt ws ns ls s).getD f 0 = (ofAt ws ns ls s)[f] := by simp [List.getD, h2]
  rw [← e1, ← e2]
  by_cases h0 : f = 0
  · subst h0; rw [h.z, cn_zero' ho.1 h2]
  · obtain ⟨k, d, hd, hm⟩ := part_of (f := f) hE (by rw [← ho.2]; exact h2) h0
    have := h.a k d (List.getElem?_eq_some_iff.1 hd).1 hd f hm
    simpa using this
end Go.Proofs.Ytmdgdphhedgojaa

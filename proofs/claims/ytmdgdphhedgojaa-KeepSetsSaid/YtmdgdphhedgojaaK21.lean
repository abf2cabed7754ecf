import Derived.Test.YtmdgdphhedgojaaK18
namespace Go.Proofs.Ytmdgdphhedgojaa
open Go.RowKit Go.Maps

/-- Slices of part s with groups. -/
theorem elt_built : EltB Try.prog 68 76 (.agg #[.slice none 0 0, .slice none 0 0, .slice none 0 0, .slice none 0 0]) 4 96 := EltB.mk' Try.underlying68 (by kernel_rfl) (by decide) (by decide) rfl
/-- The parts with inputs that are not there yet. -/
def newsD (ds ds' : List (List Int × List Int × List (Int × Int × Int))) : List (List Int × List Int × List (Int × Int × Int)) := ds'.filter fun d => decide (d.2 ∉ ds.map fun e => e.2)
def incD (ds : List (List Int × List Int × List (Int × Int × Int))) : Int := (ds.map fun d => (d.1.length : Int)).sum
/-- The map of the parts that are there. -/
structure OM (w : World) (F : Nat → Prop) (ls : List Int) (ds : List (List Int × List Int × List (Int × Int × Int))) (k : Nat) (f : ByteArray → Option Value) : Prop where
  a : ∀ b v, f b = some v → ∃ j d G g, j < k ∧ ds[j]? = some d ∧ b = keyB d.2.1 d.2.2 ∧ v = .slice G ls.length g ∧ ∀ W, Kf F w W → SLL W G (PD ls d)
  b : ∀ j d, j < k → ds[j]? = some d → (f (keyB d.2.1 d.2.2)).isSome = true
theorem OM.nil (w : World) (F : Nat → Prop) (ls : List Int) (ds : List (List Int × List Int × List (Int × Int × Int))) : OM w F ls ds 0 (fun _ => none) := ⟨fun b v h => (by cases h), fun j d hj => by omega⟩
theorem OM.put {w : World} {F : Nat → Prop} {k : Nat} {ls : List Int} {ds : List (List Int × List Int × List (Int × Int × Int))} {f : ByteArray → Option Value} (h : OM w F ls ds k f) {d : List Int × List Int × List (Int × Int × Int)} (hd : ds[k]? = some d) {G : Option Addr} {g : Nat} (hG : ∀ W, Kf F w W → SLL W G (PD ls d)) :
    OM w F ls ds (k + 1) (setF f (keyB d.2.1 d.2.2) (.slice G ls.length g)) := by
  refine ⟨fun b v hb => ?_, fun j e hj he => ?_⟩
  · unfold setF at hb
    split at hb
    · rename_i e
      obtain rfl := Option.some.inj hb
      exact ⟨k, d, G, g, by omega, hd, e, rfl, hG⟩
    · obtain ⟨j, e, G', g', h1, h2⟩ := h.a b v hb
      exact ⟨j, e, G', g', by omega, h2⟩
  · unfold setF
    split
    · rfl
    · by_cases e2 : j = k
      · subst e2
        rw [hd] at he
        obtain rfl := Option.some.inj he
        rename_i hne
        exact (hne rfl).elim
      · exact h.b j e (by omega) he
/-- Bounds of an input. -/
def IB (d : List Int × List Int × List (Int × Int × Int)) : Prop := W64 d.2.1 ∧ W64t d.2.2 ∧ d.2.1.length ≤ 5000 ∧ d.2.2.length ≤ 16384 ∧ d.1.length ≤ 4096
theorem partsD_ib {ws : List Int} {ns : List (Int × Int × Int)} (hv : validE ws ns = 0) {k : Nat} {d : List Int × List Int × List (Int × Int × Int)} (h : (partsD ws ns)[k]? = some d) : IB d := by
  obtain ⟨Fl, Wl, Nl⟩ := d
  obtain ⟨r, _, rfl, rfl, rfl⟩ := partsD_at h
  obtain ⟨g1, g2, g3, g4⟩ := validE_good hv
  generalize inP (comp ns ws.length) r = p
  have hl := fcs_le p ws.length
  refine ⟨fun z hz => ?_, fun t ht => ?_, ?_, ?_, ?_⟩
  · rcases List.mem_cons.1 hz with rfl | hz
    · omega
    · obtain ⟨f, _, rfl⟩ := List.mem_map.1 hz
      by_cases hf : f < ws.length
      · have := g3 _ (List.getElem_mem hf)
        simp only [List.getD, List.getElem?_eq_getElem hf, Option.getD_some]
        omega
      · simp only [List.getD, List.getElem?_eq_none (show ws.length ≤ f by omega), Option.getD_none]
        omega
  · obtain ⟨u, hu, rfl⟩ := List.mem_map.1 ht
    have hu2 := g4 u (List.mem_filter.1 hu).1
    have hlu : ∀ f, f ≤ 4096 → loc p f ≤ 5000 := fun f hf => by have := fcs_le p f; unfold loc; omega
    have h1 := hlu u.1.toNat (by omega)
    have h2 := hlu u.2.1.toNat (by omega)
    intro z hz
    simp only [reN, List.mem_cons, List.not_mem_nil, or_false] at hz
    rcases hz with rfl | rfl | rfl <;> omega
  · show (inW ws p ws.length).length ≤ 5000
    rw [inW_len]; omega
  · show (inN ns p).length ≤ 16384
    rw [inN, List.length_map]
    have := List.length_filter_le (fun t => p t.1.toNat) ns
    omega
  · show (List.map _ _).length ≤ 4096
    rw [List.length_map]; omega
theorem key_eq {d e : List Int × List Int × List (Int × Int × Int)} (hd : IB d) (he : IB e) (h : keyB d.2.1 d.2.2 = keyB e.2.1 e.2.2) : d.2 = e.2 := by
  obtain ⟨h1, h2⟩ := keyD_inj hd.1 he.1 hd.2.1 he.2.1 (by have := hd.2.2.1; omega) (by have := he.2.2.1; omega) (by have := hd.2.2.2.1; omega) (by have := he.2.2.2.1; omega) (keyB_inj h)
  exact Prod.ext h1 h2
theorem key_size {d : List Int × List Int × List (Int × Int × Int)} (h : IB d) : (keyB d.2.1 d.2.2).size ≤ maxLen := by
  obtain ⟨h1, h2, h3, h4, _⟩ := h
  have e : (keyB d.2.1 d.2.2).size = (keyD d.2.1 d.2.2).length := by
    show (keyB d.2.1 d.2.2).data.size = _
    rw [← Array.length_toList]
    unfold keyB
    rw [strOfNums_data, List.length_map, List.length_map]
  rw [e]
  unfold keyD
  have a1 := vb_ten (n := d.2.1.length) (by omega)
  have a2 := vbs_len _ h1
  have a3 := vb_ten (zz_lt (n := d.2.2.length) (by omega))
  have a4 := triB_len _ h2
  simp only [List.length_append]
  unfold maxLen
  omega
/-- A part is there, or its input is new. -/
theorem OM.found {w : World} {F : Nat → Prop} {ls : List Int} {ds : List (List Int × List Int × List (Int × Int × Int))} {f : ByteArray → Option Value} (h : OM w F ls ds ds.length f) (hI : ∀ (j : Nat) e, ds[j]? = some e → IB e) {d : List Int × List Int × List (Int × Int × Int)} (hd : IB d) :
    (∃ v G g, f (keyB d.2.1 d.2.2) = some v ∧ v = .slice G ls.length g ∧ (∀ W, Kf F w W → SLL W G (PD ls d)) ∧ d.2 ∈ ds.map fun e => e.2) ∨ (f (keyB d.2.1 d.2.2) = none ∧ d.2 ∉ ds.map fun e => e.2) := by
  cases hf : f (keyB d.2.1 d.2.2) with
  | some v =>
    obtain ⟨j, e, G, g, hj, he, hk, hv, hs⟩ := h.a _ _ hf
    have h2 := key_eq hd (hI j e he) hk
    refine .inl ⟨v, G, g, rfl, hv, ?_, ?_⟩
    · unfold PD at hs ⊢
      rw [h2]; exact hs
    · rw [h2]; exact List.mem_map.2 ⟨e, List.mem_of_getElem? he, rfl⟩
  | none =>
    refine .inr ⟨rfl, fun hm => ?_⟩
    obtain ⟨e, he, e2⟩ := List.mem_map.1 hm
    obtain ⟨j, hj, rfl⟩ := List.getElem_of_mem he
    have h3 := h.b j _ hj (List.getElem?_eq_getElem hj)
    rw [e2, hf] at h3
    cases h3
theorem newsD_snoc (ds l : List (List Int × List Int × List (Int × Int × Int))) (d : List Int × List Int × List (Int × Int × Int)) : newsD ds (l ++ [d]) = newsD ds l ++ if d.2 ∈ ds.map (fun e => e.2) then [] else [d] := by
  unfold newsD
  rw [List.filter_append]
  congr 1
  by_cases h : d.2 ∈ ds.map fun e => e.2
  · rw [if_pos h]; simp [h]
  · rw [if_neg h]; simp [h]
theorem incD_snoc (l : List (List Int × List Int × List (Int × Int × Int))) (d : List Int × List Int × List (Int × Int × Int)) : incD (l ++ [d]) = incD l + d.1.length := by simp [incD]

/-- A border ahead of another. -/
def lexT (t u : Int × Int × Int) : Prop := t.1 < u.1 ∨ t.1 = u.1 ∧ t.2.1 < u.2.1
/-- A valid graph. -/
structure GV (ws : List Int) (ns : List (Int × Int × Int)) : Prop where
  n1 : ws.length ≤ 4096
  n2 : ns.length ≤ 16384
  w : ∀ z ∈ ws, 0 ≤ z ∧ z ≤ 1099511627776
  t : ∀ u ∈ ns, 0 ≤ u.1 ∧ u.1 < u.2.1 ∧ u.2.1 < ws.length ∧ 1 ≤ u.2.2 ∧ u.2.2 ≤ 1099511627776
  s : ns.Pairwise lexT
theorem pairwise_of_sorted {ns : List (Int × Int × Int)} (h : sortedT ns) : ns.Pairwise lexT := by
  rw [List.pairwise_iff_getElem]
  intro i j hi hj hij
  induction j with
  | zero => omega
  | succ j ih =>
    have hs := h (j + 1) (by omega) hj
    simp only [Nat.add_sub_cancel, List.getD, List.getElem?_eq_getElem hj, List.getElem?_eq_getElem (show j < ns.length by omega), Option.getD_some] at hs
    by_cases e : i = j
    · subst e; exact hs
    · have := ih (by omega) (by omega)
      unfold lexT at this ⊢
      omega
theorem sorted_of_pairwise {ns : List (Int × Int × Int)} (h : ns.Pairwise lexT) : sortedT ns := fun i h0 hi => by
  rw [List.pairwise_iff_getElem] at h
  have := h (i - 1) i (by omega) hi (by omega)
  simp only [List.getD, List.getElem?_eq_getElem hi, List.getElem?_eq_getElem (show i - 1 < ns.length by omega), Option.getD_some]
  exact this
theorem validE_sorted {ws : List Int} {ns : List (Int × Int × Int)} (h : validE ws ns = 0) : sortedT ns := by
  unfold validE at h
  split at h
  · cases h
  · split at h
    · cases h
    · split at h
      · cases h
      · rename_i h3
        intro i h0 hi
        have : badAt ws.length ns i = false := by
          cases hb : badAt ws.length ns i
          · rfl
          · exact (h3 (List.any_eq_true.2 ⟨i, by simpa using hi, hb⟩)).elim
        simp only [badAt, decide_eq_false_iff_not] at this
        omega
theorem GV.of {ws : List Int} {ns : List (Int × Int × Int)} (h : validE ws ns = 0) : GV ws ns := by
  obtain ⟨g1, g2, g3, g4⟩ := validE_good h
  have hE := validE_eok h
  exact ⟨g1, g2, fun z hz => by have := g3 z hz; omega, fun u hu => by have h1 := g4 u hu; have h2 := hE u hu; omega, pairwise_of_sorted (validE_sorted h)⟩
theorem GV.ok {ws : List Int} {ns : List (Int × Int × Int)} (h : GV ws ns) : validE ws ns = 0 := by
  have n1 := h.n1
  have n2 := h.n2
  have hs' := sorted_of_pairwise h.s
  refine validE_ok (by omega) ?_ fun k hk => ?_
  · rw [List.any_eq_false]
    intro z hz
    have := h.w z hz
    simp [badW]
    omega
  · have ht := h.t ns[k] (List.getElem_mem hk)
    have e : ns.getD k (0, 0, 0) = ns[k] := by simp [List.getD, hk]
    have hs := hs' k
    simp only [badAt, decide_eq_false_iff_not]
    rw [e] at hs ⊢
    intro hc
    by_cases h0 : 0 < k
    · have := hs h0 hk
      omega
    · omega
theorem fcs_lt {p : Nat → Bool} (h0 : p 0 = false) : ∀ n, 0 < n → (fcs p n).length + 1 ≤ n
  | 0, h => by omega
  | 1, _ => by
    rw [fcs_succ, h0]
    exact Nat.le_refl _
  | n + 2, _ => by
    rw [fcs_len_succ]
    have := fcs_lt h0 (n + 1) (by omega)
    split <;> omega
/-- The input of a part is valid. -/
theorem GV.part {ws : List Int} {ns : List (Int × Int × Int)} (h : GV ws ns) {p : Nat → Bool} (hS : Shut p ws.length ns) (hn : 0 < ws.length) : GV (inW ws p ws.length) (inN ns p) := by
  have n1 := h.n1
  have n2 := h.n2
  have hl := fcs_lt hS.z ws.length hn
  have hin : ∀ u ∈ ns.filter (fun t => p t.1.toNat), u ∈ ns ∧ p u.1.toNat = true ∧ p u.2.1.toNat = true := fun u hu => by
    obtain ⟨h1, h2⟩ := List.mem_filter.1 hu
    have h3 : u.1 ≠ 0 := fun e => by
      rw [e] at h2
      have := hS.z
      simp at h2
      rw [this] at h2
      cases h2
    exact ⟨h1, h2, by rw [← hS.c u h1 h3]; exact h2⟩
  refine ⟨by rw [inW_len]; omega, ?_, fun z hz => ?_, fun u hu => ?_, ?_⟩
  · rw [inN, List.length_map]
    have := List.length_filter_le (fun t => p t.1.toNat) ns
    omega
  · rcases List.mem_cons.1 hz with rfl | hz
    · omega
    · obtain ⟨f, _, rfl⟩ := List.mem_map.1 hz
      by_cases hf : f < ws.length
      · have := h.w _ (List.getElem_mem hf)
        simp only [List.getD, List.getElem?_eq_getElem hf, Option.getD_some]
        exact this
      · simp only [List.getD, List.getElem?_eq_none (show ws.length ≤ f by omega), Option.getD_none]
        omega
  · obtain ⟨t, ht, rfl⟩ := List.mem_map.1 hu
    obtain ⟨t1, t2, t3⟩ := hin t ht
    have ht2 := h.t t t1
    have h1 := loc_lt (p := p) (f := t.1.toNat) (g := t.2.1.toNat) t2 (by omega)
    have h2 := loc_top (p := p) (f := t.2.1.toNat) (n := ws.length) t3 (by omega)
    rw [inW_len]
    simp only [reN]
    omega
  · unfold inN
    rw [List.pairwise_map]
    refine (h.s.filter _).imp_of_mem fun {a b} ha hb hab => ?_
    obtain ⟨a1, a2, a3⟩ := hin a ha
    obtain ⟨b1, b2, b3⟩ := hin b hb
    have ha2 := h.t a a1
    have hb2 := h.t b b1
    unfold lexT at hab ⊢
    simp only [reN]
    rcases hab with hab | ⟨e, hab⟩
    · left
      have := loc_lt (p := p) (f := a.1.toNat) (g := b.1.toNat) a2 (by omega)
      omega
    · right
      have := loc_lt (p := p) (f := a.2.1.toNat) (g := b.2.1.toNat) a3 (by omega)
      rw [e]
      omega
theorem partsD_valid {ws : List Int} {ns : List (Int × Int × Int)} (hv : validE ws ns = 0) {k : Nat} {d : List Int × List Int × List (Int × Int × Int)} (h : (partsD ws ns)[k]? = some d) : validE d.2.1 d.2.2 = 0 := by
  obtain ⟨Fl, Wl, Nl⟩ := d
  obtain ⟨r, hr, rfl, rfl, rfl⟩ := partsD_at h
  have hn : 0 < ws.length := by
    have := (mem_rts.1 (List.mem_of_getElem? hr)).1
    omega
  exact ((GV.of hv).part (shut_part (validE_eok hv) r) hn).ok
end Go.Proofs.Ytmdgdphhedgojaa

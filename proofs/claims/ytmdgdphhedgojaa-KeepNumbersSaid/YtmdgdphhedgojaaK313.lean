import Derived.Test.YtmdgdphhedgojaaK28
import Derived.Deep.DeepCutAuto
namespace Go.Proofs.Ytmdgdphhedgojaa
open Go.RowKit Go.Maps

/-- The number of a face behind a face put in. -/
def sN (f g : Nat) : Nat := if g < f then g else g + 1
def sI (f : Nat) (z : Int) : Int := if z < f then z else z + 1
def putW (ws : List Int) (f : Nat) (x : Int) : List Int := ws.take f ++ x :: ws.drop f
def shT (f : Nat) (t : Int × Int × Int) : Int × Int × Int := (sI f t.1, sI f t.2.1, t.2.2)
def putN (ns : List (Int × Int × Int)) (f : Nat) : List (Int × Int × Int) := ns.map (shT f)
theorem sI_nat (f g : Nat) : sI f (g : Int) = (sN f g : Nat) := by unfold sI sN; split <;> split <;> omega
theorem sI_inj {f : Nat} {a b : Int} : sI f a = sI f b ↔ a = b := by unfold sI; split <;> split <;> omega
theorem sI_lt {f : Nat} {a b : Int} : sI f a < sI f b ↔ a < b := by unfold sI; split <;> split <;> omega
theorem sI_ne (f : Nat) (a : Int) : sI f a ≠ f := by unfold sI; split <;> omega
theorem sI_zero {f : Nat} (hf : 1 ≤ f) {a : Int} : sI f a = 0 ↔ a = 0 := by unfold sI; split <;> omega
theorem sN_toNat {f : Nat} {z : Int} (h : 0 ≤ z) : (sI f z).toNat = sN f z.toNat := by unfold sI sN; split <;> split <;> omega
theorem sN_ne (f g : Nat) : sN f g ≠ f := by unfold sN; split <;> omega
theorem sN_le (f g : Nat) : sN f g ≤ g + 1 := by unfold sN; split <;> omega
theorem putW_len {ws : List Int} {f : Nat} (x : Int) (hf : f ≤ ws.length) : (putW ws f x).length = ws.length + 1 := by simp [putW]; omega
theorem putW_at {ws : List Int} {f g : Nat} (x : Int) (hf : f ≤ ws.length) : (putW ws f x).getD (sN f g) 0 = ws.getD g 0 := by
  unfold putW sN
  rw [List.getD, List.getD]
  split
  · rw [List.getElem?_append_left (by simp; omega), List.getElem?_take_of_lt (by omega)]
  · rw [List.getElem?_append_right (by simp; omega), List.length_take, Nat.min_eq_left hf, show g + 1 - f = (g - f) + 1 by omega, List.getElem?_cons_succ, List.getElem?_drop, show f + (g - f) = g by omega]
theorem putW_self {ws : List Int} {f : Nat} (x : Int) (hf : f ≤ ws.length) : (putW ws f x).getD f 0 = x := by
  unfold putW
  rw [List.getD, List.getElem?_append_right (by rw [List.length_take]; omega), List.length_take, Nat.min_eq_left hf, Nat.sub_self]
  rfl

/-- The groups behind a face put in. -/
structure Ren (f n : Nat) (of of' : List Int) : Prop where
  l : of.length = n
  l' : of'.length = n + 1
  a : ∀ g, g < n → of'.getD (sN f g) 0 = sI f (of.getD g 0)
  b : of'.getD f 0 = f
theorem alone_at' {n g : Nat} (h : g < n) : (alone n).getD g 0 = (g : Int) := by simp [alone, List.getD, h]
theorem Ren.alone {f n : Nat} (hf : f ≤ n) : Ren f n (alone n) (alone (n + 1)) := ⟨alone_len n, alone_len _, fun g hg => by
  have := sN_le f g
  rw [alone_at' hg, alone_at' (by omega), sI_nat], alone_at' (by omega)⟩
theorem Ren.join {f n : Nat} {of of' : List Int} (h : Ren f n of of') (hf : 1 ≤ f) (hfn : f ≤ n) {t : Int × Int × Int} (ht : 0 ≤ t.1 ∧ t.1 < t.2.1 ∧ t.2.1 < n) : Ren f n (joined of t) (joined of' (shT f t)) := by
  obtain ⟨t1, t2, t3⟩ := ht
  refine ⟨by rw [joined_len]; exact h.l, by rw [joined_len]; exact h.l', ?_, ?_⟩
  · intro g hg
    unfold joined
    by_cases h0 : t.1 = 0
    · rw [if_pos h0, if_pos (by rw [shT, (sI_zero hf)]; exact h0)]
      exact h.a g hg
    · rw [if_neg h0, if_neg (by rw [shT, (sI_zero hf)]; omega)]
      have := sN_le f g
      have e1 : of'.getD (shT f t).1.toNat 0 = sI f (of.getD t.1.toNat 0) := by rw [shT, sN_toNat t1]; exact h.a _ (by omega)
      have e2 : of'.getD (shT f t).2.1.toNat 0 = sI f (of.getD t.2.1.toNat 0) := by rw [shT, sN_toNat (by omega)]; exact h.a _ (by omega)
      rw [e1, e2, getD_merged _ _ _ (by rw [h.l']; omega), getD_merged _ _ _ (by rw [h.l]; exact hg), h.a g hg]
      generalize of.getD t.1.toNat 0 = a
      generalize of.getD t.2.1.toNat 0 = b
      generalize of.getD g 0 = x
      simp only [Bool.or_eq_true, beq_iff_eq, sI_inj, sI_lt]
      split
      · split <;> rfl
      · rfl
  · unfold joined
    by_cases h0 : t.1 = 0
    · rw [if_pos (by rw [shT, (sI_zero hf)]; exact h0)]
      exact h.b
    · rw [if_neg (by rw [shT, (sI_zero hf)]; omega)]
      have e1 : of'.getD (shT f t).1.toNat 0 = sI f (of.getD t.1.toNat 0) := by rw [shT, sN_toNat t1]; exact h.a _ (by omega)
      have e2 : of'.getD (shT f t).2.1.toNat 0 = sI f (of.getD t.2.1.toNat 0) := by rw [shT, sN_toNat (by omega)]; exact h.a _ (by omega)
      rw [e1, e2, getD_merged _ _ _ (by rw [h.l']; omega), h.b, if_neg]
      simp only [Bool.or_eq_true, beq_iff_eq]
      rintro (e | e)
      · exact sI_ne f _ e.symm
      · exact sI_ne f _ e.symm
theorem Ren.fold {f n : Nat} (hf : 1 ≤ f) (hfn : f ≤ n) : ∀ (ns : List (Int × Int × Int)) (of of' : List Int), Ren f n of of' → (∀ t ∈ ns, 0 ≤ t.1 ∧ t.1 < t.2.1 ∧ t.2.1 < n) → Ren f n (ns.foldl joined of) ((putN ns f).foldl joined of')
  | [], _, _, h, _ => h
  | t :: ns, _, _, h, ht => Ren.fold hf hfn ns _ _ (h.join hf hfn (ht t (List.mem_cons_self ..))) fun u hu => ht u (List.mem_cons_of_mem _ hu)
theorem Ren.comp {f n : Nat} {ns : List (Int × Int × Int)} (hf : 1 ≤ f) (hfn : f ≤ n) (ht : ∀ t ∈ ns, 0 ≤ t.1 ∧ t.1 < t.2.1 ∧ t.2.1 < n) : Ren f n (comp ns n) (comp (putN ns f) (n + 1)) := Ren.fold hf hfn ns _ _ (Ren.alone hfn) ht

theorem fcs_put {f : Nat} {p p' : Nat → Bool} (hpf : p' f = false) : ∀ n, (∀ g, g < n → p' (sN f g) = p g) → (n ≤ f → fcs p' n = (fcs p n).map (sN f)) ∧ (f ≤ n → fcs p' (n + 1) = (fcs p n).map (sN f))
  | 0, _ => ⟨fun _ => rfl, fun h => by
    obtain rfl : f = 0 := by omega
    rw [fcs_succ, hpf]; rfl⟩
  | n + 1, h => by
    obtain ⟨h1, h2⟩ := fcs_put hpf n fun g hg => h g (by omega)
    have hn := h n (by omega)
    constructor
    · intro hl
      have e : sN f n = n := by unfold sN; rw [if_pos (by omega)]
      rw [e] at hn
      rw [fcs_succ, fcs_succ, List.map_append, h1 (by omega), hn]
      cases p n <;> simp [e]
    · intro hl
      by_cases e0 : f = n + 1
      · subst e0
        have e : sN (n + 1) n = n := by unfold sN; rw [if_pos (by omega)]
        rw [e] at hn
        rw [fcs_succ, hpf, fcs_succ, fcs_succ, List.map_append, h1 (by omega), hn]
        cases p n <;> simp [e]
      · have e : sN f n = n + 1 := by unfold sN; rw [if_neg (by omega)]
        rw [e] at hn
        rw [fcs_succ p' (n + 1), fcs_succ p n, List.map_append, h2 (by omega), hn]
        cases p n <;> simp [e]
theorem loc_put {f n g : Nat} {p p' : Nat → Bool} (hpf : p' f = false) (hp : ∀ g, g < n → p' (sN f g) = p g) (hg : g < n) : loc p' (sN f g) = loc p g := by
  obtain ⟨h1, h2⟩ := fcs_put hpf g fun k hk => hp k (by omega)
  unfold loc
  by_cases e : g < f
  · rw [show sN f g = g by unfold sN; rw [if_pos e], h1 (by omega), List.length_map]
  · rw [show sN f g = g + 1 by unfold sN; rw [if_neg e], h2 (by omega), List.length_map]
theorem inW_put {ws : List Int} {f : Nat} {x : Int} {p p' : Nat → Bool} (hf : f ≤ ws.length) (hpf : p' f = false) (hp : ∀ g, g < ws.length → p' (sN f g) = p g) : inW (putW ws f x) p' (ws.length + 1) = inW ws p ws.length := by
  unfold inW
  rw [(fcs_put hpf ws.length hp).2 hf, List.map_map]
  congr 1
  refine List.map_congr_left fun g _ => ?_
  exact putW_at x hf
theorem inN_put {f n : Nat} {p p' : Nat → Bool} (hpf : p' f = false) (hp : ∀ g, g < n → p' (sN f g) = p g) : ∀ (ns : List (Int × Int × Int)), (∀ t ∈ ns, 0 ≤ t.1 ∧ t.1 < t.2.1 ∧ t.2.1 < n) → inN (putN ns f) p' = inN ns p
  | [], _ => rfl
  | t :: ns, ht => by
    have ih := inN_put hpf hp ns fun u hu => ht u (List.mem_cons_of_mem _ hu)
    obtain ⟨t1, t2, t3⟩ := ht t (List.mem_cons_self ..)
    unfold inN putN at ih ⊢
    have e1 : (shT f t).1.toNat = sN f t.1.toNat := sN_toNat t1
    have e2 : (shT f t).2.1.toNat = sN f t.2.1.toNat := sN_toNat (by omega)
    rw [List.map_cons, List.filter_cons, List.filter_cons, e1, hp _ (by omega)]
    have er : reN p' (shT f t) = reN p t := by
      unfold reN
      rw [e1, e2, loc_put hpf hp (by omega), loc_put hpf hp (by omega)]
      rfl
    by_cases hq : p t.1.toNat = true
    · rw [if_pos hq, if_pos hq, List.map_cons, List.map_cons, ih, er]
    · rw [if_neg hq, if_neg hq, ih]
theorem range_put (f : Nat) : ∀ k, (List.range (f + k + 1)).Perm (f :: (List.range (f + k)).map (sN f))
  | 0 => by
    show (List.range (f + 1)).Perm (f :: (List.range f).map (sN f))
    rw [List.range_succ]
    have e : (List.range f).map (sN f) = List.range f := by
      conv => rhs; rw [← List.map_id (List.range f)]
      refine List.map_congr_left fun g hg => ?_
      have := List.mem_range.1 hg
      unfold sN
      rw [if_pos this]; rfl
    rw [e]
    exact List.perm_append_singleton _ _
  | k + 1 => by
    have h := (range_put f k).append_right [f + k + 1]
    rw [← List.range_succ (n := f + k + 1)] at h
    have e : sN f (f + k) = f + k + 1 := by unfold sN; rw [if_neg (by omega)]
    show (List.range (f + k + 1 + 1)).Perm (f :: (List.range (f + k + 1)).map (sN f))
    rw [List.range_succ (n := f + k), List.map_append]
    simp only [List.map_cons, List.map_nil, e]
    exact h
theorem Ren.inP {f n : Nat} {of of' : List Int} (h : Ren f n of of') (hf : 1 ≤ f) (r g : Nat) (hg : g < n) : inP of' (sN f r) (sN f g) = inP of r g := by
  unfold Go.Proofs.Ytmdgdphhedgojaa.inP
  rw [h.a g hg]
  have e1 : (sI f (of.getD g 0) == ((sN f r : Nat) : Int)) = (of.getD g 0 == (r : Int)) := by
    rw [← sI_nat, Bool.eq_iff_iff, beq_iff_eq, beq_iff_eq, sI_inj]
  have e2 : (sN f g != 0) = (g != 0) := by
    rw [Bool.eq_iff_iff, bne_iff_ne, bne_iff_ne]
    unfold sN
    split <;> omega
  rw [e1, e2]
theorem Ren.inP_f {f n : Nat} {of of' : List Int} (h : Ren f n of of') (r : Nat) : Go.Proofs.Ytmdgdphhedgojaa.inP of' (sN f r) f = false := by
  unfold Go.Proofs.Ytmdgdphhedgojaa.inP
  rw [h.b]
  have := sN_ne f r
  have e : ((f : Int) == ((sN f r : Nat) : Int)) = false := beq_eq_false_iff_ne.2 (by omega)
  rw [e, Bool.and_false]
theorem Ren.rts {f n : Nat} {of of' : List Int} (h : Ren f n of of') (hf : 1 ≤ f) (hfn : f ≤ n) : (rts of' (n + 1)).Perm (f :: (Go.Proofs.Ytmdgdphhedgojaa.rts of n).map (sN f)) := by
  obtain ⟨k, rfl⟩ : ∃ k, n = f + k := ⟨n - f, by omega⟩
  have h1 := (range_put f k).filter (fun r => r != 0 && of'.getD r 0 == (r : Int))
  unfold Go.Proofs.Ytmdgdphhedgojaa.rts
  refine h1.trans (List.Perm.of_eq ?_)
  rw [List.filter_cons, if_pos (by rw [h.b]; simp; omega), List.filter_map]
  congr 2
  refine List.filter_congr fun g hg => ?_
  have hg := List.mem_range.1 hg
  exact h.inP hf g g hg
theorem Ren.own {f n : Nat} {of of' : List Int} (h : Ren f n of of') (hf : 1 ≤ f) (hfn : f ≤ n) : fcs (Go.Proofs.Ytmdgdphhedgojaa.inP of' f) (n + 1) = [f] := by
  have hp : ∀ g, g < n → Go.Proofs.Ytmdgdphhedgojaa.inP of' f (sN f g) = false := fun g hg => by
    unfold Go.Proofs.Ytmdgdphhedgojaa.inP
    rw [h.a g hg, beq_eq_false_iff_ne.2 (sI_ne f _), Bool.and_false]
  have hf' : Go.Proofs.Ytmdgdphhedgojaa.inP of' f f = true := by
    unfold Go.Proofs.Ytmdgdphhedgojaa.inP
    rw [h.b]
    simp
    omega
  obtain ⟨k, rfl⟩ : ∃ k, n = f + k := ⟨n - f, by omega⟩
  have h1 := (range_put f k).filter (Go.Proofs.Ytmdgdphhedgojaa.inP of' f)
  rw [List.filter_cons, if_pos hf', List.filter_map, show (List.range (f + k)).filter (Go.Proofs.Ytmdgdphhedgojaa.inP of' f ∘ sN f) = [] from List.filter_eq_nil_iff.2 fun g hg => by simp [hp g (List.mem_range.1 hg)]] at h1
  exact List.perm_singleton.1 h1
theorem put_parts {ws : List Int} {ns : List (Int × Int × Int)} {f : Nat} (x : Int) (hf : 1 ≤ f) (hfn : f ≤ ws.length) (ht : ∀ t ∈ ns, 0 ≤ t.1 ∧ t.1 < t.2.1 ∧ t.2.1 < ws.length) :
    ((partsD (putW ws f x) (putN ns f)).map fun d => d.2).Perm (([0, x], []) :: (partsD ws ns).map fun d => d.2) := by
  have h := Ren.comp hf hfn ht
  unfold partsD partsO
  rw [putW_len x hfn]
  generalize comp ns ws.length = of at *
  generalize comp (putN ns f) (ws.length + 1) = of' at *
  rw [List.map_map, List.map_map]
  refine ((h.rts hf hfn).map _).trans (List.Perm.of_eq ?_)
  rw [List.map_cons, List.map_map]
  congr 1
  · refine Prod.ext ?_ ?_
    · show inW _ _ _ = _
      rw [inW, h.own hf hfn]
      show [0, (putW ws f x).getD f 0] = _
      rw [putW_self x hfn]
    · show inN _ _ = _
      unfold inN putN
      rw [List.filter_eq_nil_iff.2]
      · rfl
      · intro u hu
        obtain ⟨t, htm, rfl⟩ := List.mem_map.1 hu
        obtain ⟨t1, t2, t3⟩ := ht t htm
        have e : (shT f t).1.toNat = sN f t.1.toNat := sN_toNat t1
        have hp : Go.Proofs.Ytmdgdphhedgojaa.inP of' f (sN f t.1.toNat) = false := by
          unfold Go.Proofs.Ytmdgdphhedgojaa.inP
          rw [h.a _ (by omega), beq_eq_false_iff_ne.2 (sI_ne f _), Bool.and_false]
        rw [e, hp]
        simp
  · refine List.map_congr_left fun r _ => ?_
    refine Prod.ext ?_ ?_
    · exact inW_put hfn (h.inP_f r) fun g hg => h.inP hf r g hg
    · exact inN_put (h.inP_f r) (fun g hg => h.inP hf r g hg) ns ht
end Go.Proofs.Ytmdgdphhedgojaa

namespace Go.Proofs.Ytmdgdphhedgojaa
open Go.RowKit Go.Maps

theorem GV.put {ws : List Int} {ns : List (Int × Int × Int)} (h : GV ws ns) {f : Nat} {x : Int} (hfn : f ≤ ws.length) (hl : ws.length + 1 ≤ 4096) (hx : 0 ≤ x ∧ x ≤ 1099511627776) : GV (putW ws f x) (putN ns f) := by
  refine ⟨by rw [putW_len x hfn]; exact hl, by rw [putN, List.length_map]; exact h.n2, fun z hz => ?_, fun u hu => ?_, ?_⟩
  · unfold putW at hz
    rcases List.mem_append.1 hz with hz | hz
    · exact h.w z (List.mem_of_mem_take hz)
    · rcases List.mem_cons.1 hz with rfl | hz
      · exact hx
      · exact h.w z (List.mem_of_mem_drop hz)
  · obtain ⟨t, ht, rfl⟩ := List.mem_map.1 hu
    obtain ⟨h1, h2, h3, h4⟩ := h.t t ht
    rw [putW_len x hfn]
    refine ⟨?_, sI_lt.2 h2, ?_, h4⟩
    · unfold shT sI; dsimp only; split <;> omega
    · unfold shT sI; dsimp only; split <;> omega
  · rw [putN, List.pairwise_map]
    refine h.s.imp fun {a b} hab => ?_
    unfold lexT shT at *
    dsimp only
    rw [sI_lt, sI_inj, sI_lt]
    exact hab
theorem partsD_len1 {ws : List Int} {ns : List (Int × Int × Int)} : ∀ d ∈ partsD ws ns, d.2.1.length = d.1.length + 1 := fun d hd => by
  unfold partsD partsO at hd
  obtain ⟨r, _, rfl⟩ := List.mem_map.1 hd
  simp [inW]
/-- What is new among the inputs: at most k, each of one face; none is lost. -/
structure NI (E E' : List (List Int × List (Int × Int × Int))) (k : Nat) : Prop where
  c : (E'.filter fun e => decide (e ∉ E)).length ≤ k
  s : ∀ e ∈ E', e ∉ E → e.1.length = 2
  b : ∀ e ∈ E, e ∈ E'
theorem NI.refl (E : List (List Int × List (Int × Int × Int))) : NI E E 0 := ⟨by
  rw [List.filter_eq_nil_iff.2 (fun e he => by simp [he])]
  exact Nat.le_refl _, fun e he hn => absurd he hn, fun _ h => h⟩
theorem NI.step {E E' E'' : List (List Int × List (Int × Int × Int))} {k : Nat} (h : NI E E' k) {x : Int} (hp : E''.Perm (([0, x], []) :: E')) : NI E E'' (k + 1) := by
  refine ⟨?_, fun e he hn => ?_, fun e he => hp.mem_iff.2 (List.mem_cons_of_mem _ (h.b e he))⟩
  · rw [(hp.filter _).length_eq, List.filter_cons]
    have := h.c
    split
    · rw [List.length_cons]; omega
    · omega
  · rcases List.mem_cons.1 (hp.mem_iff.1 he) with rfl | he
    · rfl
    · exact h.s e he hn
theorem NI.news {ds ds' : List (List Int × List Int × List (Int × Int × Int))} {k : Nat} (h : NI (ds.map fun d => d.2) (ds'.map fun d => d.2) k) (hs : ∀ d ∈ ds', d.2.1.length = d.1.length + 1) :
    (newsD ds ds').length ≤ k ∧ incD (newsD ds ds') = (newsD ds ds').length ∧ newsD ds' ds = [] := by
  refine ⟨?_, ?_, ?_⟩
  · have hc := h.c
    rw [List.filter_map, List.length_map] at hc
    exact hc
  · have h1 : ∀ d ∈ newsD ds ds', d.1.length = 1 := fun d hd => by
      obtain ⟨hm, hn⟩ := List.mem_filter.1 hd
      have h2 := h.s d.2 (List.mem_map.2 ⟨d, hm, rfl⟩) (of_decide_eq_true hn)
      have h3 := hs d hm
      omega
    generalize newsD ds ds' = L at h1
    unfold incD
    induction L with
    | nil => rfl
    | cons d L ih =>
      rw [List.map_cons, List.sum_cons, ih fun u hu => h1 u (List.mem_cons_of_mem _ hu), h1 d (List.mem_cons_self ..), List.length_cons]
      omega
  · unfold newsD
    rw [List.filter_eq_nil_iff]
    intro d hd
    have := h.b d.2 (List.mem_map.2 ⟨d, hd, rfl⟩)
    simpa using this
end Go.Proofs.Ytmdgdphhedgojaa

namespace Go.Proofs.Ytmdgdphhedgojaa
open Go.RowKit Go.Maps

/-- The weights so far, ahead of the round of face k and behind its first half. -/
def pW (ws : List Int) (f : Nat) (x : Int) (k : Nat) : List Int := if k ≤ f then ws.take k else putW (ws.take k) f x
def qW (ws : List Int) (f : Nat) (x : Int) (k : Nat) : List Int := if k < f then ws.take k else putW (ws.take k) f x
theorem qW_ne {ws : List Int} {f k : Nat} {x : Int} (h : k ≠ f) : qW ws f x k = pW ws f x k := by
  unfold qW pW
  by_cases h1 : k < f
  · rw [if_pos h1, if_pos (by omega)]
  · rw [if_neg h1, if_neg (by omega)]
theorem qW_eq {ws : List Int} {f : Nat} {x : Int} (h : f ≤ ws.length) : qW ws f x f = pW ws f x f ++ [x] := by
  unfold qW pW
  rw [if_neg (by omega), if_pos (Nat.le_refl _)]
  unfold putW
  rw [List.take_take, Nat.min_self, List.drop_eq_nil_of_le (by rw [List.length_take]; omega)]
theorem pW_succ {ws : List Int} {f k : Nat} {x y : Int} (h : ws[k]? = some y) : pW ws f x (k + 1) = qW ws f x k ++ [y] := by
  have hk := (List.getElem?_eq_some_iff.1 h).1
  unfold qW pW
  by_cases h1 : k < f
  · rw [if_pos h1, if_pos (by omega), take_snoc' h]
  · rw [if_neg h1, if_neg (by omega), take_snoc' h]
    unfold putW
    rw [List.take_append_of_le_length (by rw [List.length_take]; omega), List.drop_append_of_le_length (by rw [List.length_take]; omega), List.append_assoc, List.cons_append]
theorem pW_all {ws : List Int} {f : Nat} {x : Int} (h : f < ws.length) : pW ws f x ws.length = putW ws f x := by
  unfold pW
  rw [if_neg (by omega), List.take_length]
theorem pW_len {ws : List Int} {f k : Nat} {x : Int} (h : k ≤ ws.length) : (pW ws f x k).length ≤ k + 1 := by
  unfold pW putW
  split <;> simp <;> omega
theorem qW_len {ws : List Int} {f k : Nat} {x : Int} (h : k ≤ ws.length) : (qW ws f x k).length ≤ k + 1 := by
  unfold qW putW
  split <;> simp <;> omega
/-- What the region of the weights reads. -/
def S7 (o g : Nat) (v u : Value) (bA oA : Nat) (y : Int) (W : World) : Prop := W.cell? ⟨o, 0, none⟩ = some v ∧ W.cell? ⟨g, 0, none⟩ = some u ∧ W.cell? ⟨bA, oA, none⟩ = some (.int .i64 y)

set_option linter.unusedSimpArgs false in
set_option maxHeartbeats 8000000 in
set_option maxRecDepth 100000 in
theorem put_any (A B : Option Addr) (a b f : Nat) (x : Int) (ws : List Int) (ns : List (Int × Int × Int)) (w : World) (hA : SI w A ws) (hB : ST w B ns) (hf : 1 ≤ f) (hfn : f < ws.length) (hl : ws.length ≤ 4096) (hl2 : ns.length ≤ 16384) (ht : ∀ t ∈ ns, 0 ≤ t.1 ∧ t.1 < t.2.1 ∧ t.2.1 < ws.length) :
    Calls Try.prog 23 #[.agg #[.slice A ws.length a, .slice B ns.length b], .int .i64 f, .int .i64 x] w fun e w' => ∃ A' a' B' b', e = .returned (.agg #[.slice A' (putW ws f x).length a', .slice B' (putN ns f).length b']) ∧
      w'.ownsRow w.heap.size 3 1 (.slice A' (putW ws f x).length a') (putW ws f x).length ((putW ws f x).map (Value.int .i64)) ∧ w'.ownsRow w.heap.size 52 3 (.slice B' (putN ns f).length b') (putN ns f).length (triC (putN ns f)) ∧ Below w.heap.size w w' := by
  obtain ⟨S, hSz⟩ : ∃ S, w.heap.size = S := ⟨_, rfl⟩
  have HA := Lib.hid (fun (W : World) (hW : Below S w W) => (hA.below (hSz.symm ▸ hW) : SI W A ws))
  have HB := Lib.hid (fun (W : World) (hW : Below S w W) => (hB.below (hSz.symm ▸ hW) : ST W B ns))
  have Hbz := Lib.hid (fun (W : World) (hW : Below S w W) => (show S ≤ W.heap.size by have := hW.size; omega))
  have Ht := Lib.hid ht
  clear hA hB ht
  go_enter Try.func23, Try.ntmps23
  go_wp2_with fail
  have hb0 : Below S w (((w.alloc (.cells #[.slice A ws.length a, .slice B ns.length b] 30)).alloc (.cells #[.slice none 0 0, .slice none 0 0] 30)).alloc (.cells #[.slice none 0 0, .slice none 0 0] 30)) := hSz ▸ (((Below.refl _ _).alloc (Nat.le_refl _) _).alloc (by simp) _).alloc (by simp; omega) _
  have hbG : Bk (((w.alloc (.cells #[.slice A ws.length a, .slice B ns.length b] 30)).alloc (.cells #[.slice none 0 0, .slice none 0 0] 30)).alloc (.cells #[.slice none 0 0, .slice none 0 0] 30)) S 30 #[.slice A ws.length a, .slice B ns.length b] := ((Bk.new' _ _ _ hSz).alloc _).alloc _
  have hbR : Bk (((w.alloc (.cells #[.slice A ws.length a, .slice B ns.length b] 30)).alloc (.cells #[.slice none 0 0, .slice none 0 0] 30)).alloc (.cells #[.slice none 0 0, .slice none 0 0] 30)) (S + 1) 30 #[.slice none 0 0, .slice none 0 0] := (Bk.new' _ _ _ (by simp [hSz])).alloc _
  have hbO : Bk (((w.alloc (.cells #[.slice A ws.length a, .slice B ns.length b] 30)).alloc (.cells #[.slice none 0 0, .slice none 0 0] 30)).alloc (.cells #[.slice none 0 0, .slice none 0 0] 30)) (S + 1 + 1) 30 #[.slice none 0 0, .slice none 0 0] := Bk.new' _ _ _ (by simp [hSz])
  generalize ((w.alloc (.cells #[.slice A ws.length a, .slice B ns.length b] 30)).alloc (.cells #[.slice none 0 0, .slice none 0 0] 30)).alloc (.cells #[.slice none 0 0, .slice none 0 0] 30) = W0 at *
  have Hb0 := Lib.hid hb0
  have HG0 := Lib.hid hbG
  have HR0 := Lib.hid hbR
  have HO0 := Lib.hid hbO
  have HSz := Lib.hid hSz
  clear hb0 hbG hbR hbO hSz
  go_loopw [8] (fun i wr => ∃ (k : Nat) (v : Value), k ≤ ws.length ∧ i = .int .i64 k ∧ Bk wr (S + 1 + 1) 30 #[v, .slice none 0 0] ∧ wr.ownsRow S 3 1 v (pW ws f x k).length ((pW ws f x k).map (Value.int .i64)) ∧ Bk wr S 30 #[.slice A ws.length a, .slice B ns.length b] ∧ Bk wr (S + 1) 30 #[.slice none 0 0, .slice none 0 0] ∧ Below S w wr) (fun i _ => ws.length - (intOf i).toNat)
  case atStart => exact ⟨0, _, by omega, rfl, HO0.out, World.ownsRow_nil _ _ _ _, HG0.out, HR0.out, Hb0.out⟩
  case round =>
    clear HO0 HG0 HR0 Hb0
    obtain ⟨k, v, hk, rfl, hO, ho, hG, hR, hb⟩ := hrel
    have HO := Lib.hid hO
    have Ho := Lib.hid ho
    have HG := Lib.hid hG
    have HR := Lib.hid hR
    have Hb := Lib.hid hb
    clear hO ho hG hR hb
    have hg0 : wr.cell? ⟨S, 0, none⟩ = some (.slice A ws.length a) := HG.out.cell 0
    by_cases hlt : k < ws.length
    · have k0 : (0 : Int) ≤ (k : Int) := by omega
      have hpl := pW_len (ws := ws) (f := f) (x := x) (k := k) (by omega)
      go_upto_if 21 with fail
      go_cut [] (fun wx => ∃ v, Bk wx (S + 1 + 1) 30 #[v, .slice none 0 0] ∧ wx.ownsRow S 3 1 v (qW ws f x k).length ((qW ws f x k).map (Value.int .i64)) ∧ Bk wx S 30 #[.slice A ws.length a, .slice B ns.length b] ∧ Bk wx (S + 1) 30 #[.slice none 0 0, .slice none 0 0] ∧ Below S w wx)
      case first =>
        as_aux_lemma =>
        by_cases hkf : k = f
        · subst hkf
          have hc0 : wr.cell? ⟨S + 1 + 1, 0, none⟩ = some v := HO.out.cell 0
          have hz := Hbz.out _ Hb.out
          have hrow := HO.out.ne_own Ho.out (by decide)
          go_wp2_with (at_builtin; refine wpList_app2 (w := wr) rfl _ _ rfl elt_int Ho.out hz rfl rfl (by simp) rfl rfl (by omega) ?_; intro v3 w4 hown4 hg4 hz4; obtain ⟨A2, c2, rfl⟩ := own_slice hown4; have hg5 := HO.out.grown hg4 hrow; have hq0 : w4.cell? ⟨S + 1 + 1, 0, none⟩ = some v := hg5.cell 0; have hq3 := hg5.frozen 0; have Hg5 := Lib.hid hg5; clear hg5)
          go_meet
          have hr4 := (HR.out.grown hg4 (HR.out.ne_own Ho.out (by decide))).far (p := ⟨S + 1 + 1, 0, none⟩) (by show S + 1 ≠ S + 1 + 1; omega) (.slice A2 ((pW ws k x k).length + 1) c2)
          have hG4 := (HG.out.grown hg4 (HG.out.ne_own Ho.out (by decide))).far (p := ⟨S + 1 + 1, 0, none⟩) (by show S ≠ S + 1 + 1; omega) (.slice A2 ((pW ws k x k).length + 1) c2)
          have hb4 := (Hb.out.grown hg4 hz (fun q hq => (Ho.out.lt q hq).1)).setCell (p := ⟨S + 1 + 1, 0, none⟩) (by show S ≤ S + 1 + 1; omega) (.slice A2 ((pW ws k x k).length + 1) c2)
          have ho4 := own_set (i := 0) hown4 (Hg5.out.ne_own hown4 (by decide)) (.slice A2 ((pW ws k x k).length + 1) c2)
          exact ⟨.slice A2 ((pW ws k x k).length + 1) c2, Hg5.out.set_ 0 _, by rw [qW_eq (by omega), List.length_append, List.map_append]; exact ho4, hG4, hr4, hb4⟩
        · go_wp2_with fail
          go_meet
          exact ⟨v, HO.out, by rw [qW_ne hkf]; exact Ho.out, HG.out, HR.out, Hb.out⟩
      case rest =>
      obtain ⟨v, hO, ho, hG, hR, hb⟩ := hcut
      obtain ⟨W1, rfl⟩ : ∃ z, z = wc := ⟨wc, rfl⟩
      obtain ⟨bA, oA, y, rfl, hcy, hy⟩ := (HA.out _ hb).get (k := k) hlt
      have hqe := pW_succ (f := f) (x := x) hy.out
      have hql := qW_len (ws := ws) (f := f) (x := x) (k := k) (by omega)
      obtain ⟨Q, hQ⟩ : ∃ Q, Hid (qW ws f x k = Q) := ⟨_, Lib.hid rfl⟩
      rw [hQ.out] at ho hqe hql
      obtain ⟨AV, cV, hvV⟩ := own_slice ho
      subst hvV
      have Hqe := Lib.hid hqe
      have HO := Lib.hid hO
      have Ho := Lib.hid ho
      have HG := Lib.hid hG
      have HR := Lib.hid hR
      have Hb := Lib.hid hb
      have Hy := Lib.hid hy.out
      clear hO ho hG hR hb hqe hg0 hy
      have hz := Hbz.out _ Hb.out
      have hbW : S ≤ (W1.drew.alloc (.cells #[.int .i64 y] 3)).heap.size := by simp; exact Nat.le_trans hz (Nat.le_succ _)
      have Hwn := Lib.hid (fun (W : World) (hW : Below S w W) => show W.cell? ⟨bA, oA + k, none⟩ = some (.int .i64 y) from by
        obtain ⟨b3, o3, x3, e3, h3, h4⟩ := (HA.out W hW).get (k := k) hlt
        injection e3 with e3
        injection e3 with e31 e32
        subst e31 e32
        have e6 := Option.some.inj (h4.out.symm.trans Hy.out)
        rw [e6] at h3
        exact h3)
      have HS0 := Lib.hid (show S7 (S + 1 + 1) S (.slice AV Q.length cV) (.slice (some ⟨bA, oA, none⟩) ws.length a) bA (oA + k) y W1.drew from ⟨HO.out.cell 0, HG.out.cell 0, hcy⟩)
      have HOa := Lib.hid (show Bk (W1.drew.alloc (.cells #[.int .i64 y] 3)) (S + 1 + 1) _ _ from (show Bk W1.drew _ _ _ from HO.out).alloc _)
      have HGa := Lib.hid (show Bk (W1.drew.alloc (.cells #[.int .i64 y] 3)) S _ _ from (show Bk W1.drew _ _ _ from HG.out).alloc _)
      have HRa := Lib.hid (show Bk (W1.drew.alloc (.cells #[.int .i64 y] 3)) (S + 1) _ _ from (show Bk W1.drew _ _ _ from HR.out).alloc _)
      have Hba := Lib.hid (show Below S w (W1.drew.alloc (.cells #[.int .i64 y] 3)) from (Hb.out.drew).alloc hz _)
      have Hoa := Lib.hid (show (W1.drew.alloc (.cells #[.int .i64 y] 3)).ownsRow _ _ _ _ _ _ from (show W1.drew.ownsRow _ _ _ _ _ _ from Ho.out).alloc _)
      have Hnew := Lib.hid (Bk.new W1.drew 3 #[.int .i64 y])
      have HS1 := Lib.hid (show S7 (S + 1 + 1) S (.slice AV Q.length cV) (.slice (some ⟨bA, oA, none⟩) ws.length a) bA (oA + k) y (W1.drew.alloc (.cells #[.int .i64 y] 3)) from ⟨HOa.out.cell 0, HGa.out.cell 0, Hwn.out _ Hba.out⟩)
      clear hcy
      go_wp2_with fail
      refine wp_region_noPanic ?_
      refine region_T (s := 10) (S := S7 (S + 1 + 1) S (.slice AV Q.length cV) (.slice (some ⟨bA, oA, none⟩) ws.length a) bA (oA + k) y) (by kernel_rfl) ?_
      change wpT _ _ _ _ _ 11 _ _ W1.drew
      refine T_take (k := 0) (v := .pointer (some ⟨S + 1 + 1, 0, none⟩)) rfl (by decide +kernel) (fun _ _ _ h => h) (Or.inl ⟨by rfl, fun W hW => by obtain ⟨s0, s1, s2⟩ := hW; go_simp⟩) HS0.out ?_
      try simp only [Act.put, List.setIfInBounds_toArray, List.set_cons_zero, List.set_cons_succ]
      refine T_take (k := 1) (v := .slice AV Q.length cV) rfl (by decide +kernel) (fun _ _ _ h => h) (Or.inl ⟨by rfl, fun W hW => by obtain ⟨s0, s1, s2⟩ := hW; go_simp⟩) HS0.out ?_
      try simp only [Act.put, List.setIfInBounds_toArray, List.set_cons_zero, List.set_cons_succ]
      refine T_take (k := 2) (v := .pointer (some ⟨S, 0, none⟩)) rfl (by decide +kernel) (fun _ _ _ h => h) (Or.inl ⟨by rfl, fun W hW => by obtain ⟨s0, s1, s2⟩ := hW; go_simp⟩) HS0.out ?_
      try simp only [Act.put, List.setIfInBounds_toArray, List.set_cons_zero, List.set_cons_succ]
      refine T_take (k := 3) (v := .slice (some ⟨bA, oA, none⟩) ws.length a) rfl (by decide +kernel) (fun _ _ _ h => h) (Or.inl ⟨by rfl, fun W hW => by obtain ⟨s0, s1, s2⟩ := hW; go_simp⟩) HS0.out ?_
      try simp only [Act.put, List.setIfInBounds_toArray, List.set_cons_zero, List.set_cons_succ]
      refine T_take (k := 4) (v := .int .i64 k) rfl (by decide +kernel) (fun _ _ _ h => h) (Or.inl ⟨by rfl, fun W hW => by obtain ⟨s0, s1, s2⟩ := hW; go_simp⟩) HS0.out ?_
      try simp only [Act.put, List.setIfInBounds_toArray, List.set_cons_zero, List.set_cons_succ]
      refine T_take (k := 5) (v := .pointer (some ⟨bA, oA + k, none⟩)) rfl (by decide +kernel) (fun _ _ _ h => h) (Or.inl ⟨by rfl, fun W hW => by obtain ⟨s0, s1, s2⟩ := hW; go_simp⟩) HS0.out ?_
      try simp only [Act.put, List.setIfInBounds_toArray, List.set_cons_zero, List.set_cons_succ]
      refine T_take (k := 6) (v := .int .i64 y) rfl (by decide +kernel) (fun _ _ _ h => h) (Or.inl ⟨by rfl, fun W hW => by obtain ⟨s0, s1, s2⟩ := hW; go_simp⟩) HS0.out ?_
      try simp only [Act.put, List.setIfInBounds_toArray, List.set_cons_zero, List.set_cons_succ]
      refine T_one (i := 7) (by decide +kernel) rfl rfl (fun K hK7 => ?_)
      have hK7 := Lib.hid hK7
      go_simp
      refine hK7.out _ _ HS1.out ?_
      try simp only [Act.put, List.setIfInBounds_toArray, List.set_cons_zero, List.set_cons_succ]
      refine T_one (i := 8) (by decide +kernel) rfl rfl (fun K hK8 => ?_)
      have hK8 := Lib.hid hK8
      refine app_wp3 (us := [.int .i64 y]) (c := 1) (H := W1.heap.size) (v := .slice AV Q.length cV) (.tmp 29) (.tmp 35) rfl elt_int.big (by simp [Act.eval]) (by simp [Act.eval]) Hoa.out Hnew.out rfl rfl (by omega) hbW ?_
      intro v8 w8 hown8 hg8 hv8
      obtain ⟨A8, c8, rfl⟩ := own_slice hown8
      have HO8 := Lib.hid (HOa.out.grown hg8 (HOa.out.ne_own Hoa.out (by decide)))
      have HG8 := Lib.hid (HGa.out.grown hg8 (HGa.out.ne_own Hoa.out (by decide)))
      have HR8 := Lib.hid (HRa.out.grown hg8 (HRa.out.ne_own Hoa.out (by decide)))
      have Hb8 := Lib.hid (Hba.out.grown hg8 hbW (fun q hq => (Hoa.out.lt q hq).1))
      have d4 := HO8.out.frozen 0
      have d3 : w8.cell? ⟨S + 1 + 1, 0, none⟩ = some (.slice AV Q.length cV) := HO8.out.cell 0
      have HS2 := Lib.hid (show S7 (S + 1 + 1) S (.slice AV Q.length cV) (.slice (some ⟨bA, oA, none⟩) ws.length a) bA (oA + k) y w8 from ⟨HO8.out.cell 0, HG8.out.cell 0, Hwn.out _ Hb8.out⟩)
      refine hK8.out _ _ HS2.out ?_
      try simp only [Act.put, List.setIfInBounds_toArray, List.set_cons_zero, List.set_cons_succ]
      refine T_take (k := 9) (v := .pointer (some ⟨S + 1 + 1, 0, none⟩)) rfl (by decide +kernel) (fun _ _ _ h => h) (Or.inl ⟨by rfl, fun W hW => by obtain ⟨s0, s1, s2⟩ := hW; go_simp⟩) HS2.out ?_
      try simp only [Act.put, List.setIfInBounds_toArray, List.set_cons_zero, List.set_cons_succ]
      refine T_last (by decide +kernel) (by decide +kernel) (by decide +kernel) rfl rfl (fun K hKl => ?_)
      have hKl := Lib.hid hKl
      go_simp
      refine hKl.out _ _ (NoPanic.normal ?_)
      try simp only [Act.put, List.setIfInBounds_toArray, List.set_cons_zero, List.set_cons_succ]
      clear hK7 hK8 hKl HS0 HS1 HS2
      have HO9 := Lib.hid (HO8.out.set_ 0 (.slice A8 (Q.length + 1) c8))
      have HG9 := Lib.hid (HG8.out.far (p := ⟨S + 1 + 1, 0, none⟩) (by show S ≠ S + 1 + 1; omega) (.slice A8 (Q.length + 1) c8))
      have HR9 := Lib.hid (HR8.out.far (p := ⟨S + 1 + 1, 0, none⟩) (by show S + 1 ≠ S + 1 + 1; omega) (.slice A8 (Q.length + 1) c8))
      have Ho9 := Lib.hid (own_set (i := 0) hown8 (HO8.out.ne_own hown8 (by decide)) (.slice A8 (Q.length + 1) c8))
      have Hb9 := Lib.hid (Hb8.out.setCell (p := ⟨S + 1 + 1, 0, none⟩) (by show S ≤ S + 1 + 1; omega) (.slice A8 (Q.length + 1) c8))
      go_wp2_with fail
      go_roundw
      case rel => exact ⟨k + 1, _, by omega, by go_num, HO9.out, by rw [Hqe.out, List.length_append, List.map_append]; exact Ho9.out, HG9.out, HR9.out, Hb9.out⟩
      case measure => simp [intOf]; omega
    · obtain rfl : k = ws.length := by omega
      have ho := Ho.out
      rw [pW_all hfn] at ho
      obtain ⟨PW, hPW⟩ : ∃ Q, Hid (putW ws f x = Q) := ⟨_, Lib.hid rfl⟩
      rw [hPW.out] at ho
      obtain ⟨A1, a1, hvA⟩ := own_slice ho
      subst hvA
      have Ho := Lib.hid ho
      clear ho
      go_wp2_with fail
      clear hg0
      go_loopw [9] (fun i wr => ∃ (k : Nat) (v : Value), k ≤ ns.length ∧ i = .int .i64 k ∧ Bk wr (S + 1 + 1) 30 #[.slice A1 PW.length a1, v] ∧ wr.ownsRow S 3 1 (.slice A1 PW.length a1) PW.length (PW.map (Value.int .i64)) ∧ wr.ownsRow S 52 3 v k (triC (putN (ns.take k) f)) ∧
         Bk wr S 30 #[.slice A ws.length a, .slice B ns.length b] ∧ Bk wr (S + 1) 30 #[.slice none 0 0, .slice none 0 0] ∧ Below S w wr) (fun i _ => ns.length - (intOf i).toNat)
      case atStart => exact ⟨0, _, by omega, rfl, HO.out, Ho.out, World.ownsRow_nil _ _ _ _, HG.out, HR.out, Hb.out⟩
      case round =>
        clear HO Ho HG HR Hb
        obtain ⟨k, v, hk, rfl, hO, ho, hn, hG, hR, hb⟩ := hrel
        have HO := Lib.hid hO
        have Ho := Lib.hid ho
        have Hn := Lib.hid hn
        have HG := Lib.hid hG
        have HR := Lib.hid hR
        have Hb := Lib.hid hb
        clear hO ho hn hG hR hb
        have hg1 : wr.cell? ⟨S, 1, none⟩ = some (.slice B ns.length b) := HG.out.cell 1
        by_cases hlt : k < ns.length
        · obtain ⟨b1, o1, x1, y1, z1, rfl, e0, e1, e2, hxy⟩ := (HB.out _ Hb.out).get (k := k) hlt
          have hbd := Ht.out _ (List.mem_of_getElem? hxy.out)
          dsimp only at hbd
          have k0 : (0 : Int) ≤ (k : Int) := by omega
          go_upto_if 53 with fail
          have hz := Hbz.out _ Hb.out
          have hOl := HO.out.lt
          have HT := Lib.hid (Bk.new wr 52 #[.int .i64 x1, .int .i64 y1, .int .i64 z1])
          have HO := Lib.hid (HO.out.alloc (.cells #[.int .i64 x1, .int .i64 y1, .int .i64 z1] 52))
          have HG := Lib.hid (HG.out.alloc (.cells #[.int .i64 x1, .int .i64 y1, .int .i64 z1] 52))
          have HR := Lib.hid (HR.out.alloc (.cells #[.int .i64 x1, .int .i64 y1, .int .i64 z1] 52))
          have Hnl := Lib.hid (show ∀ g, v.ownBlock = some g → g < wr.heap.size from fun g hg => (Hn.out.lt g hg).2)
          have Hol := Lib.hid (show ∀ g, (Value.slice A1 PW.length a1).ownBlock = some g → g < wr.heap.size from fun g hg => (Ho.out.lt g hg).2)
          have Ho := Lib.hid (Ho.out.alloc (.cells #[.int .i64 x1, .int .i64 y1, .int .i64 z1] 52))
          have Hn := Lib.hid (Hn.out.alloc (.cells #[.int .i64 x1, .int .i64 y1, .int .i64 z1] 52))
          have Hb := Lib.hid (Hb.out.alloc hz (.cells #[.int .i64 x1, .int .i64 y1, .int .i64 z1] 52))
          clear hg1 e0 e1 e2
          generalize wr.alloc (.cells #[.int .i64 x1, .int .i64 y1, .int .i64 z1] 52) = W1 at *
          generalize wr.heap.size = T at *
          go_cut [] (fun wx => Bk wx T 52 #[.int .i64 (sI f x1), .int .i64 y1, .int .i64 z1] ∧ Turn W1 wx T)
          case first =>
            as_aux_lemma =>
            by_cases h1 : x1 < f
            · have h2 : ¬ (f : Int) ≤ x1 := by omega
              go_wp2_with fail
              go_meet
              exact ⟨by rw [show sI f x1 = x1 by unfold sI; rw [if_pos h1]]; exact HT.out, Turn.refl _ _⟩
            · have h2 : (f : Int) ≤ x1 := by omega
              have c0 : W1.cell? ⟨T, 0, none⟩ = some (.int .i64 x1) := HT.out.cell 0
              have f0 := HT.out.frozen 0
              go_wp2_with fail
              go_meet
              exact ⟨by rw [show sI f x1 = x1 + 1 by unfold sI; rw [if_neg (by omega)]]; exact HT.out.set_ 0 (.int .i64 (x1 + 1)), (Turn.refl _ _).setCell_ 0 _⟩
          case rest =>
          obtain ⟨W2, rfl⟩ : ∃ z, z = wc := ⟨wc, rfl⟩
          obtain ⟨hT2, ht2⟩ := hcut
          have HT2 := Lib.hid hT2
          have Ht2 := Lib.hid ht2
          clear hT2 ht2 HT
          have c1 : W2.cell? ⟨T, 1, none⟩ = some (.int .i64 y1) := HT2.out.cell 1
          go_upto_if 61 with fail
          go_cut [] (fun wx => Bk wx T 52 #[.int .i64 (sI f x1), .int .i64 (sI f y1), .int .i64 z1] ∧ Turn W1 wx T)
          case first =>
            as_aux_lemma =>
            by_cases h1 : y1 < f
            · have h2 : ¬ (f : Int) ≤ y1 := by omega
              go_wp2_with fail
              go_meet
              exact ⟨by rw [show sI f y1 = y1 by unfold sI; rw [if_pos h1]]; exact HT2.out, Ht2.out⟩
            · have h2 : (f : Int) ≤ y1 := by omega
              have f1 := HT2.out.frozen 1
              go_wp2_with fail
              go_meet
              exact ⟨by rw [show sI f y1 = y1 + 1 by unfold sI; rw [if_neg (by omega)]]; exact HT2.out.set_ 1 (.int .i64 (y1 + 1)), Ht2.out.setCell_ 1 _⟩
          case rest =>
          obtain ⟨W3, rfl⟩ : ∃ z, z = wc := ⟨wc, rfl⟩
          obtain ⟨hT3, ht3⟩ := hcut
          have HT3 := Lib.hid hT3
          have hoT : T ≠ S + 1 + 1 := by omega
          have HO := Lib.hid (ht3.bk HO.out (by omega))
          have HG := Lib.hid (ht3.bk HG.out (by omega))
          have HR := Lib.hid (ht3.bk HR.out (by omega))
          have Ho := Lib.hid (own_turn' Ho.out ht3 (fun e => by have := Hol.out T e.symm; omega))
          have Hn := Lib.hid (own_turn' Hn.out ht3 (fun e => by have := Hnl.out T e.symm; omega))
          have Hb := Lib.hid (ht3.below Hb.out (by omega))
          have hz3 := Hbz.out _ Hb.out
          have hst := Lib.hid (take_snoc' hxy.out)
          clear hT3 ht3 HT2 Ht2 c1
          have d0 : W3.cell? ⟨T, 0, none⟩ = some (.int .i64 (sI f x1)) := HT3.out.cell 0
          have d1 : W3.cell? ⟨T, 1, none⟩ = some (.int .i64 (sI f y1)) := HT3.out.cell 1
          have d2 : W3.cell? ⟨T, 2, none⟩ = some (.int .i64 z1) := HT3.out.cell 2
          have hc0 : W3.cell? ⟨S + 1 + 1, 1, none⟩ = some v := HO.out.cell 1
          have hrow := HO.out.ne_own Hn.out (by decide)
          go_wp2_with (at_builtin; refine wpList_app2 (w := W3) rfl _ _ rfl elt_tri Hn.out hz3 rfl rfl (by simp) rfl rfl (by omega) ?_; intro v3 w4 hown4 hg4 hz4; obtain ⟨A2, c2, rfl⟩ := own_slice hown4; have hg5 := HO.out.grown hg4 hrow; have hq0 : w4.cell? ⟨S + 1 + 1, 1, none⟩ = some v := hg5.cell 1; have hq3 := hg5.frozen 1; have Hg5 := Lib.hid hg5; clear hg5)
          have hr4 := (HR.out.grown hg4 (HR.out.ne_own Hn.out (by decide))).far (p := ⟨S + 1 + 1, 1, none⟩) (by show S + 1 ≠ S + 1 + 1; omega) (.slice A2 (k + 1) c2)
          have hG4 := (HG.out.grown hg4 (HG.out.ne_own Hn.out (by decide))).far (p := ⟨S + 1 + 1, 1, none⟩) (by show S ≠ S + 1 + 1; omega) (.slice A2 (k + 1) c2)
          have hb4 := (Hb.out.grown hg4 hz3 (fun q hq => (Hn.out.lt q hq).1)).setCell (p := ⟨S + 1 + 1, 1, none⟩) (by show S ≤ S + 1 + 1; omega) (.slice A2 (k + 1) c2)
          have hn4 := own_set (i := 1) hown4 (Hg5.out.ne_own hown4 (by decide)) (.slice A2 (k + 1) c2)
          have ho4 := own_grown Ho.out hg4 (own_ne Ho.out Hn.out (by decide))
          have ho5 := own_set (i := 1) ho4 (Hg5.out.ne_own ho4 (by decide)) (.slice A2 (k + 1) c2)
          go_roundw
          case rel =>
            refine ⟨k + 1, _, by omega, by go_num, Hg5.out.set_ 1 (.slice A2 (k + 1) c2), ho5, ?_, hG4, hr4, hb4⟩
            rw [hst.out, putN, List.map_append, triC_append]
            exact hn4
          case measure => simp [intOf]; omega
        · obtain rfl : k = ns.length := by omega
          rw [List.take_length] at Hn
          have hnl : ns.length = (putN ns f).length := by rw [putN, List.length_map]
          have hn := Hn.out
          rw [hnl] at hn
          obtain ⟨B1, b1, hvB⟩ := own_slice hn
          subst hvB
          have Hn := Lib.hid hn
          have hc0 : wr.cell? ⟨S + 1 + 1, 0, none⟩ = some (.slice A1 PW.length a1) := HO.out.cell 0
          have hc1 : wr.cell? ⟨S + 1 + 1, 1, none⟩ = some (.slice B1 (putN ns f).length b1) := HO.out.cell 1
          have hr0 : wr.cell? ⟨S + 1, 0, none⟩ = some (.slice none 0 0) := HR.out.cell 0
          have hr1 : wr.cell? ⟨S + 1, 1, none⟩ = some (.slice none 0 0) := HR.out.cell 1
          have hf0 := HR.out.frozen 0
          have hf1 := HR.out.frozen 1
          have hz0 := ((HR.out.set_ 0 (.slice A1 PW.length a1)).set_ 1 (.slice B1 (putN ns f).length b1)).cell 0
          have hz1 := ((HR.out.set_ 0 (.slice A1 PW.length a1)).set_ 1 (.slice B1 (putN ns f).length b1)).cell 1
          clear hnl hn
          go_wp2_with fail
          refine bodyPost_ret (v := .agg #[.slice A1 PW.length a1, .slice B1 (putN ns f).length b1]) (by simp [results, Try.results23, go_sem, hz0, hz1]) rfl ⟨A1, a1, B1, b1, by rw [hPW.out], ?_, ?_, ?_⟩
          · rw [HSz.out, hPW.out]; exact own_set (i := 1) (own_set (i := 0) Ho.out (HR.out.ne_own Ho.out (by decide)) _) (HR.out.ne_own Ho.out (by decide)) _
          · rw [HSz.out]; exact own_set (i := 1) (own_set (i := 0) Hn.out (HR.out.ne_own Hn.out (by decide)) _) (HR.out.ne_own Hn.out (by decide)) _
          · rw [HSz.out]; exact (Hb.out.setCell (p := ⟨S + 1, 0, none⟩) (by show S ≤ S + 1; omega) _).setCell (p := ⟨S + 1, 1, none⟩) (by show S ≤ S + 1; omega) _
end Go.Proofs.Ytmdgdphhedgojaa

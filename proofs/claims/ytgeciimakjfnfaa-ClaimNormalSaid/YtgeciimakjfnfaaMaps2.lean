import Derived.Test.YtgeciimakjfnfaaMaps
import Derived.Test.YtgeciimakjfnfaaGB
import Derived.StillTailTactics
namespace Go.Proofs.Ytgeciimakjfnfaa
open Go.RowKit Go.Maps
open Go.ChangeMaps (setBlock heap_setBlock_same)

theorem filter_le' {β : Type} {p q : β → Bool} : ∀ (l : List β), (∀ i ∈ l, p i = true → q i = true) → (l.filter p).length ≤ (l.filter q).length
  | [], _ => by simp
  | i :: l, h => by
    have ih := filter_le' l (fun j hj => h j (by simp [hj]))
    have := h i (by simp)
    simp only [List.filter_cons]
    split <;> split <;> simp_all <;> omega
theorem filter_lt' {β : Type} {p q : β → Bool} {g : β} : ∀ (l : List β), (∀ i ∈ l, p i = true → q i = true) → g ∈ l → q g = true → p g = false → (l.filter p).length < (l.filter q).length
  | [], _, hg, _, _ => by simp at hg
  | i :: l, h, hg, h1, h2 => by
    rcases List.mem_cons.1 hg with rfl | hg
    · have := filter_le' l (fun j hj => h j (by simp [hj]))
      simp only [List.filter_cons, h1, h2]; simp; omega
    · have ih := filter_lt' l (fun j hj => h j (by simp [hj])) hg h1 h2
      have := h i (by simp)
      simp only [List.filter_cons]
      split <;> split <;> simp_all <;> omega

variable {κ α : Type} {ek : κ → Value} {ev : α → Value} {P : Program} {kt : TypeId} {w w' : World} {r n : Nat} {f : κ → Option α}

theorem MapF.delete [DecidableEq κ] {t e ty : TypeId} {x : κ} (h : MapF ek ev P kt w r f n) (hI : Inj ek) (K : Keyed P kt) (ht : P.underlying t = some (.map kt e)) (hx : Good P kt (ek x)) :
    ∃ w' n', (Builtin.delete_ #[t, kt] ty #[.map (some r), ek x]).run P w = .ok (.tuple #[]) w' ∧ MapF ek ev P kt w' r (delF f x) n' ∧ n' ≤ n ∧ Turn w w' r := by
  obtain ⟨es, clock, hb, hs, F⟩ := h
  obtain ⟨l, hl⟩ := hx
  rcases F.look hI K w ⟨l, hl⟩ with ⟨h1, h2, h3⟩ | ⟨j, e0, a, h1, h2, h3, h4, h5⟩
  · refine ⟨setBlock w r (.map es clock), n, by simp [Builtin.delete_, run_underlying ht, MapKept.run_getObj_map hb, K.check w _ hl, h1, MapKept.run_setObj_map _ hb, Result.andThen, setBlock], ⟨_, _, heap_setBlock_same hb _, hs, ?_⟩, Nat.le_refl _, Turn.setBlock hb _⟩
    have : delF f x = f := by
      funext y
      unfold delF
      split
      · rename_i h; subst h; exact h2.symm
      · rfl
    rw [this]; exact F
  · refine ⟨setBlock w r (.map (es.eraseIdxIfInBounds j) clock), _, by simp [Builtin.delete_, run_underlying ht, MapKept.run_getObj_map hb, K.check w _ hl, h1, MapKept.run_setObj_map _ hb, Result.andThen, setBlock], ⟨_, _, heap_setBlock_same hb _, rfl, F.del hI h3 h4⟩, ?_, Turn.setBlock hb _⟩
    rw [← hs]
    exact MapFrom.size_erase es j

theorem MapF.len {t e : TypeId} (h : MapF ek ev P kt w r f n) (ht : P.underlying t = some (.map kt e)) (ty : TypeId) : (Builtin.len_ #[t] ty #[.map (some r)]).run P w = .ok (.int .i64 n) w := by
  obtain ⟨es, clock, hb, hs, F⟩ := h
  simp [Builtin.len_, run_underlying ht, MapKept.run_getObj_map hb, goInt, hs, Result.andThen]

/-- Block it iterates over map b, which holds f; done: the keys that have come; c: how many are left. -/
def Iter (ek : κ → Value) (ev : α → Value) (P : Program) (kt : TypeId) (w : World) (it b : Nat) (f : κ → Option α) (n : Nat) (done : List κ) (c : Nat) : Prop :=
  ∃ es clock since seen c0, w.heap[it]? = some (.mapIter (some b) since seen c0) ∧ w.heap[b]? = some (.map es clock) ∧ es.size = n ∧ MEnt ek ev P kt es clock f ∧ (∀ e ∈ es.toList, e.born < since) ∧ since ≤ c0 ∧ since ≤ clock ∧
    (∀ e ∈ es.toList, e.born ∈ seen.toList ↔ ∃ k ∈ done, e.key = ek k) ∧ c = (leftOf es seen).size

theorem Iter.map {it b c : Nat} {done : List κ} (h : Iter ek ev P kt w it b f n done c) : MapF ek ev P kt w b f n := by
  obtain ⟨es, clock, since, seen, c0, h1, h2, h3, h4, _⟩ := h
  exact ⟨es, clock, h2, h3, h4⟩
theorem Iter.keep {it b c : Nat} {done : List κ} (h : Iter ek ev P kt w it b f n done c) (h1 : w'.heap[it]? = w.heap[it]?) (h2 : w'.heap[b]? = w.heap[b]?) : Iter ek ev P kt w' it b f n done c := by
  obtain ⟨es, clock, since, seen, c0, g1, g2, rest⟩ := h
  exact ⟨es, clock, since, seen, c0, h1.trans g1, h2.trans g2, rest⟩
theorem Iter.lt {it b c : Nat} {done : List κ} (h : Iter ek ev P kt w it b f n done c) : it < w.heap.size := by
  obtain ⟨es, clock, since, seen, c0, g1, g2, rest⟩ := h
  exact (Array.getElem?_eq_some_iff.1 g1).1
theorem Iter.ne {it b c : Nat} {done : List κ} (h : Iter ek ev P kt w it b f n done c) : it ≠ b := by
  obtain ⟨es, clock, since, seen, c0, g1, g2, rest⟩ := h
  rintro rfl
  rw [g1] at g2
  cases g2
theorem Iter.bk_ne {it b c g : Nat} {t : TypeId} {cs : Array Value} {done : List κ} (h : Iter ek ev P kt w it b f n done c) (hk : Bk w g t cs) : g ≠ it := by
  obtain ⟨es, clock, since, seen, c0, g1, g2, rest⟩ := h
  rintro rfl
  unfold Bk at hk
  rw [g1] at hk
  cases hk
theorem Iter.own_ne {it b c : Nat} {base : Nat} {e : TypeId} {size m : Nat} {v : Value} {xs : List Value} {done : List κ} (h : Iter ek ev P kt w it b f n done c) (ho : w.ownsRow base e size v m xs) : some it ≠ v.ownBlock := by
  obtain ⟨es, clock, since, seen, c0, hb, g2, rest⟩ := h
  rcases ho.2 with ⟨rfl, _⟩ | ⟨g, cap, cur, rfl, _, hh, _⟩
  · simp [Value.ownBlock]
  · intro he
    have : it = g := by simpa [Value.ownBlock] using he
    subst this
    rw [hb] at hh
    cases hh
theorem Iter.map_ne {it b c g m : Nat} {κ' α' : Type} {ek' : κ' → Value} {ev' : α' → Value} {kt' : TypeId} {f' : κ' → Option α'} {done : List κ} (h : Iter ek ev P kt w it b f n done c) (hk : MapF ek' ev' P kt' w g f' m) : g ≠ it := by
  obtain ⟨es, clock, since, seen, c0, g1, g2, rest⟩ := h
  obtain ⟨es', c', h1, _⟩ := hk
  rintro rfl
  rw [g1] at h1
  cases h1

theorem MapF.range {t e : TypeId} (h : MapF ek ev P kt w r f n) (ht : P.underlying t = some (.map kt e)) :
    ∃ w', (Instr.range t (.map (some r))).run P w = .ok (.pointer (some ⟨w.heap.size, 0, none⟩)) w' ∧ Iter ek ev P kt w' w.heap.size r f n [] n ∧ w.grownBy w' none ∧ w'.heap.size = w.heap.size + 1 := by
  have hlt := h.lt
  obtain ⟨es, clock, hb, hs, F⟩ := h
  refine ⟨_, run_range_map w t kt e r es clock ht hb, ⟨es, clock, clock, #[], clock, (MapKept.heap_alloc w _).1, ((MapKept.heap_alloc w _).2 r hlt).trans hb, hs, F, F.born, Nat.le_refl _, Nat.le_refl _, by simp, ?_⟩, World.grownBy_alloc w _ none, by simp⟩
  have : leftOf es #[] = es := by unfold leftOf; exact Array.filter_eq_self.2 (by simp)
  rw [this, hs]

theorem Iter.next {it b c : Nat} {done : List κ} (h : Iter ek ev P kt w it b f n done c) (hI : Inj ek) (ty : TypeId) :
    ((∀ k, f k ≠ none → k ∈ done) ∧ (Instr.next (.pointer (some ⟨it, 0, none⟩)) false ty).run P w = .ok (.tuple #[.bool false]) w) ∨
    ∃ k a w' c', k ∉ done ∧ f k = some a ∧ Good P kt (ek k) ∧ (Instr.next (.pointer (some ⟨it, 0, none⟩)) false ty).run P w = .ok (.tuple #[.bool true, ek k, ev a]) w' ∧ Iter ek ev P kt w' it b f n (done ++ [k]) c' ∧ c' < c ∧
      Turn w w' it ∧ (Instr.entry (.pointer (some ⟨it, 0, none⟩))).run P w' = .ok (.tuple #[ek k, ev a]) w' := by
  obtain ⟨es, clock, since, seen, c0, g1, g2, g3, F, hold, hsc, hsc2, hdone, hc⟩ := h
  have hne : it ≠ b := by
    rintro rfl
    rw [g1] at g2
    cases g2
  rcases run_next_at w ty it b since c0 seen es clock g1 g2 hold hsc with ⟨h0, hrun⟩ | ⟨e, he, w1, hw1, hrun⟩
  · refine .inl ⟨fun k hk => ?_, hrun⟩
    cases hf : f k with
    | none => exact (hk hf).elim
    | some a =>
      obtain ⟨e, he, e1, _⟩ := F.fn2 k a hf
      have hs : e.born ∈ seen.toList := by
        have h1 := Array.eq_empty_of_size_eq_zero h0
        unfold leftOf at h1
        rw [Array.filter_eq_empty_iff] at h1
        have := h1 e (by simpa using he)
        simpa using this
      obtain ⟨k', hk', e2⟩ := (hdone e he).1 hs
      have : k' = k := hI _ _ (e2.symm.trans e1)
      subst this
      exact hk'
  · have he' : e ∈ es.toList ∧ e.born ∉ seen.toList := by
      unfold leftOf at he
      simpa using he
    obtain ⟨k, a, e1, e2, e3⟩ := F.fn1 e he'.1
    have hw1' : w1.heap = w.heap := by rcases hw1 with rfl | rfl <;> rfl
    have gi : w1.heap[it]? = some (.mapIter (some b) since seen c0) := by rw [hw1']; exact g1
    have hit : (setBlock w1 it (.mapIter (some b) since (seen.push e.born) clock)).heap[it]? = some (.mapIter (some b) since (seen.push e.born) clock) := by
      obtain ⟨hlt, _⟩ := Array.getElem?_eq_some_iff.1 gi
      simp [ChangeMaps.setBlock, hlt]
    have hoth : ∀ i, i ≠ it → (setBlock w1 it (.mapIter (some b) since (seen.push e.born) clock)).heap[i]? = w.heap[i]? := fun i hi => by
      rw [← hw1']
      simp only [ChangeMaps.setBlock]
      rw [Array.getElem?_setIfInBounds_ne (by omega)]
    have hbm := (hoth b (Ne.symm hne)).trans g2
    rw [e1, e2] at hrun
    have hseen : ∀ e' ∈ es.toList, e'.born ∈ (seen.push e.born).toList ↔ ∃ k' ∈ done ++ [k], e'.key = ek k' := fun e' he2 => by
      rw [Array.toList_push, List.mem_append, List.mem_singleton, hdone e' he2]
      constructor
      · rintro (⟨k', h1, h2⟩ | h)
        · exact ⟨k', by simp [h1], h2⟩
        · have := nodup_inj F.bnd e' he2 e he'.1 h
          subst this
          exact ⟨k, by simp, e1⟩
      · rintro ⟨k', h1, h2⟩
        rcases List.mem_append.1 h1 with h1 | h1
        · exact .inl ⟨k', h1, h2⟩
        · have : k' = k := by simpa using h1
          subst this
          exact .inr (by rw [nodup_inj F.knd e' he2 e he'.1 (h2.trans e1.symm)])
    have hlt : (leftOf es (seen.push e.born)).size < (leftOf es seen).size := by
      have hsz : ∀ s : Array Nat, (leftOf es s).size = (es.toList.filter fun x => !s.contains x.born).length := fun s => by
        have h : (leftOf es s).toList = es.toList.filter (fun x => !s.contains x.born) := by simp [leftOf]
        rw [← h, Array.length_toList]
      rw [hsz, hsz]
      have hpq : ∀ x ∈ es.toList, (!(seen.push e.born).contains x.born) = true → (!seen.contains x.born) = true := fun x _ hx => by
        simp at hx ⊢; exact hx.1
      refine filter_lt' es.toList hpq he'.1 ?_ ?_
      · have := he'.2; simpa using this
      · simp
    refine .inr ⟨k, a, _, _, ?_, e3, e1 ▸ F.good e he'.1, hrun, ⟨es, clock, since, seen.push e.born, clock, hit, hbm, g3, F, hold, hsc2, hsc2, hseen, rfl⟩, hc ▸ hlt, ⟨?_, ?_, ?_, ?_, hoth⟩, ?_⟩
    · intro hk
      exact he'.2 ((hdone e he'.1).2 ⟨k, hk, e1⟩)
    · rcases hw1 with rfl | rfl <;> rfl
    · rcases hw1 with rfl | rfl <;> rfl
    · rcases hw1 with rfl | rfl <;> rfl
    · simp [ChangeMaps.setBlock, hw1']
    · have := run_entry_at (P := P) _ it b since seen es clock e hit hbm he'.1 F.bnd
      rw [e1, e2] at this
      exact this

theorem MapF.qt (h : MapF ek ev P kt w r f n) (hq : Qt w w') : MapF ek ev P kt w' r f n := by obtain ⟨m, rfl⟩ := hq; exact h
theorem Iter.qt {it b c : Nat} {done : List κ} (h : Iter ek ev P kt w it b f n done c) (hq : Qt w w') : Iter ek ev P kt w' it b f n done c := by obtain ⟨m, rfl⟩ := hq; exact h

/-- A region that draws its order: n reading operations, and then the others in their order. -/
theorem region_tail {id : Nat} {Q : Exit → Act → World → Prop} {a : Act} {l : List Oper} (n : Nat) (hm : P.follows .mixedOrders = true) (hB : Region.lexTailB .any l.toArray n = true)
    (h : ∀ W : World, Qt w W → wpStill P l.toArray W (fun a' => wpList P l.toArray Q (l.drop n) a' W) (l.take n) a) : (Code.region id l.toArray true).wp P Q a w :=
  wp_region_still_tail n hm hB (h _ ⟨1, rfl⟩)
end Go.Proofs.Ytgeciimakjfnfaa

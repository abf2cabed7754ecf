import Derived.Test.YtgeciimakjfnfaaBase
import Derived.Maps.RangeWalk
import Derived.Maps.RangeRun
import Derived.Maps.OwnOps
import Derived.Maps.OwnSet
namespace Go.Proofs.Ytgeciimakjfnfaa
open Go.RowKit Go.Maps
open Go.ChangeMaps (setBlock heap_setBlock_same)

/-- A value that can be a key. -/
def Good (P : Program) (kt : TypeId) (k : Value) : Prop := ∃ l, keyOf P kt k = some l

/-- The entries hold the function f; keys and elements are laid by ek and ev. -/
structure MEnt {κ α : Type} (ek : κ → Value) (ev : α → Value) (P : Program) (kt : TypeId) (es : Array MapEntry) (clock : Nat) (f : κ → Option α) : Prop where
  good : ∀ e ∈ es.toList, Good P kt e.key
  born : ∀ e ∈ es.toList, e.born < clock
  bnd : (es.toList.map (·.born)).Nodup
  knd : (es.toList.map (·.key)).Nodup
  fn1 : ∀ e ∈ es.toList, ∃ k a, e.key = ek k ∧ e.val = ev a ∧ f k = some a
  fn2 : ∀ k a, f k = some a → ∃ e ∈ es.toList, e.key = ek k ∧ e.val = ev a

theorem nodup_inj {α β : Type} {g : α → β} : ∀ {l : List α}, (l.map g).Nodup → ∀ a ∈ l, ∀ b ∈ l, g a = g b → a = b
  | [], _, _, h, _, _, _ => by simp at h
  | x :: l, h, a, ha, b, hb, e => by
    rw [List.map_cons, List.nodup_cons] at h
    rcases List.mem_cons.1 ha with rfl | ha'
    · rcases List.mem_cons.1 hb with rfl | hb'
      · rfl
      · exact (h.1 (e ▸ List.mem_map_of_mem hb')).elim
    · rcases List.mem_cons.1 hb with rfl | hb'
      · exact (h.1 (e ▸ List.mem_map_of_mem ha')).elim
      · exact nodup_inj h.2 a ha' b hb' e

theorem nodup_idx {β : Type} {l : List β} (h : l.Nodup) {i j : Nat} (hi : i < l.length) (hj : j < l.length) (e : l[i] = l[j]) : i = j := by
  rcases Nat.lt_trichotomy i j with hlt | rfl | hlt
  · exact (List.pairwise_iff_getElem.1 h i j hi hj hlt e).elim
  · rfl
  · exact (List.pairwise_iff_getElem.1 h j i hj hi hlt e.symm).elim

/-- Block r is a map that holds f, of n entries. -/
def MapF {κ α : Type} (ek : κ → Value) (ev : α → Value) (P : Program) (kt : TypeId) (w : World) (r : Nat) (f : κ → Option α) (n : Nat) : Prop :=
  ∃ es clock, w.heap[r]? = some (.map es clock) ∧ es.size = n ∧ MEnt ek ev P kt es clock f

/-- f with another value at k. -/
def setF {κ α : Type} [DecidableEq κ] (f : κ → Option α) (k : κ) (v : α) : κ → Option α := fun x => if x = k then some v else f x
/-- f without k. -/
def delF {κ α : Type} [DecidableEq κ] (f : κ → Option α) (k : κ) : κ → Option α := fun x => if x = k then none else f x

/-- Only block r has turned. -/
structure Turn (w w' : World) (r : Nat) : Prop where
  os : w'.os = w.os
  tape : w'.tape = w.tape
  output : w'.output = w.output
  size : w'.heap.size = w.heap.size
  block : ∀ k, k ≠ r → w'.heap[k]? = w.heap[k]?

theorem Turn.setBlock {w : World} {r : Nat} {es : Array MapEntry} {c : Nat} (hb : w.heap[r]? = some (.map es c)) (o' : Obj) : Turn w (setBlock w r o') r :=
  ⟨rfl, rfl, rfl, by simp [ChangeMaps.setBlock], fun k hk => ChangeMaps.heap_setBlock_other hb _ hk⟩
theorem Turn.trans {a b c : World} {r : Nat} (h : Turn a b r) (k : Turn b c r) : Turn a c r :=
  ⟨k.os.trans h.os, k.tape.trans h.tape, k.output.trans h.output, k.size.trans h.size, fun i hi => (k.block i hi).trans (h.block i hi)⟩
theorem Turn.drew {w : World} (r : Nat) : Turn w w.drew r := ⟨rfl, rfl, rfl, rfl, fun _ _ => rfl⟩
theorem Turn.cell {w w' : World} {r : Nat} (h : Turn w w' r) {p : Addr} (hp : p.block ≠ r) : w'.cell? p = w.cell? p := World.cell?_of_block (h.block _ hp)
theorem Turn.frozen {w w' : World} {r : Nat} (h : Turn w w' r) {p : Addr} (hp : p.block ≠ r) : w'.frozen? p = w.frozen? p := World.frozen?_of_block (h.block _ hp)
theorem Turn.below {a w w' : World} {r B : Nat} (h : Turn w w' r) (hb : Below B a w) (hr : B ≤ r) : Below B a w' :=
  hb.trans ⟨h.os, h.tape, h.output, by rw [h.size]; exact Nat.le_refl _, fun k hk => h.block k (by omega)⟩
theorem Turn.bk {w w' : World} {r g : Nat} {t : TypeId} {cs : Array Value} (h : Turn w w' r) (hk : Bk w g t cs) (hne : g ≠ r) : Bk w' g t cs := (h.block g hne).trans hk

variable {κ α : Type} {ek : κ → Value} {ev : α → Value} {P : Program} {kt : TypeId} {w w' : World} {r n : Nat} {f : κ → Option α}

theorem MapF.lt (h : MapF ek ev P kt w r f n) : r < w.heap.size := by
  obtain ⟨es, clock, hb, _⟩ := h
  exact (Array.getElem?_eq_some_iff.1 hb).1
theorem MapF.keep (h : MapF ek ev P kt w r f n) (hk : w'.heap[r]? = w.heap[r]?) : MapF ek ev P kt w' r f n := by
  obtain ⟨es, clock, hb, rest⟩ := h
  exact ⟨es, clock, hk.trans hb, rest⟩
theorem MapF.turn {r' : Nat} (h : MapF ek ev P kt w r f n) (ht : Turn w w' r') (hne : r ≠ r') : MapF ek ev P kt w' r f n := h.keep (ht.block r hne)
theorem MapF.below {B : Nat} (h : MapF ek ev P kt w r f n) (hb : Below B w w') (hr : r < B) : MapF ek ev P kt w' r f n := h.keep (hb.block r hr)
theorem MapF.drew (h : MapF ek ev P kt w r f n) : MapF ek ev P kt w.drew r f n := h
theorem MapF.drewN (h : MapF ek ev P kt w r f n) (m : Nat) : MapF ek ev P kt (w.drewN m) r f n := h
theorem MapF.alloc (h : MapF ek ev P kt w r f n) (o : Obj) : MapF ek ev P kt (w.alloc o) r f n := h.keep (Below.heap_alloc w o r h.lt)
theorem MapF.grown {row : Option Nat} (h : MapF ek ev P kt w r f n) (hg : w.grownBy w' row) (hne : some r ≠ row) : MapF ek ev P kt w' r f n := h.keep (hg.block r h.lt hne)
theorem MapF.setCell (h : MapF ek ev P kt w r f n) {p : Addr} (hp : r ≠ p.block) (u : Value) : MapF ek ev P kt (w.setCell p u) r f n := h.keep (Below.heap_setCell w p u r hp)
theorem MapF.new (ek : κ → Value) (ev : α → Value) (P : Program) (kt : TypeId) (w : World) : MapF ek ev P kt (w.alloc (.map #[] 0)) w.heap.size (fun _ => none) 0 :=
  ⟨#[], 0, (MapKept.heap_alloc w _).1, rfl, ⟨by simp, by simp, by simp, by simp, by simp, by simp⟩⟩
theorem MapF.bk_ne {g : Nat} {t : TypeId} {cs : Array Value} (h : MapF ek ev P kt w r f n) (hk : Bk w g t cs) : g ≠ r := by
  rintro rfl
  obtain ⟨es, clock, hb, _⟩ := h
  unfold Bk at hk
  rw [hb] at hk
  cases hk
theorem MapF.own_ne {base : Nat} {e : TypeId} {size m : Nat} {v : Value} {xs : List Value} (h : MapF ek ev P kt w r f n) (ho : w.ownsRow base e size v m xs) : some r ≠ v.ownBlock := by
  obtain ⟨es, clock, hb, _⟩ := h
  rcases ho.2 with ⟨rfl, _⟩ | ⟨g, cap, cur, rfl, _, hh, _⟩
  · simp [Value.ownBlock]
  · intro he
    have : r = g := by simpa [Value.ownBlock] using he
    subst this
    rw [hb] at hh
    cases hh
theorem MapF.cell_ne {p : Addr} {u : Value} (h : MapF ek ev P kt w r f n) (hc : w.cell? p = some u) : p.block ≠ r := by
  rintro rfl
  obtain ⟨es, clock, hb, _⟩ := h
  simp [World.cell?, hb] at hc

/-- Different keys are laid differently. -/
def Inj {κ : Type} (ek : κ → Value) : Prop := ∀ a b, ek a = ek b → a = b

theorem MEnt.look {es : Array MapEntry} {clock : Nat} (h : MEnt ek ev P kt es clock f) (hI : Inj ek) (K : Keyed P kt) (w : World) {x : κ} (hx : Good P kt (ek x)) :
    ((Instr.findKey kt (ek x) es.toList).run P w = .ok none w ∧ f x = none ∧ ∀ e ∈ es.toList, e.key ≠ ek x) ∨ ∃ j e a, (Instr.findKey kt (ek x) es.toList).run P w = .ok (some (j, ev a)) w ∧ f x = some a ∧ es.toList[j]? = some e ∧ e.key = ek x ∧ e.val = ev a := by
  obtain ⟨l, hl⟩ := hx
  rcases K.find w hl es.toList h.good with ⟨h1, h2⟩ | ⟨j, e, h1, h2, h3⟩
  · refine .inl ⟨h1, ?_, h2⟩
    cases hf : f x with
    | none => rfl
    | some v =>
      obtain ⟨e, he, hk, _⟩ := h.fn2 x v hf
      exact (h2 e he hk).elim
  · obtain ⟨k, a, e1, e2, e3⟩ := h.fn1 e (List.mem_of_getElem? h2)
    have : k = x := hI _ _ (e1.symm.trans h3)
    subst this
    rw [e2] at h1
    exact .inr ⟨j, e, a, h1, e3, h2, h3, e2⟩

theorem MapF.lookup {t e : TypeId} {z : α} {x : κ} (h : MapF ek ev P kt w r f n) (hI : Inj ek) (K : Keyed P kt) (ht : P.underlying t = some (.map kt e)) (hz : (zeroValue e).run P w = .ok (ev z) w) (hx : Good P kt (ek x)) :
    (Instr.lookup t (.map (some r)) (ek x) false).run P w = .ok (ev ((f x).getD z)) w := by
  obtain ⟨es, clock, hb, _, F⟩ := h
  obtain ⟨l, hl⟩ := hx
  rcases F.look hI K w ⟨l, hl⟩ with ⟨h1, h2, _⟩ | ⟨j, e0, a, h1, h2, _⟩
  · simp [Instr.lookup, run_underlying ht, MapKept.run_getObj_map hb, K.check w _ hl, h1, hz, h2, Result.andThen]
  · simp [Instr.lookup, run_underlying ht, MapKept.run_getObj_map hb, K.check w _ hl, h1, h2, Result.andThen]

theorem MapF.lookup_ok {t e : TypeId} {z : α} {x : κ} (h : MapF ek ev P kt w r f n) (hI : Inj ek) (K : Keyed P kt) (ht : P.underlying t = some (.map kt e)) (hz : (zeroValue e).run P w = .ok (ev z) w) (hx : Good P kt (ek x)) :
    (Instr.lookup t (.map (some r)) (ek x) true).run P w = .ok (.tuple #[ev ((f x).getD z), .bool (f x).isSome]) w := by
  obtain ⟨es, clock, hb, _, F⟩ := h
  obtain ⟨l, hl⟩ := hx
  rcases F.look hI K w ⟨l, hl⟩ with ⟨h1, h2, _⟩ | ⟨j, e0, a, h1, h2, _⟩
  · simp [Instr.lookup, run_underlying ht, MapKept.run_getObj_map hb, K.check w _ hl, h1, hz, h2, Result.andThen]
  · simp [Instr.lookup, run_underlying ht, MapKept.run_getObj_map hb, K.check w _ hl, h1, h2, Result.andThen]

theorem modify_set {α : Type} {l : List α} {j : Nat} {a : α} (g : α → α) (h : l[j]? = some a) : l.modify j g = l.set j (g a) := by
  apply List.ext_getElem?
  intro i
  rw [List.getElem?_modify, List.getElem?_set]
  obtain ⟨hj, e⟩ := List.getElem?_eq_some_iff.1 h
  by_cases hi : j = i
  · subst hi; simp [hj, e]
  · simp [hi]

theorem mem_set {α : Type} {l : List α} {j : Nat} {b : α} (x : α) (hx : x ∈ l.set j b) : x = b ∨ x ∈ l := by
  rcases List.mem_or_eq_of_mem_set hx with h | h
  · exact .inr h
  · exact .inl h

theorem MEnt.set [DecidableEq κ] {es : Array MapEntry} {clock : Nat} (F : MEnt ek ev P kt es clock f) (hI : Inj ek) {j : Nat} {e0 : MapEntry} {x : κ} {v : α} (hj : es.toList[j]? = some e0) (hk : e0.key = ek x) :
    MEnt ek ev P kt (es.modify j fun e => { e with key := ek x, val := ev v }) clock (setF f x v) := by
  have hl : (es.modify j fun e => { e with key := ek x, val := ev v }).toList = es.toList.set j { e0 with key := ek x, val := ev v } := by rw [Array.toList_modify, modify_set _ hj]
  have hm0 : e0 ∈ es.toList := List.mem_of_getElem? hj
  obtain ⟨hlt, he0⟩ := List.getElem?_eq_some_iff.1 hj
  have same : ∀ {β : Type} (g : MapEntry → β), g { e0 with key := ek x, val := ev v } = g e0 → (es.toList.set j { e0 with key := ek x, val := ev v }).map g = es.toList.map g := fun g hg => by
    apply List.ext_getElem?
    intro i
    rw [List.getElem?_map, List.getElem?_map, List.getElem?_set]
    by_cases hi : j = i
    · subst hi; rw [if_pos rfl, if_pos hlt, hj]; simp [hg]
    · rw [if_neg hi]
  have hbn := same (·.born) rfl
  have hkn := same (·.key) hk.symm
  have hin : ∀ e ∈ es.toList.set j { e0 with key := ek x, val := ev v }, e = { e0 with key := ek x, val := ev v } ∨ e ∈ es.toList := fun e he => mem_set e he
  have hnd : ((es.toList.set j { e0 with key := ek x, val := ev v }).map (·.key)).Nodup := by rw [hkn]; exact F.knd
  have hnew : ({ e0 with key := ek x, val := ev v } : MapEntry) ∈ es.toList.set j { e0 with key := ek x, val := ev v } := List.mem_iff_getElem?.2 ⟨j, by rw [List.getElem?_set, if_pos rfl, if_pos hlt]⟩
  refine ⟨?_, ?_, ?_, ?_, ?_, ?_⟩
  · rw [hl]
    intro e he
    rcases hin e he with rfl | h
    · exact hk ▸ F.good e0 hm0
    · exact F.good e h
  · rw [hl]
    intro e he
    rcases hin e he with rfl | h
    · exact F.born e0 hm0
    · exact F.born e h
  · rw [hl, hbn]; exact F.bnd
  · rw [hl, hkn]; exact F.knd
  · rw [hl]
    intro e he
    by_cases hex : e.key = ek x
    · have := nodup_inj hnd e he _ hnew hex
      subst this
      exact ⟨x, v, rfl, rfl, by simp [setF]⟩
    · rcases hin e he with rfl | h
      · exact (hex rfl).elim
      · obtain ⟨k, a, e1, e2, e3⟩ := F.fn1 e h
        refine ⟨k, a, e1, e2, ?_⟩
        unfold setF
        rw [if_neg (fun hh : k = x => hex (by rw [e1, hh]))]
        exact e3
  · rw [hl]
    intro k a hka
    unfold setF at hka
    by_cases hkx : k = x
    · subst hkx
      rw [if_pos rfl] at hka
      injection hka with hka
      subst hka
      exact ⟨_, hnew, rfl, rfl⟩
    · rw [if_neg hkx] at hka
      obtain ⟨e, he, e1, e2⟩ := F.fn2 k a hka
      refine ⟨e, ?_, e1, e2⟩
      obtain ⟨i, hi⟩ := List.mem_iff_getElem?.1 he
      refine List.mem_iff_getElem?.2 ⟨i, ?_⟩
      rw [List.getElem?_set]
      by_cases hij : j = i
      · subst hij
        rw [hj] at hi
        injection hi with hi
        subst hi
        exact (hkx (hI _ _ (e1.symm.trans hk))).elim
      · rw [if_neg hij]; exact hi

theorem MEnt.push [DecidableEq κ] {es : Array MapEntry} {clock : Nat} (F : MEnt ek ev P kt es clock f) {x : κ} {v : α} (hx : Good P kt (ek x)) (hn : ∀ e ∈ es.toList, e.key ≠ ek x) :
    MEnt ek ev P kt (es.push ⟨ek x, ev v, clock⟩) (clock + 1) (setF f x v) := by
  have hin : ∀ e ∈ (es.push ⟨ek x, ev v, clock⟩).toList, e ∈ es.toList ∨ e = ⟨ek x, ev v, clock⟩ := fun e he => by simpa using he
  refine ⟨fun e he => ?_, fun e he => ?_, ?_, ?_, fun e he => ?_, fun k a hka => ?_⟩
  · rcases hin e he with h | rfl
    · exact F.good e h
    · exact hx
  · rcases hin e he with h | rfl
    · have := F.born e h; omega
    · simp
  · rw [Array.toList_push, List.map_append, List.nodup_append]
    refine ⟨F.bnd, by simp, fun a ha b hb => ?_⟩
    obtain ⟨e, he, rfl⟩ := List.mem_map.1 ha
    have := F.born e he
    simp at hb
    omega
  · rw [Array.toList_push, List.map_append, List.nodup_append]
    refine ⟨F.knd, by simp, fun a ha b hb => ?_⟩
    obtain ⟨e, he, rfl⟩ := List.mem_map.1 ha
    simp at hb
    subst hb
    exact hn e he
  · rcases hin e he with h | rfl
    · obtain ⟨k, a, e1, e2, e3⟩ := F.fn1 e h
      refine ⟨k, a, e1, e2, ?_⟩
      unfold setF
      rw [if_neg (fun hh : k = x => hn e h (by rw [e1, hh]))]
      exact e3
    · exact ⟨x, v, rfl, rfl, by simp [setF]⟩
  · unfold setF at hka
    by_cases hkx : k = x
    · subst hkx
      rw [if_pos rfl] at hka
      injection hka with hka
      subst hka
      exact ⟨⟨ek k, ev v, clock⟩, by simp, rfl, rfl⟩
    · rw [if_neg hkx] at hka
      obtain ⟨e, he, e1, e2⟩ := F.fn2 k a hka
      exact ⟨e, by simp [he], e1, e2⟩

/-- How many entries there are behind a store. -/
def cnt (f : κ → Option α) (x : κ) (n : Nat) : Nat := if (f x).isSome then n else n + 1

theorem MapF.update [DecidableEq κ] {t e : TypeId} {x : κ} (h : MapF ek ev P kt w r f n) (hI : Inj ek) (K : Keyed P kt) (ht : P.underlying t = some (.map kt e)) (hx : Good P kt (ek x)) (v : α) :
    ∃ w', (Instr.mapUpdate t (.map (some r)) (ek x) (ev v)).run P w = .ok () w' ∧ MapF ek ev P kt w' r (setF f x v) (cnt f x n) ∧ Turn w w' r := by
  obtain ⟨es, clock, hb, hs, F⟩ := h
  obtain ⟨l, hl⟩ := hx
  rcases F.look hI K w ⟨l, hl⟩ with ⟨h1, h2, h3⟩ | ⟨j, e0, a, h1, h2, h3, h4, h5⟩
  · refine ⟨setBlock w r (.map (es.push ⟨ek x, ev v, clock⟩) (clock + 1)), by simp [Instr.mapUpdate, run_underlying ht, MapKept.run_getObj_map hb, K.check w false hl, h1, MapKept.run_setObj_map _ hb, Result.andThen, setBlock], ⟨_, _, heap_setBlock_same hb _, ?_, F.push ⟨l, hl⟩ h3⟩, Turn.setBlock hb _⟩
    simp [cnt, h2, hs]
  · have hj : es[j]? = some e0 := by simpa using h3
    refine ⟨setBlock w r (.map (es.modify j fun e => { e with key := ek x, val := ev v }) clock), by simp [Instr.mapUpdate, run_underlying ht, MapKept.run_getObj_map hb, K.check w false hl, h1, hj, h4, K.stays w hl, MapKept.run_setObj_map _ hb, Result.andThen, setBlock], ⟨_, _, heap_setBlock_same hb _, ?_, F.set hI h3 h4⟩, Turn.setBlock hb _⟩
    simp [cnt, h2, hs]

/-- 'm[k] op= v': the entry, and its store. -/
theorem MapF.entry_ [DecidableEq κ] {t e : TypeId} {x : κ} {z : α} (h : MapF ek ev P kt w r f n) (hI : Inj ek) (K : Keyed P kt) (ht : P.underlying t = some (.map kt e)) (hz : (zeroValue e).run P w = .ok (ev z) w) (hx : Good P kt (ek x)) :
    ∃ w1 st, (Instr.mapEntry t (.map (some r)) (ek x)).run P w = .ok (.tuple #[ev ((f x).getD z), .int .i64 st]) w1 ∧ Turn w w1 r ∧ MapF ek ev P kt w1 r (setF f x ((f x).getD z)) (cnt f x n) ∧
      ∀ (t' : TypeId) (w2 : World) (v : α), w2.heap[r]? = w1.heap[r]? → ∃ w3, (Instr.entryStore t' (.map (some r)) (.int .i64 st) (ev v)).run P w2 = .ok () w3 ∧ MapF ek ev P kt w3 r (setF f x v) (cnt f x n) ∧ Turn w2 w3 r := by
  obtain ⟨es, clock, hb, hs, F⟩ := h
  obtain ⟨l, hl⟩ := hx
  -- what is stored at the entry that bears the stamp
  have store : ∀ (es1 : Array MapEntry) (c1 : Nat) (g : κ → Option α) (j : Nat) (e1 : MapEntry), MEnt ek ev P kt es1 c1 g → es1.toList[j]? = some e1 → e1.key = ek x → ∀ (t' : TypeId) (w2 : World) (v : α), w2.heap[r]? = some (.map es1 c1) →
      ∃ w3, (Instr.entryStore t' (.map (some r)) (.int .i64 (e1.born : Int)) (ev v)).run P w2 = .ok () w3 ∧ MapF ek ev P kt w3 r (setF g x v) es1.size ∧ Turn w2 w3 r := by
    intro es1 c1 g j e1 G hj hk t' w2 v hw2
    have hj' : es1[j]? = some e1 := by simpa using hj
    obtain ⟨hjl, hje⟩ := List.getElem?_eq_some_iff.1 hj
    have hjs : j < es1.size := by simpa using hjl
    have hf : es1.findIdx? (fun e => (e.born : Int) == (e1.born : Int)) = some j := by
      rw [Array.findIdx?_eq_some_iff_getElem]
      refine ⟨hjs, ?_, fun i hi => ?_⟩
      · have : es1[j] = e1 := by rw [Array.getElem?_eq_getElem hjs] at hj'; exact Option.some.inj hj'
        simp [this]
      · intro hb2
        have he1 : es1[j] = e1 := by rw [Array.getElem?_eq_getElem hjs] at hj'; exact Option.some.inj hj'
        have hil : i < es1.size := by omega
        have hb3 : es1[i].born = e1.born := by have := hb2; simp only [beq_iff_eq] at this; omega
        have := nodup_idx G.bnd (i := i) (j := j) (by simpa using hil) (by simpa using hjs) (by simp only [List.getElem_map, Array.getElem_toList]; rw [he1, hb3])
        omega
    have hset := G.set hI (v := v) hj hk
    have hmod : (es1.modify j fun e => { e with val := ev v }) = es1.modify j fun e => { e with key := ek x, val := ev v } := by
      apply Array.toList_inj.1
      rw [Array.toList_modify, Array.toList_modify, modify_set _ hj, modify_set _ hj]
      congr 1
      rw [← hk]
    refine ⟨setBlock w2 r (.map (es1.modify j fun e => { e with val := ev v }) c1), ?_, ⟨_, _, heap_setBlock_same hw2 _, by simp, by rw [hmod]; exact hset⟩, Turn.setBlock hw2 _⟩
    simp [Instr.entryStore, MapKept.run_getObj_map hw2, asInt, asIntOf, hf, MapKept.run_setObj_map _ hw2, Result.andThen, setBlock]
  rcases F.look hI K w ⟨l, hl⟩ with ⟨h1, h2, h3⟩ | ⟨j, e0, a, h1, h2, h3, h4, h5⟩
  · have F1 := F.push (v := z) ⟨l, hl⟩ h3
    refine ⟨setBlock w r (.map (es.push ⟨ek x, ev z, clock⟩) (clock + 1)), (clock : Int), by simp [Instr.mapEntry, run_underlying ht, MapKept.run_getObj_map hb, K.check w false hl, h1, h2, hz, MapKept.run_setObj_map _ hb, Result.andThen, setBlock, goInt], Turn.setBlock hb _, ⟨_, _, heap_setBlock_same hb _, by simp [cnt, h2, hs], by rw [h2]; exact F1⟩, fun t' w2 v hw2 => ?_⟩
    rw [heap_setBlock_same hb] at hw2
    obtain ⟨w3, hr, hm, ht3⟩ := store _ _ _ es.size ⟨ek x, ev z, clock⟩ F1 (by simp) rfl t' w2 v hw2
    refine ⟨w3, hr, ?_, ht3⟩
    have e1 : setF (setF f x z) x v = setF f x v := by funext y; unfold setF; split <;> rfl
    rw [e1] at hm
    simpa [cnt, h2, hs] using hm
  · have hj : es[j]? = some e0 := by simpa using h3
    have F1 := F.set hI (v := a) h3 h4
    have hmod : (es.modify j fun e => { e with key := ek x }) = es.modify j fun e => { e with key := ek x, val := ev a } := by
      apply Array.toList_inj.1
      rw [Array.toList_modify, Array.toList_modify, modify_set _ h3, modify_set _ h3]
      congr 1
      rw [← h5]
    refine ⟨setBlock w r (.map (es.modify j fun e => { e with key := ek x }) clock), (e0.born : Int), by simp [Instr.mapEntry, run_underlying ht, MapKept.run_getObj_map hb, K.check w false hl, h1, hj, h2, h4, K.stays w hl, MapKept.run_setObj_map _ hb, Result.andThen, setBlock, goInt], Turn.setBlock hb _, ⟨_, _, heap_setBlock_same hb _, by simp [cnt, h2, hs], by rw [h2, hmod]; exact F1⟩, fun t' w2 v hw2 => ?_⟩
    rw [heap_setBlock_same hb, hmod] at hw2
    have hnj : (es.modify j fun e => { e with key := ek x, val := ev a }).toList[j]? = some { e0 with key := ek x, val := ev a } := by
      rw [Array.toList_modify, modify_set _ h3, List.getElem?_set, if_pos rfl, if_pos (List.getElem?_eq_some_iff.1 h3).1]
    obtain ⟨w3, hr, hm, ht3⟩ := store _ _ _ j { e0 with key := ek x, val := ev a } F1 hnj rfl t' w2 v hw2
    refine ⟨w3, hr, ?_, ht3⟩
    have e1 : setF (setF f x a) x v = setF f x v := by funext y; unfold setF; split <;> rfl
    rw [e1] at hm
    simpa [cnt, h2, hs] using hm

theorem MEnt.del [DecidableEq κ] {es : Array MapEntry} {clock : Nat} (F : MEnt ek ev P kt es clock f) (hI : Inj ek) {j : Nat} {e0 : MapEntry} {x : κ} (hj : es.toList[j]? = some e0) (hk : e0.key = ek x) :
    MEnt ek ev P kt (es.eraseIdxIfInBounds j) clock (delF f x) := by
  have hjs : j < es.size := by simpa using (List.getElem?_eq_some_iff.1 hj).1
  have hl : (es.eraseIdxIfInBounds j).toList = es.toList.eraseIdx j := by
    unfold Array.eraseIdxIfInBounds
    rw [dif_pos hjs]
    simp
  have hsub : ∀ e ∈ es.toList.eraseIdx j, e ∈ es.toList := fun e he => (List.eraseIdx_sublist _ _).subset he
  have hne : ∀ e ∈ es.toList.eraseIdx j, e.key ≠ ek x := fun e he hex => by
    obtain ⟨i, hi⟩ := List.mem_iff_getElem?.1 he
    rw [List.getElem?_eraseIdx] at hi
    split at hi
    · obtain ⟨h1, h2⟩ := List.getElem?_eq_some_iff.1 hi
      obtain ⟨h3, h4⟩ := List.getElem?_eq_some_iff.1 hj
      have := nodup_idx F.knd (i := i) (j := j) (by simpa using h1) (by simpa using h3) (by simp only [List.getElem_map]; rw [h2, h4, hex, hk])
      omega
    · obtain ⟨h1, h2⟩ := List.getElem?_eq_some_iff.1 hi
      obtain ⟨h3, h4⟩ := List.getElem?_eq_some_iff.1 hj
      have := nodup_idx F.knd (i := i + 1) (j := j) (by simpa using h1) (by simpa using h3) (by simp only [List.getElem_map]; rw [h2, h4, hex, hk])
      omega
  refine ⟨?_, ?_, ?_, ?_, ?_, ?_⟩
  · rw [hl]; exact fun e he => F.good e (hsub e he)
  · rw [hl]; exact fun e he => F.born e (hsub e he)
  · rw [hl]; exact F.bnd.sublist ((List.eraseIdx_sublist _ _).map _)
  · rw [hl]; exact F.knd.sublist ((List.eraseIdx_sublist _ _).map _)
  · rw [hl]
    intro e he
    obtain ⟨k, a, e1, e2, e3⟩ := F.fn1 e (hsub e he)
    refine ⟨k, a, e1, e2, ?_⟩
    unfold delF
    rw [if_neg (fun hh : k = x => hne e he (by rw [e1, hh]))]
    exact e3
  · rw [hl]
    intro k a hka
    unfold delF at hka
    by_cases hkx : k = x
    · rw [if_pos hkx] at hka; cases hka
    · rw [if_neg hkx] at hka
      obtain ⟨e, he, e1, e2⟩ := F.fn2 k a hka
      refine ⟨e, ?_, e1, e2⟩
      obtain ⟨i, hi⟩ := List.mem_iff_getElem?.1 he
      have hij : i ≠ j := fun h => by
        subst h
        rw [hj] at hi
        injection hi with hi
        subst hi
        exact hkx (hI _ _ (e1.symm.trans hk))
      refine List.mem_iff_getElem?.2 ?_
      by_cases hlt : i < j
      · exact ⟨i, by rw [List.getElem?_eraseIdx, if_pos hlt]; exact hi⟩
      · exact ⟨i - 1, by rw [List.getElem?_eraseIdx, if_neg (by omega), show i - 1 + 1 = i from by omega]; exact hi⟩
end Go.Proofs.Ytgeciimakjfnfaa

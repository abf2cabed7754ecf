import Derived.WalkKit
import Derived.WalkSpells
import Derived.Deep.QuietTactic
import Derived.BigQuiet
import Derived.Lib.Hide
import Derived.Maps.AppendAt
import Derived.Deep.AppendLies
import Derived.Deep.Draws
namespace Go.Proofs.Ytgeciimakjfnfaa
open Go.RowKit

/-- A fact, hidden. -/
theorem q9 {p : Prop} (h : p) : Hid p := h

theorem ret_int {k : IntKind} {a b : Int} (h : a = b) : Ending.returned (.int k a) = .returned (.int k b) := by rw [h]
theorem ret_bool {a b : Bool} (h : a = b) : Ending.returned (.bool a) = .returned (.bool b) := by rw [h]

/-- The cells behind A hold the values xs. -/
def SL (w : World) (A : Option Addr) (xs : List Value) : Prop :=
  ∀ j u, xs[j]? = some u → ∃ b o, A = some ⟨b, o, none⟩ ∧ b < w.heap.size ∧ w.cell? ⟨b, o + j, none⟩ = some u

section
variable {w w' : World} {A : Option Addr} {xs : List Value}
theorem SL.nil_ : SL w A [] := fun j u h => by simp at h
theorem SL.keep (h : SL w A xs) (hz : w.heap.size ≤ w'.heap.size) (hk : ∀ p : Addr, p.block < w.heap.size → w'.cell? p = w.cell? p) : SL w' A xs := fun j u hu => by
  obtain ⟨b, o, e, hb, hc⟩ := h j u hu
  exact ⟨b, o, e, by omega, by rw [hk _ hb]; exact hc⟩
theorem SL.below (h : SL w A xs) (hb : Below w.heap.size w w') : SL w' A xs := h.keep hb.size fun _ hp => hb.cell hp
theorem SL.drewN (h : SL w A xs) (k : Nat) : SL (w.drewN k) A xs := h
theorem SL.drew (h : SL w A xs) : SL w.drew A xs := h
theorem SL.alloc (h : SL w A xs) (o : Obj) : SL (w.alloc o) A xs := h.keep (by simp) fun p hp => World.cell?_alloc_lt w o p hp
theorem SL.at_ {k : Nat} (h : SL w A xs) (hk : k < xs.length) : ∃ b o, A = some ⟨b, o, none⟩ ∧ b < w.heap.size ∧ w.cell? ⟨b, o + k, none⟩ = some xs[k] := h k _ (List.getElem?_eq_getElem hk)
theorem SL.two {j k : Nat} {u v : Value} {b o : Nat} (h : SL w (some ⟨b, o, none⟩) xs) (_hj : xs[j]? = some u) (hk : xs[k]? = some v) : w.cell? ⟨b, o + k, none⟩ = some v := by
  obtain ⟨b', o', e, _, hc⟩ := h k v hk
  injection e with e
  injection e with e1 e2
  subst e1 e2
  exact hc
theorem SL.of_own {base : Nat} {e : TypeId} {n size c : Nat} (h : w.ownsRow base e size (.slice A n c) n xs) : SL w A xs := fun j u hu => by
  have hlt : 0 < n := by
    rcases Nat.eq_zero_or_pos n with h0 | h0
    · have := h.1
      subst h0
      have hx : xs = [] := List.eq_nil_of_length_eq_zero (by omega)
      subst hx
      simp at hu
    · exact h0
  obtain ⟨g, cap, hv, _, hg⟩ := h.form hlt
  have hA : A = some ⟨g, 0, none⟩ := by injection hv
  subst hA
  have hc := h.cells (g := g) rfl j u hu
  rw [Addr.add_lit] at hc
  exact ⟨g, 0, rfl, hg, hc⟩
end

/-- Only draws lie between. -/
def Qt (w w' : World) : Prop := ∃ n, w' = w.drewN n
theorem Qt.refl (w : World) : Qt w w := ⟨0, rfl⟩
theorem Qt.drewN {w w1 : World} (h : Qt w w1) (k : Nat) : Qt w (w1.drewN k) := by obtain ⟨n, rfl⟩ := h; exact ⟨n + k, by rw [World.drewN_drewN]⟩
theorem Qt.trans {a b c : World} (h : Qt a b) (k : Qt b c) : Qt a c := by obtain ⟨n, rfl⟩ := k; exact h.drewN n
theorem below_drewN {B : Nat} {a w : World} (h : Below B a w) (n : Nat) : Below B a (w.drewN n) := ⟨h.os, h.tape, h.output, h.size, h.block⟩
theorem Qt.below {w w' : World} (h : Qt w w') (B : Nat) : Below B w w' := by obtain ⟨n, rfl⟩ := h; exact below_drewN (Below.refl _ _) n

/-- The ints of a slice. -/
def SI (w : World) (A : Option Addr) (zs : List Int) : Prop := SL w A (zs.map (Value.int .i64))

section
variable {w w' : World} {A : Option Addr} {zs : List Int}
theorem SI.below (h : SI w A zs) (hb : Below w.heap.size w w') : SI w' A zs := SL.below h hb
theorem SI.drewN (h : SI w A zs) (k : Nat) : SI (w.drewN k) A zs := h
theorem SI.qt (h : SI w A zs) (hq : Qt w w') : SI w' A zs := by obtain ⟨n, rfl⟩ := hq; exact h
theorem SI.drew (h : SI w A zs) : SI w.drew A zs := h
theorem SI.alloc (h : SI w A zs) (o : Obj) : SI (w.alloc o) A zs := SL.alloc h o
theorem SI.get {k : Nat} (h : SI w A zs) (hk : k < zs.length) : ∃ b o x, A = some ⟨b, o, none⟩ ∧ w.cell? ⟨b, o + k, none⟩ = some (.int .i64 x) ∧ Hid (zs[k]? = some x) := by
  obtain ⟨b, o, e, _, hc⟩ := SL.at_ h (k := k) (by simpa using hk)
  exact ⟨b, o, zs[k], e, by rw [hc]; simp, List.getElem?_eq_getElem hk⟩
theorem SI.at_ {k : Nat} (h : SI w A zs) (hk : k < zs.length) : ∃ b o, A = some ⟨b, o, none⟩ ∧ w.cell? ⟨b, o + k, none⟩ = some (.int .i64 zs[k]) := by
  obtain ⟨b, o, e, _, hc⟩ := SL.at_ h (k := k) (by simpa using hk)
  exact ⟨b, o, e, by rw [hc]; simp⟩
end

/-- Block g is just the cells cs. -/
def Bk (w : World) (g : Nat) (t : TypeId) (cs : Array Value) : Prop := w.heap[g]? = some (.cells cs t (0, 0))
section
variable {w w' : World} {g : Nat} {t : TypeId} {cs : Array Value}
theorem Bk.lt (h : Bk w g t cs) : g < w.heap.size := by
  rcases Nat.lt_or_ge g w.heap.size with hlt | hge
  · exact hlt
  · unfold Bk at h; rw [Array.getElem?_eq_none hge] at h; cases h
theorem Bk.cell (h : Bk w g t cs) (i : Nat) : w.cell? ⟨g, i, none⟩ = cs[i]? := cell_of_row w g i cs t (0, 0) h
theorem Bk.frozen (h : Bk w g t cs) (i : Nat) : w.frozen? ⟨g, i, none⟩ = false := by
  unfold Bk at h
  simp [World.frozen?, h]
theorem Bk.new (w : World) (t : TypeId) (cs : Array Value) : Bk (w.alloc (.cells cs t)) w.heap.size t cs := heap_alloc_new w _
theorem Bk.new' (w : World) (t : TypeId) (cs : Array Value) {g : Nat} (h : w.heap.size = g) : Bk (w.alloc (.cells cs t)) g t cs := h ▸ Bk.new w t cs
theorem Bk.drewN (h : Bk w g t cs) (n : Nat) : Bk (w.drewN n) g t cs := h
theorem Bk.alloc (h : Bk w g t cs) (o : Obj) : Bk (w.alloc o) g t cs := (Below.heap_alloc w o g h.lt).trans h
theorem Bk.set_ (h : Bk w g t cs) (i : Nat) (u : Value) : Bk (w.setCell ⟨g, i, none⟩ u) g t (cs.setIfInBounds i u) := by
  unfold Bk at h ⊢
  simp [World.setCell, Array.getElem?_modify, h]
theorem Bk.far (h : Bk w g t cs) {p : Addr} (hp : g ≠ p.block) (u : Value) : Bk (w.setCell p u) g t cs := (Below.heap_setCell w p u g hp).trans h
theorem Bk.below {B : Nat} (h : Bk w g t cs) (hb : Below B w w') (hg : g < B) : Bk w' g t cs := (hb.block g hg).trans h
theorem Bk.grown {row : Option Nat} (h : Bk w g t cs) (hb : w.grownBy w' row) (hg : some g ≠ row) : Bk w' g t cs := (hb.block g h.lt hg).trans h
theorem Bk.ne_ {g' : Nat} {t' : TypeId} {cs' : Array Value} (h : Bk w g t cs) (h' : Bk w g' t' cs') (hne : t ≠ t') : g ≠ g' := by
  rintro rfl
  unfold Bk at h h'
  rw [h] at h'
  injection h' with h'
  injection h' with _ ht
  exact hne ht
theorem Bk.ne_own {base : Nat} {e : TypeId} {size n : Nat} {v : Value} {xs : List Value} (hg : Bk w g t cs) (h : w.ownsRow base e size v n xs) (hne : e ≠ t) : some g ≠ v.ownBlock := by
  rcases h.2 with ⟨rfl, _⟩ | ⟨g', cap, cur, rfl, _, hh, _⟩
  · simp [Value.ownBlock]
  · intro he
    have : g' = g := by simpa [Value.ownBlock] using he.symm
    subst this
    exact Bk.ne_ (t := e) hh hg hne rfl
end

/-- Two rows of different element types never share a block. -/
theorem own_ne {w : World} {base base' : Nat} {e e' : TypeId} {size size' n n' : Nat} {v v' : Value} {xs xs' : List Value} (h : w.ownsRow base e size v n xs) (h' : w.ownsRow base' e' size' v' n' xs') (hne : e ≠ e') :
    v.ownBlock = none ∨ v.ownBlock ≠ v'.ownBlock := by
  rcases h.2 with ⟨rfl, _⟩ | ⟨g, cap, cur, rfl, _, hg, _⟩
  · exact .inl rfl
  · rcases h'.2 with ⟨rfl, _⟩ | ⟨g', cap', cur', rfl, _, hg', _⟩
    · exact .inr (by simp [Value.ownBlock])
    · refine .inr fun he => ?_
      have : g = g' := by simpa [Value.ownBlock] using he
      subst this
      rw [hg] at hg'
      injection hg' with hg'
      injection hg' with _ ht
      exact hne ht

theorem filter_lt {β : Type} [DecidableEq β] {p q : β → Bool} {g : β} : ∀ (l : List β), (∀ i ∈ l, p i = true → q i = true) → g ∈ l → q g = true → p g = false → (l.filter p).length < (l.filter q).length
  | [], _, hg, _, _ => by simp at hg
  | i :: l, h, hg, h1, h2 => by
    have hle : (l.filter p).length ≤ (l.filter q).length := by
      have hm : ∀ i ∈ l, p i = true → q i = true := fun j hj => h j (by simp [hj])
      clear h hg
      induction l with
      | nil => simp
      | cons j l ih =>
        have ih := ih fun i hi => hm i (by simp [hi])
        have := hm j (by simp)
        simp only [List.filter_cons]
        split <;> split <;> simp_all <;> omega
    by_cases e : i = g
    · subst e; simp only [List.filter_cons, h1, h2]; simp; omega
    · have ih := filter_lt l (fun j hj => h j (by simp [hj])) (by simpa [Ne.symm e] using hg) h1 h2
      have := h i (by simp)
      simp only [List.filter_cons]
      split <;> split <;> simp_all <;> omega

/-- A slice type t with elements of type e. -/
def Elt (P : Program) (t e : TypeId) (z : Value) (size bytes : Nat) : Prop :=
  P.underlying t = some (.slice e) ∧ 0 < size ∧ bytes ≤ 64 ∧ z.cells.size = size ∧ ∃ i, P.info? e = some i ∧ i.zero = some z ∧ i.size = size ∧ i.bytes = bytes

theorem Elt.mk' {P : Program} {t e : TypeId} {z : Value} {size bytes : Nat} (ht : P.underlying t = some (.slice e)) (hi : (P.info? e).map (fun i => (i.zero, i.size, i.bytes)) = some (some z, size, bytes))
    (hs : 0 < size) (hb : bytes ≤ 64) (hz : z.cells.size = size) : Elt P t e z size bytes := by
  obtain ⟨i, h1, h2, h3, h4⟩ := info_parts hi
  exact ⟨ht, hs, hb, hz, i, h1, h2, h3, h4⟩

theorem all_one {us : List Value} (h : us.all (·.oneCell') = true) : ∀ u ∈ us, u.oneCell' = true := by simpa using h

theorem cells_new (w : World) (us : List Value) (e : TypeId) : ∀ j u, us[j]? = some u → (w.alloc (.cells us.toArray e)).cell? ((⟨w.heap.size, 0, none⟩ : Addr).add j) = some u := fun j u hu => by
  have hadd : (⟨w.heap.size, 0, none⟩ : Addr).add j = ⟨w.heap.size, j, none⟩ := by unfold Addr.add; split <;> simp_all
  rw [hadd, cell_of_row _ w.heap.size j us.toArray e (0, 0) (heap_alloc_new w _)]
  simpa using hu

/-- append of one element, laid in a new block, onto a slice of the call's own. -/
theorem wpList_app1 {P : Program} {ops : Array Oper} {rest : List Oper} {o : Oper} {a : Act} {Q : Exit → Act → World → Prop} {w w0 : World} {us xs : List Value} {e t : TypeId} {z : Value} {size bytes n : Nat} {v : Value}
    (hgd : o.guard = none) (s x : Operand) (ho : o.op = .call { callee := .builtin .append, args := #[s, x], argTypes := #[t, t] }) (hE : Elt P t e z size bytes)
    (hown : w.ownsRow w0.heap.size e size v n xs) (hb : Below w0.heap.size w0 w) (hs : a.eval s = v) {H : Nat} (hx : a.eval x = .slice (some ⟨H, 0, none⟩) 1 1) (hH : w.heap.size = H)
    (hl : us.length = size) (h1 : us.all (·.oneCell') = true) (hn : n < 1099511627776)
    (h : ∀ v' w1, w1.ownsRow w0.heap.size e size v' (n + 1) (xs ++ us) → Below w0.heap.size w0 w1 → w.grownBy w1 v.ownBlock → (v'.ownBlock = v.ownBlock ∨ v'.ownBlock = some (w.heap.size + 1)) → w.heap.size + 1 ≤ w1.heap.size →
      wpList P ops Q rest (a.put o.dst v') w1) : wpList P ops Q (o :: rest) a (w.alloc (.cells us.toArray e)) := by
  obtain ⟨ht, hsz, hby, hzs, i, hi, hz, hs1, hb1⟩ := hE
  subst hH
  refine wpList_plain hgd fun K hK => ?_
  have hmul : (n + 1) * bytes ≤ 140737488355328 := by
    have := Nat.mul_le_mul (show n + 1 ≤ 1099511627776 from hn) hby
    omega
  have hbs := hb.size
  obtain ⟨v', w1, hrun, hown1, hgr, _, hat⟩ := run_append_own_at (P := P) (w.alloc (.cells us.toArray e)) w0.heap.size t o.type e i z size bytes ht hi hz hs1 hb1 hzs hsz v n xs (hown.alloc _) ⟨w.heap.size, 0, none⟩ 1 1 us (by simpa using hl) (cells_new w us e) (all_one h1) (by unfold maxLen; omega) hmul (by simp; omega)
  have hg : w.grownBy w1 v.ownBlock := ⟨hgr.os, hgr.tape, hgr.output, by have := hgr.size; simp at this; omega, fun k hk hne => (hgr.block k (by simp; omega) hne).trans (Below.heap_alloc w _ k hk)⟩
  unfold Oper.wp execOp
  simp only [ho, resolve, invoke, builtin, Sem.run_bind, Sem.run_pure, Result.andThen_ok, List.map_toArray, List.map_cons, List.map_nil, hs, hx, hrun]
  refine hK _ _ (h v' w1 hown1 (hb.grown hg hbs fun k hk => (hown.lt k hk).1) hg (by simpa using hat) (by have := hgr.size; simpa using this))
end Go.Proofs.Ytgeciimakjfnfaa

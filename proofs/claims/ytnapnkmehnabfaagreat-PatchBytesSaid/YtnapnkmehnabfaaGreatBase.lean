import Derived.WalkKit
import Derived.WalkSpells
import Derived.Deep.QuietTactic
import Derived.BigQuiet
import Derived.Lib.Hide
import Derived.Maps.AppendAt
import Derived.Deep.AppendLies
import Derived.Deep.Draws
namespace Go.Proofs.YtnapnkmehnabfaaGreat
open Go.RowKit
theorem q9 {p : Prop} (h : p) : Hid p := h
theorem ret_int {k : IntKind} {a b : Int} (h : a = b) : Ending.returned (.int k a) = .returned (.int k b) := by rw [h]
theorem ret_bool {a b : Bool} (h : a = b) : Ending.returned (.bool a) = .returned (.bool b) := by rw [h]
def SL (w : World) (A : Option Addr) (xs : List Value) : Prop :=
 ∀ j u, xs[j]? = some u → ∃ b o, A = some ⟨b, o, none⟩ ∧ b < w.heap.size ∧ w.cell? ⟨b, o + j, none⟩ = some u
section
variable {w w' : World} {A : Option Addr} {xs : List Value}
theorem SL.nil_ : SL w A [] := fun j u h => by simp at h
theorem SL.keep (h : SL w A xs) (hz : w.heap.size ≤ w'.heap.size) (hk : ∀ p : Addr, p.block < w.heap.size → w'.cell? p = w.cell? p) : SL w' A xs := fun j u hu => by
 obtain ⟨b, o, e, hb, hc⟩ := h j u hu;exact ⟨b, o, e, by omega, by rw [hk _ hb]; exact hc⟩
theorem SL.below (h : SL w A xs) (hb : Below w.heap.size w w') : SL w' A xs := h.keep hb.size fun _ hp => hb.cell hp
theorem SL.at_ {k : Nat} (h : SL w A xs) (hk : k < xs.length) : ∃ b o, A = some ⟨b, o, none⟩ ∧ b < w.heap.size ∧ w.cell? ⟨b, o + k, none⟩ = some xs[k] := h k _ (List.getElem?_eq_getElem hk)
theorem SL.two {j k : Nat} {u v : Value} {b o : Nat} (h : SL w (some ⟨b, o, none⟩) xs) (_hj : xs[j]? = some u) (hk : xs[k]? = some v) : w.cell? ⟨b, o + k, none⟩ = some v := by
 obtain ⟨b', o', e, _, hc⟩ := h k v hk;injection e with e;injection e with e1 e2;subst e1 e2;exact hc
theorem SL.of_own {base : Nat} {e : TypeId} {n size c : Nat} (h : w.ownsRow base e size (.slice A n c) n xs) : SL w A xs := fun j u hu => by
 have hlt : 0 < n := by
  rcases Nat.eq_zero_or_pos n with h0 | h0
  ·have := h.1;subst h0;have hx : xs = [] := List.eq_nil_of_length_eq_zero (by omega);subst hx;simp at hu
  exact h0
 obtain ⟨g, cap, hv, _, hg⟩ := h.form hlt;have hA : A = some ⟨g, 0, none⟩ := by injection hv
 subst hA;have hc := h.cells (g := g) rfl j u hu;rw [Addr.add_lit] at hc;exact ⟨g, 0, rfl, hg, hc⟩
end
def Qt (w w' : World) : Prop := ∃ n, w' = w.drewN n
theorem Qt.refl (w : World) : Qt w w := ⟨0, rfl⟩
theorem Qt.drewN {w w1 : World} (h : Qt w w1) (k : Nat) : Qt w (w1.drewN k) := by obtain ⟨n, rfl⟩ := h; exact ⟨n + k, by rw [World.drewN_drewN]⟩
theorem below_drewN {B : Nat} {a w : World} (h : Below B a w) (n : Nat) : Below B a (w.drewN n) := ⟨h.os, h.tape, h.output, h.size, h.block⟩
def SI (w : World) (A : Option Addr) (zs : List Int) : Prop := SL w A (zs.map (Value.int .i64))
section
variable {w w' : World} {A : Option Addr} {zs : List Int}
theorem SI.below (h : SI w A zs) (hb : Below w.heap.size w w') : SI w' A zs := SL.below h hb
theorem SI.get {k : Nat} (h : SI w A zs) (hk : k < zs.length) : ∃ b o x, A = some ⟨b, o, none⟩ ∧ w.cell? ⟨b, o + k, none⟩ = some (.int .i64 x) ∧ Hid (zs[k]? = some x) := by
 obtain ⟨b, o, e, _, hc⟩ := SL.at_ h (k := k) (by simpa using hk);exact ⟨b, o, zs[k], e, by rw [hc]; simp, List.getElem?_eq_getElem hk⟩
theorem SI.at_ {k : Nat} (h : SI w A zs) (hk : k < zs.length) : ∃ b o, A = some ⟨b, o, none⟩ ∧ w.cell? ⟨b, o + k, none⟩ = some (.int .i64 zs[k]) := by
 obtain ⟨b, o, e, _, hc⟩ := SL.at_ h (k := k) (by simpa using hk);exact ⟨b, o, e, by rw [hc]; simp⟩
end
def Bk (w : World) (g : Nat) (t : TypeId) (cs : Array Value) : Prop := w.heap[g]? = some (.cells cs t (0, 0))
section
variable {w w' : World} {g : Nat} {t : TypeId} {cs : Array Value}
theorem Bk.lt (h : Bk w g t cs) : g < w.heap.size := by
 rcases Nat.lt_or_ge g w.heap.size with hlt | hge
 ·exact hlt
 unfold Bk at h; rw [Array.getElem?_eq_none hge] at h; cases h
theorem Bk.cell (h : Bk w g t cs) (i : Nat) : w.cell? ⟨g, i, none⟩ = cs[i]? := cell_of_row w g i cs t (0, 0) h
theorem Bk.frozen (h : Bk w g t cs) (i : Nat) : w.frozen? ⟨g, i, none⟩ = false := by
 unfold Bk at h;simp [World.frozen?, h]
theorem Bk.new (w : World) (t : TypeId) (cs : Array Value) : Bk (w.alloc (.cells cs t)) w.heap.size t cs := heap_alloc_new w _
theorem Bk.new' (w : World) (t : TypeId) (cs : Array Value) {g : Nat} (h : w.heap.size = g) : Bk (w.alloc (.cells cs t)) g t cs := h ▸ Bk.new w t cs
theorem Bk.alloc (h : Bk w g t cs) (o : Obj) : Bk (w.alloc o) g t cs := (Below.heap_alloc w o g h.lt).trans h
theorem Bk.set_ (h : Bk w g t cs) (i : Nat) (u : Value) : Bk (w.setCell ⟨g, i, none⟩ u) g t (cs.setIfInBounds i u) := by
 unfold Bk at h ⊢;simp [World.setCell, Array.getElem?_modify, h]
theorem Bk.far (h : Bk w g t cs) {p : Addr} (hp : g ≠ p.block) (u : Value) : Bk (w.setCell p u) g t cs := (Below.heap_setCell w p u g hp).trans h
theorem Bk.below {B : Nat} (h : Bk w g t cs) (hb : Below B w w') (hg : g < B) : Bk w' g t cs := (hb.block g hg).trans h
theorem Bk.grown {row : Option Nat} (h : Bk w g t cs) (hb : w.grownBy w' row) (hg : some g ≠ row) : Bk w' g t cs := (hb.block g h.lt hg).trans h
theorem Bk.ne_ {g' : Nat} {t' : TypeId} {cs' : Array Value} (h : Bk w g t cs) (h' : Bk w g' t' cs') (hne : t ≠ t') : g ≠ g' := by
 rintro rfl;unfold Bk at h h';rw [h] at h';injection h' with h';injection h' with _ ht;exact hne ht
theorem Bk.ne_own {base : Nat} {e : TypeId} {size n : Nat} {v : Value} {xs : List Value} (hg : Bk w g t cs) (h : w.ownsRow base e size v n xs) (hne : e ≠ t) : some g ≠ v.ownBlock := by
 rcases h.2 with ⟨rfl, _⟩ | ⟨g', cap, cur, rfl, _, hh, _⟩
 ·simp [Value.ownBlock]
 intro he;have : g' = g := by simpa [Value.ownBlock] using he.symm
 subst this;exact Bk.ne_ (t := e) hh hg hne rfl
end
theorem own_ne {w : World} {base base' : Nat} {e e' : TypeId} {size size' n n' : Nat} {v v' : Value} {xs xs' : List Value} (h : w.ownsRow base e size v n xs) (h' : w.ownsRow base' e' size' v' n' xs') (hne : e ≠ e') :
  v.ownBlock = none ∨ v.ownBlock ≠ v'.ownBlock := by
 rcases h.2 with ⟨rfl, _⟩ | ⟨g, cap, cur, rfl, _, hg, _⟩
 ·exact .inl rfl
 rcases h'.2 with ⟨rfl, _⟩ | ⟨g', cap', cur', rfl, _, hg', _⟩
 ·exact .inr (by simp [Value.ownBlock])
 refine .inr fun he => ?_;have : g = g' := by simpa [Value.ownBlock] using he
 subst this;rw [hg] at hg';injection hg' with hg';injection hg' with _ ht;exact hne ht
def Elt (P : Program) (t e : TypeId) (z : Value) (size bytes : Nat) : Prop :=
 P.underlying t = some (.slice e) ∧ 0 < size ∧ bytes ≤ 64 ∧ z.cells.size = size ∧ ∃ i, P.info? e = some i ∧ i.zero = some z ∧ i.size = size ∧ i.bytes = bytes
theorem Elt.mk' {P : Program} {t e : TypeId} {z : Value} {size bytes : Nat} (ht : P.underlying t = some (.slice e)) (hi : (P.info? e).map (fun i => (i.zero, i.size, i.bytes)) = some (some z, size, bytes))
  (hs : 0 < size) (hb : bytes ≤ 64) (hz : z.cells.size = size) : Elt P t e z size bytes := by
 obtain ⟨i, h1, h2, h3, h4⟩ := info_parts hi;exact ⟨ht, hs, hb, hz, i, h1, h2, h3, h4⟩
theorem all_one {us : List Value} (h : us.all (·.oneCell') = true) : ∀ u ∈ us, u.oneCell' = true := by simpa using h
theorem cells_new (w : World) (us : List Value) (e : TypeId) : ∀ j u, us[j]? = some u → (w.alloc (.cells us.toArray e)).cell? ((⟨w.heap.size, 0, none⟩ : Addr).add j) = some u := fun j u hu => by
 have hadd : (⟨w.heap.size, 0, none⟩ : Addr).add j = ⟨w.heap.size, j, none⟩ := by unfold Addr.add; split <;> simp_all
 rw [hadd, cell_of_row _ w.heap.size j us.toArray e (0, 0) (heap_alloc_new w _)];simpa using hu
end Go.Proofs.YtnapnkmehnabfaaGreat

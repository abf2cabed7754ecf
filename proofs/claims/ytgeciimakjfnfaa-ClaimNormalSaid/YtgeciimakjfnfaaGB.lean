import Derived.Below
import Derived.BigQuiet
import Derived.ChangeOld
import Derived.Deep.AppendLies
import Derived.Deep.Draws
import Derived.Deep.MidRow
import Derived.Deep.QuietTactic
import Derived.Deep.RegionHeld3
import Derived.Deep.RegionLaw
import Derived.Great.BuildSlice
import Derived.Laws.Bits64
import Derived.Laws.BitsAllLaws
import Derived.Laws.Cover3
import Derived.Laws.IdiomStrings
import Derived.Lib.AppendStr
import Derived.Lib.Hide
import Derived.Lib.Zigzag
import Derived.LoopIn
import Derived.LoopNIn
import Derived.Maps.AppendAt
import Derived.OpenShut
import Derived.OrdersHeld
import Derived.OwnWalkIn
import Derived.ProofKit
import Derived.RangeFuncBound
import Derived.RangeFuncBox
import Derived.RangeFuncCalls
import Derived.RangeFuncLeaves
import Derived.RangeFuncNested
import Derived.Shelf.Abstract
import Derived.ShutString
import Derived.StillTail
import Derived.TacticsInMore
import Derived.WalkKit
import Derived.WalkLawsBesides
import Derived.WalkSpells
import Derived.Test.YtgeciimakjfnfaaChecked
import Derived.Test.YtgeciimakjfnfaaBase
import Derived.Deep.Upon
import Derived.Deep.AppendSrc
import Derived.Deep.DeepCutAuto
import Derived.Lib.MinMax
namespace Go.Proofs.Ytgeciimakjfnfaa
open Go.RowKit

theorem Bk.qt {w w' : World} {g : Nat} {t : TypeId} {cs : Array Value} (h : Bk w g t cs) (hq : Qt w w') : Bk w' g t cs := by obtain ⟨m, rfl⟩ := hq; exact h
theorem cell_qt {w w' : World} {a : Addr} {v : Option Value} (h : w.cell? a = v) (hq : Qt w w') : w'.cell? a = v := by obtain ⟨m, rfl⟩ := hq; exact h
theorem own_qt {w w' : World} {base e size m : Nat} {v : Value} {xs : List Value} (h : w.ownsRow base e size v m xs) (hq : Qt w w') : w'.ownsRow base e size v m xs := by obtain ⟨m, rfl⟩ := hq; exact h
theorem SL.qt {w w' : World} {A : Option Addr} {xs : List Value} (h : SL w A xs) (hq : Qt w w') : SL w' A xs := by obtain ⟨m, rfl⟩ := hq; exact h
theorem Qt.bl {w w' a : World} {B : Nat} (hq : Qt w w') (h : Below B a w) : Below B a w' := by obtain ⟨m, rfl⟩ := hq; exact below_drewN h m
def around (n m : Int) : Int := (if n < 0 then -(n + 1) else n) % m
theorem around_bd (n m : Int) (hm : 1 ≤ m) : 0 ≤ around n m ∧ around n m < m := by
  unfold around; exact ⟨Int.emod_nonneg _ (by omega), Int.emod_lt_of_pos _ (by omega)⟩
theorem around_any (n m : Int) (w : World) (h0 : -9223372036854775808 ≤ n) (h1 : n ≤ 9223372036854775807) (hm : 1 ≤ m) (hm2 : m ≤ 9223372036854775807) :
    Calls Try.prog 26 #[.int .i64 n, .int .i64 m] w fun e w' => e = .returned (.int .i64 (around n m)) ∧ w = w' := by
  by_cases hn : n < 0
  · have hf : Hid ((-(n + 1)).tmod m = around n m) := by
      show _ = _
      rw [around, if_pos hn, Int.tmod_eq_emod_of_nonneg (by omega)]
    go_enter Try.func26, Try.ntmps26
    go_wp2
    go_ret
    exact ⟨ret_int (by rw [← hf.out]; simp), rfl⟩
  · have hn' : 0 ≤ n := by omega
    go_enter Try.func26, Try.ntmps26
    go_wp2
    go_ret
    exact ⟨ret_int (by rw [around, if_neg (by omega)]), rfl⟩
/-- All numbers are of 64 bits. -/
def W64 (zs : List Int) : Prop := ∀ z ∈ zs, -9223372036854775808 ≤ z ∧ z ≤ 9223372036854775807
theorem elt_int : Elt Try.prog 22 3 (.int .i64 0) 1 8 := Elt.mk' Try.underlying22 (by kernel_rfl) (by decide) (by decide) rfl
theorem getD_of {zs : List Int} {k : Nat} {x : Int} (h : zs[k]? = some x) : zs.getD k 0 = x := by simp [List.getD, h]
theorem own_below {w w' : World} {base : Nat} {e : TypeId} {n size : Nat} {v : Value} {xs : List Value} (h : w.ownsRow base e size v n xs) (hb : Below w.heap.size w w') : w'.ownsRow base e size v n xs := by
  refine ⟨h.1, ?_⟩
  rcases h.2 with hn | ⟨g, cap, cur, rfl, h1, hg, rest⟩
  · exact .inl hn
  · exact .inr ⟨g, cap, cur, rfl, h1, (hb.block g (Array.getElem?_eq_some_iff.1 hg).1).trans hg, rest⟩
theorem own_slice {w : World} {base : Nat} {e : TypeId} {n size : Nat} {v : Value} {xs : List Value} (h : w.ownsRow base e size v n xs) : ∃ A c, v = .slice A n c := by
  rcases h.2 with ⟨rfl, rfl⟩ | ⟨g, cap, cur, rfl, _⟩
  · exact ⟨_, _, rfl⟩
  · exact ⟨_, _, rfl⟩
/-- Ints and pairs of ints as keys. -/
def i64 (x : Int) : Prop := -9223372036854775808 ≤ x ∧ x ≤ 9223372036854775807
/-- A row of ints. -/
def rowI (l : List Int) : Array Value := (l.map (Value.int .i64)).toArray
theorem rowI_size (l : List Int) : (rowI l).size = l.length := by simp [rowI]
theorem rowI_get {l : List Int} {k : Nat} {x : Int} (h : l[k]? = some x) : (rowI l)[k]? = some (.int .i64 x) := by simp [rowI, h]
theorem own_row {w : World} {base g : Nat} {l : List Int} (h : Bk w g 3 (rowI l)) (hb : base ≤ g) (hl : l.length ≤ 1099511627776) : w.ownsRow base 3 1 (.slice (some ⟨g, 0, none⟩) l.length l.length) l.length (l.map (Value.int .i64)) :=
  ⟨by simp, .inr ⟨g, l.length, rowI l, rfl, hb, h, Nat.le_refl _, by unfold maxLen; omega, by simp [rowI], by simp [rowI, List.take_of_length_le]⟩⟩
theorem take_snoc' {α : Type} {l : List α} {k : Nat} {x : α} (h : l[k]? = some x) : l.take (k + 1) = l.take k ++ [x] := by
  rw [List.take_add_one, h]; rfl
/-- append of one element, laid in a new block, onto a slice of one's own. -/
theorem wpList_app2 {P : Program} {ops : Array Oper} {rest : List Oper} {o : Oper} {a : Act} {Q : Exit → Act → World → Prop} {w : World} {base : Nat} {us xs : List Value} {e t : TypeId} {z : Value} {size bytes n : Nat} {v : Value}
    (hgd : o.guard = none) (s x : Operand) (ho : o.op = .call { callee := .builtin .append, args := #[s, x], argTypes := #[t, t] }) (hE : Elt P t e z size bytes)
    (hown : w.ownsRow base e size v n xs) (hbs : base ≤ w.heap.size) (hs : a.eval s = v) {H : Nat} (hx : a.eval x = .slice (some ⟨H, 0, none⟩) 1 1) (hH : w.heap.size = H)
    (hl : us.length = size) (h1 : us.all (·.oneCell') = true) (hn : n < 1099511627776)
    (h : ∀ v' w1, w1.ownsRow base e size v' (n + 1) (xs ++ us) → w.grownBy w1 v.ownBlock → w.heap.size + 1 ≤ w1.heap.size →
      wpList P ops Q rest (a.put o.dst v') w1) : wpList P ops Q (o :: rest) a (w.alloc (.cells us.toArray e)) := by
  obtain ⟨ht, hsz, hby, hzs, i, hi, hz, hs1, hb1⟩ := hE
  subst hH
  refine wpList_plain hgd fun K hK => ?_
  have hmul : (n + 1) * bytes ≤ 140737488355328 := by
    have := Nat.mul_le_mul (show n + 1 ≤ 1099511627776 from hn) hby
    omega
  obtain ⟨v', w1, hrun, hown1, hgr, _, hat⟩ := run_append_own_at (P := P) (w.alloc (.cells us.toArray e)) base t o.type e i z size bytes ht hi hz hs1 hb1 hzs hsz v n xs (hown.alloc _) ⟨w.heap.size, 0, none⟩ 1 1 us (by simpa using hl) (cells_new w us e) (all_one h1) (by unfold maxLen; omega) hmul (by simp; omega)
  have hg : w.grownBy w1 v.ownBlock := ⟨hgr.os, hgr.tape, hgr.output, by have := hgr.size; simp at this; omega, fun k hk hne => (hgr.block k (by simp; omega) hne).trans (Below.heap_alloc w _ k hk)⟩
  unfold Oper.wp execOp
  simp only [ho, resolve, invoke, builtin, Sem.run_bind, Sem.run_pure, Result.andThen_ok, List.map_toArray, List.map_cons, List.map_nil, hs, hx, hrun]
  exact hK _ _ (h v' w1 hown1 hg (by have := hgr.size; simpa using this))
theorem own_grown {w w' : World} {base : Nat} {e : TypeId} {n size : Nat} {v : Value} {xs : List Value} {row : Option Nat} (h : w.ownsRow base e size v n xs) (hg : w.grownBy w' row) (hr : v.ownBlock = none ∨ v.ownBlock ≠ row) : w'.ownsRow base e size v n xs := by
  refine ⟨h.1, ?_⟩
  rcases h.2 with hn | ⟨g, cap, cur, rfl, h1, hgg, rest⟩
  · exact .inl hn
  · refine .inr ⟨g, cap, cur, rfl, h1, (hg.block g (Array.getElem?_eq_some_iff.1 hgg).1 ?_).trans hgg, rest⟩
    rcases hr with hr | hr
    · simp [Value.ownBlock] at hr
    · simpa [Value.ownBlock] using hr
theorem own_mono {w : World} {base base' : Nat} {e : TypeId} {n size : Nat} {v : Value} {xs : List Value} (h : w.ownsRow base e size v n xs) (hb : base' ≤ base) : w.ownsRow base' e size v n xs := by
  refine ⟨h.1, ?_⟩
  rcases h.2 with hn | ⟨g, cap, cur, rfl, h1, rest⟩
  · exact .inl hn
  · exact .inr ⟨g, cap, cur, rfl, by omega, rest⟩
theorem snoc_get {α : Type} {l : List α} {x y : α} {j : Nat} (h : (l ++ [x])[j]? = some y) : l[j]? = some y ∧ j < l.length ∨ j = l.length ∧ y = x := by
  rcases Nat.lt_trichotomy j l.length with hj | hj | hj
  · rw [List.getElem?_append_left hj] at h; exact .inl ⟨h, hj⟩
  · subst hj; rw [List.getElem?_append_right (Nat.le_refl _)] at h; simp at h; exact .inr ⟨rfl, h.symm⟩
  · rw [List.getElem?_append_right (by omega), List.getElem?_eq_none (by simp; omega)] at h; cases h
theorem si_row {w : World} {g : Nat} {l : List Int} (h : Bk w g 3 (rowI l)) (hl : l.length ≤ 1099511627776) : SI w (some ⟨g, 0, none⟩) l := SL.of_own (own_row h (Nat.zero_le _) hl)
theorem own_set {w : World} {base k i : Nat} {e : TypeId} {n size : Nat} {v : Value} {xs : List Value} (h : w.ownsRow base e size v n xs) (hr : some k ≠ v.ownBlock) (u : Value) : (w.setCell ⟨k, i, none⟩ u).ownsRow base e size v n xs := by
  refine ⟨h.1, ?_⟩
  rcases h.2 with hn | ⟨j, cap, cur, rfl, h1, hgg, rest⟩
  · exact .inl hn
  · refine .inr ⟨j, cap, cur, rfl, h1, (Below.heap_setCell w _ u j ?_).trans hgg, rest⟩
    rintro rfl
    simp [Value.ownBlock] at hr
theorem own_cap {w : World} {base n c : Nat} {e : TypeId} {A : Option Addr} {xs : List Value} {size : Nat} (h : w.ownsRow base e size (.slice A n c) n xs) : n ≤ c := by
  rcases h.2 with ⟨he, h0⟩ | ⟨g, cap, cur, he, _, _, hc, _⟩
  · omega
  · injection he with _ _ e3
    omega
theorem sl_bk {w : World} {g : Nat} {t : TypeId} {cs : Array Value} (h : Bk w g t cs) : SL w (some ⟨g, 0, none⟩) cs.toList := fun j u hu => by
  refine ⟨g, 0, rfl, h.lt, ?_⟩
  rw [Nat.zero_add, h.cell j]
  simpa using hu
theorem own_si {w : World} {base n c : Nat} {A : Option Addr} {l : List Int} (h : w.ownsRow base 3 1 (.slice A n c) n (l.map (Value.int .i64))) : SI w A l := SL.of_own h
theorem own_void8 {w : World} {base g : Nat} {e : TypeId} {size : Nat} (h : Bk w g e #[]) (hb : base ≤ g) : w.ownsRow base e size (.slice (some ⟨g, 0, none⟩) 0 0) 0 [] :=
  ⟨by simp, .inr ⟨g, 0, #[], rfl, hb, h, Nat.le_refl _, by unfold maxLen; omega, by simp, by simp⟩⟩
/-- append of a slice onto a slice of one's own. -/
theorem run_appM {P : Program} {w : World} {base : Nat} {us xs : List Value} {e t ty : TypeId} {z : Value} {size bytes n m c : Nat} {v : Value} {B : Option Addr} (hE : Elt P t e z size bytes) (hown : w.ownsRow base e size v n xs) (hbs : base ≤ w.heap.size)
    (hB : SL w B us) (hl : us.length = m * size) (h1 : us.all (·.oneCell') = true) (hn : n + m < 1099511627776) :
    ∃ v' w', (Builtin.append_ #[t, t] ty #[v, .slice B m c]).run P w = .ok v' w' ∧ w'.ownsRow base e size v' (n + m) (xs ++ us) ∧ w.grownBy w' v.ownBlock := by
  obtain ⟨ht, hsz, hby, hzs, i, hi, hz, hs1, hb1⟩ := hE
  have hmul : (n + m) * bytes ≤ 140737488355328 := by
    have := Nat.mul_le_mul (show n + m ≤ 1099511627776 by omega) hby
    omega
  cases B with
  | some ad =>
    have hc : ∀ j u, us[j]? = some u → w.cell? (ad.add j) = some u := fun j u hu => by
      obtain ⟨b, o, e1, _, hcell⟩ := hB j u hu
      injection e1 with e1
      subst e1
      rw [← hcell]
      unfold Addr.add
      split
      · rename_i h; subst h; rfl
      · rfl
    obtain ⟨v', w', hr, h2, h3, _, _⟩ := run_append_own_at (P := P) w base t ty e i z size bytes ht hi hz hs1 hb1 hzs hsz v n xs hown ad m c us hl hc (all_one h1) (by unfold maxLen; omega) hmul hbs
    exact ⟨v', w', hr, h2, h3⟩
  | none =>
    have hm : m = 0 := by
      rcases Nat.eq_zero_or_pos m with h | h
      · exact h
      · have hlt : 0 < us.length := by rw [hl]; exact Nat.mul_pos h hsz
        obtain ⟨b, o, e1, _⟩ := hB 0 us[0] (List.getElem?_eq_getElem hlt)
        cases e1
    subst hm
    have hus : us = [] := List.eq_nil_of_length_eq_zero (by omega)
    subst hus
    obtain ⟨A, c', rfl⟩ := own_slice hown
    have hr := run_append_nothing (P := P) w t t ty e i ht hi A n c' (own_cap hown) (.slice none 0 c) (Src.ofNil w ht c)
    exact ⟨_, w, hr, by simpa using hown, World.grownBy.refl _ _⟩
theorem wpList_appM {P : Program} {ops : Array Oper} {rest : List Oper} {o : Oper} {a : Act} {Q : Exit → Act → World → Prop} {w : World} {base : Nat} {us xs : List Value} {e t : TypeId} {z : Value} {size bytes n m c : Nat} {v : Value} {B : Option Addr}
    (hgd : o.guard = none) (s x : Operand) (ho : o.op = .call { callee := .builtin .append, args := #[s, x], argTypes := #[t, t] }) (hE : Elt P t e z size bytes)
    (hown : w.ownsRow base e size v n xs) (hbs : base ≤ w.heap.size) (hs : a.eval s = v) (hx : a.eval x = .slice B m c)
    (hB : SL w B us) (hl : us.length = m * size) (h1 : us.all (·.oneCell') = true) (hn : n + m < 1099511627776)
    (h : ∀ v' w1, w1.ownsRow base e size v' (n + m) (xs ++ us) → w.grownBy w1 v.ownBlock → wpList P ops Q rest (a.put o.dst v') w1) : wpList P ops Q (o :: rest) a w := by
  refine wpList_plain hgd fun K hK => ?_
  obtain ⟨v', w1, hrun, h2, h3⟩ := run_appM (P := P) (ty := o.type) hE hown hbs hB hl h1 hn
  unfold Oper.wp execOp
  simp only [ho, resolve, invoke, builtin, Sem.run_bind, Sem.run_pure, Result.andThen_ok, List.map_toArray, List.map_cons, List.map_nil, hs, hx]
  rw [hrun]
  exact hK _ _ (h v' w1 h2 h3)
theorem app_wpM {P : Program} {Q : Exit → Act → World → Prop} {o : Oper} {a : Act} {w : World} {K : Act → World → Prop} {base : Nat} {us xs : List Value} {e t : TypeId} {z : Value} {size bytes n m c : Nat} {v : Value} {B : Option Addr} (s x : Operand)
    (ho : o.op = .call { callee := .builtin .append, args := #[s, x], argTypes := #[t, t] }) (hE : Elt P t e z size bytes)
    (hown : w.ownsRow base e size v n xs) (hbs : base ≤ w.heap.size) (hs : a.eval s = v) (hx : a.eval x = .slice B m c)
    (hB : SL w B us) (hl : us.length = m * size) (h1 : us.all (·.oneCell') = true) (hn : n + m < 1099511627776)
    (h : ∀ v' w1, w1.ownsRow base e size v' (n + m) (xs ++ us) → w.grownBy w1 v.ownBlock → K (a.put o.dst v') w1) : Oper.wp P o a w K Q := by
  obtain ⟨v', w1, hrun, h2, h3⟩ := run_appM (P := P) (ty := o.type) hE hown hbs hB hl h1 hn
  unfold Oper.wp execOp
  simp only [ho, resolve, invoke, builtin, Sem.run_bind, Sem.run_pure, Result.andThen_ok, List.map_toArray, List.map_cons, List.map_nil, hs, hx]
  rw [hrun]
  exact h v' w1 h2 h3
/-- A cell of a row of one's own is written. -/
theorem own_put {w : World} {base g n c i : Nat} {e : TypeId} {size : Nat} {xs : List Value} (h : w.ownsRow base e size (.slice (some ⟨g, 0, none⟩) n c) n xs) (u : Value) :
    (w.setCell ⟨g, i, none⟩ u).ownsRow base e size (.slice (some ⟨g, 0, none⟩) n c) n (xs.set i u) := by
  refine ⟨by simpa using h.1, ?_⟩
  rcases h.2 with ⟨he, _⟩ | ⟨k, cap, cur, he, h1, hg, h2, h3, h4, h5⟩
  · cases he
  · injection he with e1 e2 e3
    injection e1 with e1
    injection e1 with e1
    subst e1 e3
    refine .inr ⟨g, c, cur.setIfInBounds i u, rfl, h1, Bk.set_ (t := e) hg i u, h2, h3, by simpa using h4, ?_⟩
    rw [Array.toList_setIfInBounds, ← h5, List.take_set]
theorem ints_all (l : List Int) : (l.map (Value.int .i64)).all (·.oneCell') = true := by
  rw [List.all_eq_true]
  intro u hu
  obtain ⟨x, _, rfl⟩ := List.mem_map.1 hu
  rfl
/-- A slice type t with elements of type e, of up to 1024 bytes. -/
def EltB (P : Program) (t e : TypeId) (z : Value) (size bytes : Nat) : Prop :=
  P.underlying t = some (.slice e) ∧ 0 < size ∧ bytes ≤ 1024 ∧ z.cells.size = size ∧ ∃ i, P.info? e = some i ∧ i.zero = some z ∧ i.size = size ∧ i.bytes = bytes
theorem EltB.mk' {P : Program} {t e : TypeId} {z : Value} {size bytes : Nat} (ht : P.underlying t = some (.slice e)) (hi : (P.info? e).map (fun i => (i.zero, i.size, i.bytes)) = some (some z, size, bytes))
    (hs : 0 < size) (hb : bytes ≤ 1024) (hz : z.cells.size = size) : EltB P t e z size bytes := by
  obtain ⟨i, h1, h2, h3, h4⟩ := info_parts hi
  exact ⟨ht, hs, hb, hz, i, h1, h2, h3, h4⟩
theorem Elt.big {P : Program} {t e : TypeId} {z : Value} {size bytes : Nat} (h : Elt P t e z size bytes) : EltB P t e z size bytes := by
  obtain ⟨ht, hs, hb, hz, i, h1⟩ := h
  exact ⟨ht, hs, by omega, hz, i, h1⟩
/-- append of one element, laid in a new block, onto a slice of one's own, with all that is known of the new slice. -/
theorem wpList_app3 {P : Program} {ops : Array Oper} {rest : List Oper} {o : Oper} {a : Act} {Q : Exit → Act → World → Prop} {w : World} {base : Nat} {us xs : List Value} {e t : TypeId} {z : Value} {size bytes n : Nat} {v : Value}
    (hgd : o.guard = none) (s x : Operand) (ho : o.op = .call { callee := .builtin .append, args := #[s, x], argTypes := #[t, t] }) (hE : EltB P t e z size bytes)
    (hown : w.ownsRow base e size v n xs) (hbs : base ≤ w.heap.size) (hs : a.eval s = v) {H : Nat} (hx : a.eval x = .slice (some ⟨H, 0, none⟩) 1 1) (hH : w.heap.size = H)
    (hl : us.length = size) (h1 : us.all (·.oneCell') = true) (hn : n < 1073741824)
    (h : ∀ v' w1, w1.ownsRow base e size v' (n + 1) (xs ++ us) → w.grownBy w1 v.ownBlock → (v'.ownBlock = v.ownBlock ∨ ∃ b, v'.ownBlock = some b ∧ w.heap.size ≤ b) → w.heap.size + 1 ≤ w1.heap.size →
      wpList P ops Q rest (a.put o.dst v') w1) : wpList P ops Q (o :: rest) a (w.alloc (.cells us.toArray e)) := by
  obtain ⟨ht, hsz, hby, hzs, i, hi, hz, hs1, hb1⟩ := hE
  subst hH
  refine wpList_plain hgd fun K hK => ?_
  have hmul : (n + 1) * bytes ≤ 140737488355328 := by
    have := Nat.mul_le_mul (show n + 1 ≤ 1073741824 from hn) hby
    omega
  obtain ⟨v', w1, hrun, hown1, hgr, _, hat⟩ := run_append_own_at (P := P) (w.alloc (.cells us.toArray e)) base t o.type e i z size bytes ht hi hz hs1 hb1 hzs hsz v n xs (hown.alloc _) ⟨w.heap.size, 0, none⟩ 1 1 us (by simpa using hl) (cells_new w us e) (all_one h1) (by unfold maxLen; omega) hmul (by simp; omega)
  have hg : w.grownBy w1 v.ownBlock := ⟨hgr.os, hgr.tape, hgr.output, by have := hgr.size; simp at this; omega, fun k hk hne => (hgr.block k (by simp; omega) hne).trans (Below.heap_alloc w _ k hk)⟩
  unfold Oper.wp execOp
  simp only [ho, resolve, invoke, builtin, Sem.run_bind, Sem.run_pure, Result.andThen_ok, List.map_toArray, List.map_cons, List.map_nil, hs, hx, hrun]
  refine hK _ _ (h v' w1 hown1 hg ?_ (by have := hgr.size; simpa using this))
  rcases hat with hat | hat
  · exact .inl hat
  · exact .inr ⟨w.heap.size + 1, by simpa using hat, by omega⟩
theorem app_wp3 {P : Program} {Q : Exit → Act → World → Prop} {o : Oper} {a : Act} {w : World} {K : Act → World → Prop} {base : Nat} {us xs : List Value} {e t : TypeId} {z : Value} {size bytes n H c : Nat} {v : Value} (x y : Operand)
    (ho : o.op = .call { callee := .builtin .append, args := #[x, y], argTypes := #[t, t] }) (hE : EltB P t e z size bytes) (hs : a.eval x = v) (hx : a.eval y = .slice (some ⟨H, 0, none⟩) 1 c)
    (hown : w.ownsRow base e size v n xs) (hB : Bk w H e us.toArray) (hl : us.length = size) (h1 : us.all (·.oneCell') = true) (hn : n < 1073741824) (hbs : base ≤ w.heap.size)
    (h : ∀ v' w1, w1.ownsRow base e size v' (n + 1) (xs ++ us) → w.grownBy w1 v.ownBlock → (v'.ownBlock = v.ownBlock ∨ ∃ b, v'.ownBlock = some b ∧ w.heap.size ≤ b) → K (a.put o.dst v') w1) : Oper.wp P o a w K Q := by
  obtain ⟨ht, hsz, hby, hzs, i, hi, hz, hs1, hb1⟩ := hE
  have hmul : (n + 1) * bytes ≤ 140737488355328 := by
    have := Nat.mul_le_mul (show n + 1 ≤ 1073741824 from hn) hby
    omega
  refine wp_append_lies w x y t ho base e i z size bytes ht hi hz hs1 hb1 hzs hsz v n xs hs hown ⟨H, 0, none⟩ 1 c us hx (by simpa using hl) (World.news_of_block hB) (all_one h1) (by omega) (by unfold maxLen; omega) hmul hbs _ rfl
    (fun g cap w1 k1 k2 k3 _ => h _ w1 k1 k2 ?_)
  rcases k3 with k3 | k3
  · exact .inl (by rw [k3]; rfl)
  · exact .inr ⟨g, rfl, by omega⟩
theorem grown_of_below {w w' : World} (h : Below w.heap.size w w') (row : Option Nat) : w.grownBy w' row := ⟨h.os, h.tape, h.output, h.size, fun k hk _ => h.block k hk⟩
theorem grown_set (w : World) (p i : Nat) (u : Value) : w.grownBy (w.setCell ⟨p, i, none⟩ u) (some p) := ⟨rfl, rfl, rfl, by simp [World.setCell], fun k _ hne => Below.heap_setCell w _ u k (fun e => hne (by rw [e]))⟩
theorem own_bk2 {w : World} {base g n c : Nat} {e : TypeId} {size : Nat} {xs : List Value} (h : w.ownsRow base e size (.slice (some ⟨g, 0, none⟩) n c) n xs) : ∃ cur, Bk w g e cur ∧ cur.toList.take (n * size) = xs := by
  rcases h.2 with ⟨he, _⟩ | ⟨k, cap, cur, he, h1, hg, h2, h3, h4, h5⟩
  · cases he
  · injection he with e1 e2 e3
    injection e1 with e1
    injection e1 with e1
    subst e1
    exact ⟨cur, hg, h5⟩
/-- A row's beginning is a row. -/
theorem own_take {w : World} {base g n c k : Nat} {e : TypeId} {size : Nat} {xs : List Value} (h : w.ownsRow base e size (.slice (some ⟨g, 0, none⟩) n c) n xs) (hk : k ≤ n) : w.ownsRow base e size (.slice (some ⟨g, 0, none⟩) k c) k (xs.take (k * size)) := by
  obtain ⟨hx, h2⟩ := h
  have hkn : k * size ≤ n * size := Nat.mul_le_mul_right _ hk
  rcases h2 with ⟨h0, _⟩ | ⟨g', cap', cur, hv, hg, hh, hn, hcap, hsz, htake⟩
  · cases h0
  · cases hv
    refine ⟨by rw [List.length_take, hx]; omega, .inr ⟨g, c, cur, rfl, hg, hh, by omega, hcap, hsz, ?_⟩⟩
    rw [← htake, List.take_take, Nat.min_eq_left hkn]
theorem own_cap2 {w : World} {base g n c : Nat} {e : TypeId} {size : Nat} {xs : List Value} (h : w.ownsRow base e size (.slice (some ⟨g, 0, none⟩) n c) n xs) : n ≤ c := by
  rcases h.2 with ⟨h0, _⟩ | ⟨g', cap', cur, hv, hg, hh, hn, hcap, hsz, htake⟩
  · cases h0
  · cases hv; exact hn
theorem own_cap3 {w : World} {base n c : Nat} {A : Option Addr} {e : TypeId} {size : Nat} {xs : List Value} (h : w.ownsRow base e size (.slice A n c) n xs) : n ≤ c := by
  rcases h.2 with ⟨h0, _⟩ | ⟨g', cap', cur, hv, hg, hh, hn, hcap, hsz, htake⟩
  · cases h0; exact Nat.le_refl _
  · cases hv; exact hn
theorem cell_far {w W : World} {p : Addr} {v : Value} (h : w.cell? p = some v) (hb : Below w.heap.size w W) : W.cell? p = some v := by
  by_cases hp : p.block < w.heap.size
  · rw [hb.cell hp]; exact h
  · unfold World.cell? at h
    rw [Array.getElem?_eq_none (by omega)] at h
    cases h
theorem qz0 {α : Type} (l : List α) (i : Nat) (a : α) : l.toArray.setIfInBounds i a = (l.set i a).toArray := List.setIfInBounds_toArray ..
theorem qz1 {α : Type} (x : α) (xs : List α) (a : α) : (x :: xs).set 0 a = a :: xs := rfl
theorem qz2 {α : Type} (x : α) (xs : List α) (n : Nat) (a : α) : (x :: xs).set (n + 1) a = x :: xs.set n a := rfl
def slLen : Value → Nat
  | .slice _ n _ => n
  | _ => 0
def bN : Value → Nat
  | .bool true => 1
  | _ => 0
end Go.Proofs.Ytgeciimakjfnfaa

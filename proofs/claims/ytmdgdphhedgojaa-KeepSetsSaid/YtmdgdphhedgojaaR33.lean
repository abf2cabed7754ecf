import Derived.Test.YtmdgdphhedgojaaR31
import Derived.Deep.Upon
import Derived.Deep.AppendSrc
namespace Go.Proofs.Ytmdgdphhedgojaa
open Go.RowKit Go.Maps

/-- append of a slice onto a slice of one's own. -/
theorem run_appM {P : Program} {w : World} {base : Nat} {us xs : List Value} {e t ty : TypeId} {z : Value} {size bytes n m c : Nat} {v : Value} {B : Option Addr} (hE : Elt P t e z size bytes) (hown : w.ownsRow base e size v n xs) (hbs : base ≤ w.heap.size)
    (hB : SL w B us) (hl : us.length = m * size) (h1 : us.all (·.oneCell') = true) (hn : n + m < 1099511627776) :
    ∃ v' w', (Builtin.append_ #[t, t] ty #[v, .slice B m c]).run P w = .ok v' w' ∧ w'.ownsRow base e size v' (n + m) (xs ++ us) ∧ w.grownBy w' v.ownBlock := by
  obtain ⟨ht, hsz, hby, hzs, i, hi, hz, hs1, hb1⟩ := hE
  have hmul : (n + m) * bytes ≤ 140737488355328 := by
    have := Nat.mul_le_mul (show n + m ≤ 1099511627776 by omega) hby
    omega
  cases B with
  | some ad =>
    have hc : ∀ j u, us[j]? = some u → w.cell? (ad.add j) = some u := fun j u hu => by
      obtain ⟨b, o, e1, _, hcell⟩ := hB j u hu
      injection e1 with e1
      subst e1
      rw [← hcell]
      unfold Addr.add
      split
      · rename_i h; subst h; rfl
      · rfl
    obtain ⟨v', w', hr, h2, h3, _, _⟩ := run_append_own_at (P := P) w base t ty e i z size bytes ht hi hz hs1 hb1 hzs hsz v n xs hown ad m c us hl hc (all_one h1) (by unfold maxLen; omega) hmul hbs
    exact ⟨v', w', hr, h2, h3⟩
  | none =>
    have hm : m = 0 := by
      rcases Nat.eq_zero_or_pos m with h | h
      · exact h
      · have hlt : 0 < us.length := by rw [hl]; exact Nat.mul_pos h hsz
        obtain ⟨b, o, e1, _⟩ := hB 0 us[0] (List.getElem?_eq_getElem hlt)
        cases e1
    subst hm
    have hus : us = [] := List.eq_nil_of_length_eq_zero (by omega)
    subst hus
    obtain ⟨A, c', rfl⟩ := own_slice hown
    have hr := run_append_nothing (P := P) w t t ty e i ht hi A n c' (own_cap hown) (.slice none 0 c) (Src.ofNil w ht c)
    exact ⟨_, w, hr, by simpa using hown, World.grownBy.refl _ _⟩

theorem wpList_appM {P : Program} {ops : Array Oper} {rest : List Oper} {o : Oper} {a : Act} {Q : Exit → Act → World → Prop} {w : World} {base : Nat} {us xs : List Value} {e t : TypeId} {z : Value} {size bytes n m c : Nat} {v : Value} {B : Option Addr}
    (hgd : o.guard = none) (s x : Operand) (ho : o.op = .call { callee := .builtin .append, args := #[s, x], argTypes := #[t, t] }) (hE : Elt P t e z size bytes)
    (hown : w.ownsRow base e size v n xs) (hbs : base ≤ w.heap.size) (hs : a.eval s = v) (hx : a.eval x = .slice B m c)
    (hB : SL w B us) (hl : us.length = m * size) (h1 : us.all (·.oneCell') = true) (hn : n + m < 1099511627776)
    (h : ∀ v' w1, w1.ownsRow base e size v' (n + m) (xs ++ us) → w.grownBy w1 v.ownBlock → wpList P ops Q rest (a.put o.dst v') w1) : wpList P ops Q (o :: rest) a w := by
  refine wpList_plain hgd fun K hK => ?_
  obtain ⟨v', w1, hrun, h2, h3⟩ := run_appM (P := P) (ty := o.type) hE hown hbs hB hl h1 hn
  unfold Oper.wp execOp
  simp only [ho, resolve, invoke, builtin, Sem.run_bind, Sem.run_pure, Result.andThen_ok, List.map_toArray, List.map_cons, List.map_nil, hs, hx]
  rw [hrun]
  exact hK _ _ (h v' w1 h2 h3)

theorem app_wpM {P : Program} {Q : Exit → Act → World → Prop} {o : Oper} {a : Act} {w : World} {K : Act → World → Prop} {base : Nat} {us xs : List Value} {e t : TypeId} {z : Value} {size bytes n m c : Nat} {v : Value} {B : Option Addr} (s x : Operand)
    (ho : o.op = .call { callee := .builtin .append, args := #[s, x], argTypes := #[t, t] }) (hE : Elt P t e z size bytes)
    (hown : w.ownsRow base e size v n xs) (hbs : base ≤ w.heap.size) (hs : a.eval s = v) (hx : a.eval x = .slice B m c)
    (hB : SL w B us) (hl : us.length = m * size) (h1 : us.all (·.oneCell') = true) (hn : n + m < 1099511627776)
    (h : ∀ v' w1, w1.ownsRow base e size v' (n + m) (xs ++ us) → w.grownBy w1 v.ownBlock → K (a.put o.dst v') w1) : Oper.wp P o a w K Q := by
  obtain ⟨v', w1, hrun, h2, h3⟩ := run_appM (P := P) (ty := o.type) hE hown hbs hB hl h1 hn
  unfold Oper.wp execOp
  simp only [ho, resolve, invoke, builtin, Sem.run_bind, Sem.run_pure, Result.andThen_ok, List.map_toArray, List.map_cons, List.map_nil, hs, hx]
  rw [hrun]
  exact h v' w1 h2 h3

/-- A cell of a row of one's own is written. -/
theorem own_put {w : World} {base g n c i : Nat} {e : TypeId} {size : Nat} {xs : List Value} (h : w.ownsRow base e size (.slice (some ⟨g, 0, none⟩) n c) n xs) (u : Value) :
    (w.setCell ⟨g, i, none⟩ u).ownsRow base e size (.slice (some ⟨g, 0, none⟩) n c) n (xs.set i u) := by
  refine ⟨by simpa using h.1, ?_⟩
  rcases h.2 with ⟨he, _⟩ | ⟨k, cap, cur, he, h1, hg, h2, h3, h4, h5⟩
  · cases he
  · injection he with e1 e2 e3
    injection e1 with e1
    injection e1 with e1
    subst e1 e3
    refine .inr ⟨g, c, cur.setIfInBounds i u, rfl, h1, Bk.set_ (t := e) hg i u, h2, h3, by simpa using h4, ?_⟩
    rw [Array.toList_setIfInBounds, ← h5, List.take_set]

theorem triC_all (ns : List (Int × Int × Int)) : (triC ns).all (·.oneCell') = true := by
  rw [List.all_eq_true]
  intro u hu
  simp only [triC, List.mem_flatMap] at hu
  obtain ⟨t, _, ht⟩ := hu
  simp at ht
  rcases ht with rfl | rfl | rfl <;> rfl
theorem ints_all (l : List Int) : (l.map (Value.int .i64)).all (·.oneCell') = true := by
  rw [List.all_eq_true]
  intro u hu
  obtain ⟨x, _, rfl⟩ := List.mem_map.1 hu
  rfl
end Go.Proofs.Ytmdgdphhedgojaa

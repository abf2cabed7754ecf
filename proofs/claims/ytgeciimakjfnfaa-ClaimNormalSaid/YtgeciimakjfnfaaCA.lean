import Derived.Test.YtgeciimakjfnfaaGB
import Derived.StillTail
import Derived.OrdersHeld
import Derived.Deep.RegionLaw
import Derived.Deep.RegionHeld3
import Derived.Laws.IdiomStrings
namespace Go.Proofs.Ytgeciimakjfnfaa
open Go.RowKit Go.Maps

section
variable {P : Program} {ops : Array Oper} {Q : Exit → Act → World → Prop} {S : World → Prop} {s : Nat}

/-- Whatever order is picked, and S holds behind each operation as long as operation s (a store that waits for all that reads) has not come. -/
def wpT (P : Program) (ops : Array Oper) (Q : Exit → Act → World → Prop) (S : World → Prop) (s : Nat) : Nat → Array Bool → Act → World → Prop
  | 0, listed, a, w => Region.ready .any ops listed = [] ∧ Q .normal a w
  | f + 1, listed, a, w => (Region.ready .any ops listed = [] → Q .normal a w) ∧
    ∀ i ∈ Region.ready .any ops listed, wpOp P ops Q i (fun a' w' => ((listed.setIfInBounds i true).getD s true = false → S w') ∧ wpT P ops Q S s f (listed.setIfInBounds i true) a' w') a w

theorem wpAny_of_T : ∀ (f : Nat) (listed : Array Bool) (a : Act) (w : World), wpT P ops Q S s f listed a w → wpAny P .any ops Q f listed a w
  | 0, _, _, _, h => h
  | f + 1, _, _, _, h => ⟨h.1, fun i hi => wpOp_mono (fun a' w' h' => wpAny_of_T f _ a' w' h'.2) (h.2 i hi)⟩

theorem unlisted_both {listed : Array Bool} {i : Nat} (h : listed.getD i true = false) : ¬ listed.getD i false = true := by
  rcases Nat.lt_or_ge i listed.size with h' | h'
  · simp [h'] at h ⊢; exact h
  · simp [Array.getElem?_eq_none h'] at h

theorem T_first {k : Nat} {ok : Oper} {v : Value} (hk : ops[k]? = some ok) (hsel : ∀ (j : Nat) (o : Oper) cs b, ops[j]? = some o → o.op ≠ .select cs b)
    (hQ : ∀ c a w, Q (.panic c) (a.put ok.dst v) w → Q (.panic c) a w) (hks : Region.waitsFor .any ops s k = true) (hne : k ≠ s) :
    ∀ (f : Nat) (listed : Array Bool) (a : Act) (w : World),
      (∀ j oj, ops[j]? = some oj → j ≠ k → listed.getD j true = false → (∀ e ∈ oj.after, Region.binds .any e = true → e.on ≠ k) → ok.apart ops oj = true) →
      k ∈ Region.ready .any ops listed → YieldsIf P ops S ok v a → S w → listed.getD s true = false →
      wpT P ops Q S s f (listed.setIfInBounds k true) (a.put ok.dst v) w → wpT P ops Q S s (f + 1) listed a w := by
  intro f
  induction f with
  | zero =>
    intro listed a w _ hr hy hS _ H
    refine ⟨fun h => (by rw [h] at hr; cases hr), fun j hj => ?_⟩
    by_cases hjk : j = k
    · subst hjk; exact hy.wpOp hk hS ⟨fun _ => hS, H⟩
    · have := ready_mono hj hjk
      rw [H.1] at this
      cases this
  | succ f ih =>
    intro listed a w hfree hr hy hS hsu H
    refine ⟨fun h => (by rw [h] at hr; cases hr), fun j hj => ?_⟩
    by_cases hjk : j = k
    · subst hjk; exact hy.wpOp hk hS ⟨fun _ => hS, H⟩
    · have h1 := H.2 j (ready_mono hj hjk)
      obtain ⟨hju, oj, hoj, hall⟩ := mem_ready.1 hj
      have hku := unlisted_both (mem_ready.1 hr).1
      have hjs : j ≠ s := fun e => by
        subst e
        obtain ⟨os, ho, e, he, hb, hon⟩ := Region.waitsFor_spec hks
        rw [hoj] at ho
        injection ho with ho
        subst ho
        exact hku (hon ▸ hall e he hb)
      have hnot : ∀ e ∈ oj.after, Region.binds .any e = true → e.on ≠ k := fun e he hb hon => hku (hon ▸ hall e he hb)
      have h2 := wpOp_putIf hoj (hfree j oj hoj hjk hju hnot) (fun cs b => hsel k ok cs b hk) (fun cs b => hsel j oj cs b hoj) hQ hy h1
      refine wpOp_mono (fun a' w' h3 => ?_) h2
      have hu1 : (listed.setIfInBounds j true).getD s true = false := by rw [getD_set_ne true hjs]; exact hsu
      have hS' : S w' := h3.2.1 (by rw [getD_set_ne true hjs, getD_set_ne true hne]; exact hsu)
      refine ⟨fun _ => hS', ih (listed.setIfInBounds j true) a' w' (fun i oi hoi hik hun hno => ?_) (ready_mono hr (Ne.symm hjk)) h3.1 hS' hu1 ?_⟩
      · refine hfree i oi hoi hik ?_ hno
        by_cases hji : j = i
        · subst hji; exact hju
        · rw [getD_set_ne true hji] at hun; exact hun
      · rw [Array.setIfInBounds_comm _ _ hjk]
        exact h3.2.2

theorem T_take {k : Nat} {ok : Oper} {v : Value} {f : Nat} {listed : Array Bool} {a : Act} {w : World} (hk : ops[k]? = some ok) (hB : (Region.noSelect ops && Region.free .any ops listed k && (Region.ready .any ops listed).contains k && Region.waitsFor .any ops s k && decide (k ≠ s) && !listed.getD s true) = true)
    (hQ : ∀ c a w, Q (.panic c) (a.put ok.dst v) w → Q (.panic c) a w) (hy : YieldsIf P ops S ok v a) (hS : S w)
    (h : wpT P ops Q S s f (listed.setIfInBounds k true) (a.put ok.dst v) w) : wpT P ops Q S s (f + 1) listed a w := by
  simp only [Bool.and_eq_true, decide_eq_true_eq, Bool.not_eq_true'] at hB
  obtain ⟨⟨⟨⟨⟨h1, h2⟩, h3⟩, h4⟩, h5⟩, h6⟩ := hB
  exact T_first hk (Region.noSelect_spec h1) hQ h4 h5 f listed a w (Region.free_spec hk h2) (by simpa using h3) hy hS h6 h

/-- A forced operation ahead of the store. -/
theorem T_one {i : Nat} {o : Oper} {f : Nat} {listed : Array Bool} {a : Act} {w : World} (hr : Region.ready .any ops listed = [i]) (ho : ops[i]? = some o) (hgd : o.guard = none)
    (h : ∀ K : Act → World → Prop, (∀ a' w', S w' → wpT P ops Q S s f (listed.setIfInBounds i true) a' w' → K a' w') → Oper.wp P o a w K Q) : wpT P ops Q S s (f + 1) listed a w := by
  refine ⟨fun h0 => (by rw [hr] at h0; cases h0), fun j hj => ?_⟩
  rw [hr] at hj
  obtain rfl : j = i := by simpa using hj
  refine wpOp_step ho fun K hK => ?_
  rw [if_pos (by simp [Region.wanted, hgd])]
  exact h K fun a' w' hS hT => hK a' w' ⟨fun _ => hS, hT⟩

/-- The store, the last one. -/
theorem T_last {o : Oper} {f : Nat} {listed : Array Bool} {a : Act} {w : World} (hr : Region.ready .any ops listed = [s]) (hr2 : Region.ready .any ops (listed.setIfInBounds s true) = []) (hs : s < listed.size) (ho : ops[s]? = some o) (hgd : o.guard = none)
    (h : ∀ K : Act → World → Prop, (∀ a' w', Q .normal a' w' → K a' w') → Oper.wp P o a w K Q) : wpT P ops Q S s (f + 1) listed a w := by
  refine ⟨fun h0 => (by rw [hr] at h0; cases h0), fun j hj => ?_⟩
  rw [hr] at hj
  obtain rfl : j = s := by simpa using hj
  refine wpOp_step ho fun K hK => ?_
  rw [if_pos (by simp [Region.wanted, hgd])]
  refine h K fun a' w' hq => hK a' w' ⟨fun hf => ?_, ?_⟩
  · simp [hs] at hf
  · cases f with
    | zero => exact ⟨hr2, hq⟩
    | succ f => exact ⟨fun _ => hq, by rw [hr2]; simp⟩

theorem app_wp {o : Oper} {a : Act} {w : World} {K : Act → World → Prop} {base : Nat} {us xs : List Value} {e t : TypeId} {z : Value} {size bytes n H c : Nat} {v : Value} (x y : Operand)
    (ho : o.op = .call { callee := .builtin .append, args := #[x, y], argTypes := #[t, t] }) (hE : Elt P t e z size bytes) (hs : a.eval x = v) (hx : a.eval y = .slice (some ⟨H, 0, none⟩) 1 c)
    (hown : w.ownsRow base e size v n xs) (hB : Bk w H e us.toArray) (hl : us.length = size) (h1 : us.all (·.oneCell') = true) (hn : n < 1099511627776) (hbs : base ≤ w.heap.size)
    (h : ∀ v' w1, w1.ownsRow base e size v' (n + 1) (xs ++ us) → w.grownBy w1 v.ownBlock → K (a.put o.dst v') w1) : Oper.wp P o a w K Q := by
  obtain ⟨ht, hsz, hby, hzs, i, hi, hz, hs1, hb1⟩ := hE
  have hmul : (n + 1) * bytes ≤ 140737488355328 := by
    have := Nat.mul_le_mul (show n + 1 ≤ 1099511627776 from hn) hby
    omega
  exact wp_append_lies w x y t ho base e i z size bytes ht hi hz hs1 hb1 hzs hsz v n xs hs hown ⟨H, 0, none⟩ 1 c us hx (by simpa using hl) (World.news_of_block hB) (all_one h1) (by omega) (by unfold maxLen; omega) hmul hbs _ rfl
    (fun g cap w1 k1 k2 _ _ => h _ w1 k1 k2)

theorem region_T {id : Nat} {l : List Oper} {a : Act} {w : World} (hm : P.follows .mixedOrders = true) (h : wpT P l.toArray Q S s l.toArray.size (Array.replicate l.toArray.size false) a { w with drawn := w.drawn + 1 }) : (Code.region id l.toArray true).wp P Q a w :=
  wp_region_any hm (wpAny_of_T _ _ _ _ h)
end
end Go.Proofs.Ytgeciimakjfnfaa

namespace Go.Proofs.Ytgeciimakjfnfaa
open Go.RowKit Go.Maps

section
variable {P : Program} {ops : Array Oper} {Q : Exit → Act → World → Prop} {S : World → Prop}

/-- Whatever order is picked, and S holds behind each operation. -/
def wpH (P : Program) (ops : Array Oper) (Q : Exit → Act → World → Prop) (S : World → Prop) : Nat → Array Bool → Act → World → Prop
  | 0, listed, a, w => Region.ready .any ops listed = [] ∧ Q .normal a w
  | f + 1, listed, a, w => (Region.ready .any ops listed = [] → Q .normal a w) ∧
    ∀ i ∈ Region.ready .any ops listed, wpOp P ops Q i (fun a' w' => S w' ∧ wpH P ops Q S f (listed.setIfInBounds i true) a' w') a w

theorem wpAny_of_H : ∀ (f : Nat) (listed : Array Bool) (a : Act) (w : World), wpH P ops Q S f listed a w → wpAny P .any ops Q f listed a w
  | 0, _, _, _, h => h
  | f + 1, _, _, _, h => ⟨h.1, fun i hi => wpOp_mono (fun a' w' h' => wpAny_of_H f _ a' w' h'.2) (h.2 i hi)⟩

theorem H_first {k : Nat} {ok : Oper} {v : Value} (hk : ops[k]? = some ok) (hsel : ∀ (j : Nat) (o : Oper) cs b, ops[j]? = some o → o.op ≠ .select cs b)
    (hQ : ∀ c a w, Q (.panic c) (a.put ok.dst v) w → Q (.panic c) a w) :
    ∀ (f : Nat) (listed : Array Bool) (a : Act) (w : World),
      (∀ j oj, ops[j]? = some oj → j ≠ k → listed.getD j true = false → (∀ e ∈ oj.after, Region.binds .any e = true → e.on ≠ k) → ok.apart ops oj = true) →
      k ∈ Region.ready .any ops listed → YieldsIf P ops S ok v a → S w →
      wpH P ops Q S f (listed.setIfInBounds k true) (a.put ok.dst v) w → wpH P ops Q S (f + 1) listed a w := by
  intro f
  induction f with
  | zero =>
    intro listed a w _ hr hy hS H
    refine ⟨fun h => (by rw [h] at hr; cases hr), fun j hj => ?_⟩
    by_cases hjk : j = k
    · subst hjk; exact hy.wpOp hk hS ⟨hS, H⟩
    · have := ready_mono hj hjk
      rw [H.1] at this
      cases this
  | succ f ih =>
    intro listed a w hfree hr hy hS H
    refine ⟨fun h => (by rw [h] at hr; cases hr), fun j hj => ?_⟩
    by_cases hjk : j = k
    · subst hjk; exact hy.wpOp hk hS ⟨hS, H⟩
    · have h1 := H.2 j (ready_mono hj hjk)
      obtain ⟨hju, oj, hoj, hall⟩ := mem_ready.1 hj
      have hku := unlisted_both (mem_ready.1 hr).1
      have hnot : ∀ e ∈ oj.after, Region.binds .any e = true → e.on ≠ k := fun e he hb hon => hku (hon ▸ hall e he hb)
      have h2 := wpOp_putIf hoj (hfree j oj hoj hjk hju hnot) (fun cs b => hsel k ok cs b hk) (fun cs b => hsel j oj cs b hoj) hQ hy h1
      refine wpOp_mono (fun a' w' h3 => ?_) h2
      refine ⟨h3.2.1, ih (listed.setIfInBounds j true) a' w' (fun i oi hoi hik hun hno => ?_) (ready_mono hr (Ne.symm hjk)) h3.1 h3.2.1 ?_⟩
      · refine hfree i oi hoi hik ?_ hno
        by_cases hji : j = i
        · subst hji; exact hju
        · rw [getD_set_ne true hji] at hun; exact hun
      · rw [Array.setIfInBounds_comm _ _ hjk]
        exact h3.2.2

theorem H_take {k : Nat} {ok : Oper} {v : Value} {f : Nat} {listed : Array Bool} {a : Act} {w : World} (hk : ops[k]? = some ok) (hB : (Region.noSelect ops && Region.free .any ops listed k && (Region.ready .any ops listed).contains k) = true)
    (hQ : ∀ c a w, Q (.panic c) (a.put ok.dst v) w → Q (.panic c) a w) (hy : YieldsIf P ops S ok v a) (hS : S w)
    (h : wpH P ops Q S f (listed.setIfInBounds k true) (a.put ok.dst v) w) : wpH P ops Q S (f + 1) listed a w := by
  simp only [Bool.and_eq_true] at hB
  obtain ⟨⟨h1, h2⟩, h3⟩ := hB
  exact H_first hk (Region.noSelect_spec h1) hQ f listed a w (Region.free_spec hk h2) (by simpa using h3) hy hS h

theorem H_takeD {k : Nat} {ok : Oper} {v : Value} {d : Option Nat} {f : Nat} {listed : Array Bool} {a : Act} {w : World} (hk : ops[k]? = some ok) (hd : ok.dst = d) (hB : (Region.noSelect ops && Region.free .any ops listed k && (Region.ready .any ops listed).contains k) = true)
    (hQ : ∀ c a w, Q (.panic c) (a.put d v) w → Q (.panic c) a w) (hy : YieldsIf P ops S ok v a) (hS : S w)
    (h : wpH P ops Q S f (listed.setIfInBounds k true) (a.put d v) w) : wpH P ops Q S (f + 1) listed a w := by
  subst hd
  exact H_take hk hB hQ hy hS h

theorem H_step {i : Nat} {o : Oper} {f : Nat} {listed : Array Bool} {a : Act} {w : World} (ho : ops[i]? = some o) (hgd : o.guard = none)
    (h : ∀ K : Act → World → Prop, (∀ a' w', S w' → wpH P ops Q S f (listed.setIfInBounds i true) a' w' → K a' w') → Oper.wp P o a w K Q) :
    wpOp P ops Q i (fun a' w' => S w' ∧ wpH P ops Q S f (listed.setIfInBounds i true) a' w') a w := by
  refine wpOp_step ho fun K hK => ?_
  rw [if_pos (by simp [Region.wanted, hgd])]
  exact h K fun a' w' hS hT => hK a' w' ⟨hS, hT⟩

theorem H_stepg {i : Nat} {o : Oper} {f : Nat} {listed : Array Bool} {a : Act} {w : World} (ho : ops[i]? = some o) (hw : Region.wanted o (yielded ops a.tmps) = true)
    (h : ∀ K : Act → World → Prop, (∀ a' w', S w' → wpH P ops Q S f (listed.setIfInBounds i true) a' w' → K a' w') → Oper.wp P o a w K Q) :
    wpOp P ops Q i (fun a' w' => S w' ∧ wpH P ops Q S f (listed.setIfInBounds i true) a' w') a w := by
  refine wpOp_step ho fun K hK => ?_
  rw [if_pos hw]
  exact h K fun a' w' hS hT => hK a' w' ⟨hS, hT⟩

theorem H_one {i : Nat} {f : Nat} {listed : Array Bool} {a : Act} {w : World} (hr : Region.ready .any ops listed = [i])
    (hi : wpOp P ops Q i (fun a' w' => S w' ∧ wpH P ops Q S f (listed.setIfInBounds i true) a' w') a w) : wpH P ops Q S (f + 1) listed a w := by
  refine ⟨fun h0 => (by rw [hr] at h0; cases h0), fun x hx => ?_⟩
  rw [hr] at hx
  obtain rfl : x = i := by simpa using hx
  exact hi
theorem H_two {i j : Nat} {f : Nat} {listed : Array Bool} {a : Act} {w : World} (hr : Region.ready .any ops listed = [i, j])
    (hi : wpOp P ops Q i (fun a' w' => S w' ∧ wpH P ops Q S f (listed.setIfInBounds i true) a' w') a w)
    (hj : wpOp P ops Q j (fun a' w' => S w' ∧ wpH P ops Q S f (listed.setIfInBounds j true) a' w') a w) : wpH P ops Q S (f + 1) listed a w := by
  refine ⟨fun h0 => (by rw [hr] at h0; cases h0), fun x hx => ?_⟩
  rw [hr] at hx
  simp only [List.mem_cons, List.not_mem_nil, or_false] at hx
  rcases hx with rfl | rfl
  · exact hi
  · exact hj
theorem H_three {i j k : Nat} {f : Nat} {listed : Array Bool} {a : Act} {w : World} (hr : Region.ready .any ops listed = [i, j, k])
    (hi : wpOp P ops Q i (fun a' w' => S w' ∧ wpH P ops Q S f (listed.setIfInBounds i true) a' w') a w)
    (hj : wpOp P ops Q j (fun a' w' => S w' ∧ wpH P ops Q S f (listed.setIfInBounds j true) a' w') a w)
    (hk : wpOp P ops Q k (fun a' w' => S w' ∧ wpH P ops Q S f (listed.setIfInBounds k true) a' w') a w) : wpH P ops Q S (f + 1) listed a w := by
  refine ⟨fun h0 => (by rw [hr] at h0; cases h0), fun x hx => ?_⟩
  rw [hr] at hx
  simp only [List.mem_cons, List.not_mem_nil, or_false] at hx
  rcases hx with rfl | rfl | rfl
  · exact hi
  · exact hj
  · exact hk
/-- Nothing is left. -/
theorem H_end {f : Nat} {listed : Array Bool} {a : Act} {w : World} (hr : Region.ready .any ops listed = []) (hq : Q .normal a w) : wpH P ops Q S f listed a w := by
  cases f with
  | zero => exact ⟨hr, hq⟩
  | succ f => exact ⟨fun _ => hq, by rw [hr]; simp⟩

theorem region_H {id : Nat} {l : List Oper} {a : Act} {w : World} (hm : P.follows .mixedOrders = true) (h : wpH P l.toArray Q S l.toArray.size (Array.replicate l.toArray.size false) a { w with drawn := w.drawn + 1 }) : (Code.region id l.toArray true).wp P Q a w :=
  wp_region_any hm (wpAny_of_H _ _ _ _ h)
end
end Go.Proofs.Ytgeciimakjfnfaa

namespace Go.Proofs.Ytgeciimakjfnfaa
open Go.RowKit Go.Maps

section
variable {P : Program} {ops : Array Oper} {Q : Exit → Act → World → Prop} {S : World → Prop} {s : Nat}

theorem T_takeD {k : Nat} {ok : Oper} {v : Value} {d : Option Nat} {f : Nat} {listed : Array Bool} {a : Act} {w : World} (hk : ops[k]? = some ok) (hd : ok.dst = d) (hB : (Region.noSelect ops && Region.free .any ops listed k && (Region.ready .any ops listed).contains k && Region.waitsFor .any ops s k && decide (k ≠ s) && !listed.getD s true) = true)
    (hQ : ∀ c a w, Q (.panic c) (a.put d v) w → Q (.panic c) a w) (hy : YieldsIf P ops S ok v a) (hS : S w)
    (h : wpT P ops Q S s f (listed.setIfInBounds k true) (a.put d v) w) : wpT P ops Q S s (f + 1) listed a w := by
  subst hd
  exact T_take hk hB hQ hy hS h
theorem T_step {i : Nat} {o : Oper} {f : Nat} {listed : Array Bool} {a : Act} {w : World} (ho : ops[i]? = some o) (hgd : o.guard = none)
    (h : ∀ K : Act → World → Prop, (∀ a' w', S w' → wpT P ops Q S s f (listed.setIfInBounds i true) a' w' → K a' w') → Oper.wp P o a w K Q) :
    wpOp P ops Q i (fun a' w' => ((listed.setIfInBounds i true).getD s true = false → S w') ∧ wpT P ops Q S s f (listed.setIfInBounds i true) a' w') a w := by
  refine wpOp_step ho fun K hK => ?_
  rw [if_pos (by simp [Region.wanted, hgd])]
  exact h K fun a' w' hS hT => hK a' w' ⟨fun _ => hS, hT⟩
theorem T_two {i j : Nat} {f : Nat} {listed : Array Bool} {a : Act} {w : World} (hr : Region.ready .any ops listed = [i, j])
    (hi : wpOp P ops Q i (fun a' w' => ((listed.setIfInBounds i true).getD s true = false → S w') ∧ wpT P ops Q S s f (listed.setIfInBounds i true) a' w') a w)
    (hj : wpOp P ops Q j (fun a' w' => ((listed.setIfInBounds j true).getD s true = false → S w') ∧ wpT P ops Q S s f (listed.setIfInBounds j true) a' w') a w) : wpT P ops Q S s (f + 1) listed a w := by
  refine ⟨fun h0 => (by rw [hr] at h0; cases h0), fun x hx => ?_⟩
  rw [hr] at hx
  simp only [List.mem_cons, List.not_mem_nil, or_false] at hx
  rcases hx with rfl | rfl
  · exact hi
  · exact hj
theorem T_oneS {i : Nat} {f : Nat} {listed : Array Bool} {a : Act} {w : World} (hr : Region.ready .any ops listed = [i])
    (hi : wpOp P ops Q i (fun a' w' => ((listed.setIfInBounds i true).getD s true = false → S w') ∧ wpT P ops Q S s f (listed.setIfInBounds i true) a' w') a w) : wpT P ops Q S s (f + 1) listed a w := by
  refine ⟨fun h0 => (by rw [hr] at h0; cases h0), fun x hx => ?_⟩
  rw [hr] at hx
  obtain rfl : x = i := by simpa using hx
  exact hi
end

/-! The rules in short. -/
section
variable {P : Program} {ops : Array Oper} {Q : Exit → Act → World → Prop} {S : World → Prop} {s : Nat}
theorem Ht (k : Nat) {ok : Oper} (v : Value) (d : Nat) {f : Nat} {listed : Array Bool} {a : Act} {w : World} (hk : ops[k]? = some ok) (hd : ok.dst = some d) (hw : Region.wanted ok (yielded ops a.tmps) = true) (hv : ∀ W, S W → (execOp a.eval ok).run P W = .ok (.value v) W) (hS : S w)
    (h : wpH P ops Q S f (listed.setIfInBounds k true) (a.put (some d) v) w) (hB : (Region.noSelect ops && Region.free .any ops listed k && (Region.ready .any ops listed).contains k) = true := by decide +kernel) (hQ : ∀ c a w, Q (.panic c) (a.put (some d) v) w → Q (.panic c) a w := by exact fun _ _ _ h => h) : wpH P ops Q S (f + 1) listed a w :=
  H_takeD hk hd hB hQ (.inl ⟨hw, hv⟩) hS h
theorem Hu (k : Nat) {ok : Oper} (d : Nat) {f : Nat} {listed : Array Bool} {a : Act} {w : World} (hk : ops[k]? = some ok) (hd : ok.dst = some d) (hw : Region.wanted ok (yielded ops a.tmps) = false) (hS : S w)
    (h : wpH P ops Q S f (listed.setIfInBounds k true) (a.put (some d) undef) w) (hB : (Region.noSelect ops && Region.free .any ops listed k && (Region.ready .any ops listed).contains k) = true := by decide +kernel) (hQ : ∀ c a w, Q (.panic c) (a.put (some d) undef) w → Q (.panic c) a w := by exact fun _ _ _ h => h) : wpH P ops Q S (f + 1) listed a w :=
  H_takeD hk hd hB hQ (.inr ⟨hw, rfl⟩) hS h
theorem Tt (k : Nat) {ok : Oper} (v : Value) (d : Nat) {f : Nat} {listed : Array Bool} {a : Act} {w : World} (hk : ops[k]? = some ok) (hd : ok.dst = some d) (hw : Region.wanted ok (yielded ops a.tmps) = true) (hv : ∀ W, S W → (execOp a.eval ok).run P W = .ok (.value v) W) (hS : S w)
    (h : wpT P ops Q S s f (listed.setIfInBounds k true) (a.put (some d) v) w) (hB : (Region.noSelect ops && Region.free .any ops listed k && (Region.ready .any ops listed).contains k && Region.waitsFor .any ops s k && decide (k ≠ s) && !listed.getD s true) = true := by decide +kernel) (hQ : ∀ c a w, Q (.panic c) (a.put (some d) v) w → Q (.panic c) a w := by exact fun _ _ _ h => h) : wpT P ops Q S s (f + 1) listed a w :=
  T_takeD hk hd hB hQ (.inl ⟨hw, hv⟩) hS h
theorem H1 (i : Nat) {o : Oper} {f : Nat} {listed : Array Bool} {a : Act} {w : World} (ho : ops[i]? = some o) (hgd : o.guard = none)
    (h : ∀ K : Act → World → Prop, Hid (∀ a' w', S w' → wpH P ops Q S f (listed.setIfInBounds i true) a' w' → K a' w') → Oper.wp P o a w K Q) (hr : Region.ready .any ops listed = [i] := by decide +kernel) : wpH P ops Q S (f + 1) listed a w :=
  H_one hr (H_step ho hgd h)
theorem H1g (i : Nat) {o : Oper} {f : Nat} {listed : Array Bool} {a : Act} {w : World} (ho : ops[i]? = some o) (hw : Region.wanted o (yielded ops a.tmps) = true)
    (h : ∀ K : Act → World → Prop, Hid (∀ a' w', S w' → wpH P ops Q S f (listed.setIfInBounds i true) a' w' → K a' w') → Oper.wp P o a w K Q) (hr : Region.ready .any ops listed = [i] := by decide +kernel) : wpH P ops Q S (f + 1) listed a w :=
  H_one hr (H_stepg ho hw h)
theorem H2 (i j : Nat) {o u : Oper} {f : Nat} {listed : Array Bool} {a : Act} {w : World} (ho : ops[i]? = some o) (hgd : o.guard = none) (hu : ops[j]? = some u) (hgu : u.guard = none)
    (h : ∀ K : Act → World → Prop, Hid (∀ a' w', S w' → wpH P ops Q S f (listed.setIfInBounds i true) a' w' → K a' w') → Oper.wp P o a w K Q)
    (h2 : ∀ K : Act → World → Prop, Hid (∀ a' w', S w' → wpH P ops Q S f (listed.setIfInBounds j true) a' w' → K a' w') → Oper.wp P u a w K Q) (hr : Region.ready .any ops listed = [i, j] := by decide +kernel) : wpH P ops Q S (f + 1) listed a w :=
  H_two hr (H_step ho hgd h) (H_step hu hgu h2)
theorem T1s (i : Nat) {o : Oper} {f : Nat} {listed : Array Bool} {a : Act} {w : World} (ho : ops[i]? = some o) (hgd : o.guard = none)
    (h : ∀ K : Act → World → Prop, Hid (∀ a' w', S w' → wpT P ops Q S s f (listed.setIfInBounds i true) a' w' → K a' w') → Oper.wp P o a w K Q) (hr : Region.ready .any ops listed = [i] := by decide +kernel) : wpT P ops Q S s (f + 1) listed a w :=
  T_oneS hr (T_step ho hgd h)
theorem T2s (i j : Nat) {o u : Oper} {f : Nat} {listed : Array Bool} {a : Act} {w : World} (ho : ops[i]? = some o) (hgd : o.guard = none) (hu : ops[j]? = some u) (hgu : u.guard = none)
    (h : ∀ K : Act → World → Prop, Hid (∀ a' w', S w' → wpT P ops Q S s f (listed.setIfInBounds i true) a' w' → K a' w') → Oper.wp P o a w K Q)
    (h2 : ∀ K : Act → World → Prop, Hid (∀ a' w', S w' → wpT P ops Q S s f (listed.setIfInBounds j true) a' w' → K a' w') → Oper.wp P u a w K Q) (hr : Region.ready .any ops listed = [i, j] := by decide +kernel) : wpT P ops Q S s (f + 1) listed a w :=
  T_two hr (T_step ho hgd h) (T_step hu hgu h2)
theorem Tl {o : Oper} {f : Nat} {listed : Array Bool} {a : Act} {w : World} (ho : ops[s]? = some o) (hgd : o.guard = none) (h : ∀ K : Act → World → Prop, Hid (∀ a' w', Q .normal a' w' → K a' w') → Oper.wp P o a w K Q)
    (hr : Region.ready .any ops listed = [s] := by decide +kernel) (hr2 : Region.ready .any ops (listed.setIfInBounds s true) = [] := by decide +kernel) (hs : s < listed.size := by decide +kernel) : wpT P ops Q S s (f + 1) listed a w := T_last hr hr2 hs ho hgd h
theorem rH {R : Exit → Act → World → Prop} {id : Nat} {l : List Oper} {a : Act} {w : World} (n : Nat) (S : World → Prop) (h : wpH P l.toArray (NoPanic R) S n (Array.replicate n false) a w.drew) (hn : l.toArray.size = n := by rfl) (hm : P.follows .mixedOrders = true := by kernel_rfl) : (Code.region id l.toArray true).wp P R a w := by
  subst hn
  exact wp_region_noPanic (region_H hm h)
theorem rT {R : Exit → Act → World → Prop} {id : Nat} {l : List Oper} {a : Act} {w : World} (s n : Nat) (S : World → Prop) (h : wpT P l.toArray (NoPanic R) S s n (Array.replicate n false) a w.drew) (hn : l.toArray.size = n := by rfl) (hm : P.follows .mixedOrders = true := by kernel_rfl) : (Code.region id l.toArray true).wp P R a w := by
  subst hn
  exact wp_region_noPanic (region_T hm h)
theorem H0 {R : Exit → Act → World → Prop} {f : Nat} {listed : Array Bool} {a : Act} {w : World} (hq : R .normal a w) (hr : Region.ready .any ops listed = [] := by decide +kernel) : wpH P ops (NoPanic R) S f listed a w := H_end hr (NoPanic.normal hq)
end
end Go.Proofs.Ytgeciimakjfnfaa

namespace Go.Proofs.Ytgeciimakjfnfaa
open Go.RowKit Go.Maps

/-- A claim. -/
structure Cl where
  kind : Int
  office : Int
  fr : Int
  til : Int
  dec : Int
def clC (c : Cl) : List Value := [.int .i64 c.kind, .int .i64 c.office, .int .i64 c.fr, .int .i64 c.til, .int .i64 c.dec]
def clV (c : Cl) : Value := .agg #[.int .i64 c.kind, .int .i64 c.office, .int .i64 c.fr, .int .i64 c.til, .int .i64 c.dec]
/-- The error of a claim. -/
def clE (c : Cl) : Int := if 0 ≤ c.kind ∧ c.kind ≤ 2 ∧ 0 ≤ c.office ∧ c.office ≤ 63 ∧ 0 ≤ c.dec ∧ c.dec ≤ 1048576 ∧ 0 ≤ c.fr ∧ c.fr ≤ c.til ∧ c.til ≤ 73048 then 0 else 1
def inB (n lo hi : Int) : Bool := decide (lo ≤ n) && decide (n ≤ hi)
theorem inB_true {n lo hi : Int} (h : lo ≤ n ∧ n ≤ hi) : inB n lo hi = true := by simp [inB, h.1, h.2]
theorem inB_false {n lo hi : Int} (h : ¬ (lo ≤ n ∧ n ≤ hi)) : inB n lo hi = false := by
  unfold inB
  by_cases h1 : lo ≤ n
  · rw [decide_eq_true h1, decide_eq_false (fun h2 => h ⟨h1, h2⟩)]; rfl
  · rw [decide_eq_false h1]; rfl
set_option maxHeartbeats 1000000 in
theorem in_any (n lo hi : Int) (w : World) : Calls Try.prog 36 #[.int .i64 n, .int .i64 lo, .int .i64 hi] w fun e w' => e = .returned (.bool (inB n lo hi)) ∧ w = w' := by
  by_cases h : lo ≤ n ∧ n ≤ hi
  · rw [inB_true h]
    obtain ⟨h1, h2⟩ := h
    go_enter Try.func36, Try.ntmps36
    go_wp2_with fail
    go_ret
    exact ⟨rfl, rfl⟩
  · rw [inB_false h]
    have hc : ¬ lo ≤ n ∨ (lo ≤ n ∧ ¬ n ≤ hi) := by omega
    clear h
    rcases hc with h1 | ⟨h1, h2⟩
    all_goals
      go_enter Try.func36, Try.ntmps36
      go_wp2_with fail
      go_ret
      exact ⟨rfl, rfl⟩
theorem isDay_any (n : Int) (w : World) : Calls Try.prog 38 #[.int .i64 n] w fun e w' => e = .returned (.bool (inB n 0 73048)) ∧ w = w' := by
  go_enter Try.func38, Try.ntmps38
  go_wp2_with fail
  refine (in_any n 0 73048 w).mono ?_
  rintro e w1 ⟨rfl, rfl⟩
  go_wp2_with fail
  go_ret
  exact ⟨rfl, rfl⟩
theorem isOffice_any (n : Int) (w : World) : Calls Try.prog 37 #[.int .i64 n] w fun e w' => e = .returned (.bool (inB n 0 63)) ∧ w = w' := by
  go_enter Try.func37, Try.ntmps37
  go_wp2_with fail
  refine (in_any n 0 63 w).mono ?_
  rintro e w1 ⟨rfl, rfl⟩
  go_wp2_with fail
  go_ret
  exact ⟨rfl, rfl⟩
set_option maxHeartbeats 4000000 in
theorem refClaim_any (c : Cl) (w : World) : Calls Try.prog 15 #[clV c] w fun e w' => e = .returned (.int .i64 (clE c)) ∧ Below w.heap.size w w' := by
  obtain ⟨kind, office, fr, til, dec⟩ := c
  show Calls Try.prog 15 #[.agg #[.int .i64 kind, .int .i64 office, .int .i64 fr, .int .i64 til, .int .i64 dec]] w _
  have hb := (Below.refl w.heap.size w).alloc (Nat.le_refl _) (.cells #[.int .i64 kind, .int .i64 office, .int .i64 fr, .int .i64 til, .int .i64 dec] 24)
  have k0 : (w.alloc (.cells #[.int .i64 kind, .int .i64 office, .int .i64 fr, .int .i64 til, .int .i64 dec] 24)).cell? ⟨w.heap.size, 0, none⟩ = some (.int .i64 kind) := (Bk.new w 24 #[.int .i64 kind, .int .i64 office, .int .i64 fr, .int .i64 til, .int .i64 dec]).cell 0
  have k1 : (w.alloc (.cells #[.int .i64 kind, .int .i64 office, .int .i64 fr, .int .i64 til, .int .i64 dec] 24)).cell? ⟨w.heap.size, 1, none⟩ = some (.int .i64 office) := (Bk.new w 24 #[.int .i64 kind, .int .i64 office, .int .i64 fr, .int .i64 til, .int .i64 dec]).cell 1
  have k2 : (w.alloc (.cells #[.int .i64 kind, .int .i64 office, .int .i64 fr, .int .i64 til, .int .i64 dec] 24)).cell? ⟨w.heap.size, 2, none⟩ = some (.int .i64 fr) := (Bk.new w 24 #[.int .i64 kind, .int .i64 office, .int .i64 fr, .int .i64 til, .int .i64 dec]).cell 2
  have k3 : (w.alloc (.cells #[.int .i64 kind, .int .i64 office, .int .i64 fr, .int .i64 til, .int .i64 dec] 24)).cell? ⟨w.heap.size, 3, none⟩ = some (.int .i64 til) := (Bk.new w 24 #[.int .i64 kind, .int .i64 office, .int .i64 fr, .int .i64 til, .int .i64 dec]).cell 3
  have k4 : (w.alloc (.cells #[.int .i64 kind, .int .i64 office, .int .i64 fr, .int .i64 til, .int .i64 dec] 24)).cell? ⟨w.heap.size, 4, none⟩ = some (.int .i64 dec) := (Bk.new w 24 #[.int .i64 kind, .int .i64 office, .int .i64 fr, .int .i64 til, .int .i64 dec]).cell 4
  by_cases hok : 0 ≤ kind ∧ kind ≤ 2 ∧ 0 ≤ office ∧ office ≤ 63 ∧ 0 ≤ dec ∧ dec ≤ 1048576 ∧ 0 ≤ fr ∧ fr ≤ til ∧ til ≤ 73048
  · have he := Lib.hid (show clE ⟨kind, office, fr, til, dec⟩ = 0 from if_pos hok)
    obtain ⟨a0, a1, a2, a3, a4, a5, a6, a7, a8⟩ := hok
    go_enter Try.func15, Try.ntmps15
    go_wp2_with fail
    go_ret
    exact ⟨by rw [he.out]; rfl, hb⟩
  · have he := Lib.hid (show clE ⟨kind, office, fr, til, dec⟩ = 1 from if_neg hok)
    have hc : (kind < 0) ∨ (¬ kind < 0 ∧ kind > 2) ∨ (¬ kind < 0 ∧ ¬ kind > 2 ∧ office < 0) ∨ (¬ kind < 0 ∧ ¬ kind > 2 ∧ ¬ office < 0 ∧ office > 63) ∨ (¬ kind < 0 ∧ ¬ kind > 2 ∧ ¬ office < 0 ∧ ¬ office > 63 ∧ dec < 0) ∨ (¬ kind < 0 ∧ ¬ kind > 2 ∧ ¬ office < 0 ∧ ¬ office > 63 ∧ ¬ dec < 0 ∧ dec > 1048576) ∨ (¬ kind < 0 ∧ ¬ kind > 2 ∧ ¬ office < 0 ∧ ¬ office > 63 ∧ ¬ dec < 0 ∧ ¬ dec > 1048576 ∧ fr < 0) ∨ (¬ kind < 0 ∧ ¬ kind > 2 ∧ ¬ office < 0 ∧ ¬ office > 63 ∧ ¬ dec < 0 ∧ ¬ dec > 1048576 ∧ ¬ fr < 0 ∧ fr > til) ∨ (¬ kind < 0 ∧ ¬ kind > 2 ∧ ¬ office < 0 ∧ ¬ office > 63 ∧ ¬ dec < 0 ∧ ¬ dec > 1048576 ∧ ¬ fr < 0 ∧ ¬ fr > til ∧ til > 73048) := by omega
    clear hok
    rcases hc with h0 | ⟨h0, h1⟩ | ⟨h0, h1, h2⟩ | ⟨h0, h1, h2, h3⟩ | ⟨h0, h1, h2, h3, h4⟩ | ⟨h0, h1, h2, h3, h4, h5⟩ | ⟨h0, h1, h2, h3, h4, h5, h6⟩ | ⟨h0, h1, h2, h3, h4, h5, h6, h7⟩ | ⟨h0, h1, h2, h3, h4, h5, h6, h7, h8⟩
    all_goals
      go_enter Try.func15, Try.ntmps15
      go_wp2_with fail
      go_ret
      exact ⟨by rw [he.out]; rfl, hb⟩
set_option maxHeartbeats 4000000 in
theorem claim_any (c : Cl) (w : World) : Calls Try.prog 14 #[clV c] w fun e w' => e = .returned (.int .i64 (clE c)) ∧ Below w.heap.size w w' := by
  obtain ⟨kind, office, fr, til, dec⟩ := c
  show Calls Try.prog 14 #[.agg #[.int .i64 kind, .int .i64 office, .int .i64 fr, .int .i64 til, .int .i64 dec]] w _
  have hb := (Below.refl w.heap.size w).alloc (Nat.le_refl _) (.cells #[.int .i64 kind, .int .i64 office, .int .i64 fr, .int .i64 til, .int .i64 dec] 24)
  have k0 : (w.alloc (.cells #[.int .i64 kind, .int .i64 office, .int .i64 fr, .int .i64 til, .int .i64 dec] 24)).cell? ⟨w.heap.size, 0, none⟩ = some (.int .i64 kind) := (Bk.new w 24 #[.int .i64 kind, .int .i64 office, .int .i64 fr, .int .i64 til, .int .i64 dec]).cell 0
  have k1 : (w.alloc (.cells #[.int .i64 kind, .int .i64 office, .int .i64 fr, .int .i64 til, .int .i64 dec] 24)).cell? ⟨w.heap.size, 1, none⟩ = some (.int .i64 office) := (Bk.new w 24 #[.int .i64 kind, .int .i64 office, .int .i64 fr, .int .i64 til, .int .i64 dec]).cell 1
  have k2 : (w.alloc (.cells #[.int .i64 kind, .int .i64 office, .int .i64 fr, .int .i64 til, .int .i64 dec] 24)).cell? ⟨w.heap.size, 2, none⟩ = some (.int .i64 fr) := (Bk.new w 24 #[.int .i64 kind, .int .i64 office, .int .i64 fr, .int .i64 til, .int .i64 dec]).cell 2
  have k3 : (w.alloc (.cells #[.int .i64 kind, .int .i64 office, .int .i64 fr, .int .i64 til, .int .i64 dec] 24)).cell? ⟨w.heap.size, 3, none⟩ = some (.int .i64 til) := (Bk.new w 24 #[.int .i64 kind, .int .i64 office, .int .i64 fr, .int .i64 til, .int .i64 dec]).cell 3
  have k4 : (w.alloc (.cells #[.int .i64 kind, .int .i64 office, .int .i64 fr, .int .i64 til, .int .i64 dec] 24)).cell? ⟨w.heap.size, 4, none⟩ = some (.int .i64 dec) := (Bk.new w 24 #[.int .i64 kind, .int .i64 office, .int .i64 fr, .int .i64 til, .int .i64 dec]).cell 4
  by_cases hok : 0 ≤ kind ∧ kind ≤ 2 ∧ 0 ≤ office ∧ office ≤ 63 ∧ 0 ≤ dec ∧ dec ≤ 1048576 ∧ 0 ≤ fr ∧ fr ≤ til ∧ til ≤ 73048
  · have he := Lib.hid (show clE ⟨kind, office, fr, til, dec⟩ = 0 from if_pos hok)
    have t0 : 0 ≤ kind ∧ kind ≤ 2 := by omega
    have t1 : 0 ≤ office ∧ office ≤ 63 := by omega
    have t2 : 0 ≤ fr ∧ fr ≤ 73048 := by omega
    have t3 : 0 ≤ til ∧ til ≤ 73048 := by omega
    have t4 : fr ≤ til := by omega
    have t5 : 0 ≤ dec ∧ dec ≤ 1048576 := by omega
    clear hok
    go_enter Try.func14, Try.ntmps14
    go_wp2_with fail
    refine (in_any kind 0 2 _).mono ?_
    rintro e wx ⟨rfl, rfl⟩
    rw [inB_true t0]
    go_wp2_with fail
    refine (isOffice_any office _).mono ?_
    rintro e wx ⟨rfl, rfl⟩
    rw [inB_true t1]
    go_wp2_with fail
    refine (isDay_any fr _).mono ?_
    rintro e wx ⟨rfl, rfl⟩
    rw [inB_true t2]
    go_wp2_with fail
    refine (isDay_any til _).mono ?_
    rintro e wx ⟨rfl, rfl⟩
    rw [inB_true t3]
    go_wp2_with fail
    refine (in_any dec 0 1048576 _).mono ?_
    rintro e wx ⟨rfl, rfl⟩
    rw [inB_true t5]
    go_wp2_with fail
    go_ret
    exact ⟨by rw [he.out]; rfl, hb⟩
  · have he := Lib.hid (show clE ⟨kind, office, fr, til, dec⟩ = 1 from if_neg hok)
    have hc : (¬ (0 ≤ kind ∧ kind ≤ 2)) ∨ ((0 ≤ kind ∧ kind ≤ 2) ∧ ¬ (0 ≤ office ∧ office ≤ 63)) ∨ ((0 ≤ kind ∧ kind ≤ 2) ∧ (0 ≤ office ∧ office ≤ 63) ∧ ¬ (0 ≤ fr ∧ fr ≤ 73048)) ∨ ((0 ≤ kind ∧ kind ≤ 2) ∧ (0 ≤ office ∧ office ≤ 63) ∧ (0 ≤ fr ∧ fr ≤ 73048) ∧ ¬ (0 ≤ til ∧ til ≤ 73048)) ∨ ((0 ≤ kind ∧ kind ≤ 2) ∧ (0 ≤ office ∧ office ≤ 63) ∧ (0 ≤ fr ∧ fr ≤ 73048) ∧ (0 ≤ til ∧ til ≤ 73048) ∧ ¬ fr ≤ til) ∨ ((0 ≤ kind ∧ kind ≤ 2) ∧ (0 ≤ office ∧ office ≤ 63) ∧ (0 ≤ fr ∧ fr ≤ 73048) ∧ (0 ≤ til ∧ til ≤ 73048) ∧ fr ≤ til ∧ ¬ (0 ≤ dec ∧ dec ≤ 1048576)) := by omega
    clear hok
    rcases hc with t0 | ⟨t0, t1⟩ | ⟨t0, t1, t2⟩ | ⟨t0, t1, t2, t3⟩ | ⟨t0, t1, t2, t3, t4⟩ | ⟨t0, t1, t2, t3, t4, t5⟩
    · skip
      go_enter Try.func14, Try.ntmps14
      go_wp2_with fail
      refine (in_any kind 0 2 _).mono ?_
      rintro e wx ⟨rfl, rfl⟩
      rw [inB_false t0]
      go_wp2_with fail
      go_ret
      exact ⟨by rw [he.out]; rfl, hb⟩
    · skip
      go_enter Try.func14, Try.ntmps14
      go_wp2_with fail
      refine (in_any kind 0 2 _).mono ?_
      rintro e wx ⟨rfl, rfl⟩
      rw [inB_true t0]
      go_wp2_with fail
      refine (isOffice_any office _).mono ?_
      rintro e wx ⟨rfl, rfl⟩
      rw [inB_false t1]
      go_wp2_with fail
      go_ret
      exact ⟨by rw [he.out]; rfl, hb⟩
    · skip
      go_enter Try.func14, Try.ntmps14
      go_wp2_with fail
      refine (in_any kind 0 2 _).mono ?_
      rintro e wx ⟨rfl, rfl⟩
      rw [inB_true t0]
      go_wp2_with fail
      refine (isOffice_any office _).mono ?_
      rintro e wx ⟨rfl, rfl⟩
      rw [inB_true t1]
      go_wp2_with fail
      refine (isDay_any fr _).mono ?_
      rintro e wx ⟨rfl, rfl⟩
      rw [inB_false t2]
      go_wp2_with fail
      go_ret
      exact ⟨by rw [he.out]; rfl, hb⟩
    · skip
      go_enter Try.func14, Try.ntmps14
      go_wp2_with fail
      refine (in_any kind 0 2 _).mono ?_
      rintro e wx ⟨rfl, rfl⟩
      rw [inB_true t0]
      go_wp2_with fail
      refine (isOffice_any office _).mono ?_
      rintro e wx ⟨rfl, rfl⟩
      rw [inB_true t1]
      go_wp2_with fail
      refine (isDay_any fr _).mono ?_
      rintro e wx ⟨rfl, rfl⟩
      rw [inB_true t2]
      go_wp2_with fail
      refine (isDay_any til _).mono ?_
      rintro e wx ⟨rfl, rfl⟩
      rw [inB_false t3]
      go_wp2_with fail
      go_ret
      exact ⟨by rw [he.out]; rfl, hb⟩
    · skip
      go_enter Try.func14, Try.ntmps14
      go_wp2_with fail
      refine (in_any kind 0 2 _).mono ?_
      rintro e wx ⟨rfl, rfl⟩
      rw [inB_true t0]
      go_wp2_with fail
      refine (isOffice_any office _).mono ?_
      rintro e wx ⟨rfl, rfl⟩
      rw [inB_true t1]
      go_wp2_with fail
      refine (isDay_any fr _).mono ?_
      rintro e wx ⟨rfl, rfl⟩
      rw [inB_true t2]
      go_wp2_with fail
      refine (isDay_any til _).mono ?_
      rintro e wx ⟨rfl, rfl⟩
      rw [inB_true t3]
      go_wp2_with fail
      go_ret
      exact ⟨by rw [he.out]; rfl, hb⟩
    · skip
      go_enter Try.func14, Try.ntmps14
      go_wp2_with fail
      refine (in_any kind 0 2 _).mono ?_
      rintro e wx ⟨rfl, rfl⟩
      rw [inB_true t0]
      go_wp2_with fail
      refine (isOffice_any office _).mono ?_
      rintro e wx ⟨rfl, rfl⟩
      rw [inB_true t1]
      go_wp2_with fail
      refine (isDay_any fr _).mono ?_
      rintro e wx ⟨rfl, rfl⟩
      rw [inB_true t2]
      go_wp2_with fail
      refine (isDay_any til _).mono ?_
      rintro e wx ⟨rfl, rfl⟩
      rw [inB_true t3]
      go_wp2_with fail
      refine (in_any dec 0 1048576 _).mono ?_
      rintro e wx ⟨rfl, rfl⟩
      rw [inB_false t5]
      go_wp2_with fail
      go_ret
      exact ⟨by rw [he.out]; rfl, hb⟩
theorem isNaN_int (x : Int) (w : World) : Calls Try.prog 90 #[.int .i64 x] w fun e w' => e = .returned (.bool false) ∧ w = w' := by
  go_enter Try.func90, Try.ntmps90
  go_wp2
  go_ret
  exact ⟨ret_bool (by simp), rfl⟩
def cmpI (a b : Int) : Int := if a < b then -1 else if b < a then 1 else 0
theorem compare_int (a b : Int) (w : World) : Calls Try.prog 69 #[.int .i64 a, .int .i64 b] w fun e w' => e = .returned (.int .i64 (cmpI a b)) ∧ w = w' := by
  by_cases h1 : a < b
  · have hs : Hid (cmpI a b = -1) := by show _ = _; rw [cmpI, if_pos h1]
    go_enter Try.func69, Try.ntmps69
    go_wp2_with (go_at_call 90; refine (isNaN_int _ _).mono ?_; rintro e w' ⟨rfl, rfl⟩)
    go_ret
    exact ⟨ret_int hs.out.symm, rfl⟩
  · by_cases h2 : b < a
    · have hs : Hid (cmpI a b = 1) := by show _ = _; rw [cmpI, if_neg h1, if_pos h2]
      go_enter Try.func69, Try.ntmps69
      go_wp2_with (go_at_call 90; refine (isNaN_int _ _).mono ?_; rintro e w' ⟨rfl, rfl⟩)
      go_ret
      exact ⟨ret_int hs.out.symm, rfl⟩
    · have hs : Hid (cmpI a b = 0) := by show _ = _; rw [cmpI, if_neg h1, if_neg h2]
      go_enter Try.func69, Try.ntmps69
      go_wp2_with (go_at_call 90; refine (isNaN_int _ _).mono ?_; rintro e w' ⟨rfl, rfl⟩)
      go_ret
      exact ⟨ret_int hs.out.symm, rfl⟩
theorem cmpI_le {a b : Int} : (cmpI a b ≤ 0) ↔ a ≤ b := by unfold cmpI; split <;> (try split) <;> omega
/-- The first error. -/
def orE : List Int → Int
  | [] => 0
  | x :: l => if x ≠ 0 then x else orE l
theorem orE_drop {l : List Int} {k : Nat} {x : Int} (h : l[k]? = some x) : orE (l.drop k) = if x ≠ 0 then x else orE (l.drop (k + 1)) := by
  obtain ⟨hk, rfl⟩ := List.getElem?_eq_some_iff.1 h
  rw [List.drop_eq_getElem_cons hk, orE]
set_option maxHeartbeats 1000000 in
set_option maxRecDepth 100000 in
theorem orI_any (A : Option Addr) (c : Nat) (l : List Int) (w : World) (hA : SI w A l) (hl : l.length ≤ 1099511627776) :
    Calls Try.prog 68 #[.slice A l.length c] w fun e w' => e = .returned (.int .i64 (orE l)) ∧ w = w' := by
  obtain ⟨R, hR⟩ : ∃ z, Hid (orE l = z) := ⟨_, Lib.hid rfl⟩
  rw [hR.out]
  go_enter Try.func68, Try.ntmps68
  go_wp2_with fail
  go_loopw [8] (fun v wr => ∃ k : Nat, k ≤ l.length ∧ v = .int .i64 k ∧ Hid (orE (l.drop k) = R) ∧ w = wr) (fun v _ => l.length - (intOf v).toNat)
  case atStart => exact ⟨0, by omega, rfl, Lib.hid (by rw [List.drop_zero]; exact hR.out), rfl⟩
  case round =>
    obtain ⟨k, hk, rfl, hd, rfl⟩ := hrel
    by_cases hlt : k < l.length
    · obtain ⟨b, o, y, rfl, hc, hy⟩ := hA.get hlt
      have k0 : (0 : Int) ≤ (k : Int) := by omega
      have hd2 := hd.out
      rw [orE_drop hy.out] at hd2
      by_cases hy0 : y = 0
      · have hb : (y != 0) = false := by simp [hy0]
        rw [if_neg (by simp [hy0])] at hd2
        have Hd2 := Lib.hid hd2
        clear hd hd2 hy hy0 hA
        go_wp2_with fail
        go_roundw
        case rel => exact ⟨k + 1, by omega, by go_num, Hd2, by first | trivial | rfl⟩
        case measure => simp [intOf]; omega
      · have hb : (y != 0) = true := by simp [hy0]
        rw [if_pos hy0] at hd2
        have Hd2 := Lib.hid hd2
        clear hd hd2 hy hy0 hA
        go_wp2_with fail
        go_ret
        exact ⟨by rw [← Hd2.out]; rfl, rfl⟩
    · have Hd2 := Lib.hid (show R = 0 from by rw [← hd.out, List.drop_eq_nil_of_le (by omega)]; rfl)
      clear hd hA
      go_wp2_with fail
      go_ret
      exact ⟨by rw [Hd2.out]; rfl, rfl⟩
/-- Claims in memory. -/
def SC (w : World) (A : Option Addr) (l : List Cl) : Prop := SL w A (l.flatMap clC)
theorem clC_at : ∀ (l : List Cl) (k : Nat) (t : Cl), l[k]? = some t → (l.flatMap clC)[k * 5]? = some (.int .i64 t.kind) ∧ (l.flatMap clC)[k * 5 + 1]? = some (.int .i64 t.office) ∧ (l.flatMap clC)[k * 5 + 2]? = some (.int .i64 t.fr) ∧ (l.flatMap clC)[k * 5 + 3]? = some (.int .i64 t.til) ∧ (l.flatMap clC)[k * 5 + 4]? = some (.int .i64 t.dec)
  | [], k, t, h => by simp at h
  | u :: l, 0, t, h => by
    obtain rfl : u = t := by simpa using h
    exact ⟨rfl, rfl, rfl, rfl, rfl⟩
  | u :: l, k + 1, t, h => by
    have := clC_at l k t (by simpa using h)
    have e : (u :: l).flatMap clC = .int .i64 u.kind :: .int .i64 u.office :: .int .i64 u.fr :: .int .i64 u.til :: .int .i64 u.dec :: l.flatMap clC := rfl
    rw [e, show (k + 1) * 5 = k * 5 + 1 + 1 + 1 + 1 + 1 by omega]
    simpa using this
theorem SC.below {w w' : World} {A : Option Addr} {l : List Cl} (h : SC w A l) (hb : Below w.heap.size w w') : SC w' A l := SL.below h hb
theorem SC.get {w : World} {A : Option Addr} {l : List Cl} {k : Nat} (h : SC w A l) (hk : k < l.length) : ∃ b o t, A = some ⟨b, o, none⟩ ∧ w.cell? ⟨b, o + k * 5, none⟩ = some (.int .i64 (Cl.kind t)) ∧ w.cell? ⟨b, o + k * 5 + 1, none⟩ = some (.int .i64 t.office) ∧ w.cell? ⟨b, o + k * 5 + 2, none⟩ = some (.int .i64 t.fr) ∧ w.cell? ⟨b, o + k * 5 + 3, none⟩ = some (.int .i64 t.til) ∧ w.cell? ⟨b, o + k * 5 + 4, none⟩ = some (.int .i64 t.dec) ∧ Hid (l[k]? = some t) := by
  obtain ⟨h1, h2, h3, h4, h5⟩ := clC_at l k _ (List.getElem?_eq_getElem hk)
  obtain ⟨b, o, e, _, c1⟩ := h _ _ h1
  subst e
  have c2 := SL.two h h1 h2
  have c3 := SL.two h h1 h3
  have c4 := SL.two h h1 h4
  have c5 := SL.two h h1 h5
  rw [← Nat.add_assoc] at c2 c3 c4 c5
  exact ⟨b, o, _, rfl, c1, c2, c3, c4, c5, Lib.hid (List.getElem?_eq_getElem hk)⟩
theorem wrap_i64 (x : Int) : i64 (IntKind.i64.wrap x) := by
  unfold i64
  rw [IntKind.wrap_i64]
  omega
end Go.Proofs.Ytgeciimakjfnfaa

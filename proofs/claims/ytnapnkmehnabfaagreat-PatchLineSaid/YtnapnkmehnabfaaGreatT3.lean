import Derived.Test.YtnapnkmehnabfaaGreatT1
namespace Go.Proofs.YtnapnkmehnabfaaGreat
open Go.RowKit Go.Maps

section
variable {P : Program} {ops : Array Oper} {Q : Exit → Act → World → Prop} {S : World → Prop}

/-- Whatever order is picked, and S holds behind each operation. -/
def wpH (P : Program) (ops : Array Oper) (Q : Exit → Act → World → Prop) (S : World → Prop) : Nat → Array Bool → Act → World → Prop
  | 0, listed, a, w => Region.ready .any ops listed = [] ∧ Q .normal a w
  | f + 1, listed, a, w => (Region.ready .any ops listed = [] → Q .normal a w) ∧
    ∀ i ∈ Region.ready .any ops listed, wpOp P ops Q i (fun a' w' => S w' ∧ wpH P ops Q S f (listed.setIfInBounds i true) a' w') a w

theorem wpAny_of_H : ∀ (f : Nat) (listed : Array Bool) (a : Act) (w : World), wpH P ops Q S f listed a w → wpAny P .any ops Q f listed a w
  | 0, _, _, _, h => h
  | f + 1, _, _, _, h => ⟨h.1, fun i hi => wpOp_mono (fun a' w' h' => wpAny_of_H f _ a' w' h'.2) (h.2 i hi)⟩

theorem H_first {k : Nat} {ok : Oper} {v : Value} (hk : ops[k]? = some ok) (hsel : ∀ (j : Nat) (o : Oper) cs b, ops[j]? = some o → o.op ≠ .select cs b)
    (hQ : ∀ c a w, Q (.panic c) (a.put ok.dst v) w → Q (.panic c) a w) :
    ∀ (f : Nat) (listed : Array Bool) (a : Act) (w : World),
      (∀ j oj, ops[j]? = some oj → j ≠ k → listed.getD j true = false → (∀ e ∈ oj.after, Region.binds .any e = true → e.on ≠ k) → ok.apart ops oj = true) →
      k ∈ Region.ready .any ops listed → YieldsIf P ops S ok v a → S w →
      wpH P ops Q S f (listed.setIfInBounds k true) (a.put ok.dst v) w → wpH P ops Q S (f + 1) listed a w := by
  intro f
  induction f with
  | zero =>
    intro listed a w _ hr hy hS H
    refine ⟨fun h => (by rw [h] at hr; cases hr), fun j hj => ?_⟩
    by_cases hjk : j = k
    · subst hjk; exact hy.wpOp hk hS ⟨hS, H⟩
    · have := ready_mono hj hjk
      rw [H.1] at this
      cases this
  | succ f ih =>
    intro listed a w hfree hr hy hS H
    refine ⟨fun h => (by rw [h] at hr; cases hr), fun j hj => ?_⟩
    by_cases hjk : j = k
    · subst hjk; exact hy.wpOp hk hS ⟨hS, H⟩
    · have h1 := H.2 j (ready_mono hj hjk)
      obtain ⟨hju, oj, hoj, hall⟩ := mem_ready.1 hj
      have hku := unlisted_both (mem_ready.1 hr).1
      have hnot : ∀ e ∈ oj.after, Region.binds .any e = true → e.on ≠ k := fun e he hb hon => hku (hon ▸ hall e he hb)
      have h2 := wpOp_putIf hoj (hfree j oj hoj hjk hju hnot) (fun cs b => hsel k ok cs b hk) (fun cs b => hsel j oj cs b hoj) hQ hy h1
      refine wpOp_mono (fun a' w' h3 => ?_) h2
      refine ⟨h3.2.1, ih (listed.setIfInBounds j true) a' w' (fun i oi hoi hik hun hno => ?_) (ready_mono hr (Ne.symm hjk)) h3.1 h3.2.1 ?_⟩
      · refine hfree i oi hoi hik ?_ hno
        by_cases hji : j = i
        · subst hji; exact hju
        · rw [getD_set_ne true hji] at hun; exact hun
      · rw [Array.setIfInBounds_comm _ _ hjk]
        exact h3.2.2

theorem H_take {k : Nat} {ok : Oper} {v : Value} {f : Nat} {listed : Array Bool} {a : Act} {w : World} (hk : ops[k]? = some ok) (hB : (Region.noSelect ops && Region.free .any ops listed k && (Region.ready .any ops listed).contains k) = true)
    (hQ : ∀ c a w, Q (.panic c) (a.put ok.dst v) w → Q (.panic c) a w) (hy : YieldsIf P ops S ok v a) (hS : S w)
    (h : wpH P ops Q S f (listed.setIfInBounds k true) (a.put ok.dst v) w) : wpH P ops Q S (f + 1) listed a w := by
  simp only [Bool.and_eq_true] at hB
  obtain ⟨⟨h1, h2⟩, h3⟩ := hB
  exact H_first hk (Region.noSelect_spec h1) hQ f listed a w (Region.free_spec hk h2) (by simpa using h3) hy hS h

theorem H_takeD {k : Nat} {ok : Oper} {v : Value} {d : Option Nat} {f : Nat} {listed : Array Bool} {a : Act} {w : World} (hk : ops[k]? = some ok) (hd : ok.dst = d) (hB : (Region.noSelect ops && Region.free .any ops listed k && (Region.ready .any ops listed).contains k) = true)
    (hQ : ∀ c a w, Q (.panic c) (a.put d v) w → Q (.panic c) a w) (hy : YieldsIf P ops S ok v a) (hS : S w)
    (h : wpH P ops Q S f (listed.setIfInBounds k true) (a.put d v) w) : wpH P ops Q S (f + 1) listed a w := by
  subst hd
  exact H_take hk hB hQ hy hS h

theorem H_step {i : Nat} {o : Oper} {f : Nat} {listed : Array Bool} {a : Act} {w : World} (ho : ops[i]? = some o) (hgd : o.guard = none)
    (h : ∀ K : Act → World → Prop, (∀ a' w', S w' → wpH P ops Q S f (listed.setIfInBounds i true) a' w' → K a' w') → Oper.wp P o a w K Q) :
    wpOp P ops Q i (fun a' w' => S w' ∧ wpH P ops Q S f (listed.setIfInBounds i true) a' w') a w := by
  refine wpOp_step ho fun K hK => ?_
  rw [if_pos (by simp [Region.wanted, hgd])]
  exact h K fun a' w' hS hT => hK a' w' ⟨hS, hT⟩

theorem H_stepg {i : Nat} {o : Oper} {f : Nat} {listed : Array Bool} {a : Act} {w : World} (ho : ops[i]? = some o) (hw : Region.wanted o (yielded ops a.tmps) = true)
    (h : ∀ K : Act → World → Prop, (∀ a' w', S w' → wpH P ops Q S f (listed.setIfInBounds i true) a' w' → K a' w') → Oper.wp P o a w K Q) :
    wpOp P ops Q i (fun a' w' => S w' ∧ wpH P ops Q S f (listed.setIfInBounds i true) a' w') a w := by
  refine wpOp_step ho fun K hK => ?_
  rw [if_pos hw]
  exact h K fun a' w' hS hT => hK a' w' ⟨hS, hT⟩

theorem H_one {i : Nat} {f : Nat} {listed : Array Bool} {a : Act} {w : World} (hr : Region.ready .any ops listed = [i])
    (hi : wpOp P ops Q i (fun a' w' => S w' ∧ wpH P ops Q S f (listed.setIfInBounds i true) a' w') a w) : wpH P ops Q S (f + 1) listed a w := by
  refine ⟨fun h0 => (by rw [hr] at h0; cases h0), fun x hx => ?_⟩
  rw [hr] at hx
  obtain rfl : x = i := by simpa using hx
  exact hi
theorem H_two {i j : Nat} {f : Nat} {listed : Array Bool} {a : Act} {w : World} (hr : Region.ready .any ops listed = [i, j])
    (hi : wpOp P ops Q i (fun a' w' => S w' ∧ wpH P ops Q S f (listed.setIfInBounds i true) a' w') a w)
    (hj : wpOp P ops Q j (fun a' w' => S w' ∧ wpH P ops Q S f (listed.setIfInBounds j true) a' w') a w) : wpH P ops Q S (f + 1) listed a w := by
  refine ⟨fun h0 => (by rw [hr] at h0; cases h0), fun x hx => ?_⟩
  rw [hr] at hx
  simp only [List.mem_cons, List.not_mem_nil, or_false] at hx
  rcases hx with rfl | rfl
  · exact hi
  · exact hj
theorem H_three {i j k : Nat} {f : Nat} {listed : Array Bool} {a : Act} {w : World} (hr : Region.ready .any ops listed = [i, j, k])
    (hi : wpOp P ops Q i (fun a' w' => S w' ∧ wpH P ops Q S f (listed.setIfInBounds i true) a' w') a w)
    (hj : wpOp P ops Q j (fun a' w' => S w' ∧ wpH P ops Q S f (listed.setIfInBounds j true) a' w') a w)
    (hk : wpOp P ops Q k (fun a' w' => S w' ∧ wpH P ops Q S f (listed.setIfInBounds k true) a' w') a w) : wpH P ops Q S (f + 1) listed a w := by
  refine ⟨fun h0 => (by rw [hr] at h0; cases h0), fun x hx => ?_⟩
  rw [hr] at hx
  simp only [List.mem_cons, List.not_mem_nil, or_false] at hx
  rcases hx with rfl | rfl | rfl
  · exact hi
  · exact hj
  · exact hk
/-- Nothing is left. -/
theorem H_end {f : Nat} {listed : Array Bool} {a : Act} {w : World} (hr : Region.ready .any ops listed = []) (hq : Q .normal a w) : wpH P ops Q S f listed a w := by
  cases f with
  | zero => exact ⟨hr, hq⟩
  | succ f => exact ⟨fun _ => hq, by rw [hr]; simp⟩

theorem region_H {id : Nat} {l : List Oper} {a : Act} {w : World} (hm : P.follows .mixedOrders = true) (h : wpH P l.toArray Q S l.toArray.size (Array.replicate l.toArray.size false) a { w with drawn := w.drawn + 1 }) : (Code.region id l.toArray true).wp P Q a w :=
  wp_region_any hm (wpAny_of_H _ _ _ _ h)
end
end Go.Proofs.YtnapnkmehnabfaaGreat

import Derived.Test.YtaegfljpodhnhaaR34
namespace Go.Proofs.Ytaegfljpodhnhaa
open Go.RowKit Go.Maps
section
variable {P : Program} {ops : Array Oper} {Q : Exit → Act → World → Prop} {S : World → Prop} {s : Nat}

theorem T_first2 {k m : Nat} {ok : Oper} {v : Value} (hk : ops[k]? = some ok) (hsel : ∀ (j : Nat) (o : Oper) cs b, ops[j]? = some o → o.op ≠ .select cs b)
    (hQ : ∀ c a w, Q (.panic c) (a.put ok.dst v) w → Q (.panic c) a w) (hks : Region.waitsFor .any ops s m = true) (hkm : Region.waitsFor .any ops m k = true) (hne : k ≠ s) (hmk : m ≠ k) :
    ∀ (f : Nat) (listed : Array Bool) (a : Act) (w : World),
      (∀ j oj, ops[j]? = some oj → j ≠ k → listed.getD j true = false → (∀ e ∈ oj.after, Region.binds .any e = true → e.on ≠ k) → ok.apart ops oj = true) →
      k ∈ Region.ready .any ops listed → YieldsIf P ops S ok v a → S w → listed.getD s true = false → listed.getD m true = false →
      wpT P ops Q S s f (listed.setIfInBounds k true) (a.put ok.dst v) w → wpT P ops Q S s (f + 1) listed a w := by
  intro f
  induction f with
  | zero =>
    intro listed a w _ hr hy hS _ _ H
    refine ⟨fun h => (by rw [h] at hr; cases hr), fun j hj => ?_⟩
    by_cases hjk : j = k
    · subst hjk; exact hy.wpOp hk hS ⟨fun _ => hS, H⟩
    · have := ready_mono hj hjk
      rw [H.1] at this
      cases this
  | succ f ih =>
    intro listed a w hfree hr hy hS hsu hmu H
    refine ⟨fun h => (by rw [h] at hr; cases hr), fun j hj => ?_⟩
    by_cases hjk : j = k
    · subst hjk; exact hy.wpOp hk hS ⟨fun _ => hS, H⟩
    · have h1 := H.2 j (ready_mono hj hjk)
      obtain ⟨hju, oj, hoj, hall⟩ := mem_ready.1 hj
      have hku := unlisted_both (mem_ready.1 hr).1
      have hjs : j ≠ s := fun e => by
        subst e
        obtain ⟨os, ho, e, he, hb, hon⟩ := Region.waitsFor_spec hks
        rw [hoj] at ho
        injection ho with ho
        subst ho
        exact (unlisted_both hmu) (hon ▸ hall e he hb)
      have hjm : j ≠ m := fun e => by
        subst e
        obtain ⟨os, ho, e, he, hb, hon⟩ := Region.waitsFor_spec hkm
        rw [hoj] at ho
        injection ho with ho
        subst ho
        exact hku (hon ▸ hall e he hb)
      have hnot : ∀ e ∈ oj.after, Region.binds .any e = true → e.on ≠ k := fun e he hb hon => hku (hon ▸ hall e he hb)
      have h2 := wpOp_putIf hoj (hfree j oj hoj hjk hju hnot) (fun cs b => hsel k ok cs b hk) (fun cs b => hsel j oj cs b hoj) hQ hy h1
      refine wpOp_mono (fun a' w' h3 => ?_) h2
      have hu1 : (listed.setIfInBounds j true).getD s true = false := by rw [getD_set_ne true hjs]; exact hsu
      have hS' : S w' := h3.2.1 (by rw [getD_set_ne true hjs, getD_set_ne true hne]; exact hsu)
      refine ⟨fun _ => hS', ih (listed.setIfInBounds j true) a' w' (fun i oi hoi hik hun hno => ?_) (ready_mono hr (Ne.symm hjk)) h3.1 hS' hu1 (by rw [getD_set_ne true hjm]; exact hmu) ?_⟩
      · refine hfree i oi hoi hik ?_ hno
        by_cases hji : j = i
        · subst hji; exact hju
        · rw [getD_set_ne true hji] at hun; exact hun
      · rw [Array.setIfInBounds_comm _ _ hjk]
        exact h3.2.2

theorem T_take2 {k : Nat} (m : Nat) {ok : Oper} {v : Value} {f : Nat} {listed : Array Bool} {a : Act} {w : World} (hk : ops[k]? = some ok) (hB : (Region.noSelect ops && Region.free .any ops listed k && (Region.ready .any ops listed).contains k && Region.waitsFor .any ops s m && Region.waitsFor .any ops m k && decide (k ≠ s) && decide (m ≠ k) && !listed.getD s true && !listed.getD m true) = true)
    (hQ : ∀ c a w, Q (.panic c) (a.put ok.dst v) w → Q (.panic c) a w) (hy : YieldsIf P ops S ok v a) (hS : S w)
    (h : wpT P ops Q S s f (listed.setIfInBounds k true) (a.put ok.dst v) w) : wpT P ops Q S s (f + 1) listed a w := by
  simp only [Bool.and_eq_true, decide_eq_true_eq, Bool.not_eq_true'] at hB
  obtain ⟨⟨⟨⟨⟨⟨⟨⟨h1, h2⟩, h3⟩, h4⟩, h4m⟩, h5⟩, h5m⟩, h6⟩, h6m⟩ := hB
  exact T_first2 hk (Region.noSelect_spec h1) hQ h4 h4m h5 h5m f listed a w (Region.free_spec hk h2) (by simpa using h3) hy hS h6 h6m h


theorem T_step {i : Nat} {o : Oper} {f : Nat} {listed : Array Bool} {a : Act} {w : World} (ho : ops[i]? = some o) (hgd : o.guard = none)
    (h : ∀ K : Act → World → Prop, (∀ a' w', S w' → wpT P ops Q S s f (listed.setIfInBounds i true) a' w' → K a' w') → Oper.wp P o a w K Q) :
    wpOp P ops Q i (fun a' w' => ((listed.setIfInBounds i true).getD s true = false → S w') ∧ wpT P ops Q S s f (listed.setIfInBounds i true) a' w') a w := by
  refine wpOp_step ho fun K hK => ?_
  rw [if_pos (by simp [Region.wanted, hgd])]
  exact h K fun a' w' hS hT => hK a' w' ⟨fun _ => hS, hT⟩

/-- Any of two, of three operations comes next. -/
theorem T_two {i j : Nat} {f : Nat} {listed : Array Bool} {a : Act} {w : World} (hr : Region.ready .any ops listed = [i, j])
    (hi : wpOp P ops Q i (fun a' w' => ((listed.setIfInBounds i true).getD s true = false → S w') ∧ wpT P ops Q S s f (listed.setIfInBounds i true) a' w') a w)
    (hj : wpOp P ops Q j (fun a' w' => ((listed.setIfInBounds j true).getD s true = false → S w') ∧ wpT P ops Q S s f (listed.setIfInBounds j true) a' w') a w) : wpT P ops Q S s (f + 1) listed a w := by
  refine ⟨fun h0 => (by rw [hr] at h0; cases h0), fun x hx => ?_⟩
  rw [hr] at hx
  simp only [List.mem_cons, List.not_mem_nil, or_false] at hx
  rcases hx with rfl | rfl
  · exact hi
  · exact hj
theorem T_three {i j k : Nat} {f : Nat} {listed : Array Bool} {a : Act} {w : World} (hr : Region.ready .any ops listed = [i, j, k])
    (hi : wpOp P ops Q i (fun a' w' => ((listed.setIfInBounds i true).getD s true = false → S w') ∧ wpT P ops Q S s f (listed.setIfInBounds i true) a' w') a w)
    (hj : wpOp P ops Q j (fun a' w' => ((listed.setIfInBounds j true).getD s true = false → S w') ∧ wpT P ops Q S s f (listed.setIfInBounds j true) a' w') a w)
    (hk : wpOp P ops Q k (fun a' w' => ((listed.setIfInBounds k true).getD s true = false → S w') ∧ wpT P ops Q S s f (listed.setIfInBounds k true) a' w') a w) : wpT P ops Q S s (f + 1) listed a w := by
  refine ⟨fun h0 => (by rw [hr] at h0; cases h0), fun x hx => ?_⟩
  rw [hr] at hx
  simp only [List.mem_cons, List.not_mem_nil, or_false] at hx
  rcases hx with rfl | rfl | rfl
  · exact hi
  · exact hj
  · exact hk

end
/-- A piece of code that ends one way alone. -/
theorem wp_det {P : Program} {c : Code} {Q : Exit → Act → World → Prop} {a : Act} {w : World} (fin : Act) (wf : World) (now : c.wp P (NoPanic (fun e a' w' => Hid (e = Exit.normal ∧ a' = fin ∧ w' = wf))) a w) (later : Q .normal fin wf) : c.wp P Q a w :=
  Code.wp_mono (fun e a' w' h => by
    obtain ⟨rfl, rfl, rfl⟩ := Hid.out (NoPanic.imp e a' w' h)
    exact later) now
theorem hid_det {e : Exit} {a : Act} {w : World} : Hid (e = e ∧ a = a ∧ w = w) := Lib.hid ⟨rfl, rfl, rfl⟩
end Go.Proofs.Ytaegfljpodhnhaa

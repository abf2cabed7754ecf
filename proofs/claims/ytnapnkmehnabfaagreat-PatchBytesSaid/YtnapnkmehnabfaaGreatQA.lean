import Derived.Test.YtnapnkmehnabfaaGreatGB
import Derived.StillTail
import Derived.OrdersHeld
import Derived.Deep.RegionLaw
import Derived.Deep.RegionHeld3
import Derived.Laws.IdiomStrings
set_option maxHeartbeats 4000000
set_option maxRecDepth 100000
set_option linter.unusedSimpArgs false
namespace Go.Proofs.YtnapnkmehnabfaaGreat
open Go.RowKit Go.Maps
section
variable {P : Program} {ops : Array Oper} {Q : Exit → Act → World → Prop} {S : World → Prop} {s : Nat}
def wpT (P : Program) (ops : Array Oper) (Q : Exit → Act → World → Prop) (S : World → Prop) (s : Nat) : Nat → Array Bool → Act → World → Prop
 | 0, listed, a, w => Region.ready .any ops listed = [] ∧ Q .normal a w
 | f + 1, listed, a, w => (Region.ready .any ops listed = [] → Q .normal a w) ∧
  ∀ i ∈ Region.ready .any ops listed, wpOp P ops Q i (fun a' w' => ((listed.setIfInBounds i true).getD s true = false → S w') ∧ wpT P ops Q S s f (listed.setIfInBounds i true) a' w') a w
theorem wpAny_of_T : ∀ (f : Nat) (listed : Array Bool) (a : Act) (w : World), wpT P ops Q S s f listed a w → wpAny P .any ops Q f listed a w
 | 0, _, _, _, h => h
 | f + 1, _, _, _, h => ⟨h.1, fun i hi => wpOp_mono (fun a' w' h' => wpAny_of_T f _ a' w' h'.2) (h.2 i hi)⟩
theorem unlisted_both {listed : Array Bool} {i : Nat} (h : listed.getD i true = false) : ¬ listed.getD i false = true := by
 rcases Nat.lt_or_ge i listed.size with h' | h'
 ·simp [h'] at h ⊢; exact h
 simp [Array.getElem?_eq_none h'] at h
theorem T_first {k : Nat} {ok : Oper} {v : Value} (hk : ops[k]? = some ok) (hsel : ∀ (j : Nat) (o : Oper) cs b, ops[j]? = some o → o.op ≠ .select cs b)
  (hQ : ∀ c a w, Q (.panic c) (a.put ok.dst v) w → Q (.panic c) a w) (hks : Region.waitsFor .any ops s k = true) (hne : k ≠ s) :
  ∀ (f : Nat) (listed : Array Bool) (a : Act) (w : World),
   (∀ j oj, ops[j]? = some oj → j ≠ k → listed.getD j true = false → (∀ e ∈ oj.after, Region.binds .any e = true → e.on ≠ k) → ok.apart ops oj = true) →
   k ∈ Region.ready .any ops listed → YieldsIf P ops S ok v a → S w → listed.getD s true = false →
   wpT P ops Q S s f (listed.setIfInBounds k true) (a.put ok.dst v) w → wpT P ops Q S s (f + 1) listed a w := by
 intro f;induction f with
 | zero =>
  intro listed a w _ hr hy hS _ H;refine ⟨fun h => (by rw [h] at hr; cases hr), fun j hj => ?_⟩;by_cases hjk : j = k
  ·subst hjk; exact hy.wpOp hk hS ⟨fun _ => hS, H⟩
  have := ready_mono hj hjk;rw [H.1] at this;cases this
 | succ f ih =>
  intro listed a w hfree hr hy hS hsu H;refine ⟨fun h => (by rw [h] at hr; cases hr), fun j hj => ?_⟩;by_cases hjk : j = k
  ·subst hjk; exact hy.wpOp hk hS ⟨fun _ => hS, H⟩
  have h1 := H.2 j (ready_mono hj hjk);obtain ⟨hju, oj, hoj, hall⟩ := mem_ready.1 hj;have hku := unlisted_both (mem_ready.1 hr).1;have hjs : j ≠ s := fun e => by
   subst e;obtain ⟨os, ho, e, he, hb, hon⟩ := Region.waitsFor_spec hks;rw [hoj] at ho;injection ho with ho;subst ho;exact hku (hon ▸ hall e he hb)
  have hnot : ∀ e ∈ oj.after, Region.binds .any e = true → e.on ≠ k := fun e he hb hon => hku (hon ▸ hall e he hb);have h2 := wpOp_putIf hoj (hfree j oj hoj hjk hju hnot) (fun cs b => hsel k ok cs b hk) (fun cs b => hsel j oj cs b hoj) hQ hy h1;refine wpOp_mono (fun a' w' h3 => ?_) h2;have hu1 : (listed.setIfInBounds j true).getD s true = false := by rw [getD_set_ne true hjs]; exact hsu
  have hS' : S w' := h3.2.1 (by rw [getD_set_ne true hjs, getD_set_ne true hne]; exact hsu);refine ⟨fun _ => hS', ih (listed.setIfInBounds j true) a' w' (fun i oi hoi hik hun hno => ?_) (ready_mono hr (Ne.symm hjk)) h3.1 hS' hu1 ?_⟩
  ·refine hfree i oi hoi hik ?_ hno;by_cases hji : j = i
   ·subst hji; exact hju
   rw [getD_set_ne true hji] at hun; exact hun
  rw [Array.setIfInBounds_comm _ _ hjk];exact h3.2.2
theorem T_take {k : Nat} {ok : Oper} {v : Value} {f : Nat} {listed : Array Bool} {a : Act} {w : World} (hk : ops[k]? = some ok) (hB : (Region.noSelect ops && Region.free .any ops listed k && (Region.ready .any ops listed).contains k && Region.waitsFor .any ops s k && decide (k ≠ s) && !listed.getD s true) = true)
  (hQ : ∀ c a w, Q (.panic c) (a.put ok.dst v) w → Q (.panic c) a w) (hy : YieldsIf P ops S ok v a) (hS : S w)
  (h : wpT P ops Q S s f (listed.setIfInBounds k true) (a.put ok.dst v) w) : wpT P ops Q S s (f + 1) listed a w := by
 simp only [Bool.and_eq_true, decide_eq_true_eq, Bool.not_eq_true'] at hB;obtain ⟨⟨⟨⟨⟨h1, h2⟩, h3⟩, h4⟩, h5⟩, h6⟩ := hB;exact T_first hk (Region.noSelect_spec h1) hQ h4 h5 f listed a w (Region.free_spec hk h2) (by simpa using h3) hy hS h6 h
theorem T_one {i : Nat} {o : Oper} {f : Nat} {listed : Array Bool} {a : Act} {w : World} (hr : Region.ready .any ops listed = [i]) (ho : ops[i]? = some o) (hgd : o.guard = none)
  (h : ∀ K : Act → World → Prop, (∀ a' w', S w' → wpT P ops Q S s f (listed.setIfInBounds i true) a' w' → K a' w') → Oper.wp P o a w K Q) : wpT P ops Q S s (f + 1) listed a w := by
 refine ⟨fun h0 => (by rw [hr] at h0; cases h0), fun j hj => ?_⟩;rw [hr] at hj;obtain rfl : j = i := by simpa using hj
 refine wpOp_step ho fun K hK => ?_;rw [if_pos (by simp [Region.wanted, hgd])];exact h K fun a' w' hS hT => hK a' w' ⟨fun _ => hS, hT⟩
theorem T_last {o : Oper} {f : Nat} {listed : Array Bool} {a : Act} {w : World} (hr : Region.ready .any ops listed = [s]) (hr2 : Region.ready .any ops (listed.setIfInBounds s true) = []) (hs : s < listed.size) (ho : ops[s]? = some o) (hgd : o.guard = none)
  (h : ∀ K : Act → World → Prop, (∀ a' w', Q .normal a' w' → K a' w') → Oper.wp P o a w K Q) : wpT P ops Q S s (f + 1) listed a w := by
 refine ⟨fun h0 => (by rw [hr] at h0; cases h0), fun j hj => ?_⟩;rw [hr] at hj;obtain rfl : j = s := by simpa using hj
 refine wpOp_step ho fun K hK => ?_;rw [if_pos (by simp [Region.wanted, hgd])];refine h K fun a' w' hq => hK a' w' ⟨fun hf => ?_, ?_⟩
 ·simp [hs] at hf
 cases f with
 | zero => exact ⟨hr2, hq⟩
 | succ f => exact ⟨fun _ => hq, by rw [hr2]; simp⟩
theorem app_wp {o : Oper} {a : Act} {w : World} {K : Act → World → Prop} {base : Nat} {us xs : List Value} {e t : TypeId} {z : Value} {size bytes n H c : Nat} {v : Value} (x y : Operand)
  (ho : o.op = .call { callee := .builtin .append, args := #[x, y], argTypes := #[t, t] }) (hE : Elt P t e z size bytes) (hs : a.eval x = v) (hx : a.eval y = .slice (some ⟨H, 0, none⟩) 1 c)
  (hown : w.ownsRow base e size v n xs) (hB : Bk w H e us.toArray) (hl : us.length = size) (h1 : us.all (·.oneCell') = true) (hn : n < 1099511627776) (hbs : base ≤ w.heap.size)
  (h : ∀ v' w1, w1.ownsRow base e size v' (n + 1) (xs ++ us) → w.grownBy w1 v.ownBlock → K (a.put o.dst v') w1) : Oper.wp P o a w K Q := by
 obtain ⟨ht, hsz, hby, hzs, i, hi, hz, hs1, hb1⟩ := hE;have hmul : (n + 1) * bytes ≤ 140737488355328 := by
  have := Nat.mul_le_mul (show n + 1 ≤ 1099511627776 from hn) hby;omega
 exact wp_append_lies w x y t ho base e i z size bytes ht hi hz hs1 hb1 hzs hsz v n xs hs hown ⟨H, 0, none⟩ 1 c us hx (by simpa using hl) (World.news_of_block hB) (all_one h1) (by omega) (by unfold maxLen; omega) hmul hbs _ rfl
  (fun g cap w1 k1 k2 _ _ => h _ w1 k1 k2)
theorem region_T {id : Nat} {l : List Oper} {a : Act} {w : World} (hm : P.follows .mixedOrders = true) (h : wpT P l.toArray Q S s l.toArray.size (Array.replicate l.toArray.size false) a { w with drawn := w.drawn + 1 }) : (Code.region id l.toArray true).wp P Q a w :=
 wp_region_any hm (wpAny_of_T _ _ _ _ h)
end
section
variable {P : Program} {ops : Array Oper} {Q : Exit → Act → World → Prop} {S : World → Prop}
def wpH (P : Program) (ops : Array Oper) (Q : Exit → Act → World → Prop) (S : World → Prop) : Nat → Array Bool → Act → World → Prop
 | 0, listed, a, w => Region.ready .any ops listed = [] ∧ Q .normal a w
 | f + 1, listed, a, w => (Region.ready .any ops listed = [] → Q .normal a w) ∧
  ∀ i ∈ Region.ready .any ops listed, wpOp P ops Q i (fun a' w' => S w' ∧ wpH P ops Q S f (listed.setIfInBounds i true) a' w') a w
theorem wpAny_of_H : ∀ (f : Nat) (listed : Array Bool) (a : Act) (w : World), wpH P ops Q S f listed a w → wpAny P .any ops Q f listed a w
 | 0, _, _, _, h => h
 | f + 1, _, _, _, h => ⟨h.1, fun i hi => wpOp_mono (fun a' w' h' => wpAny_of_H f _ a' w' h'.2) (h.2 i hi)⟩
theorem H_first {k : Nat} {ok : Oper} {v : Value} (hk : ops[k]? = some ok) (hsel : ∀ (j : Nat) (o : Oper) cs b, ops[j]? = some o → o.op ≠ .select cs b)
  (hQ : ∀ c a w, Q (.panic c) (a.put ok.dst v) w → Q (.panic c) a w) :
  ∀ (f : Nat) (listed : Array Bool) (a : Act) (w : World),
   (∀ j oj, ops[j]? = some oj → j ≠ k → listed.getD j true = false → (∀ e ∈ oj.after, Region.binds .any e = true → e.on ≠ k) → ok.apart ops oj = true) →
   k ∈ Region.ready .any ops listed → YieldsIf P ops S ok v a → S w →
   wpH P ops Q S f (listed.setIfInBounds k true) (a.put ok.dst v) w → wpH P ops Q S (f + 1) listed a w := by
 intro f;induction f with
 | zero =>
  intro listed a w _ hr hy hS H;refine ⟨fun h => (by rw [h] at hr; cases hr), fun j hj => ?_⟩;by_cases hjk : j = k
  ·subst hjk; exact hy.wpOp hk hS ⟨hS, H⟩
  have := ready_mono hj hjk;rw [H.1] at this;cases this
 | succ f ih =>
  intro listed a w hfree hr hy hS H;refine ⟨fun h => (by rw [h] at hr; cases hr), fun j hj => ?_⟩;by_cases hjk : j = k
  ·subst hjk; exact hy.wpOp hk hS ⟨hS, H⟩
  have h1 := H.2 j (ready_mono hj hjk);obtain ⟨hju, oj, hoj, hall⟩ := mem_ready.1 hj;have hku := unlisted_both (mem_ready.1 hr).1;have hnot : ∀ e ∈ oj.after, Region.binds .any e = true → e.on ≠ k := fun e he hb hon => hku (hon ▸ hall e he hb);have h2 := wpOp_putIf hoj (hfree j oj hoj hjk hju hnot) (fun cs b => hsel k ok cs b hk) (fun cs b => hsel j oj cs b hoj) hQ hy h1;refine wpOp_mono (fun a' w' h3 => ?_) h2;refine ⟨h3.2.1, ih (listed.setIfInBounds j true) a' w' (fun i oi hoi hik hun hno => ?_) (ready_mono hr (Ne.symm hjk)) h3.1 h3.2.1 ?_⟩
  ·refine hfree i oi hoi hik ?_ hno;by_cases hji : j = i
   ·subst hji; exact hju
   rw [getD_set_ne true hji] at hun; exact hun
  rw [Array.setIfInBounds_comm _ _ hjk];exact h3.2.2
theorem H_take {k : Nat} {ok : Oper} {v : Value} {f : Nat} {listed : Array Bool} {a : Act} {w : World} (hk : ops[k]? = some ok) (hB : (Region.noSelect ops && Region.free .any ops listed k && (Region.ready .any ops listed).contains k) = true)
  (hQ : ∀ c a w, Q (.panic c) (a.put ok.dst v) w → Q (.panic c) a w) (hy : YieldsIf P ops S ok v a) (hS : S w)
  (h : wpH P ops Q S f (listed.setIfInBounds k true) (a.put ok.dst v) w) : wpH P ops Q S (f + 1) listed a w := by
 simp only [Bool.and_eq_true] at hB;obtain ⟨⟨h1, h2⟩, h3⟩ := hB;exact H_first hk (Region.noSelect_spec h1) hQ f listed a w (Region.free_spec hk h2) (by simpa using h3) hy hS h
theorem H_takeD {k : Nat} {ok : Oper} {v : Value} {d : Option Nat} {f : Nat} {listed : Array Bool} {a : Act} {w : World} (hk : ops[k]? = some ok) (hd : ok.dst = d) (hB : (Region.noSelect ops && Region.free .any ops listed k && (Region.ready .any ops listed).contains k) = true)
  (hQ : ∀ c a w, Q (.panic c) (a.put d v) w → Q (.panic c) a w) (hy : YieldsIf P ops S ok v a) (hS : S w)
  (h : wpH P ops Q S f (listed.setIfInBounds k true) (a.put d v) w) : wpH P ops Q S (f + 1) listed a w := by
 subst hd;exact H_take hk hB hQ hy hS h
theorem H_step {i : Nat} {o : Oper} {f : Nat} {listed : Array Bool} {a : Act} {w : World} (ho : ops[i]? = some o) (hgd : o.guard = none)
  (h : ∀ K : Act → World → Prop, (∀ a' w', S w' → wpH P ops Q S f (listed.setIfInBounds i true) a' w' → K a' w') → Oper.wp P o a w K Q) :
  wpOp P ops Q i (fun a' w' => S w' ∧ wpH P ops Q S f (listed.setIfInBounds i true) a' w') a w := by
 refine wpOp_step ho fun K hK => ?_;rw [if_pos (by simp [Region.wanted, hgd])];exact h K fun a' w' hS hT => hK a' w' ⟨hS, hT⟩
theorem H_stepg {i : Nat} {o : Oper} {f : Nat} {listed : Array Bool} {a : Act} {w : World} (ho : ops[i]? = some o) (hw : Region.wanted o (yielded ops a.tmps) = true)
  (h : ∀ K : Act → World → Prop, (∀ a' w', S w' → wpH P ops Q S f (listed.setIfInBounds i true) a' w' → K a' w') → Oper.wp P o a w K Q) :
  wpOp P ops Q i (fun a' w' => S w' ∧ wpH P ops Q S f (listed.setIfInBounds i true) a' w') a w := by
 refine wpOp_step ho fun K hK => ?_;rw [if_pos hw];exact h K fun a' w' hS hT => hK a' w' ⟨hS, hT⟩
theorem H_one {i : Nat} {f : Nat} {listed : Array Bool} {a : Act} {w : World} (hr : Region.ready .any ops listed = [i])
  (hi : wpOp P ops Q i (fun a' w' => S w' ∧ wpH P ops Q S f (listed.setIfInBounds i true) a' w') a w) : wpH P ops Q S (f + 1) listed a w := by
 refine ⟨fun h0 => (by rw [hr] at h0; cases h0), fun x hx => ?_⟩;rw [hr] at hx;obtain rfl : x = i := by simpa using hx
 exact hi
theorem H_two {i j : Nat} {f : Nat} {listed : Array Bool} {a : Act} {w : World} (hr : Region.ready .any ops listed = [i, j])
  (hi : wpOp P ops Q i (fun a' w' => S w' ∧ wpH P ops Q S f (listed.setIfInBounds i true) a' w') a w)
  (hj : wpOp P ops Q j (fun a' w' => S w' ∧ wpH P ops Q S f (listed.setIfInBounds j true) a' w') a w) : wpH P ops Q S (f + 1) listed a w := by
 refine ⟨fun h0 => (by rw [hr] at h0; cases h0), fun x hx => ?_⟩;rw [hr] at hx;simp only [List.mem_cons, List.not_mem_nil, or_false] at hx;rcases hx with rfl | rfl
 ·exact hi
 exact hj
theorem H_end {f : Nat} {listed : Array Bool} {a : Act} {w : World} (hr : Region.ready .any ops listed = []) (hq : Q .normal a w) : wpH P ops Q S f listed a w := by
 cases f with
 | zero => exact ⟨hr, hq⟩
 | succ f => exact ⟨fun _ => hq, by rw [hr]; simp⟩
theorem region_H {id : Nat} {l : List Oper} {a : Act} {w : World} (hm : P.follows .mixedOrders = true) (h : wpH P l.toArray Q S l.toArray.size (Array.replicate l.toArray.size false) a { w with drawn := w.drawn + 1 }) : (Code.region id l.toArray true).wp P Q a w :=
 wp_region_any hm (wpAny_of_H _ _ _ _ h)
end
section
variable {P : Program} {ops : Array Oper} {Q : Exit → Act → World → Prop} {S : World → Prop} {s : Nat}
theorem T_takeD {k : Nat} {ok : Oper} {v : Value} {d : Option Nat} {f : Nat} {listed : Array Bool} {a : Act} {w : World} (hk : ops[k]? = some ok) (hd : ok.dst = d) (hB : (Region.noSelect ops && Region.free .any ops listed k && (Region.ready .any ops listed).contains k && Region.waitsFor .any ops s k && decide (k ≠ s) && !listed.getD s true) = true)
  (hQ : ∀ c a w, Q (.panic c) (a.put d v) w → Q (.panic c) a w) (hy : YieldsIf P ops S ok v a) (hS : S w)
  (h : wpT P ops Q S s f (listed.setIfInBounds k true) (a.put d v) w) : wpT P ops Q S s (f + 1) listed a w := by
 subst hd;exact T_take hk hB hQ hy hS h
theorem T_step {i : Nat} {o : Oper} {f : Nat} {listed : Array Bool} {a : Act} {w : World} (ho : ops[i]? = some o) (hgd : o.guard = none)
  (h : ∀ K : Act → World → Prop, (∀ a' w', S w' → wpT P ops Q S s f (listed.setIfInBounds i true) a' w' → K a' w') → Oper.wp P o a w K Q) :
  wpOp P ops Q i (fun a' w' => ((listed.setIfInBounds i true).getD s true = false → S w') ∧ wpT P ops Q S s f (listed.setIfInBounds i true) a' w') a w := by
 refine wpOp_step ho fun K hK => ?_;rw [if_pos (by simp [Region.wanted, hgd])];exact h K fun a' w' hS hT => hK a' w' ⟨fun _ => hS, hT⟩
theorem T_two {i j : Nat} {f : Nat} {listed : Array Bool} {a : Act} {w : World} (hr : Region.ready .any ops listed = [i, j])
  (hi : wpOp P ops Q i (fun a' w' => ((listed.setIfInBounds i true).getD s true = false → S w') ∧ wpT P ops Q S s f (listed.setIfInBounds i true) a' w') a w)
  (hj : wpOp P ops Q j (fun a' w' => ((listed.setIfInBounds j true).getD s true = false → S w') ∧ wpT P ops Q S s f (listed.setIfInBounds j true) a' w') a w) : wpT P ops Q S s (f + 1) listed a w := by
 refine ⟨fun h0 => (by rw [hr] at h0; cases h0), fun x hx => ?_⟩;rw [hr] at hx;simp only [List.mem_cons, List.not_mem_nil, or_false] at hx;rcases hx with rfl | rfl
 ·exact hi
 exact hj
theorem T_oneS {i : Nat} {f : Nat} {listed : Array Bool} {a : Act} {w : World} (hr : Region.ready .any ops listed = [i])
  (hi : wpOp P ops Q i (fun a' w' => ((listed.setIfInBounds i true).getD s true = false → S w') ∧ wpT P ops Q S s f (listed.setIfInBounds i true) a' w') a w) : wpT P ops Q S s (f + 1) listed a w := by
 refine ⟨fun h0 => (by rw [hr] at h0; cases h0), fun x hx => ?_⟩;rw [hr] at hx;obtain rfl : x = i := by simpa using hx
 exact hi
end
/-! The rules in short. -/
section
variable {P : Program} {ops : Array Oper} {Q : Exit → Act → World → Prop} {S : World → Prop} {s : Nat}
theorem Ht (k : Nat) {ok : Oper} (v : Value) (d : Nat) {f : Nat} {listed : Array Bool} {a : Act} {w : World} (hk : ops[k]? = some ok) (hd : ok.dst = some d) (hw : Region.wanted ok (yielded ops a.tmps) = true) (hv : ∀ W, S W → (execOp a.eval ok).run P W = .ok (.value v) W) (hS : S w)
  (h : wpH P ops Q S f (listed.setIfInBounds k true) (a.put (some d) v) w) (hB : (Region.noSelect ops && Region.free .any ops listed k && (Region.ready .any ops listed).contains k) = true := by decide +kernel) (hQ : ∀ c a w, Q (.panic c) (a.put (some d) v) w → Q (.panic c) a w := by exact fun _ _ _ h => h) : wpH P ops Q S (f + 1) listed a w :=
 H_takeD hk hd hB hQ (.inl ⟨hw, hv⟩) hS h
theorem Hu (k : Nat) {ok : Oper} (d : Nat) {f : Nat} {listed : Array Bool} {a : Act} {w : World} (hk : ops[k]? = some ok) (hd : ok.dst = some d) (hw : Region.wanted ok (yielded ops a.tmps) = false) (hS : S w)
  (h : wpH P ops Q S f (listed.setIfInBounds k true) (a.put (some d) undef) w) (hB : (Region.noSelect ops && Region.free .any ops listed k && (Region.ready .any ops listed).contains k) = true := by decide +kernel) (hQ : ∀ c a w, Q (.panic c) (a.put (some d) undef) w → Q (.panic c) a w := by exact fun _ _ _ h => h) : wpH P ops Q S (f + 1) listed a w :=
 H_takeD hk hd hB hQ (.inr ⟨hw, rfl⟩) hS h
theorem Tt (k : Nat) {ok : Oper} (v : Value) (d : Nat) {f : Nat} {listed : Array Bool} {a : Act} {w : World} (hk : ops[k]? = some ok) (hd : ok.dst = some d) (hw : Region.wanted ok (yielded ops a.tmps) = true) (hv : ∀ W, S W → (execOp a.eval ok).run P W = .ok (.value v) W) (hS : S w)
  (h : wpT P ops Q S s f (listed.setIfInBounds k true) (a.put (some d) v) w) (hB : (Region.noSelect ops && Region.free .any ops listed k && (Region.ready .any ops listed).contains k && Region.waitsFor .any ops s k && decide (k ≠ s) && !listed.getD s true) = true := by decide +kernel) (hQ : ∀ c a w, Q (.panic c) (a.put (some d) v) w → Q (.panic c) a w := by exact fun _ _ _ h => h) : wpT P ops Q S s (f + 1) listed a w :=
 T_takeD hk hd hB hQ (.inl ⟨hw, hv⟩) hS h
theorem H1 (i : Nat) {o : Oper} {f : Nat} {listed : Array Bool} {a : Act} {w : World} (ho : ops[i]? = some o) (hgd : o.guard = none)
  (h : ∀ K : Act → World → Prop, Hid (∀ a' w', S w' → wpH P ops Q S f (listed.setIfInBounds i true) a' w' → K a' w') → Oper.wp P o a w K Q) (hr : Region.ready .any ops listed = [i] := by decide +kernel) : wpH P ops Q S (f + 1) listed a w :=
 H_one hr (H_step ho hgd h)
theorem H1g (i : Nat) {o : Oper} {f : Nat} {listed : Array Bool} {a : Act} {w : World} (ho : ops[i]? = some o) (hw : Region.wanted o (yielded ops a.tmps) = true)
  (h : ∀ K : Act → World → Prop, Hid (∀ a' w', S w' → wpH P ops Q S f (listed.setIfInBounds i true) a' w' → K a' w') → Oper.wp P o a w K Q) (hr : Region.ready .any ops listed = [i] := by decide +kernel) : wpH P ops Q S (f + 1) listed a w :=
 H_one hr (H_stepg ho hw h)
theorem H2 (i j : Nat) {o u : Oper} {f : Nat} {listed : Array Bool} {a : Act} {w : World} (ho : ops[i]? = some o) (hgd : o.guard = none) (hu : ops[j]? = some u) (hgu : u.guard = none)
  (h : ∀ K : Act → World → Prop, Hid (∀ a' w', S w' → wpH P ops Q S f (listed.setIfInBounds i true) a' w' → K a' w') → Oper.wp P o a w K Q)
  (h2 : ∀ K : Act → World → Prop, Hid (∀ a' w', S w' → wpH P ops Q S f (listed.setIfInBounds j true) a' w' → K a' w') → Oper.wp P u a w K Q) (hr : Region.ready .any ops listed = [i, j] := by decide +kernel) : wpH P ops Q S (f + 1) listed a w :=
 H_two hr (H_step ho hgd h) (H_step hu hgu h2)
theorem T1s (i : Nat) {o : Oper} {f : Nat} {listed : Array Bool} {a : Act} {w : World} (ho : ops[i]? = some o) (hgd : o.guard = none)
  (h : ∀ K : Act → World → Prop, Hid (∀ a' w', S w' → wpT P ops Q S s f (listed.setIfInBounds i true) a' w' → K a' w') → Oper.wp P o a w K Q) (hr : Region.ready .any ops listed = [i] := by decide +kernel) : wpT P ops Q S s (f + 1) listed a w :=
 T_oneS hr (T_step ho hgd h)
theorem T2s (i j : Nat) {o u : Oper} {f : Nat} {listed : Array Bool} {a : Act} {w : World} (ho : ops[i]? = some o) (hgd : o.guard = none) (hu : ops[j]? = some u) (hgu : u.guard = none)
  (h : ∀ K : Act → World → Prop, Hid (∀ a' w', S w' → wpT P ops Q S s f (listed.setIfInBounds i true) a' w' → K a' w') → Oper.wp P o a w K Q)
  (h2 : ∀ K : Act → World → Prop, Hid (∀ a' w', S w' → wpT P ops Q S s f (listed.setIfInBounds j true) a' w' → K a' w') → Oper.wp P u a w K Q) (hr : Region.ready .any ops listed = [i, j] := by decide +kernel) : wpT P ops Q S s (f + 1) listed a w :=
 T_two hr (T_step ho hgd h) (T_step hu hgu h2)
theorem Tl {o : Oper} {f : Nat} {listed : Array Bool} {a : Act} {w : World} (ho : ops[s]? = some o) (hgd : o.guard = none) (h : ∀ K : Act → World → Prop, Hid (∀ a' w', Q .normal a' w' → K a' w') → Oper.wp P o a w K Q)
  (hr : Region.ready .any ops listed = [s] := by decide +kernel) (hr2 : Region.ready .any ops (listed.setIfInBounds s true) = [] := by decide +kernel) (hs : s < listed.size := by decide +kernel) : wpT P ops Q S s (f + 1) listed a w := T_last hr hr2 hs ho hgd h
theorem rH {R : Exit → Act → World → Prop} {id : Nat} {l : List Oper} {a : Act} {w : World} (n : Nat) (S : World → Prop) (h : wpH P l.toArray (NoPanic R) S n (Array.replicate n false) a w.drew) (hn : l.toArray.size = n := by rfl) (hm : P.follows .mixedOrders = true := by kernel_rfl) : (Code.region id l.toArray true).wp P R a w := by
 subst hn;exact wp_region_noPanic (region_H hm h)
theorem rT {R : Exit → Act → World → Prop} {id : Nat} {l : List Oper} {a : Act} {w : World} (s n : Nat) (S : World → Prop) (h : wpT P l.toArray (NoPanic R) S s n (Array.replicate n false) a w.drew) (hn : l.toArray.size = n := by rfl) (hm : P.follows .mixedOrders = true := by kernel_rfl) : (Code.region id l.toArray true).wp P R a w := by
 subst hn;exact wp_region_noPanic (region_T hm h)
theorem H0 {R : Exit → Act → World → Prop} {f : Nat} {listed : Array Bool} {a : Act} {w : World} (hq : R .normal a w) (hr : Region.ready .any ops listed = [] := by decide +kernel) : wpH P ops (NoPanic R) S f listed a w := H_end hr (NoPanic.normal hq)
end
structure Cl where
 kind : Int
 office : Int
 fr : Int
 til : Int
 dec : Int
def clC (c : Cl) : List Value := [.int .i64 c.kind, .int .i64 c.office, .int .i64 c.fr, .int .i64 c.til, .int .i64 c.dec]
def clV (c : Cl) : Value := .agg #[.int .i64 c.kind, .int .i64 c.office, .int .i64 c.fr, .int .i64 c.til, .int .i64 c.dec]
def clE (c : Cl) : Int := if 0 ≤ c.kind ∧ c.kind ≤ 2 ∧ 0 ≤ c.office ∧ c.office ≤ 63 ∧ 0 ≤ c.dec ∧ c.dec ≤ 1048576 ∧ 0 ≤ c.fr ∧ c.fr ≤ c.til ∧ c.til ≤ 73048 then 0 else 1
def inB (n lo hi : Int) : Bool := decide (lo ≤ n) && decide (n ≤ hi)
theorem inB_true {n lo hi : Int} (h : lo ≤ n ∧ n ≤ hi) : inB n lo hi = true := by simp [inB, h.1, h.2]
theorem inB_false {n lo hi : Int} (h : ¬ (lo ≤ n ∧ n ≤ hi)) : inB n lo hi = false := by
 unfold inB;by_cases h1 : lo ≤ n
 ·rw [decide_eq_true h1, decide_eq_false (fun h2 => h ⟨h1, h2⟩)]; rfl
 rw [decide_eq_false h1]; rfl
theorem in_any (n lo hi : Int) (w : World) : Calls Tryz.prog 70 #[.int .i64 n, .int .i64 lo, .int .i64 hi] w fun e w' => e = .returned (.bool (inB n lo hi)) ∧ w = w' := by
 by_cases h : lo ≤ n ∧ n ≤ hi
 ·rw [inB_true h];obtain ⟨h1, h2⟩ := h;go_enter Tryz.func70, Tryz.ntmps70
  go_wp2_with fail
  go_ret
  exact ⟨rfl, rfl⟩
 rw [inB_false h];have hc : ¬ lo ≤ n ∨ (lo ≤ n ∧ ¬ n ≤ hi) := by omega
 clear h;rcases hc with h1 | ⟨h1, h2⟩;all_goals
  go_enter Tryz.func70, Tryz.ntmps70
  go_wp2_with fail
  go_ret
  exact ⟨rfl, rfl⟩
theorem isDay_any (n : Int) (w : World) : Calls Tryz.prog 72 #[.int .i64 n] w fun e w' => e = .returned (.bool (inB n 0 73048)) ∧ w = w' := by
 go_enter Tryz.func72, Tryz.ntmps72
 go_wp2_with fail
 refine (in_any n 0 73048 w).mono ?_;rintro e w1 ⟨rfl, rfl⟩;go_wp2_with fail
 go_ret
 exact ⟨rfl, rfl⟩
theorem isOffice_any (n : Int) (w : World) : Calls Tryz.prog 71 #[.int .i64 n] w fun e w' => e = .returned (.bool (inB n 0 63)) ∧ w = w' := by
 go_enter Tryz.func71, Tryz.ntmps71
 go_wp2_with fail
 refine (in_any n 0 63 w).mono ?_;rintro e w1 ⟨rfl, rfl⟩;go_wp2_with fail
 go_ret
 exact ⟨rfl, rfl⟩
theorem refClaim_any (c : Cl) (w : World) : Calls Tryz.prog 45 #[clV c] w fun e w' => e = .returned (.int .i64 (clE c)) ∧ Below w.heap.size w w' := by
 obtain ⟨kind, office, fr, til, dec⟩ := c;show Calls Tryz.prog 45 #[.agg #[.int .i64 kind, .int .i64 office, .int .i64 fr, .int .i64 til, .int .i64 dec]] w _;have hb := (Below.refl w.heap.size w).alloc (Nat.le_refl _) (.cells #[.int .i64 kind, .int .i64 office, .int .i64 fr, .int .i64 til, .int .i64 dec] 41);have k0 : (w.alloc (.cells #[.int .i64 kind, .int .i64 office, .int .i64 fr, .int .i64 til, .int .i64 dec] 41)).cell? ⟨w.heap.size, 0, none⟩ = some (.int .i64 kind) := (Bk.new w 41 #[.int .i64 kind, .int .i64 office, .int .i64 fr, .int .i64 til, .int .i64 dec]).cell 0;have k1 : (w.alloc (.cells #[.int .i64 kind, .int .i64 office, .int .i64 fr, .int .i64 til, .int .i64 dec] 41)).cell? ⟨w.heap.size, 1, none⟩ = some (.int .i64 office) := (Bk.new w 41 #[.int .i64 kind, .int .i64 office, .int .i64 fr, .int .i64 til, .int .i64 dec]).cell 1;have k2 : (w.alloc (.cells #[.int .i64 kind, .int .i64 office, .int .i64 fr, .int .i64 til, .int .i64 dec] 41)).cell? ⟨w.heap.size, 2, none⟩ = some (.int .i64 fr) := (Bk.new w 41 #[.int .i64 kind, .int .i64 office, .int .i64 fr, .int .i64 til, .int .i64 dec]).cell 2;have k3 : (w.alloc (.cells #[.int .i64 kind, .int .i64 office, .int .i64 fr, .int .i64 til, .int .i64 dec] 41)).cell? ⟨w.heap.size, 3, none⟩ = some (.int .i64 til) := (Bk.new w 41 #[.int .i64 kind, .int .i64 office, .int .i64 fr, .int .i64 til, .int .i64 dec]).cell 3
 have k4 : (w.alloc (.cells #[.int .i64 kind, .int .i64 office, .int .i64 fr, .int .i64 til, .int .i64 dec] 41)).cell? ⟨w.heap.size, 4, none⟩ = some (.int .i64 dec) := (Bk.new w 41 #[.int .i64 kind, .int .i64 office, .int .i64 fr, .int .i64 til, .int .i64 dec]).cell 4;by_cases hok : 0 ≤ kind ∧ kind ≤ 2 ∧ 0 ≤ office ∧ office ≤ 63 ∧ 0 ≤ dec ∧ dec ≤ 1048576 ∧ 0 ≤ fr ∧ fr ≤ til ∧ til ≤ 73048
 ·have he := q9 (show clE ⟨kind, office, fr, til, dec⟩ = 0 from if_pos hok);obtain ⟨a0, a1, a2, a3, a4, a5, a6, a7, a8⟩ := hok;go_enter Tryz.func45, Tryz.ntmps45
  go_wp2_with fail
  go_ret
  exact ⟨by rw [he.out]; rfl, hb⟩
 have he := q9 (show clE ⟨kind, office, fr, til, dec⟩ = 1 from if_neg hok);have hc : (kind < 0) ∨ (¬ kind < 0 ∧ kind > 2) ∨ (¬ kind < 0 ∧ ¬ kind > 2 ∧ office < 0) ∨ (¬ kind < 0 ∧ ¬ kind > 2 ∧ ¬ office < 0 ∧ office > 63) ∨ (¬ kind < 0 ∧ ¬ kind > 2 ∧ ¬ office < 0 ∧ ¬ office > 63 ∧ dec < 0) ∨ (¬ kind < 0 ∧ ¬ kind > 2 ∧ ¬ office < 0 ∧ ¬ office > 63 ∧ ¬ dec < 0 ∧ dec > 1048576) ∨ (¬ kind < 0 ∧ ¬ kind > 2 ∧ ¬ office < 0 ∧ ¬ office > 63 ∧ ¬ dec < 0 ∧ ¬ dec > 1048576 ∧ fr < 0) ∨ (¬ kind < 0 ∧ ¬ kind > 2 ∧ ¬ office < 0 ∧ ¬ office > 63 ∧ ¬ dec < 0 ∧ ¬ dec > 1048576 ∧ ¬ fr < 0 ∧ fr > til) ∨ (¬ kind < 0 ∧ ¬ kind > 2 ∧ ¬ office < 0 ∧ ¬ office > 63 ∧ ¬ dec < 0 ∧ ¬ dec > 1048576 ∧ ¬ fr < 0 ∧ ¬ fr > til ∧ til > 73048) := by omega
 clear hok;rcases hc with h0 | ⟨h0, h1⟩ | ⟨h0, h1, h2⟩ | ⟨h0, h1, h2, h3⟩ | ⟨h0, h1, h2, h3, h4⟩ | ⟨h0, h1, h2, h3, h4, h5⟩ | ⟨h0, h1, h2, h3, h4, h5, h6⟩ | ⟨h0, h1, h2, h3, h4, h5, h6, h7⟩ | ⟨h0, h1, h2, h3, h4, h5, h6, h7, h8⟩;all_goals
  go_enter Tryz.func45, Tryz.ntmps45
  go_wp2_with fail
  go_ret
  exact ⟨by rw [he.out]; rfl, hb⟩
theorem claim_any (c : Cl) (w : World) : Calls Tryz.prog 25 #[clV c] w fun e w' => e = .returned (.int .i64 (clE c)) ∧ Below w.heap.size w w' := by
 obtain ⟨kind, office, fr, til, dec⟩ := c;show Calls Tryz.prog 25 #[.agg #[.int .i64 kind, .int .i64 office, .int .i64 fr, .int .i64 til, .int .i64 dec]] w _;have hb := (Below.refl w.heap.size w).alloc (Nat.le_refl _) (.cells #[.int .i64 kind, .int .i64 office, .int .i64 fr, .int .i64 til, .int .i64 dec] 41);have k0 : (w.alloc (.cells #[.int .i64 kind, .int .i64 office, .int .i64 fr, .int .i64 til, .int .i64 dec] 41)).cell? ⟨w.heap.size, 0, none⟩ = some (.int .i64 kind) := (Bk.new w 41 #[.int .i64 kind, .int .i64 office, .int .i64 fr, .int .i64 til, .int .i64 dec]).cell 0;have k1 : (w.alloc (.cells #[.int .i64 kind, .int .i64 office, .int .i64 fr, .int .i64 til, .int .i64 dec] 41)).cell? ⟨w.heap.size, 1, none⟩ = some (.int .i64 office) := (Bk.new w 41 #[.int .i64 kind, .int .i64 office, .int .i64 fr, .int .i64 til, .int .i64 dec]).cell 1;have k2 : (w.alloc (.cells #[.int .i64 kind, .int .i64 office, .int .i64 fr, .int .i64 til, .int .i64 dec] 41)).cell? ⟨w.heap.size, 2, none⟩ = some (.int .i64 fr) := (Bk.new w 41 #[.int .i64 kind, .int .i64 office, .int .i64 fr, .int .i64 til, .int .i64 dec]).cell 2;have k3 : (w.alloc (.cells #[.int .i64 kind, .int .i64 office, .int .i64 fr, .int .i64 til, .int .i64 dec] 41)).cell? ⟨w.heap.size, 3, none⟩ = some (.int .i64 til) := (Bk.new w 41 #[.int .i64 kind, .int .i64 office, .int .i64 fr, .int .i64 til, .int .i64 dec]).cell 3
 have k4 : (w.alloc (.cells #[.int .i64 kind, .int .i64 office, .int .i64 fr, .int .i64 til, .int .i64 dec] 41)).cell? ⟨w.heap.size, 4, none⟩ = some (.int .i64 dec) := (Bk.new w 41 #[.int .i64 kind, .int .i64 office, .int .i64 fr, .int .i64 til, .int .i64 dec]).cell 4;by_cases hok : 0 ≤ kind ∧ kind ≤ 2 ∧ 0 ≤ office ∧ office ≤ 63 ∧ 0 ≤ dec ∧ dec ≤ 1048576 ∧ 0 ≤ fr ∧ fr ≤ til ∧ til ≤ 73048
 ·have he := q9 (show clE ⟨kind, office, fr, til, dec⟩ = 0 from if_pos hok);have t0 : 0 ≤ kind ∧ kind ≤ 2 := by omega
  have t1 : 0 ≤ office ∧ office ≤ 63 := by omega
  have t2 : 0 ≤ fr ∧ fr ≤ 73048 := by omega
  have t3 : 0 ≤ til ∧ til ≤ 73048 := by omega
  have t4 : fr ≤ til := by omega
  have t5 : 0 ≤ dec ∧ dec ≤ 1048576 := by omega
  clear hok;go_enter Tryz.func25, Tryz.ntmps25
  go_wp2_with fail
  refine (in_any kind 0 2 _).mono ?_;rintro e wx ⟨rfl, rfl⟩;rw [inB_true t0];go_wp2_with fail
  refine (isOffice_any office _).mono ?_;rintro e wx ⟨rfl, rfl⟩;rw [inB_true t1];go_wp2_with fail
  refine (isDay_any fr _).mono ?_;rintro e wx ⟨rfl, rfl⟩;rw [inB_true t2];go_wp2_with fail
  refine (isDay_any til _).mono ?_;rintro e wx ⟨rfl, rfl⟩;rw [inB_true t3];go_wp2_with fail
  refine (in_any dec 0 1048576 _).mono ?_;rintro e wx ⟨rfl, rfl⟩;rw [inB_true t5];go_wp2_with fail
  go_ret
  exact ⟨by rw [he.out]; rfl, hb⟩
 have he := q9 (show clE ⟨kind, office, fr, til, dec⟩ = 1 from if_neg hok);have hc : (¬ (0 ≤ kind ∧ kind ≤ 2)) ∨ ((0 ≤ kind ∧ kind ≤ 2) ∧ ¬ (0 ≤ office ∧ office ≤ 63)) ∨ ((0 ≤ kind ∧ kind ≤ 2) ∧ (0 ≤ office ∧ office ≤ 63) ∧ ¬ (0 ≤ fr ∧ fr ≤ 73048)) ∨ ((0 ≤ kind ∧ kind ≤ 2) ∧ (0 ≤ office ∧ office ≤ 63) ∧ (0 ≤ fr ∧ fr ≤ 73048) ∧ ¬ (0 ≤ til ∧ til ≤ 73048)) ∨ ((0 ≤ kind ∧ kind ≤ 2) ∧ (0 ≤ office ∧ office ≤ 63) ∧ (0 ≤ fr ∧ fr ≤ 73048) ∧ (0 ≤ til ∧ til ≤ 73048) ∧ ¬ fr ≤ til) ∨ ((0 ≤ kind ∧ kind ≤ 2) ∧ (0 ≤ office ∧ office ≤ 63) ∧ (0 ≤ fr ∧ fr ≤ 73048) ∧ (0 ≤ til ∧ til ≤ 73048) ∧ fr ≤ til ∧ ¬ (0 ≤ dec ∧ dec ≤ 1048576)) := by omega
 clear hok;rcases hc with t0 | ⟨t0, t1⟩ | ⟨t0, t1, t2⟩ | ⟨t0, t1, t2, t3⟩ | ⟨t0, t1, t2, t3, t4⟩ | ⟨t0, t1, t2, t3, t4, t5⟩
 ·skip
  go_enter Tryz.func25, Tryz.ntmps25
  go_wp2_with fail
  refine (in_any kind 0 2 _).mono ?_;rintro e wx ⟨rfl, rfl⟩;rw [inB_false t0];go_wp2_with fail
  go_ret
  exact ⟨by rw [he.out]; rfl, hb⟩
 ·skip
  go_enter Tryz.func25, Tryz.ntmps25
  go_wp2_with fail
  refine (in_any kind 0 2 _).mono ?_;rintro e wx ⟨rfl, rfl⟩;rw [inB_true t0];go_wp2_with fail
  refine (isOffice_any office _).mono ?_;rintro e wx ⟨rfl, rfl⟩;rw [inB_false t1];go_wp2_with fail
  go_ret
  exact ⟨by rw [he.out]; rfl, hb⟩
 ·skip
  go_enter Tryz.func25, Tryz.ntmps25
  go_wp2_with fail
  refine (in_any kind 0 2 _).mono ?_;rintro e wx ⟨rfl, rfl⟩;rw [inB_true t0];go_wp2_with fail
  refine (isOffice_any office _).mono ?_;rintro e wx ⟨rfl, rfl⟩;rw [inB_true t1];go_wp2_with fail
  refine (isDay_any fr _).mono ?_;rintro e wx ⟨rfl, rfl⟩;rw [inB_false t2];go_wp2_with fail
  go_ret
  exact ⟨by rw [he.out]; rfl, hb⟩
 ·skip
  go_enter Tryz.func25, Tryz.ntmps25
  go_wp2_with fail
  refine (in_any kind 0 2 _).mono ?_;rintro e wx ⟨rfl, rfl⟩;rw [inB_true t0];go_wp2_with fail
  refine (isOffice_any office _).mono ?_;rintro e wx ⟨rfl, rfl⟩;rw [inB_true t1];go_wp2_with fail
  refine (isDay_any fr _).mono ?_;rintro e wx ⟨rfl, rfl⟩;rw [inB_true t2];go_wp2_with fail
  refine (isDay_any til _).mono ?_;rintro e wx ⟨rfl, rfl⟩;rw [inB_false t3];go_wp2_with fail
  go_ret
  exact ⟨by rw [he.out]; rfl, hb⟩
 ·skip
  go_enter Tryz.func25, Tryz.ntmps25
  go_wp2_with fail
  refine (in_any kind 0 2 _).mono ?_;rintro e wx ⟨rfl, rfl⟩;rw [inB_true t0];go_wp2_with fail
  refine (isOffice_any office _).mono ?_;rintro e wx ⟨rfl, rfl⟩;rw [inB_true t1];go_wp2_with fail
  refine (isDay_any fr _).mono ?_;rintro e wx ⟨rfl, rfl⟩;rw [inB_true t2];go_wp2_with fail
  refine (isDay_any til _).mono ?_;rintro e wx ⟨rfl, rfl⟩;rw [inB_true t3];go_wp2_with fail
  go_ret
  exact ⟨by rw [he.out]; rfl, hb⟩
 skip
 go_enter Tryz.func25, Tryz.ntmps25
 go_wp2_with fail
 refine (in_any kind 0 2 _).mono ?_;rintro e wx ⟨rfl, rfl⟩;rw [inB_true t0];go_wp2_with fail
 refine (isOffice_any office _).mono ?_;rintro e wx ⟨rfl, rfl⟩;rw [inB_true t1];go_wp2_with fail
 refine (isDay_any fr _).mono ?_;rintro e wx ⟨rfl, rfl⟩;rw [inB_true t2];go_wp2_with fail
 refine (isDay_any til _).mono ?_;rintro e wx ⟨rfl, rfl⟩;rw [inB_true t3];go_wp2_with fail
 refine (in_any dec 0 1048576 _).mono ?_;rintro e wx ⟨rfl, rfl⟩;rw [inB_false t5];go_wp2_with fail
 go_ret
 exact ⟨by rw [he.out]; rfl, hb⟩
theorem isNaN_int (x : Int) (w : World) : Calls Tryz.prog 148 #[.int .i64 x] w fun e w' => e = .returned (.bool false) ∧ w = w' := by
 go_enter Tryz.func148, Tryz.ntmps148
 go_wp2
 go_ret
 exact ⟨ret_bool (by simp), rfl⟩
def cmpI (a b : Int) : Int := if a < b then -1 else if b < a then 1 else 0
theorem compare_int (a b : Int) (w : World) : Calls Tryz.prog 69 #[.int .i64 a, .int .i64 b] w fun e w' => e = .returned (.int .i64 (cmpI a b)) ∧ w = w' := by
 by_cases h1 : a < b
 ·have hs : Hid (cmpI a b = -1) := by show _ = _; rw [cmpI, if_pos h1]
  go_enter Tryz.func69, Tryz.ntmps69
  go_wp2_with (go_at_call 148; refine (isNaN_int _ _).mono ?_; rintro e w' ⟨rfl, rfl⟩)
  go_ret
  exact ⟨ret_int hs.out.symm, rfl⟩
 by_cases h2 : b < a
 ·have hs : Hid (cmpI a b = 1) := by show _ = _; rw [cmpI, if_neg h1, if_pos h2]
  go_enter Tryz.func69, Tryz.ntmps69
  go_wp2_with (go_at_call 148; refine (isNaN_int _ _).mono ?_; rintro e w' ⟨rfl, rfl⟩)
  go_ret
  exact ⟨ret_int hs.out.symm, rfl⟩
 have hs : Hid (cmpI a b = 0) := by show _ = _; rw [cmpI, if_neg h1, if_neg h2]
 go_enter Tryz.func69, Tryz.ntmps69
 go_wp2_with (go_at_call 148; refine (isNaN_int _ _).mono ?_; rintro e w' ⟨rfl, rfl⟩)
 go_ret
 exact ⟨ret_int hs.out.symm, rfl⟩
theorem cmpI_le {a b : Int} : (cmpI a b ≤ 0) ↔ a ≤ b := by unfold cmpI; split <;> (try split) <;> omega
theorem day_any (n : Int) (w : World) : Calls Tryz.prog 47 #[.int .i64 n] w fun e w' => e = .returned (.bool (inB n 0 73048)) ∧ w = w' := by
 by_cases h : 0 ≤ n ∧ n ≤ 73048
 ·rw [inB_true h];obtain ⟨h1, h2⟩ := h;go_enter Tryz.func47, Tryz.ntmps47
  go_wp2_with fail
  go_ret
  exact ⟨rfl, rfl⟩
 rw [inB_false h];have hc : ¬ 0 ≤ n ∨ (0 ≤ n ∧ ¬ n ≤ 73048) := by omega
 clear h;rcases hc with h1 | ⟨h1, h2⟩;all_goals
  go_enter Tryz.func47, Tryz.ntmps47
  go_wp2_with fail
  go_ret
  exact ⟨rfl, rfl⟩
theorem pday_any (n : Int) (w : World) : Calls Tryz.prog 129 #[.int .i64 n] w fun e w' => e = .returned (.bool (inB n 0 73048)) ∧ w = w' := by
 by_cases h : 0 ≤ n ∧ n ≤ 73048
 ·rw [inB_true h];obtain ⟨h1, h2⟩ := h;go_enter Tryz.func129, Tryz.ntmps129
  go_wp2_with fail
  go_ret
  exact ⟨rfl, rfl⟩
 rw [inB_false h];have hc : ¬ 0 ≤ n ∨ (0 ≤ n ∧ ¬ n ≤ 73048) := by omega
 clear h;rcases hc with h1 | ⟨h1, h2⟩;all_goals
  go_enter Tryz.func129, Tryz.ntmps129
  go_wp2_with fail
  go_ret
  exact ⟨rfl, rfl⟩
def ptE (x y : Int) : Int := if (-1073741824 ≤ x ∧ x ≤ 1073741824) ∧ (-1073741824 ≤ y ∧ y ≤ 1073741824) then 0 else 5
theorem refGood_any (x y : Int) (w : World) : Calls Tryz.prog 164 #[.agg #[.int .i64 x, .int .i64 y]] w fun e w' => e = .returned (.int .i64 (ptE x y)) ∧ Below w.heap.size w w' := by
 have hb := (Below.refl w.heap.size w).alloc (Nat.le_refl _) (.cells #[.int .i64 x, .int .i64 y] 58);have k0 : (w.alloc (.cells #[.int .i64 x, .int .i64 y] 58)).cell? ⟨w.heap.size, 0, none⟩ = some (.int .i64 x) := (Bk.new w 58 #[.int .i64 x, .int .i64 y]).cell 0;have k1 : (w.alloc (.cells #[.int .i64 x, .int .i64 y] 58)).cell? ⟨w.heap.size, 1, none⟩ = some (.int .i64 y) := (Bk.new w 58 #[.int .i64 x, .int .i64 y]).cell 1;by_cases hok : (-1073741824 ≤ x ∧ x ≤ 1073741824) ∧ (-1073741824 ≤ y ∧ y ≤ 1073741824)
 ·have he := q9 (show ptE x y = 0 from if_pos hok);obtain ⟨⟨a0, a1⟩, a2, a3⟩ := hok;go_enter Tryz.func164, Tryz.ntmps164
  go_wp2_with fail
  go_ret
  exact ⟨by rw [he.out]; rfl, hb⟩
 have he := q9 (show ptE x y = 5 from if_neg hok);have hc : (x < -1073741824) ∨ (¬ x < -1073741824 ∧ x > 1073741824) ∨ (¬ x < -1073741824 ∧ ¬ x > 1073741824 ∧ y < -1073741824) ∨ (¬ x < -1073741824 ∧ ¬ x > 1073741824 ∧ ¬ y < -1073741824 ∧ y > 1073741824) := by omega
 clear hok;rcases hc with h0 | ⟨h0, h1⟩ | ⟨h0, h1, h2⟩ | ⟨h0, h1, h2, h3⟩;all_goals
  go_enter Tryz.func164, Tryz.ntmps164
  go_wp2_with fail
  go_ret
  exact ⟨by rw [he.out]; rfl, hb⟩
theorem within_any (x : Int) (w : World) : Calls Tryz.prog 68 #[.int .i64 (-1073741824), .int .i64 x, .int .i64 1073741824, .func (.func 69) #[] #[]] w fun e w' => e = .returned (.bool (inB x (-1073741824) 1073741824)) ∧ w = w' := by
 by_cases h : -1073741824 ≤ x ∧ x ≤ 1073741824
 ·rw [inB_true h];obtain ⟨h1, h2⟩ := h;have c1 : decide (cmpI (-1073741824) x ≤ 0) = true := decide_eq_true (cmpI_le.2 h1);have c2 : decide (cmpI x 1073741824 ≤ 0) = true := decide_eq_true (cmpI_le.2 h2);go_enter Tryz.func68, Tryz.ntmps68
  go_wp2_with fail
  refine (compare_int _ _ w).mono ?_;rintro e wx ⟨rfl, rfl⟩;go_wp2_with fail
  refine (compare_int _ _ w).mono ?_;rintro e wx ⟨rfl, rfl⟩;go_wp2_with fail
  go_ret
  exact ⟨rfl, rfl⟩
 rw [inB_false h];have hc : ¬ -1073741824 ≤ x ∨ (-1073741824 ≤ x ∧ ¬ x ≤ 1073741824) := by omega
 clear h;rcases hc with h1 | ⟨h1, h2⟩
 ·have c1 : decide (cmpI (-1073741824) x ≤ 0) = false := decide_eq_false (fun h => h1 (cmpI_le.1 h));go_enter Tryz.func68, Tryz.ntmps68
  go_wp2_with fail
  refine (compare_int _ _ w).mono ?_;rintro e wx ⟨rfl, rfl⟩;go_wp2_with fail
  go_ret
  exact ⟨rfl, rfl⟩
 have c1 : decide (cmpI (-1073741824) x ≤ 0) = true := decide_eq_true (cmpI_le.2 h1);have c2 : decide (cmpI x 1073741824 ≤ 0) = false := decide_eq_false (fun h => h2 (cmpI_le.1 h));go_enter Tryz.func68, Tryz.ntmps68
 go_wp2_with fail
 refine (compare_int _ _ w).mono ?_;rintro e wx ⟨rfl, rfl⟩;go_wp2_with fail
 refine (compare_int _ _ w).mono ?_;rintro e wx ⟨rfl, rfl⟩;go_wp2_with fail
 go_ret
 exact ⟨rfl, rfl⟩
theorem point_any (x y : Int) (w : World) : Calls Tryz.prog 24 #[.agg #[.int .i64 x, .int .i64 y]] w fun e w' => e = .returned (.int .i64 (ptE x y)) ∧ Below w.heap.size w w' := by
 have hb := (Below.refl w.heap.size w).alloc (Nat.le_refl _) (.cells #[.int .i64 x, .int .i64 y] 58);have k0 : (w.alloc (.cells #[.int .i64 x, .int .i64 y] 58)).cell? ⟨w.heap.size, 0, none⟩ = some (.int .i64 x) := (Bk.new w 58 #[.int .i64 x, .int .i64 y]).cell 0;have k1 : (w.alloc (.cells #[.int .i64 x, .int .i64 y] 58)).cell? ⟨w.heap.size, 1, none⟩ = some (.int .i64 y) := (Bk.new w 58 #[.int .i64 x, .int .i64 y]).cell 1;have hi0 : ∀ W : World, (Instr.index 124 (.agg #[.int .i64 x, .int .i64 y]) (.int .i64 0)).run Tryz.prog W = .ok (.int .i64 x) W := fun _ => by kernel_rfl
 have hi1 : ∀ W : World, (Instr.index 124 (.agg #[.int .i64 x, .int .i64 y]) (.int .i64 1)).run Tryz.prog W = .ok (.int .i64 y) W := fun _ => by kernel_rfl
 go_enter Tryz.func24, Tryz.ntmps24
 go_wp2_with fail
 clear k0 k1;generalize w.alloc (.cells #[.int .i64 x, .int .i64 y] 58) = W0 at *;go_loopw [10] (fun v wr => ∃ k : Nat, k ≤ 2 ∧ v = .int .i64 k ∧ Hid ((1 ≤ k → -1073741824 ≤ x ∧ x ≤ 1073741824) ∧ (2 ≤ k → -1073741824 ≤ y ∧ y ≤ 1073741824)) ∧ wr = W0) (fun v _ => 2 - (intOf v).toNat)
 case atStart => exact ⟨0, by omega, rfl, q9 ⟨fun h => by omega, fun h => by omega⟩, by first | trivial | rfl⟩
 case round =>
  obtain ⟨k, hk, rfl, hp, rfl⟩ := hrel;have hk3 : k = 0 ∨ k = 1 ∨ k = 2 := by omega
  rcases hk3 with rfl | rfl | rfl
  ·by_cases hc : -1073741824 ≤ x ∧ x ≤ 1073741824
   ·go_wp2_with fail
    refine (within_any x wr).mono ?_;rintro e wx ⟨rfl, rfl⟩;rw [inB_true hc];have Hc := q9 hc;clear hc;go_wp2_with fail
    go_roundw
    case rel => exact ⟨1, by omega, by go_num, q9 ⟨fun _ => Hc.out, fun h => by omega⟩, by first | trivial | rfl⟩
    case measure => simp [intOf]
   have he := q9 (show ptE x y = 5 from if_neg (fun h => hc h.1));go_wp2_with fail
   refine (within_any x wr).mono ?_;rintro e wx ⟨rfl, rfl⟩;rw [inB_false hc];clear hc;go_wp2_with fail
   go_ret
   exact ⟨by rw [he.out]; rfl, hb⟩
  ·by_cases hc : -1073741824 ≤ y ∧ y ≤ 1073741824
   ·go_wp2_with fail
    refine (within_any y wr).mono ?_;rintro e wx ⟨rfl, rfl⟩;rw [inB_true hc];have Hc := q9 hc;clear hc;go_wp2_with fail
    go_roundw
    case rel => exact ⟨2, by omega, by go_num, q9 ⟨fun _ => hp.out.1 (by omega), fun _ => Hc.out⟩, by first | trivial | rfl⟩
    case measure => simp [intOf]
   have he := q9 (show ptE x y = 5 from if_neg (fun h => hc h.2));go_wp2_with fail
   refine (within_any y wr).mono ?_;rintro e wx ⟨rfl, rfl⟩;rw [inB_false hc];clear hc;go_wp2_with fail
   go_ret
   exact ⟨by rw [he.out]; rfl, hb⟩
  have he := q9 (show ptE x y = 0 from if_pos ⟨hp.out.1 (by omega), hp.out.2 (by omega)⟩);clear hp;go_wp2_with fail
  go_ret
  exact ⟨by rw [he.out]; rfl, hb⟩
theorem when_any (b : Bool) (x : Int) (w : World) : Calls Tryz.prog 110 #[.bool b, .int .i64 x] w fun e w' => e = .returned (.int .i64 (if b then x else 0)) ∧ w = w' := by
 cases b;all_goals
  go_enter Tryz.func110, Tryz.ntmps110
  go_wp2_with fail
  go_ret
  exact ⟨rfl, rfl⟩
def orE : List Int → Int
 | [] => 0
 | x :: l => if x ≠ 0 then x else orE l
theorem orE_drop {l : List Int} {k : Nat} {x : Int} (h : l[k]? = some x) : orE (l.drop k) = if x ≠ 0 then x else orE (l.drop (k + 1)) := by
 obtain ⟨hk, rfl⟩ := List.getElem?_eq_some_iff.1 h;rw [List.drop_eq_getElem_cons hk, orE]
theorem or_any (A : Option Addr) (c : Nat) (l : List Int) (w : World) (hA : SI w A l) (hl : l.length ≤ 1099511627776) :
  Calls Tryz.prog 114 #[.slice A l.length c] w fun e w' => e = .returned (.int .i64 (orE l)) ∧ w = w' := by
 obtain ⟨R, hR⟩ : ∃ z, Hid (orE l = z) := ⟨_, q9 rfl⟩;rw [hR.out];go_enter Tryz.func114, Tryz.ntmps114
 go_wp2_with fail
 go_loopw [8] (fun v wr => ∃ k : Nat, k ≤ l.length ∧ v = .int .i64 k ∧ Hid (orE (l.drop k) = R) ∧ w = wr) (fun v _ => l.length - (intOf v).toNat)
 case atStart => exact ⟨0, by omega, rfl, q9 (by rw [List.drop_zero]; exact hR.out), rfl⟩
 case round =>
  obtain ⟨k, hk, rfl, hd, rfl⟩ := hrel;by_cases hlt : k < l.length
  ·obtain ⟨b, o, y, rfl, hc, hy⟩ := hA.get hlt;have k0 : (0 : Int) ≤ (k : Int) := by omega
   have hd2 := hd.out;rw [orE_drop hy.out] at hd2;by_cases hy0 : y = 0
   ·have hb : (y != 0) = false := by simp [hy0]
    rw [if_neg (by simp [hy0])] at hd2;have Hd2 := q9 hd2;clear hd hd2 hy hy0 hA;go_wp2_with fail
    go_roundw
    case rel => exact ⟨k + 1, by omega, by go_num, Hd2, by first | trivial | rfl⟩
    case measure => simp [intOf]; omega
   have hb : (y != 0) = true := by simp [hy0]
   rw [if_pos hy0] at hd2;have Hd2 := q9 hd2;clear hd hd2 hy hy0 hA;go_wp2_with fail
   go_ret
   exact ⟨by rw [← Hd2.out]; rfl, rfl⟩
  have Hd2 := q9 (show R = 0 from by rw [← hd.out, List.drop_eq_nil_of_le (by omega)]; rfl);clear hd hA;go_wp2_with fail
  go_ret
  exact ⟨by rw [Hd2.out]; rfl, rfl⟩
def SU (w : World) (A : Option Addr) (zs : List Int) : Prop := SL w A (zs.map (Value.int .u64))
theorem SU.get {w : World} {A : Option Addr} {zs : List Int} {k : Nat} (h : SU w A zs) (hk : k < zs.length) : ∃ b o x, A = some ⟨b, o, none⟩ ∧ w.cell? ⟨b, o + k, none⟩ = some (.int .u64 x) ∧ Hid (zs[k]? = some x) := by
 obtain ⟨b, o, e, _, hc⟩ := SL.at_ h (k := k) (by simpa using hk);exact ⟨b, o, zs[k], e, by simpa using hc, q9 (List.getElem?_eq_getElem hk)⟩
theorem needed_any (A : Option Addr) (c : Nat) (l : List Int) (x : Int) (w : World) (hA : SU w A l) (hl : l.length ≤ 1099511627776) :
  Calls Tryz.prog 44 #[.slice A l.length c, .int .u64 x] w fun e w' => e = .returned (.bool (decide (x ∈ l))) ∧ w = w' := by
 go_enter Tryz.func44, Tryz.ntmps44
 go_wp2
 go_loopw [5] (fun i wr => ∃ k : Nat, k ≤ l.length ∧ i = .int .i64 k ∧ Hid (x ∉ l.take k) ∧ w = wr) (fun i _ => l.length - (intOf i).toNat)
 case atStart => exact ⟨0, by omega, rfl, q9 (by simp), rfl⟩
 case round =>
  obtain ⟨k, hk, rfl, hno, rfl⟩ := hrel;by_cases hlt : k < l.length
  ·obtain ⟨b, o, y, rfl, hc, hy⟩ := hA.get hlt;have k0 : (0 : Int) ≤ (k : Int) := by omega
   have htk := q9 (take_snoc' hy.out);by_cases hxy : y = x
   ·have hb : (y == x) = true := by simp [hxy]
    have hmem : Hid (decide (x ∈ l) = true) := q9 (by simp [← hxy, List.mem_of_getElem? hy.out]);clear hy htk hno hA hxy;go_wp2_with fail
    go_ret
    exact ⟨by rw [hmem.out]; rfl, rfl⟩
   have hb : (y == x) = false := by simp [hxy]
   have hno2 : Hid (x ∉ l.take (k + 1)) := by
    rw [htk.out];exact q9 (by simp [hno.out, Ne.symm hxy])
   clear hy htk hno hA hxy;go_wp2_with fail
   go_roundw
   case rel => exact ⟨k + 1, by omega, by go_num, hno2, by first | trivial | rfl⟩
   case measure => simp [intOf]; omega
  obtain rfl : k = l.length := by omega
  have hmem : Hid (decide (x ∈ l) = false) := q9 (by have := hno.out; rw [List.take_length] at this; simp [this]);clear hno hA;go_wp2_with fail
  go_ret
  exact ⟨by rw [hmem.out]; rfl, rfl⟩
theorem indexU_any (A : Option Addr) (c : Nat) (l : List Int) (x : Int) (w : World) (hA : SU w A l) (hl : l.length ≤ 1099511627776) :
  Calls Tryz.prog 163 #[.slice A l.length c, .int .u64 x] w fun e w' => ∃ r : Int, e = .returned (.int .i64 r) ∧ (0 ≤ r ↔ x ∈ l) ∧ w = w' := by
 go_enter Tryz.func163, Tryz.ntmps163
 go_wp2_with fail
 go_loopw [8] (fun i wr => ∃ k : Nat, k ≤ l.length ∧ i = .int .i64 k ∧ Hid (x ∉ l.take k) ∧ w = wr) (fun i _ => l.length - (intOf i).toNat)
 case atStart => exact ⟨0, by omega, rfl, q9 (by simp), rfl⟩
 case round =>
  obtain ⟨k, hk, rfl, hno, rfl⟩ := hrel;by_cases hlt : k < l.length
  ·obtain ⟨b, o, y, rfl, hc, hy⟩ := hA.get hlt;have k0 : (0 : Int) ≤ (k : Int) := by omega
   have htk := q9 (take_snoc' hy.out);by_cases hxy : y = x
   ·have hb : (x == y) = true := by simp [hxy]
    have hmem : Hid (x ∈ l) := q9 (by simp [← hxy, List.mem_of_getElem? hy.out]);clear hy htk hno hA hxy;go_wp2_with fail
    go_ret
    exact ⟨(k : Int), rfl, ⟨fun _ => hmem.out, fun _ => by omega⟩, rfl⟩
   have hb : (x == y) = false := by simp [Ne.symm hxy]
   have hno2 : Hid (x ∉ l.take (k + 1)) := by
    rw [htk.out];exact q9 (by simp [hno.out, Ne.symm hxy])
   clear hy htk hno hA hxy;go_wp2_with fail
   go_roundw
   case rel => exact ⟨k + 1, by omega, by go_num, hno2, by first | trivial | rfl⟩
   case measure => simp [intOf]; omega
  obtain rfl : k = l.length := by omega
  have hmem : Hid (x ∉ l) := q9 (by have := hno.out; rw [List.take_length] at this; exact this);clear hno hA;go_wp2_with fail
  go_ret
  exact ⟨-1, rfl, ⟨fun h => by omega, fun h => absurd h hmem.out⟩, rfl⟩
theorem containsU_any (A : Option Addr) (c : Nat) (l : List Int) (x : Int) (w : World) (hA : SU w A l) (hl : l.length ≤ 1099511627776) :
  Calls Tryz.prog 115 #[.slice A l.length c, .int .u64 x] w fun e w' => e = .returned (.bool (decide (x ∈ l))) ∧ w = w' := by
 obtain ⟨R, hR⟩ : ∃ z, Hid (decide (x ∈ l) = z) := ⟨_, q9 rfl⟩;rw [hR.out];go_enter Tryz.func115, Tryz.ntmps115
 go_wp2_with fail
 refine (indexU_any A c l x w hA hl).mono ?_;rintro e w1 ⟨r, rfl, hr, rfl⟩;have hb : decide (0 ≤ r) = R := by rw [← hR.out]; exact decide_eq_decide.2 hr
 clear hr;go_wp2_with fail
 go_ret
 exact ⟨rfl, rfl⟩
def idC (l : List (Int × Int)) : List Value := l.flatMap fun t => [.int .u64 t.1, .int .i64 t.2]
def SD (w : World) (A : Option Addr) (l : List (Int × Int)) : Prop := SL w A (idC l)
theorem idC_len (l : List (Int × Int)) : (idC l).length = l.length * 2 := by
 induction l with
 | nil => rfl
 | cons t l ih => simp only [idC, List.flatMap_cons, List.length_append, List.length_cons, List.length_nil] at ih ⊢; omega
theorem idC_at : ∀ (l : List (Int × Int)) (k : Nat) (t : Int × Int), l[k]? = some t → (idC l)[k * 2]? = some (.int .u64 t.1) ∧ (idC l)[k * 2 + 1]? = some (.int .i64 t.2)
 | [], k, t, h => by simp at h
 | u :: l, 0, t, h => by
  obtain rfl : u = t := by simpa using h
  exact ⟨rfl, rfl⟩
 | u :: l, k + 1, t, h => by
  have := idC_at l k t (by simpa using h);have e : idC (u :: l) = .int .u64 u.1 :: .int .i64 u.2 :: idC l := rfl;rw [e, show (k + 1) * 2 = k * 2 + 1 + 1 by omega];simpa using this
theorem SD.get {w : World} {A : Option Addr} {l : List (Int × Int)} {k : Nat} (h : SD w A l) (hk : k < l.length) : ∃ b o x y, A = some ⟨b, o, none⟩ ∧ w.cell? ⟨b, o + k * 2, none⟩ = some (.int .u64 x) ∧ w.cell? ⟨b, o + k * 2 + 1, none⟩ = some (.int .i64 y) ∧ Hid (l[k]? = some (x, y)) := by
 obtain ⟨h1, h2⟩ := idC_at l k _ (List.getElem?_eq_getElem hk);obtain ⟨b, o, e, _, c1⟩ := h _ _ h1;subst e;have c2 := SL.two h h1 h2;rw [← Nat.add_assoc] at c2;exact ⟨b, o, _, _, rfl, c1, c2, q9 (List.getElem?_eq_getElem hk)⟩
def lessI (a b : Int × Int) : Bool := decide (a.1 < b.1 ∨ a.1 = b.1 ∧ a.2 < b.2)
theorem refLess_any (p i q j : Int) (w : World) : Calls Tryz.prog 34 #[.agg #[.int .u64 p, .int .i64 i], .agg #[.int .u64 q, .int .i64 j]] w fun e w' => e = .returned (.bool (lessI (p, i) (q, j))) ∧ Below w.heap.size w w' := by
 have hb := ((Below.refl w.heap.size w).alloc (Nat.le_refl _) (.cells #[.int .u64 p, .int .i64 i] 77)).alloc (by simp) (.cells #[.int .u64 q, .int .i64 j] 77);have hk1 := (Bk.new w 77 #[.int .u64 p, .int .i64 i]).alloc (.cells #[.int .u64 q, .int .i64 j] 77);have hk2 := Bk.new' (w.alloc (.cells #[.int .u64 p, .int .i64 i] 77)) 77 #[.int .u64 q, .int .i64 j] (g := w.heap.size + 1) (by simp);have k0 : ((w.alloc (.cells #[.int .u64 p, .int .i64 i] 77)).alloc (.cells #[.int .u64 q, .int .i64 j] 77)).cell? ⟨w.heap.size, 0, none⟩ = some (.int .u64 p) := hk1.cell 0;have k1 : ((w.alloc (.cells #[.int .u64 p, .int .i64 i] 77)).alloc (.cells #[.int .u64 q, .int .i64 j] 77)).cell? ⟨w.heap.size, 1, none⟩ = some (.int .i64 i) := hk1.cell 1;have k2 : ((w.alloc (.cells #[.int .u64 p, .int .i64 i] 77)).alloc (.cells #[.int .u64 q, .int .i64 j] 77)).cell? ⟨w.heap.size + 1, 0, none⟩ = some (.int .u64 q) := hk2.cell 0;have k3 : ((w.alloc (.cells #[.int .u64 p, .int .i64 i] 77)).alloc (.cells #[.int .u64 q, .int .i64 j] 77)).cell? ⟨w.heap.size + 1, 1, none⟩ = some (.int .i64 j) := hk2.cell 1;obtain ⟨R, hR⟩ : ∃ z, Hid (lessI (p, i) (q, j) = z) := ⟨_, q9 rfl⟩;rw [hR.out];clear hk1 hk2;by_cases h1 : p < q
 ·have he := q9 (show R = true from by rw [← hR.out]; exact decide_eq_true (.inl h1));go_enter Tryz.func34, Tryz.ntmps34
  go_wp2_with fail
  go_ret
  exact ⟨by rw [he.out]; rfl, hb⟩
 by_cases h2 : p = q
 ·by_cases h3 : i < j
  ·have he := q9 (show R = true from by rw [← hR.out]; exact decide_eq_true (.inr ⟨h2, h3⟩));have hbq : (p == q) = true := by simp [h2]
   clear h2;go_enter Tryz.func34, Tryz.ntmps34
   go_wp2_with fail
   go_ret
   exact ⟨by rw [he.out]; rfl, hb⟩
  have he := q9 (show R = false from by rw [← hR.out]; exact decide_eq_false (fun h => h.elim h1 (fun h => h3 h.2)));have hbq : (p == q) = true := by simp [h2]
  clear h2;go_enter Tryz.func34, Tryz.ntmps34
  go_wp2_with fail
  go_ret
  exact ⟨by rw [he.out]; rfl, hb⟩
 have he := q9 (show R = false from by rw [← hR.out]; exact decide_eq_false (fun h => h.elim h1 (fun h => h2 h.1)));have hbq : (p == q) = false := by simp [h2]
 clear h2;go_enter Tryz.func34, Tryz.ntmps34
 go_wp2_with fail
 go_ret
 exact ⟨by rw [he.out]; rfl, hb⟩
def idE (needs : List Int) (l : List (Int × Int)) (i : Nat) : Int :=
 if (l.getD i (0, 0)).1 ∉ needs then 12 else if ¬ (0 ≤ (l.getD i (0, 0)).2 ∧ (l.getD i (0, 0)).2 ≤ 4095) then 1 else if 0 < i ∧ lessI (l.getD (i - 1) (0, 0)) (l.getD i (0, 0)) = false then 16 else 0
def eachE (f : Nat → Int) (n : Nat) : Int := orE ((List.range n).map f)
theorem eachE_drop {f : Nat → Int} {n k : Nat} (h : k < n) : orE (((List.range n).map f).drop k) = if f k ≠ 0 then f k else orE (((List.range n).map f).drop (k + 1)) :=
 orE_drop (by rw [List.getElem?_map, List.getElem?_range h]; rfl)
theorem refUsed_any (A B : Option Addr) (a b : Nat) (l : List (Int × Int)) (needs : List Int) (w : World) (hA : SD w A l) (hB : SU w B needs) (hl : l.length ≤ 1099511627776) (hl2 : needs.length ≤ 1099511627776) :
  Calls Tryz.prog 46 #[.slice A l.length a, .slice B needs.length b] w fun e w' => e = .returned (.int .i64 (eachE (idE needs l) l.length)) ∧ Below w.heap.size w w' := by
 obtain ⟨R, hR⟩ : ∃ z, Hid (eachE (idE needs l) l.length = z) := ⟨_, q9 rfl⟩;rw [hR.out];have HA := q9 (fun (W : World) (hW : Below w.heap.size w W) => (show SD W A l from SL.below hA hW));have HN := q9 (fun (x : Int) (W : World) (hW : Below w.heap.size w W) => needed_any B b needs x W (SL.below hB hW) hl2);clear hA hB;go_enter Tryz.func46, Tryz.ntmps46
 go_wp2_with fail
 go_loopw [5] (fun v wr => ∃ k : Nat, k ≤ l.length ∧ v = .int .i64 k ∧ Hid (orE (((List.range l.length).map (idE needs l)).drop k) = R) ∧ Below w.heap.size w wr) (fun v _ => l.length - (intOf v).toNat)
 case atStart => exact ⟨0, by omega, rfl, q9 (by rw [List.drop_zero]; exact hR.out), Below.refl _ _⟩
 case round =>
  obtain ⟨k, hk, rfl, hd, hb⟩ := hrel;by_cases hlt : k < l.length
  ·obtain ⟨bA, oA, x, y, rfl, c0, c1, hx⟩ := (HA.out _ hb).get (k := k) hlt;have k0 : (0 : Int) ≤ (k : Int) := by omega
   have hd2 := hd.out;rw [eachE_drop hlt] at hd2;have hg : l.getD k (0, 0) = (x, y) := by simp [List.getD, hx.out]
   have Hb := q9 hb;have hN := HN.out x wr hb;by_cases e1 : x ∈ needs
   ·rw [decide_eq_true e1] at hN;by_cases e2 : 0 ≤ y ∧ y ≤ 4095
    ·obtain ⟨e3, e4⟩ := e2;by_cases hk1 : k = 0
     ·have hz : idE needs l k = 0 := by
       rw [idE, hg, if_neg (by simpa using e1), if_neg (fun h => h ⟨e3, e4⟩), if_neg (by omega)]
      rw [hz, if_neg (by simp)] at hd2;have Hd2 := q9 hd2;subst hk1;simp only [Nat.zero_mul, Nat.add_zero] at c0 c1;clear hd hd2 hx hg e1 hz;go_wp2_with fail
      refine hN.mono ?_;rintro e wx ⟨rfl, rfl⟩;go_wp2_with fail
      refine rH 15 (fun _ => True) ?_;refine Ht 0 (.int .i64 0) 34 rfl rfl rfl (fun W hW => by go_simp) trivial ?_;refine Ht 1 (.bool false) 35 rfl rfl rfl (fun W hW => by go_simp) trivial ?_;refine Ht 2 (.bool false) 36 rfl rfl rfl (fun W hW => by go_simp) trivial ?_;try simp only [Act.put, qz0, qz1, qz2]
      refine Hu 3 37 rfl rfl (by simp [Region.wanted, yielded, undef]) trivial ?_;try simp only [Act.put, qz0, qz1, qz2]
      refine Hu 4 38 rfl rfl (by simp [Region.wanted, yielded, undef]) trivial ?_;try simp only [Act.put, qz0, qz1, qz2]
      refine Hu 5 39 rfl rfl (by simp [Region.wanted, yielded, undef]) trivial ?_;try simp only [Act.put, qz0, qz1, qz2]
      refine Hu 6 40 rfl rfl (by simp [Region.wanted, yielded, undef]) trivial ?_;try simp only [Act.put, qz0, qz1, qz2]
      refine Hu 7 41 rfl rfl (by simp [Region.wanted, yielded, undef]) trivial ?_;try simp only [Act.put, qz0, qz1, qz2]
      refine Hu 8 42 rfl rfl (by simp [Region.wanted, yielded, undef]) trivial ?_;try simp only [Act.put, qz0, qz1, qz2]
      refine Hu 9 43 rfl rfl (by simp [Region.wanted, yielded, undef]) trivial ?_;try simp only [Act.put, qz0, qz1, qz2]
      refine Hu 10 44 rfl rfl (by simp [Region.wanted, yielded, undef]) trivial ?_;try simp only [Act.put, qz0, qz1, qz2]
      refine Hu 11 45 rfl rfl (by simp [Region.wanted, yielded, undef]) trivial ?_;try simp only [Act.put, qz0, qz1, qz2]
      refine Hu 12 46 rfl rfl (by simp [Region.wanted, yielded, undef]) trivial ?_;try simp only [Act.put, qz0, qz1, qz2]
      refine Hu 13 47 rfl rfl (by simp [Region.wanted, yielded, undef]) trivial ?_;refine Ht 14 (.bool false) 48 rfl rfl rfl (fun W hW => by go_simp) trivial ?_;try simp only [Act.put, qz0, qz1, qz2]
      refine H0 ?_;try simp only [Act.put, qz0, qz1, qz2]
      have Hb2 := q9 (Hb.out.trans (((Below.refl wr.heap.size wr).drew).mono Hb.out.size));go_wp2_with fail
      go_roundw
      case rel => exact ⟨1, by omega, by go_num, Hd2, Hb2.out⟩
      case measure => simp [intOf]; omega
     obtain ⟨km, hkm⟩ : ∃ km, Hid (k = km + 1) := ⟨k - 1, q9 (by omega)⟩;have hkl : km < l.length := by have := hkm.out; omega
     have hkk : km ≤ k := by have := hkm.out; omega
     have hkp : (0 : Int) < (k : Int) := by omega
     have hkp2 : 0 < k := by omega
     have km0 : (0 : Int) ≤ (km : Int) := by omega
     have hw : IntKind.i64.wrap ((k : Int) - 1) = (km : Int) := by have := hkm.out; rw [IntWalk.i64_in _ (by omega)]; omega
     obtain ⟨b2, o2, px, py, he, d0, d1, hpx⟩ := (HA.out _ hb).get (k := km) hkl;injection he with he;injection he with he1 he2;subst he1 he2;have hg2 : l.getD (k - 1) (0, 0) = (px, py) := by rw [show k - 1 = km by have := hkm.out; omega]; simp [List.getD, hpx.out]
     have HSf := q9 (fun (W : World) (hW : Below wr.heap.size wr W) => show W.cell? ⟨bA, oA + km * 2, none⟩ = some (.int .u64 px) ∧ W.cell? ⟨bA, oA + km * 2 + 1, none⟩ = some (.int .i64 py) ∧ W.cell? ⟨bA, oA + k * 2, none⟩ = some (.int .u64 x) ∧ W.cell? ⟨bA, oA + k * 2 + 1, none⟩ = some (.int .i64 y) from ⟨cell_far d0 hW, cell_far d1 hW, cell_far c0 hW, cell_far c1 hW⟩);have HB0 := q9 ((Below.refl wr.heap.size wr).drew);obtain ⟨ls, hls⟩ : ∃ z, Hid (lessI (px, py) (x, y) = z) := ⟨_, q9 rfl⟩;have HLs := q9 (fun W => hls.out ▸ refLess_any px py x y W);have hz : idE needs l k = if ls = false then 16 else 0 := by
      rw [idE, hg, hg2, hls.out, if_neg (by simpa using e1), if_neg (fun h => h ⟨e3, e4⟩)];by_cases h5 : ls = false
      ·rw [if_pos ⟨by omega, h5⟩, if_pos h5]
      rw [if_neg (fun h => h5 h.2), if_neg h5]
     have Hz := q9 hz;have Hd2 := q9 hd2;clear hd hd2 hx hg hg2 e1 hz hpx hls d0 d1 hkm;go_wp2_with fail
     refine hN.mono ?_;rintro e wx ⟨rfl, rfl⟩;go_wp2_with fail
     refine rH 15 (fun W => W.cell? ⟨bA, oA + km * 2, none⟩ = some (.int .u64 px) ∧ W.cell? ⟨bA, oA + km * 2 + 1, none⟩ = some (.int .i64 py) ∧ W.cell? ⟨bA, oA + k * 2, none⟩ = some (.int .u64 x) ∧ W.cell? ⟨bA, oA + k * 2 + 1, none⟩ = some (.int .i64 y)) ?_;refine Ht 0 (.int .i64 k) 34 rfl rfl rfl (fun W hW => by obtain ⟨s0, s1, s2, s3⟩ := hW; go_simp) (HSf.out _ HB0.out) ?_;refine Ht 1 (.bool true) 35 rfl rfl rfl (fun W hW => by obtain ⟨s0, s1, s2, s3⟩ := hW; go_simp) (HSf.out _ HB0.out) ?_;refine Ht 2 (.bool true) 36 rfl rfl rfl (fun W hW => by obtain ⟨s0, s1, s2, s3⟩ := hW; go_simp) (HSf.out _ HB0.out) ?_;try simp only [Act.put, qz0, qz1, qz2]
     refine Ht 3 (.slice (some ⟨bA, oA, none⟩) l.length a) 37 rfl rfl (by simp [Region.wanted, yielded]) (fun W hW => by obtain ⟨s0, s1, s2, s3⟩ := hW; go_simp) (HSf.out _ HB0.out) ?_;try simp only [Act.put, qz0, qz1, qz2]
     refine Ht 4 (.int .i64 k) 38 rfl rfl (by simp [Region.wanted, yielded]) (fun W hW => by obtain ⟨s0, s1, s2, s3⟩ := hW; go_simp) (HSf.out _ HB0.out) ?_;try simp only [Act.put, qz0, qz1, qz2]
     refine Ht 5 (.int .i64 km) 39 rfl rfl (by simp [Region.wanted, yielded]) (fun W hW => by obtain ⟨s0, s1, s2, s3⟩ := hW; go_simp) (HSf.out _ HB0.out) ?_;try simp only [Act.put, qz0, qz1, qz2]
     refine Ht 6 (.pointer (some ⟨bA, oA + km * 2, none⟩)) 40 rfl rfl (by simp [Region.wanted, yielded]) (fun W hW => by obtain ⟨s0, s1, s2, s3⟩ := hW; go_simp) (HSf.out _ HB0.out) ?_;try simp only [Act.put, qz0, qz1, qz2]
     refine Ht 7 (.agg #[.int .u64 px, .int .i64 py]) 41 rfl rfl (by simp [Region.wanted, yielded]) (fun W hW => by obtain ⟨s0, s1, s2, s3⟩ := hW; go_simp) (HSf.out _ HB0.out) ?_;try simp only [Act.put, qz0, qz1, qz2]
     refine Ht 8 (.slice (some ⟨bA, oA, none⟩) l.length a) 42 rfl rfl (by simp [Region.wanted, yielded]) (fun W hW => by obtain ⟨s0, s1, s2, s3⟩ := hW; go_simp) (HSf.out _ HB0.out) ?_;try simp only [Act.put, qz0, qz1, qz2]
     refine Ht 9 (.int .i64 k) 43 rfl rfl (by simp [Region.wanted, yielded]) (fun W hW => by obtain ⟨s0, s1, s2, s3⟩ := hW; go_simp) (HSf.out _ HB0.out) ?_;try simp only [Act.put, qz0, qz1, qz2]
     refine Ht 10 (.pointer (some ⟨bA, oA + k * 2, none⟩)) 44 rfl rfl (by simp [Region.wanted, yielded]) (fun W hW => by obtain ⟨s0, s1, s2, s3⟩ := hW; go_simp) (HSf.out _ HB0.out) ?_;try simp only [Act.put, qz0, qz1, qz2]
     refine Ht 11 (.agg #[.int .u64 x, .int .i64 y]) 45 rfl rfl (by simp [Region.wanted, yielded]) (fun W hW => by obtain ⟨s0, s1, s2, s3⟩ := hW; go_simp) (HSf.out _ HB0.out) ?_;try simp only [Act.put, qz0, qz1, qz2]
     refine H1g 12 rfl (by simp [Region.wanted, yielded]) (fun K hK12 => ?_);go_simp
     go_at_call 34
     refine (HLs.out _).mono ?_;rintro e wy ⟨rfl, hv⟩;have HB1 := q9 (HB0.out.trans (hv.mono HB0.out.size));clear hv;refine hK12.out _ _ (HSf.out _ HB1.out) ?_;try simp only [Act.put, qz0, qz1, qz2]
     refine Ht 13 (.bool (!ls)) 47 rfl rfl (by simp [Region.wanted, yielded]) (fun W hW => by obtain ⟨s0, s1, s2, s3⟩ := hW; go_simp) (HSf.out _ HB1.out) ?_;refine Ht 14 (.bool (!ls)) 48 rfl rfl rfl (fun W hW => by obtain ⟨s0, s1, s2, s3⟩ := hW; go_simp) (HSf.out _ HB1.out) ?_;try simp only [Act.put, qz0, qz1, qz2]
     refine H0 ?_;try simp only [Act.put, qz0, qz1, qz2]
     have Hb2 := q9 (Hb.out.trans (HB1.out.mono Hb.out.size));clear HB0 HB1 HSf HLs;cases ls with
     | true =>
      have Hd3 := q9 (show orE (((List.range l.length).map (idE needs l)).drop (k + 1)) = R from by have h := Hd2.out; rw [Hz.out] at h; simpa using h);clear Hz Hd2;go_wp2_with fail
      go_roundw
      case rel => exact ⟨k + 1, by omega, by go_num, Hd3, Hb2.out⟩
      case measure => simp [intOf]; omega
     | false =>
      have Hd3 := q9 (show R = 16 from by have h := Hd2.out; rw [Hz.out] at h; exact (by simpa using h.symm));clear Hz Hd2;go_wp2_with fail
      go_ret
      exact ⟨by rw [Hd3.out]; rfl, Hb2.out⟩
    have hz : idE needs l k = 1 := by
     rw [idE, hg, if_neg (by simpa using e1), if_pos e2]
    rw [hz, if_pos (by simp)] at hd2;have Hd2 := q9 hd2;have hc : y < 0 ∨ (¬ y < 0 ∧ 4095 < y) := by omega
    clear hd hd2 hx hg e1 e2 hz;rcases hc with h5 | ⟨h5, h6⟩;all_goals
     go_wp2_with fail
     refine hN.mono ?_;rintro e wx ⟨rfl, rfl⟩;go_wp2_with fail
     go_ret
     exact ⟨by rw [← Hd2.out]; rfl, Hb.out⟩
   rw [decide_eq_false e1] at hN;have hz : idE needs l k = 12 := by rw [idE, hg, if_pos e1]
   rw [hz, if_pos (by simp)] at hd2;have Hd2 := q9 hd2;clear hd hd2 hx hg e1 hz;go_wp2_with fail
   refine hN.mono ?_;rintro e wx ⟨rfl, rfl⟩;go_wp2_with fail
   go_ret
   exact ⟨by rw [← Hd2.out]; rfl, Hb.out⟩
  have hR2 := q9 (show R = 0 from by rw [← hd.out, List.drop_eq_nil_of_le (by simp; omega)]; rfl);have Hb := q9 hb;clear hd hb;go_wp2_with fail
  go_ret
  exact ⟨by rw [hR2.out]; rfl, Hb.out⟩
theorem isNaN_u64 (x : Int) (w : World) : Calls Tryz.prog 180 #[.int .u64 x] w fun e w' => e = .returned (.bool false) ∧ w = w' := by
 go_enter Tryz.func180, Tryz.ntmps180
 go_wp2
 go_ret
 exact ⟨ret_bool (by simp), rfl⟩
theorem compare_u64 (a b : Int) (w : World) : Calls Tryz.prog 157 #[.int .u64 a, .int .u64 b] w fun e w' => e = .returned (.int .i64 (cmpI a b)) ∧ w = w' := by
 by_cases h1 : a < b
 ·have hs : Hid (cmpI a b = -1) := by show _ = _; rw [cmpI, if_pos h1]
  go_enter Tryz.func157, Tryz.ntmps157
  go_wp2_with (go_at_call 180; refine (isNaN_u64 _ _).mono ?_; rintro e w' ⟨rfl, rfl⟩)
  go_ret
  exact ⟨ret_int hs.out.symm, rfl⟩
 by_cases h2 : b < a
 ·have hs : Hid (cmpI a b = 1) := by show _ = _; rw [cmpI, if_neg h1, if_pos h2]
  go_enter Tryz.func157, Tryz.ntmps157
  go_wp2_with (go_at_call 180; refine (isNaN_u64 _ _).mono ?_; rintro e w' ⟨rfl, rfl⟩)
  go_ret
  exact ⟨ret_int hs.out.symm, rfl⟩
 have hs : Hid (cmpI a b = 0) := by show _ = _; rw [cmpI, if_neg h1, if_neg h2]
 go_enter Tryz.func157, Tryz.ntmps157
 go_wp2_with (go_at_call 180; refine (isNaN_u64 _ _).mono ?_; rintro e w' ⟨rfl, rfl⟩)
 go_ret
 exact ⟨ret_int hs.out.symm, rfl⟩
theorem orI_any (A : Option Addr) (c : Nat) (l : List Int) (w : World) (hA : SI w A l) (hl : l.length ≤ 1099511627776) :
  Calls Tryz.prog 156 #[.slice A l.length c] w fun e w' => e = .returned (.int .i64 (orE l)) ∧ w = w' := by
 obtain ⟨R, hR⟩ : ∃ z, Hid (orE l = z) := ⟨_, q9 rfl⟩;rw [hR.out];go_enter Tryz.func156, Tryz.ntmps156
 go_wp2_with fail
 go_loopw [8] (fun v wr => ∃ k : Nat, k ≤ l.length ∧ v = .int .i64 k ∧ Hid (orE (l.drop k) = R) ∧ w = wr) (fun v _ => l.length - (intOf v).toNat)
 case atStart => exact ⟨0, by omega, rfl, q9 (by rw [List.drop_zero]; exact hR.out), rfl⟩
 case round =>
  obtain ⟨k, hk, rfl, hd, rfl⟩ := hrel;by_cases hlt : k < l.length
  ·obtain ⟨b, o, y, rfl, hc, hy⟩ := hA.get hlt;have k0 : (0 : Int) ≤ (k : Int) := by omega
   have hd2 := hd.out;rw [orE_drop hy.out] at hd2;by_cases hy0 : y = 0
   ·have hb : (y != 0) = false := by simp [hy0]
    rw [if_neg (by simp [hy0])] at hd2;have Hd2 := q9 hd2;clear hd hd2 hy hy0 hA;go_wp2_with fail
    go_roundw
    case rel => exact ⟨k + 1, by omega, by go_num, Hd2, by first | trivial | rfl⟩
    case measure => simp [intOf]; omega
   have hb : (y != 0) = true := by simp [hy0]
   rw [if_pos hy0] at hd2;have Hd2 := q9 hd2;clear hd hd2 hy hy0 hA;go_wp2_with fail
   go_ret
   exact ⟨by rw [← Hd2.out]; rfl, rfl⟩
  have Hd2 := q9 (show R = 0 from by rw [← hd.out, List.drop_eq_nil_of_le (by omega)]; rfl);clear hd hA;go_wp2_with fail
  go_ret
  exact ⟨by rw [Hd2.out]; rfl, rfl⟩
def byN (a b : Int × Int) : Int := orE [cmpI a.1 b.1, cmpI a.2 b.2]
theorem byN_ge {a b : Int × Int} : decide (0 ≤ byN a b) = !lessI a b := by
 unfold byN lessI orE orE orE cmpI;by_cases h1 : a.1 < b.1
 ·simp [h1]
 by_cases h2 : b.1 < a.1
 ·have h3 : ¬ a.1 = b.1 := by omega
  simp [h1, h2, h3]
 have h3 : a.1 = b.1 := by omega
 by_cases h4 : a.2 < b.2
 ·simp [h3, h4]
 by_cases h5 : b.2 < a.2
 ·simp [h3, h4, h5]
 simp [h3, h4, h5]
theorem byName_any (p i q j : Int) (w : World) : Calls Tryz.prog 102 #[.agg #[.int .u64 p, .int .i64 i], .agg #[.int .u64 q, .int .i64 j]] w fun e w' => e = .returned (.int .i64 (byN (p, i) (q, j))) ∧ Below w.heap.size w w' := by
 have hb := ((Below.refl w.heap.size w).alloc (Nat.le_refl _) (.cells #[.int .u64 p, .int .i64 i] 77)).alloc (by simp) (.cells #[.int .u64 q, .int .i64 j] 77);have hk1 := (Bk.new w 77 #[.int .u64 p, .int .i64 i]).alloc (.cells #[.int .u64 q, .int .i64 j] 77);have hk2 := Bk.new' (w.alloc (.cells #[.int .u64 p, .int .i64 i] 77)) 77 #[.int .u64 q, .int .i64 j] (g := w.heap.size + 1) (by simp);obtain ⟨R, hR⟩ : ∃ z, Hid (byN (p, i) (q, j) = z) := ⟨_, q9 rfl⟩;rw [hR.out];obtain ⟨r1, hr1⟩ : ∃ z, Hid (cmpI p q = z) := ⟨_, q9 rfl⟩;obtain ⟨r2, hr2⟩ : ∃ z, Hid (cmpI i j = z) := ⟨_, q9 rfl⟩;have hRe := q9 (show orE [r1, r2] = R from by rw [← hR.out, ← hr1.out, ← hr2.out]; rfl);have K1 := q9 (fun W => hr1.out ▸ compare_u64 p q W);have K2 := q9 (fun W => hr2.out ▸ compare_int i j W);go_enter Tryz.func102, Tryz.ntmps102
 go_wp2_with fail
 generalize (w.alloc (.cells #[.int .u64 p, .int .i64 i] 77)).alloc (.cells #[.int .u64 q, .int .i64 j] 77) = W0 at *;generalize hs : w.heap.size = s at *;have Hs := q9 hs;clear hs;have Hb := q9 hb;have HSf := q9 (fun (W : World) (hW : Below W0.heap.size W0 W) => show W.cell? ⟨s, 0, none⟩ = some (.int .u64 p) ∧ W.cell? ⟨s, 1, none⟩ = some (.int .i64 i) ∧ W.cell? ⟨s + 1, 0, none⟩ = some (.int .u64 q) ∧ W.cell? ⟨s + 1, 1, none⟩ = some (.int .i64 j) from ⟨(hk1.below hW hk1.lt).cell 0, (hk1.below hW hk1.lt).cell 1, (hk2.below hW hk2.lt).cell 0, (hk2.below hW hk2.lt).cell 1⟩);have HB0 := q9 ((Below.refl W0.heap.size W0).drew);have hz0 : s ≤ W0.heap.size := by have := hk2.lt; omega
 clear hb hk1 hk2;refine rH 13 (fun W => W.cell? ⟨s, 0, none⟩ = some (.int .u64 p) ∧ W.cell? ⟨s, 1, none⟩ = some (.int .i64 i) ∧ W.cell? ⟨s + 1, 0, none⟩ = some (.int .u64 q) ∧ W.cell? ⟨s + 1, 1, none⟩ = some (.int .i64 j)) ?_;generalize W0.drew = X0 at *;refine Ht 0 (.pointer (some ⟨s, 0, none⟩)) 5 rfl rfl rfl (fun W hW => by obtain ⟨s0, s1, s2, s3⟩ := hW; go_simp) (HSf.out _ HB0.out) ?_;refine Ht 1 (.int .u64 p) 6 rfl rfl rfl (fun W hW => by obtain ⟨s0, s1, s2, s3⟩ := hW; go_simp) (HSf.out _ HB0.out) ?_;refine Ht 2 (.pointer (some ⟨s + 1, 0, none⟩)) 7 rfl rfl rfl (fun W hW => by obtain ⟨s0, s1, s2, s3⟩ := hW; go_simp) (HSf.out _ HB0.out) ?_;refine Ht 3 (.int .u64 q) 8 rfl rfl rfl (fun W hW => by obtain ⟨s0, s1, s2, s3⟩ := hW; go_simp) (HSf.out _ HB0.out) ?_;refine Ht 5 (.pointer (some ⟨s, 1, none⟩)) 10 rfl rfl rfl (fun W hW => by obtain ⟨s0, s1, s2, s3⟩ := hW; go_simp) (HSf.out _ HB0.out) ?_;refine Ht 6 (.int .i64 i) 11 rfl rfl rfl (fun W hW => by obtain ⟨s0, s1, s2, s3⟩ := hW; go_simp) (HSf.out _ HB0.out) ?_;refine Ht 7 (.pointer (some ⟨s + 1, 1, none⟩)) 12 rfl rfl rfl (fun W hW => by obtain ⟨s0, s1, s2, s3⟩ := hW; go_simp) (HSf.out _ HB0.out) ?_;refine Ht 8 (.int .i64 j) 13 rfl rfl rfl (fun W hW => by obtain ⟨s0, s1, s2, s3⟩ := hW; go_simp) (HSf.out _ HB0.out) ?_;try simp only [Act.put, qz0, qz1, qz2]
 refine H1 4 rfl rfl (fun K hK8 => ?_);go_simp
 go_at_call 157
 refine (K1.out _).mono ?_;rintro e wv ⟨rfl, rfl⟩;refine hK8.out _ _ (HSf.out _ HB0.out) ?_;try simp only [Act.put, qz0, qz1, qz2]
 refine H1 9 rfl rfl (fun K hK9 => ?_);go_simp
 go_at_call 69
 refine (K2.out _).mono ?_;rintro e wv ⟨rfl, rfl⟩;refine hK9.out _ _ (HSf.out _ HB0.out) ?_;try simp only [Act.put, qz0, qz1, qz2]
 refine H1 10 rfl rfl (fun K hK10 => ?_);go_simp
 have HB1 := q9 (HB0.out.alloc HB0.out.size (.cells #[.int .i64 r1, .int .i64 r2] 3));have hsi := q9 (show SI (X0.alloc (.cells #[.int .i64 r1, .int .i64 r2] 3)) (some ⟨X0.heap.size, 0, none⟩) [r1, r2] from sl_bk (Bk.new X0 3 #[.int .i64 r1, .int .i64 r2]));refine hK10.out _ _ (HSf.out _ HB1.out) ?_;try simp only [Act.put, qz0, qz1, qz2]
 generalize X0.alloc (.cells #[.int .i64 r1, .int .i64 r2] 3) = X1 at *;generalize X0.heap.size = h1 at *;refine H1 11 rfl rfl (fun K hK11 => ?_);go_simp
 go_at_call 156
 refine (orI_any (some ⟨h1, 0, none⟩) 2 [r1, r2] X1 hsi.out (by simp)).mono ?_;rintro e wv ⟨he, rfl⟩;rw [hRe.out] at he;subst he;refine hK11.out _ _ (HSf.out _ HB1.out) ?_;try simp only [Act.put, qz0, qz1, qz2]
 refine Ht 12 (.int .i64 R) 4 rfl rfl rfl (fun W hW => by obtain ⟨s0, s1, s2, s3⟩ := hW; go_simp) (HSf.out _ HB1.out) ?_;try simp only [Act.put, qz0, qz1, qz2]
 refine H0 ?_;try simp only [Act.put, qz0, qz1, qz2]
 have Hb2 := q9 (Hb.out.trans (HB1.out.mono hz0));clear HB0 HB1 HSf K1 K2 hsi;go_wp2_with fail
 go_ret
 exact ⟨rfl, by rw [Hs.out]; exact Hb2.out⟩
theorem eql_point (x y x' y' : Int) (W : World) : (binOp .eql 58 (.agg #[.int .i64 x, .int .i64 y]) (.agg #[.int .i64 x', .int .i64 y'])).run Tryz.prog W = .ok (.bool (x == x' && y == y')) W := by
 rw [run_eql_struct, show (10000 : Nat) = 9999 + 1 from rfl, run_equalIn_struct (P := Tryz.prog) W 9999 58 _ _ (by kernel_rfl) (by kernel_rfl)];have ha := Tryz.isAgg3;have hu3 := Tryz.underlying3;by_cases e1 : x = x'
 ·by_cases e2 : y = y'
  ·simp [Program.fieldsOf, Tryz.underlying58, Op.eqFields, part, ha, run_equalIn_int W 9998 3 .i64 .i64 _ _ hu3, e1, e2]
  simp [Program.fieldsOf, Tryz.underlying58, Op.eqFields, part, ha, run_equalIn_int W 9998 3 .i64 .i64 _ _ hu3, e1, e2]
 simp [Program.fieldsOf, Tryz.underlying58, Op.eqFields, part, ha, run_equalIn_int W 9998 3 .i64 .i64 _ _ hu3, e1]
def SC (w : World) (A : Option Addr) (l : List Cl) : Prop := SL w A (l.flatMap clC)
theorem clC_at : ∀ (l : List Cl) (k : Nat) (t : Cl), l[k]? = some t → (l.flatMap clC)[k * 5]? = some (.int .i64 t.kind) ∧ (l.flatMap clC)[k * 5 + 1]? = some (.int .i64 t.office) ∧ (l.flatMap clC)[k * 5 + 2]? = some (.int .i64 t.fr) ∧ (l.flatMap clC)[k * 5 + 3]? = some (.int .i64 t.til) ∧ (l.flatMap clC)[k * 5 + 4]? = some (.int .i64 t.dec)
 | [], k, t, h => by simp at h
 | u :: l, 0, t, h => by
  obtain rfl : u = t := by simpa using h
  exact ⟨rfl, rfl, rfl, rfl, rfl⟩
 | u :: l, k + 1, t, h => by
  have := clC_at l k t (by simpa using h);have e : (u :: l).flatMap clC = .int .i64 u.kind :: .int .i64 u.office :: .int .i64 u.fr :: .int .i64 u.til :: .int .i64 u.dec :: l.flatMap clC := rfl;rw [e, show (k + 1) * 5 = k * 5 + 1 + 1 + 1 + 1 + 1 by omega];simpa using this
theorem SC.below {w w' : World} {A : Option Addr} {l : List Cl} (h : SC w A l) (hb : Below w.heap.size w w') : SC w' A l := SL.below h hb
theorem SC.get {w : World} {A : Option Addr} {l : List Cl} {k : Nat} (h : SC w A l) (hk : k < l.length) : ∃ b o t, A = some ⟨b, o, none⟩ ∧ w.cell? ⟨b, o + k * 5, none⟩ = some (.int .i64 (Cl.kind t)) ∧ w.cell? ⟨b, o + k * 5 + 1, none⟩ = some (.int .i64 t.office) ∧ w.cell? ⟨b, o + k * 5 + 2, none⟩ = some (.int .i64 t.fr) ∧ w.cell? ⟨b, o + k * 5 + 3, none⟩ = some (.int .i64 t.til) ∧ w.cell? ⟨b, o + k * 5 + 4, none⟩ = some (.int .i64 t.dec) ∧ Hid (l[k]? = some t) := by
 obtain ⟨h1, h2, h3, h4, h5⟩ := clC_at l k _ (List.getElem?_eq_getElem hk);obtain ⟨b, o, e, _, c1⟩ := h _ _ h1;subst e;have c2 := SL.two h h1 h2;have c3 := SL.two h h1 h3;have c4 := SL.two h h1 h4;have c5 := SL.two h h1 h5;rw [← Nat.add_assoc] at c2 c3 c4 c5;exact ⟨b, o, _, rfl, c1, c2, c3, c4, c5, q9 (List.getElem?_eq_getElem hk)⟩
def clW (o : Int) (l : List Cl) (i : Nat) : Int := match l[i]? with
 | some c => if clE c ≠ 0 ∨ c.office ≠ o then 1 else 0
 | none => 0
structure Sk where
 ax : Int
 ay : Int
 bx : Int
 by_ : Int
 cl : List Cl
def skE (o : Int) (s : Sk) : Int := if ptE s.ax s.ay ≠ 0 ∨ ptE s.bx s.by_ ≠ 0 then 5 else if s.ax = s.bx ∧ s.ay = s.by_ then 1 else if 64 < s.cl.length then 4 else eachE (clW o s.cl) s.cl.length
theorem refStroke_any (ax ay bx by_ o : Int) (C : Option Addr) (c : Nat) (cl : List Cl) (w : World) (hC : SC w C cl) (hl : cl.length ≤ 1099511627776) :
  Calls Tryz.prog 140 #[.agg #[.int .i64 ax, .int .i64 ay, .int .i64 bx, .int .i64 by_, .slice C cl.length c], .int .i64 o] w fun e w' => e = .returned (.int .i64 (skE o ⟨ax, ay, bx, by_, cl⟩)) ∧ Below w.heap.size w w' := by
 obtain ⟨S, hSz⟩ : ∃ S, Hid (w.heap.size = S) := ⟨_, q9 rfl⟩;obtain ⟨R, hR⟩ : ∃ z, Hid (skE o ⟨ax, ay, bx, by_, cl⟩ = z) := ⟨_, q9 rfl⟩;rw [hR.out];have HC := q9 (fun (W : World) (hW : Below S w W) => (show SC W C cl from hC.below (hSz.out.symm ▸ hW)));have hb0 : Below S w (w.alloc (.cells #[.int .i64 ax, .int .i64 ay, .int .i64 bx, .int .i64 by_, .slice C cl.length c] 62)) := hSz.out ▸ (Below.refl _ _).alloc (Nat.le_refl _) _;have hbk : Bk (w.alloc (.cells #[.int .i64 ax, .int .i64 ay, .int .i64 bx, .int .i64 by_, .slice C cl.length c] 62)) S 62 #[.int .i64 ax, .int .i64 ay, .int .i64 bx, .int .i64 by_, .slice C cl.length c] := Bk.new' _ _ _ hSz.out;clear hC;go_enter Tryz.func140, Tryz.ntmps140
 go_upto_region 1 with fail
 rw [hSz.out];generalize w.alloc (.cells #[.int .i64 ax, .int .i64 ay, .int .i64 bx, .int .i64 by_, .slice C cl.length c] 62) = W0 at *;have Hb0 := q9 hb0;have Hk0 := q9 hbk;have k0 : W0.cell? ⟨S, 0, none⟩ = some (.int .i64 ax) := hbk.cell 0;have k1 : W0.cell? ⟨S, 1, none⟩ = some (.int .i64 ay) := hbk.cell 1;have hz0 : S ≤ W0.heap.size := by have := hbk.lt; omega
 clear hb0 hbk;by_cases e1 : ptE ax ay = 0
 ·have b1 : (ptE ax ay != 0) = false := by simp [e1]
  go_wp2_with fail
  refine (refGood_any ax ay W0).mono ?_;rintro e w1 ⟨rfl, hb1⟩;have Hb1 := q9 (Hb0.out.trans (hb1.mono hz0));have Hk1 := q9 (Hk0.out.below hb1 Hk0.out.lt);have k2 : w1.cell? ⟨S, 2, none⟩ = some (.int .i64 bx) := Hk1.out.cell 2;have k3 : w1.cell? ⟨S, 3, none⟩ = some (.int .i64 by_) := Hk1.out.cell 3;have hz1 : S ≤ w1.heap.size := Nat.le_trans hz0 hb1.size;clear hb1 Hb0 Hk0 k0 k1;by_cases e2 : ptE bx by_ = 0
  ·have b2 : (ptE bx by_ != 0) = false := by simp [e2]
   go_wp2_with fail
   refine (refGood_any bx by_ w1).mono ?_;rintro e w2 ⟨rfl, hb2⟩;have Hb2 := q9 (Hb1.out.trans (hb2.mono hz1));have Hk2 := q9 (Hk1.out.below hb2 Hk1.out.lt);have k0 : w2.cell? ⟨S, 0, none⟩ = some (.int .i64 ax) := Hk2.out.cell 0;have k1 : w2.cell? ⟨S, 1, none⟩ = some (.int .i64 ay) := Hk2.out.cell 1;have k2 : w2.cell? ⟨S, 2, none⟩ = some (.int .i64 bx) := Hk2.out.cell 2;have k3 : w2.cell? ⟨S, 3, none⟩ = some (.int .i64 by_) := Hk2.out.cell 3;have k4 : w2.cell? ⟨S, 4, none⟩ = some (.slice C cl.length c) := Hk2.out.cell 4;have hz2 : S ≤ w2.heap.size := Nat.le_trans hz1 hb2.size;clear hb2 Hb1 Hk1;have heq := eql_point ax ay bx by_;by_cases e3 : ax = bx ∧ ay = by_
   ·have b3 : (ax == bx && ay == by_) = true := by simp [e3]
    rw [b3] at heq;have hr := q9 (show R = 1 from by rw [← hR.out, skE, if_neg (by simp [e1, e2]), if_pos e3]);clear e1 e2 e3;go_wp2_with fail
    go_ret
    exact ⟨by rw [hr.out]; rfl, hSz.out ▸ Hb2.out⟩
   have b3 : (ax == bx && ay == by_) = false := by
    cases hx : (ax == bx && ay == by_) with
    | false => rfl
    | true => exact absurd (by simpa using hx) e3
   rw [b3] at heq;by_cases e4 : 64 < cl.length
   ·have hr := q9 (show R = 4 from by rw [← hR.out, skE, if_neg (by simp [e1, e2]), if_neg e3, if_pos e4]);have e5 : (64 : Int) < (cl.length : Int) := by omega
    clear e1 e2 e3;go_wp2_with fail
    go_ret
    exact ⟨by rw [hr.out]; rfl, hSz.out ▸ Hb2.out⟩
   have hr := q9 (show eachE (clW o cl) cl.length = R from by rw [← hR.out, skE, if_neg (by simp [e1, e2]), if_neg e3, if_neg e4]);have e5 : ¬ (64 : Int) < (cl.length : Int) := by omega
   clear e1 e2 e3 hR;go_wp2_with fail
   clear k0 k1 k2 k3 k4 heq;go_loopw [5] (fun v wr => ∃ k : Nat, k ≤ cl.length ∧ v = .int .i64 k ∧ Hid (orE (((List.range cl.length).map (clW o cl)).drop k) = R) ∧ Below w2.heap.size w2 wr) (fun v _ => cl.length - (intOf v).toNat)
   case atStart => exact ⟨0, by omega, rfl, q9 (by rw [List.drop_zero]; exact hr.out), Below.refl _ _⟩
   case round =>
    obtain ⟨k, hk, rfl, hd, hb⟩ := hrel;have HB := q9 (Hb2.out.trans (hb.mono hz2));have hKr := Hk2.out.below hb Hk2.out.lt;have k4 : wr.cell? ⟨S, 4, none⟩ = some (.slice C cl.length c) := hKr.cell 4;have HK := q9 hKr;have Hbr := q9 hb;clear hKr hb;by_cases hlt : k < cl.length
    ·obtain ⟨bC, oC, t, rfl, c0, c1, c2, c3, c4, hx⟩ := (HC.out _ HB.out).get (k := k) hlt;have k0 : (0 : Int) ≤ (k : Int) := by omega
     have hd2 := hd.out;rw [eachE_drop hlt] at hd2;have hcw : clW o cl k = if clE t ≠ 0 ∨ t.office ≠ o then 1 else 0 := by rw [clW, hx.out]
     rw [hcw] at hd2;clear hd hcw hx;go_wp2_with fail
     refine (refClaim_any t wr).mono ?_;rintro e w3 ⟨rfl, hb3⟩;have Hb3 := q9 (Hbr.out.trans (hb3.mono Hbr.out.size));have k4 : w3.cell? ⟨S, 4, none⟩ = some (.slice (some ⟨bC, oC, none⟩) cl.length c) := (HK.out.below hb3 HK.out.lt).cell 4;have c1 : w3.cell? ⟨bC, oC + k * 5 + 1, none⟩ = some (.int .i64 t.office) := cell_far c1 hb3;have Hb4 := q9 (HB.out.trans (hb3.mono (by have := HB.out.size; have := hSz.out; omega)));clear hb3 Hbr HB HK;by_cases f1 : clE t = 0
     ·have g1 : (clE t != 0) = false := by simp [f1]
      by_cases f2 : t.office = o
      ·have g2 : (t.office != o) = false := by simp [f2]
       rw [if_neg (show ¬ (clE t ≠ 0 ∨ t.office ≠ o) by simp [f1, f2]), if_neg (by simp)] at hd2;have Hd2 := q9 hd2;clear hd2 f1 f2;go_wp2_with fail
       go_roundw
       case rel => exact ⟨k + 1, by omega, by go_num, Hd2, Hb3.out⟩
       case measure => simp [intOf]; omega
      have g2 : (t.office != o) = true := by simp [f2]
      rw [if_pos (show clE t ≠ 0 ∨ t.office ≠ o from .inr f2), if_pos (by simp)] at hd2;have Hd2 := q9 hd2;clear hd2 f1 f2;go_wp2_with fail
      go_ret
      exact ⟨by rw [← Hd2.out]; rfl, hSz.out ▸ Hb4.out⟩
     have g1 : (clE t != 0) = true := by simp [f1]
     rw [if_pos (show clE t ≠ 0 ∨ t.office ≠ o from .inl f1), if_pos (by simp)] at hd2;have Hd2 := q9 hd2;clear hd2 f1;go_wp2_with fail
     go_ret
     exact ⟨by rw [← Hd2.out]; rfl, hSz.out ▸ Hb4.out⟩
    have hR2 := q9 (show R = 0 from by rw [← hd.out, List.drop_eq_nil_of_le (by simp; omega)]; rfl);clear hd;go_wp2_with fail
    go_ret
    exact ⟨by rw [hR2.out]; rfl, hSz.out ▸ HB.out⟩
  have b2 : (ptE bx by_ != 0) = true := by simp [e2]
  have hr := q9 (show R = 5 from by rw [← hR.out, skE, if_pos (.inr e2)]);go_wp2_with fail
  refine (refGood_any bx by_ w1).mono ?_;rintro e w2 ⟨rfl, hb2⟩;have Hb2 := q9 (Hb1.out.trans (hb2.mono hz1));clear hb2;go_wp2_with fail
  go_ret
  exact ⟨by rw [hr.out]; rfl, hSz.out ▸ Hb2.out⟩
 have b1 : (ptE ax ay != 0) = true := by simp [e1]
 have hr := q9 (show R = 5 from by rw [← hR.out, skE, if_pos (.inl e1)]);go_wp2_with fail
 refine (refGood_any ax ay W0).mono ?_;rintro e w1 ⟨rfl, hb1⟩;have Hb1 := q9 (Hb0.out.trans (hb1.mono hz0));clear hb1;go_wp2_with fail
 go_ret
 exact ⟨by rw [hr.out]; rfl, hSz.out ▸ Hb1.out⟩
def bl (s : ByteArray) : List Nat := s.data.toList.map UInt8.toNat
theorem bl_len (s : ByteArray) : (bl s).length = s.size := by
 unfold bl;rw [List.length_map, Array.length_toList];rfl
theorem bl_lt (s : ByteArray) : ∀ c ∈ bl s, c < 256 := by
 intro c hc;obtain ⟨x, _, rfl⟩ := List.mem_map.1 hc;exact x.toNat_lt
theorem bl_get (s : ByteArray) {k : Nat} (h : k < s.size) : (bl s)[k]? = some (s[k]'h).toNat := by
 have h2 : k < s.data.toList.length := by rw [Array.length_toList]; exact h
 simp only [bl, List.getElem?_map, List.getElem?_eq_getElem h2, Option.map_some, Array.getElem_toList];rfl
def byt (s : ByteArray) (k : Nat) : Int := (((bl s).getD k 0 : Nat) : Int)
def okB (k : Nat) (b : Int) : Bool := (decide (97 ≤ b) && decide (b ≤ 122)) || (decide (k ≠ 0) && ((decide (48 ≤ b) && decide (b ≤ 57)) || decide (b = 45)))
def namB (s : ByteArray) : Bool := decide (1 ≤ s.size) && decide (s.size ≤ 16) && (List.range s.size).all fun k => okB k (byt s k)
theorem idx_str (s : ByteArray) {k : Nat} (h : k < s.size) (W : World) : (Instr.index 9 (.string s) (.int .i64 (k : Int))).run Tryz.prog W = .ok (.int .u8 (byt s k)) W := by
 rw [run_index_string W 9 s .i64 (k : Int) Tryz.underlying9, dif_pos ⟨by omega, by omega⟩];have e : byt s k = ((s[k]'h).toNat : Int) := by rw [byt, List.getD, bl_get s h, Option.getD_some]
 rw [e];rfl
theorem namB_false {s : ByteArray} {k : Nat} (h : k < s.size) (hb : okB k (byt s k) = false) : namB s = false := by
 have h1 : ((List.range s.size).all fun k => okB k (byt s k)) = false := by
  cases h2 : (List.range s.size).all fun k => okB k (byt s k) with
  | false => rfl
  | true => have := (List.all_eq_true.1 h2) k (List.mem_range.2 h); rw [hb] at this; cases this
 rw [namB, h1, Bool.and_false]
theorem namB_all {s : ByteArray} (h : ∀ j, j < s.size → okB j (byt s j) = true) : namB s = (decide (1 ≤ s.size) && decide (s.size ≤ 16)) := by
 have h1 : ((List.range s.size).all fun k => okB k (byt s k)) = true := List.all_eq_true.2 (fun k hk => h k (List.mem_range.1 hk));rw [namB, h1, Bool.and_true]
theorem okB_next {s : ByteArray} {k : Nat} (h : ∀ j, j < k → okB j (byt s j) = true) (hb : okB k (byt s k) = true) : ∀ j, j < k + 1 → okB j (byt s j) = true := fun j hj => by
 by_cases e : j = k
 ·rw [e]; exact hb
 exact h j (by omega)
theorem refNamed_any (s : ByteArray) (w : World) : Calls Tryz.prog 165 #[.string s] w fun e w' => e = .returned (.bool (namB s)) ∧ w = w' := by
 obtain ⟨R, hR⟩ : ∃ z, Hid (namB s = z) := ⟨_, q9 rfl⟩;rw [hR.out];by_cases hs1 : 1 ≤ s.size
 ·by_cases hs2 : s.size ≤ 16
  ·have f1 : ¬ (s.size : Int) < 1 := by omega
   have f2 : ¬ (16 : Int) < (s.size : Int) := by omega
   have Hs := q9 (And.intro hs1 hs2);clear hs1 hs2;go_enter Tryz.func165, Tryz.ntmps165
   go_wp2_with fail
   go_loopw [3] (fun v wr => ∃ k : Nat, k ≤ s.size ∧ v = .int .i64 k ∧ Hid (∀ j, j < k → okB j (byt s j) = true) ∧ w = wr) (fun v _ => s.size - (intOf v).toNat)
   case atStart => exact ⟨0, by omega, rfl, q9 (fun j hj => by omega), rfl⟩
   case round =>
    obtain ⟨k, hk, rfl, hp, rfl⟩ := hrel;by_cases hlt : k < s.size
    ·have k0 : (0 : Int) ≤ (k : Int) := by omega
     have hix := idx_str s hlt;obtain ⟨b, hb⟩ : ∃ z, Hid (byt s k = z) := ⟨_, q9 rfl⟩;rw [hb.out] at hix;have hfl : okB k b = false → R = false := fun h => by rw [← hR.out]; exact namB_false hlt (by rw [hb.out]; exact h)
     have hnx : okB k b = true → ∀ j, j < k + 1 → okB j (byt s j) = true := fun h => okB_next hp.out (by rw [hb.out]; exact h);have Hfl := q9 hfl;have Hnx := q9 hnx;clear hfl hnx hp hb;have hc : (b < 45) ∨ (b = 45) ∨ (45 < b ∧ b < 48) ∨ (48 ≤ b ∧ b ≤ 57) ∨ (57 < b ∧ b < 97) ∨ (97 ≤ b ∧ b ≤ 122) ∨ (122 < b) := by omega
     rcases hc with hcc | hcc | hcc | hcc | hcc | hcc | hcc
     ·have q1 : ¬ 97 ≤ b := by omega
      have q2 : b ≤ 122 := by omega
      have q3 : ¬ 48 ≤ b := by omega
      have q4 : b ≤ 57 := by omega
      have q5 : (b == 45) = false := beq_eq_false_iff_ne.2 (by omega);have hok : okB k b = false := by simp [okB]; omega
      have hk3 : k = 0 ∨ 0 < k := by omega
      rcases hk3 with hk3 | hk3
      ·have z1 : ((k : Int) == 0) = true := by simp [hk3]
       clear hk3;have hr := q9 (Hfl.out hok);clear hok Hfl Hnx hcc;go_wp2_with fail
       go_ret
       exact ⟨by rw [hr.out]; rfl, rfl⟩
      have z1 : ((k : Int) == 0) = false := beq_eq_false_iff_ne.2 (by omega);have hr := q9 (Hfl.out hok);clear hok Hfl Hnx hcc;go_wp2_with fail
      go_ret
      exact ⟨by rw [hr.out]; rfl, rfl⟩
     ·have q1 : ¬ 97 ≤ b := by omega
      have q2 : b ≤ 122 := by omega
      have q3 : ¬ 48 ≤ b := by omega
      have q4 : b ≤ 57 := by omega
      have q5 : (b == 45) = true := beq_iff_eq.2 (by omega);have hk3 : k = 0 ∨ 0 < k := by omega
      rcases hk3 with hk3 | hk3
      ·have hok : okB k b = false := by simp [okB, hk3]; omega
       have z1 : ((k : Int) == 0) = true := by simp [hk3]
       clear hk3;have hr := q9 (Hfl.out hok);clear hok Hfl Hnx hcc;go_wp2_with fail
       go_ret
       exact ⟨by rw [hr.out]; rfl, rfl⟩
      have hok : okB k b = true := by simp [okB]; omega
      have z1 : ((k : Int) == 0) = false := beq_eq_false_iff_ne.2 (by omega);have Hp := q9 (Hnx.out hok);clear hok Hfl Hnx hcc;go_wp2_with fail
      go_roundw
      case rel => exact ⟨k + 1, by omega, by go_num, Hp, by first | trivial | rfl⟩
      case measure => simp [intOf]; omega
     ·have q1 : ¬ 97 ≤ b := by omega
      have q2 : b ≤ 122 := by omega
      have q3 : ¬ 48 ≤ b := by omega
      have q4 : b ≤ 57 := by omega
      have q5 : (b == 45) = false := beq_eq_false_iff_ne.2 (by omega);have hok : okB k b = false := by simp [okB]; omega
      have hk3 : k = 0 ∨ 0 < k := by omega
      rcases hk3 with hk3 | hk3
      ·have z1 : ((k : Int) == 0) = true := by simp [hk3]
       clear hk3;have hr := q9 (Hfl.out hok);clear hok Hfl Hnx hcc;go_wp2_with fail
       go_ret
       exact ⟨by rw [hr.out]; rfl, rfl⟩
      have z1 : ((k : Int) == 0) = false := beq_eq_false_iff_ne.2 (by omega);have hr := q9 (Hfl.out hok);clear hok Hfl Hnx hcc;go_wp2_with fail
      go_ret
      exact ⟨by rw [hr.out]; rfl, rfl⟩
     ·have q1 : ¬ 97 ≤ b := by omega
      have q2 : b ≤ 122 := by omega
      have q3 : 48 ≤ b := by omega
      have q4 : b ≤ 57 := by omega
      have q5 : (b == 45) = false := beq_eq_false_iff_ne.2 (by omega);have hk3 : k = 0 ∨ 0 < k := by omega
      rcases hk3 with hk3 | hk3
      ·have hok : okB k b = false := by simp [okB, hk3]; omega
       have z1 : ((k : Int) == 0) = true := by simp [hk3]
       clear hk3;have hr := q9 (Hfl.out hok);clear hok Hfl Hnx hcc;go_wp2_with fail
       go_ret
       exact ⟨by rw [hr.out]; rfl, rfl⟩
      have hok : okB k b = true := by simp [okB]; omega
      have z1 : ((k : Int) == 0) = false := beq_eq_false_iff_ne.2 (by omega);have Hp := q9 (Hnx.out hok);clear hok Hfl Hnx hcc;go_wp2_with fail
      go_roundw
      case rel => exact ⟨k + 1, by omega, by go_num, Hp, by first | trivial | rfl⟩
      case measure => simp [intOf]; omega
     ·have q1 : ¬ 97 ≤ b := by omega
      have q2 : b ≤ 122 := by omega
      have q3 : 48 ≤ b := by omega
      have q4 : ¬ b ≤ 57 := by omega
      have q5 : (b == 45) = false := beq_eq_false_iff_ne.2 (by omega);have hok : okB k b = false := by simp [okB]; omega
      have hk3 : k = 0 ∨ 0 < k := by omega
      rcases hk3 with hk3 | hk3
      ·have z1 : ((k : Int) == 0) = true := by simp [hk3]
       clear hk3;have hr := q9 (Hfl.out hok);clear hok Hfl Hnx hcc;go_wp2_with fail
       go_ret
       exact ⟨by rw [hr.out]; rfl, rfl⟩
      have z1 : ((k : Int) == 0) = false := beq_eq_false_iff_ne.2 (by omega);have hr := q9 (Hfl.out hok);clear hok Hfl Hnx hcc;go_wp2_with fail
      go_ret
      exact ⟨by rw [hr.out]; rfl, rfl⟩
     ·have q1 : 97 ≤ b := by omega
      have q2 : b ≤ 122 := by omega
      have q3 : 48 ≤ b := by omega
      have q4 : ¬ b ≤ 57 := by omega
      have q5 : (b == 45) = false := beq_eq_false_iff_ne.2 (by omega);have hok : okB k b = true := by simp [okB]; omega
      have Hp := q9 (Hnx.out hok);clear hok Hfl Hnx hcc;go_wp2_with fail
      go_roundw
      case rel => exact ⟨k + 1, by omega, by go_num, Hp, by first | trivial | rfl⟩
      case measure => simp [intOf]; omega
     have q1 : 97 ≤ b := by omega
     have q2 : ¬ b ≤ 122 := by omega
     have q3 : 48 ≤ b := by omega
     have q4 : ¬ b ≤ 57 := by omega
     have q5 : (b == 45) = false := beq_eq_false_iff_ne.2 (by omega);have hok : okB k b = false := by simp [okB]; omega
     have hk3 : k = 0 ∨ 0 < k := by omega
     rcases hk3 with hk3 | hk3
     ·have z1 : ((k : Int) == 0) = true := by simp [hk3]
      clear hk3;have hr := q9 (Hfl.out hok);clear hok Hfl Hnx hcc;go_wp2_with fail
      go_ret
      exact ⟨by rw [hr.out]; rfl, rfl⟩
     have z1 : ((k : Int) == 0) = false := beq_eq_false_iff_ne.2 (by omega);have hr := q9 (Hfl.out hok);clear hok Hfl Hnx hcc;go_wp2_with fail
     go_ret
     exact ⟨by rw [hr.out]; rfl, rfl⟩
    have hr := q9 (show R = true from by rw [← hR.out, namB_all (fun j hj => hp.out j (by omega)), decide_eq_true Hs.out.1, decide_eq_true Hs.out.2]; rfl);clear hp;go_wp2_with fail
    go_ret
    exact ⟨by rw [hr.out]; rfl, rfl⟩
  have hr := q9 (show R = false from by rw [← hR.out, namB, decide_eq_false hs2]; simp);have f1 : ¬ (s.size : Int) < 1 := by omega
  have f2 : (16 : Int) < (s.size : Int) := by omega
  clear hs1 hs2;go_enter Tryz.func165, Tryz.ntmps165
  go_wp2_with fail
  go_ret
  exact ⟨by rw [hr.out]; rfl, rfl⟩
 have hr := q9 (show R = false from by rw [← hR.out, namB, decide_eq_false hs1]; rfl);have f1 : (s.size : Int) < 1 := by omega
 clear hs1;go_enter Tryz.func165, Tryz.ntmps165
 go_wp2_with fail
 go_ret
 exact ⟨by rw [hr.out]; rfl, rfl⟩
theorem bytesRow_at (s : ByteArray) (cap : Nat) {k : Nat} (h : k < s.size) : (bytesRow s cap)[k]? = some (.int .u8 (byt s k)) := by
 have e : byt s k = ((s[k]'h).toNat : Int) := by rw [byt, List.getD, bl_get s h, Option.getD_some]
 have h2 : k < s.data.size := h;have h3 : k < (s.data.map (fun b => Value.int .u8 b.toNat)).size := by rw [Array.size_map]; exact h2
 rw [bytesRow, Array.getElem?_append_left h3, Array.getElem?_map, Array.getElem?_eq_getElem h2, e];rfl
theorem bytes_of (s : ByteArray) (w : World) : ∃ W c, (convert 9 50 (.string s)).run Tryz.prog w = .ok (.slice (some ⟨w.heap.size, 0, none⟩) s.size c) W ∧ Below w.heap.size w W ∧ w.heap.size < W.heap.size ∧ ∀ k, k < s.size → W.cell? ⟨w.heap.size, k, none⟩ = some (.int .u8 (byt s k)) := by
 refine ⟨_, _, run_bytes_of_string w 9 50 5 s Tryz.underlying9 Tryz.underlying50 Tryz.underlying5, ((Below.refl _ _).drew).alloc (Nat.le_refl _) _, ?_, fun k hk => ?_⟩
 ·show w.heap.size < (World.alloc w.drew _).heap.size;simp
 refine (cell_of_row _ _ k _ _ _ (heap_alloc_new w.drew _)).trans ?_;exact bytesRow_at s _ hk
theorem named_any (s : ByteArray) (w : World) (hl : s.size ≤ 1099511627776) : Calls Tryz.prog 128 #[.string s] w fun e w' => e = .returned (.bool (namB s)) ∧ Below w.heap.size w w' := by
 obtain ⟨R, hR⟩ : ∃ z, Hid (namB s = z) := ⟨_, q9 rfl⟩;rw [hR.out];obtain ⟨W0, c0, hcv, hb0, hz0, hc0⟩ := bytes_of s w;have Hb0 := q9 hb0;have Hc0 := q9 hc0;clear hb0 hc0;generalize w.heap.size = g at *;go_enter Tryz.func128, Tryz.ntmps128
 go_wp2_with fail
 go_loopw [9] (fun v wr => ∃ k : Nat, k ≤ s.size ∧ v = .int .i64 k ∧ Hid (∀ j, j < k → okB j (byt s j) = true) ∧ W0 = wr) (fun v _ => s.size - (intOf v).toNat)
 case atStart => exact ⟨0, by omega, rfl, q9 (fun j hj => by omega), rfl⟩
 case round =>
  obtain ⟨k, hk, rfl, hp, rfl⟩ := hrel;by_cases hlt : k < s.size
  ·have k0 : (0 : Int) ≤ (k : Int) := by omega
   obtain ⟨b, hb⟩ : ∃ z, Hid (byt s k = z) := ⟨_, q9 rfl⟩;have hcb := Hc0.out k hlt;have Hlt := q9 hlt;rw [hb.out] at hcb;have hfl : okB k b = false → R = false := fun h => by rw [← hR.out]; exact namB_false hlt (by rw [hb.out]; exact h)
   have hnx : okB k b = true → ∀ j, j < k + 1 → okB j (byt s j) = true := fun h => okB_next hp.out (by rw [hb.out]; exact h);have Hfl := q9 hfl;have Hnx := q9 hnx;clear hfl hnx hp hb;have hc : (b < 45) ∨ (b = 45) ∨ (45 < b ∧ b < 48) ∨ (48 ≤ b ∧ b ≤ 57) ∨ (57 < b ∧ b < 97) ∨ (97 ≤ b ∧ b ≤ 122) ∨ (122 < b) := by omega
   rcases hc with hcc | hcc | hcc | hcc | hcc | hcc | hcc
   ·have q1 : ¬ 97 ≤ b := by omega
    have q2 : b ≤ 122 := by omega
    have q3 : b < 48 := by omega
    have q4 : ¬ 57 < b := by omega
    have q5 : (b != 45) = true := bne_iff_ne.2 (by omega);have hok : okB k b = false := by simp [okB]; omega
    have hk3 : k = 0 ∨ 0 < k := by omega
    rcases hk3 with hk3 | hk3
    ·have z1 : ((k : Int) == 0) = true := by simp [hk3]
     clear hk3;have hr := q9 (Hfl.out hok);clear hok Hfl Hnx hcc;go_wp2_with fail
     go_ret
     exact ⟨by rw [hr.out]; rfl, Hb0.out⟩
    have z1 : ((k : Int) == 0) = false := beq_eq_false_iff_ne.2 (by omega);have hr := q9 (Hfl.out hok);clear hok Hfl Hnx hcc;go_wp2_with fail
    go_ret
    exact ⟨by rw [hr.out]; rfl, Hb0.out⟩
   ·have q1 : ¬ 97 ≤ b := by omega
    have q2 : b ≤ 122 := by omega
    have q3 : b < 48 := by omega
    have q4 : ¬ 57 < b := by omega
    have q5 : (b != 45) = false := bne_eq_false_iff_eq.2 (by omega);have hk3 : k = 0 ∨ 0 < k := by omega
    rcases hk3 with hk3 | hk3
    ·have hok : okB k b = false := by simp [okB, hk3]; omega
     have z1 : ((k : Int) == 0) = true := by simp [hk3]
     clear hk3;have hr := q9 (Hfl.out hok);clear hok Hfl Hnx hcc;go_wp2_with fail
     go_ret
     exact ⟨by rw [hr.out]; rfl, Hb0.out⟩
    have hok : okB k b = true := by simp [okB]; omega
    have z1 : ((k : Int) == 0) = false := beq_eq_false_iff_ne.2 (by omega);have Hp := q9 (Hnx.out hok);clear hok Hfl Hnx hcc;go_wp2_with fail
    go_roundw
    case rel => exact ⟨k + 1, by have := Hlt.out; omega, by go_num, Hp, by first | trivial | rfl⟩
    case measure => have := Hlt.out; simp [intOf]; omega
   ·have q1 : ¬ 97 ≤ b := by omega
    have q2 : b ≤ 122 := by omega
    have q3 : b < 48 := by omega
    have q4 : ¬ 57 < b := by omega
    have q5 : (b != 45) = true := bne_iff_ne.2 (by omega);have hok : okB k b = false := by simp [okB]; omega
    have hk3 : k = 0 ∨ 0 < k := by omega
    rcases hk3 with hk3 | hk3
    ·have z1 : ((k : Int) == 0) = true := by simp [hk3]
     clear hk3;have hr := q9 (Hfl.out hok);clear hok Hfl Hnx hcc;go_wp2_with fail
     go_ret
     exact ⟨by rw [hr.out]; rfl, Hb0.out⟩
    have z1 : ((k : Int) == 0) = false := beq_eq_false_iff_ne.2 (by omega);have hr := q9 (Hfl.out hok);clear hok Hfl Hnx hcc;go_wp2_with fail
    go_ret
    exact ⟨by rw [hr.out]; rfl, Hb0.out⟩
   ·have q1 : ¬ 97 ≤ b := by omega
    have q2 : b ≤ 122 := by omega
    have q3 : ¬ b < 48 := by omega
    have q4 : ¬ 57 < b := by omega
    have q5 : (b != 45) = true := bne_iff_ne.2 (by omega);have hk3 : k = 0 ∨ 0 < k := by omega
    rcases hk3 with hk3 | hk3
    ·have hok : okB k b = false := by simp [okB, hk3]; omega
     have z1 : ((k : Int) == 0) = true := by simp [hk3]
     clear hk3;have hr := q9 (Hfl.out hok);clear hok Hfl Hnx hcc;go_wp2_with fail
     go_ret
     exact ⟨by rw [hr.out]; rfl, Hb0.out⟩
    have hok : okB k b = true := by simp [okB]; omega
    have z1 : ((k : Int) == 0) = false := beq_eq_false_iff_ne.2 (by omega);have Hp := q9 (Hnx.out hok);clear hok Hfl Hnx hcc;go_wp2_with fail
    go_roundw
    case rel => exact ⟨k + 1, by have := Hlt.out; omega, by go_num, Hp, by first | trivial | rfl⟩
    case measure => have := Hlt.out; simp [intOf]; omega
   ·have q1 : ¬ 97 ≤ b := by omega
    have q2 : b ≤ 122 := by omega
    have q3 : ¬ b < 48 := by omega
    have q4 : 57 < b := by omega
    have q5 : (b != 45) = true := bne_iff_ne.2 (by omega);have hok : okB k b = false := by simp [okB]; omega
    have hk3 : k = 0 ∨ 0 < k := by omega
    rcases hk3 with hk3 | hk3
    ·have z1 : ((k : Int) == 0) = true := by simp [hk3]
     clear hk3;have hr := q9 (Hfl.out hok);clear hok Hfl Hnx hcc;go_wp2_with fail
     go_ret
     exact ⟨by rw [hr.out]; rfl, Hb0.out⟩
    have z1 : ((k : Int) == 0) = false := beq_eq_false_iff_ne.2 (by omega);have hr := q9 (Hfl.out hok);clear hok Hfl Hnx hcc;go_wp2_with fail
    go_ret
    exact ⟨by rw [hr.out]; rfl, Hb0.out⟩
   ·have q1 : 97 ≤ b := by omega
    have q2 : b ≤ 122 := by omega
    have q3 : ¬ b < 48 := by omega
    have q4 : 57 < b := by omega
    have q5 : (b != 45) = true := bne_iff_ne.2 (by omega);have hok : okB k b = true := by simp [okB]; omega
    have Hp := q9 (Hnx.out hok);clear hok Hfl Hnx hcc;go_wp2_with fail
    go_roundw
    case rel => exact ⟨k + 1, by have := Hlt.out; omega, by go_num, Hp, by first | trivial | rfl⟩
    case measure => have := Hlt.out; simp [intOf]; omega
   have q1 : 97 ≤ b := by omega
   have q2 : ¬ b ≤ 122 := by omega
   have q3 : ¬ b < 48 := by omega
   have q4 : 57 < b := by omega
   have q5 : (b != 45) = true := bne_iff_ne.2 (by omega);have hok : okB k b = false := by simp [okB]; omega
   have hk3 : k = 0 ∨ 0 < k := by omega
   rcases hk3 with hk3 | hk3
   ·have z1 : ((k : Int) == 0) = true := by simp [hk3]
    clear hk3;have hr := q9 (Hfl.out hok);clear hok Hfl Hnx hcc;go_wp2_with fail
    go_ret
    exact ⟨by rw [hr.out]; rfl, Hb0.out⟩
   have z1 : ((k : Int) == 0) = false := beq_eq_false_iff_ne.2 (by omega);have hr := q9 (Hfl.out hok);clear hok Hfl Hnx hcc;go_wp2_with fail
   go_ret
   exact ⟨by rw [hr.out]; rfl, Hb0.out⟩
  have hr := q9 (show R = (decide (1 ≤ s.size) && decide (s.size ≤ 16)) from by rw [← hR.out, namB_all (fun j hj => hp.out j (by omega))]);clear hp;by_cases hs1 : 0 < s.size
  ·have hs2 : (0 : Int) < (s.size : Int) := by omega
   by_cases hs3 : s.size ≤ 16
   ·have hs4 : (s.size : Int) ≤ 16 := by omega
    have hr2 := q9 (show R = true from by rw [hr.out, decide_eq_true (show 1 ≤ s.size from hs1), decide_eq_true hs3]; rfl);clear hs1 hs3;go_wp2_with fail
    go_ret
    exact ⟨by rw [hr2.out]; rfl, Hb0.out⟩
   have hs4 : ¬ (s.size : Int) ≤ 16 := by omega
   have hr2 := q9 (show R = false from by rw [hr.out, decide_eq_false hs3, Bool.and_false]);clear hs1 hs3;go_wp2_with fail
   go_ret
   exact ⟨by rw [hr2.out]; rfl, Hb0.out⟩
  have hs2 : ¬ (0 : Int) < (s.size : Int) := by omega
  have hr2 := q9 (show R = false from by rw [hr.out, decide_eq_false (show ¬ 1 ≤ s.size by omega)]; rfl);clear hs1;go_wp2_with fail
  go_ret
  exact ⟨by rw [hr2.out]; rfl, Hb0.out⟩
end Go.Proofs.YtnapnkmehnabfaaGreat

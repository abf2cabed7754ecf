import Derived.Test.YtgeciimakjfnfaaC7
import Derived.RangeFuncBox
import Derived.RangeFuncLeaves
import Derived.RangeFuncCalls
import Derived.Shelf.Abstract
namespace Go.Proofs.Ytgeciimakjfnfaa
open Go.RowKit Go.Shelf

attribute [local go_sem] Oper.semAt_some

/-- What an iterator over a slice wants kept: all below, and its box. -/
def KpB (n₀ B : Nat) (W W' : World) : Prop := Below n₀ W W' ∧ ∀ v, W.cell? ⟨B, 0, none⟩ = some v → W'.cell? ⟨B, 0, none⟩ = some v
theorem kpB_t {n₀ B : Nat} {X Y Z : World} (h : KpB n₀ B X Y) (k : KpB n₀ B Y Z) : KpB n₀ B X Z := ⟨h.1.trans k.1, fun v hv => k.2 v (h.2 v hv)⟩
theorem kpB_b {n₀ B : Nat} {w : World} (hn : n₀ ≤ w.heap.size) (W : World) (l : Nat) (o o' : Obj) (hl : w.heap.size ≤ l) (h : W.heap[l]? = some o) (h1 : o.isCells = false) (h2 : o.isWalk = false) : KpB n₀ B W (W.putObj l o') :=
  ⟨belowK_b hn W l o o' hl h h1 h2, fun v hv => (cell_kept hv (grownBy_putObj' W l o') (fun r e => by cases e; exact ⟨o, h, h1⟩))⟩
theorem bk_own {W W' : World} {row : Option Nat} {b : Nat} {t : TypeId} {cs : Array Value} (h : Bk W b t cs) (hg : W.grownBy W' row) (hr : ∀ r, row = some r → ∃ o : Obj, W.heap[r]? = some o ∧ o.isCells = false) : Bk W' b t cs :=
  h.grown hg (fun e => by
    obtain ⟨o, ho, hc⟩ := hr _ e.symm
    unfold Bk at h
    rw [h] at ho
    cases ho
    cases hc)


set_option maxRecDepth 100000 in
set_option maxHeartbeats 2000000 in
theorem valsI_in (F : Fence) (n : Nat) (h91 : F.fn 64) (hro : F.round = none) (hn : 1 ≤ n) (lp Bs n₀ cap : Nat) (A : Option Addr) (l : List Int) (hl : l.length ≤ 1000000000) (J Jx : List Int → World → Prop)
    (hY : ∀ pre x W, J pre W → pre.length < l.length → YieldAt F (n - 1) Try.prog lp #[.int .i64 x] W fun e W' =>
      (e = .returned (.bool true) ∧ J (pre ++ [x]) W' ∧ KpB n₀ Bs W W') ∨ (e = .returned (.bool false) ∧ Jx (pre ++ [x]) W'))
    (W : World) (hBs : W.cell? ⟨Bs, 0, none⟩ = some (.slice A l.length cap)) (hS : SI W A l) (hA : 0 < l.length → ∀ b o, A = some ⟨b, o, none⟩ → b < n₀) (h0 : J [] W) :
    CallsIn F n Try.prog 64 #[.func (.yield lp) #[] #[], .pointer (some ⟨Bs, 0, none⟩)] W fun e W' => (∃ v, e = .returned v) ∧
      ((∃ ys, ys = l ∧ J ys W') ∨ (∃ pre, pre <+: l ∧ Jx pre W')) := by
  refine callsIn_of_wp Try.func64 rfl h91 ?_ hro
  simp only [Try.ntmps64, List.size_toArray, List.length_cons, List.length_nil, Nat.reduceAdd, Nat.reduceSub, Array.replicate_succ, Array.replicate_zero, List.push_toArray, List.append_toArray, List.nil_append, List.cons_append]
  have HS := Lib.hid hS
  clear hS
  gi_wp2
  gi_loopw [7] (fun i wr => ∃ k : Nat, k ≤ l.length ∧ i = .int .i64 (k : Nat) ∧ J (l.take k) wr ∧ KpB n₀ Bs W wr)
    (fun i _ => l.length - (intOf i).toNat)
  case atStart => exact ⟨0, Nat.zero_le _, rfl, h0, Below.refl _ _, fun _ h => h⟩
  case round =>
    obtain ⟨k, hk, rfl, hJs, hnx⟩ := hrel
    by_cases hlt : k < l.length
    · obtain ⟨b, o, x, rfl, c0, hx⟩ := HS.out.get (k := k) hlt
      have hb := hA (by omega) b o rfl
      have hcf := fun (i : Nat) (v : Value) (h : W.cell? ⟨b, i, none⟩ = some v) => (hnx.1.cell (p := ⟨b, i, none⟩) hb).trans h
      have d0 := hcf _ _ c0
      obtain ⟨fn, tmps, assign, body, hy, hR⟩ := hY _ x wr hJs (by rw [List.length_take]; omega)
      have Ht := Lib.hid (take_snoc' hx.out)
      clear hx hcf
      gi_wp2
      refine hR.mono ?_
      clear hR hy
      rintro e W3 (⟨rfl, hJ3, hk3⟩ | ⟨rfl, hJx3⟩)
      · have hkp := kpB_t hnx hk3
        gi_wp2
        exact ⟨⟨k + 1, by omega, by go_num, by rw [Ht.out]; exact hJ3, hkp⟩, by simp [intOf]; omega⟩
      · gi_wp2
        refine bodyPost_ret (results_none rfl _ _ _) rfl ?_
        refine ⟨⟨_, rfl⟩, .inr ⟨_, ?_, hJx3⟩⟩
        rw [← Ht.out]
        exact List.take_prefix _ _
    · obtain rfl : k = l.length := by omega
      gi_wp2
      go_end0
      rw [List.take_length] at hJs
      exact ⟨⟨_, rfl⟩, .inl ⟨_, rfl, hJs⟩⟩
/-- What the iterator over a slice does. -/
theorem valsI_stops (F : Fence) (n : Nat) (h91 : F.fn 64) (hro : F.round = none) (hn : 1 ≤ n) (Bs n₀ cap : Nat) (A : Option Addr) (l : List Int) (hl : l.length ≤ 1000000000) (w : World) (hBs : Bs < w.heap.size)
    (hc : w.cell? ⟨Bs, 0, none⟩ = some (.slice A l.length cap)) (hS : SI w A l) (hA : 0 < l.length → ∀ b o, A = some ⟨b, o, none⟩ → b < n₀) :
    SeqStopsK F n Try.prog 64 #[.pointer (some ⟨Bs, 0, none⟩)] (fun x : Int => #[.int .i64 x]) (KpB n₀ Bs) (fun ys => ys = l) (fun pre => pre <+: l) l.length w := fun lp J Jx W hW _ _ hY h0 =>
  valsI_in F n h91 hro hn lp Bs n₀ cap A l hl J Jx hY W ((hW.cell (p := ⟨Bs, 0, none⟩) hBs).trans hc) (hS.below hW) hA h0
theorem valuesI_any (A : Option Addr) (len cap : Nat) (w : World) :
    Calls Try.prog 40 #[.slice A len cap] w fun e w' => e = .returned (.func (.func 64) #[] #[.pointer (some ⟨w.heap.size, 0, none⟩)]) ∧ w' = w.alloc (.cells #[.slice A len cap] 22) := by
  go_enter Try.func40, Try.ntmps40
  go_wp2_with fail
  go_ret
  exact ⟨rfl, rfl⟩
set_option maxRecDepth 100000 in
set_option maxHeartbeats 4000000 in
theorem appSeqI_any (Bs cap : Nat) (A : Option Addr) (l : List Int) (w : World) (hBs : Bs < w.heap.size) (hc : w.cell? ⟨Bs, 0, none⟩ = some (.slice A l.length cap)) (hS : SI w A l) (hl : l.length ≤ 1000000) :
    Calls Try.prog 88 #[.slice none 0 0, .func (.func 64) #[] #[.pointer (some ⟨Bs, 0, none⟩)]] w fun e w' => ∃ v, e = .returned v ∧ w'.ownsRow w.heap.size 3 1 v l.length (l.map (Value.int .i64)) ∧ Below w.heap.size w w' := by
  refine (callsIn_wide (n := 3)).1 ?_
  obtain ⟨ht, _, _, _, i0, hi, hz0, hz1, hz2⟩ := elt_int
  have hAb : 0 < l.length → ∀ b o, A = some ⟨b, o, none⟩ → b < w.heap.size := fun h b o e => by
    obtain ⟨b', o', x, e', c0, _⟩ := hS.get h
    rw [e] at e'
    injection e' with e'
    injection e' with e1
    subst e1
    exact World.block_lt_of_cell? _ _ c0
  refine callsIn_of_wp_marks Try.func88 rfl trivial ?_ rfl
  simp only [Try.ntmps88, List.size_toArray, List.length_cons, List.length_nil, Nat.reduceAdd, Nat.reduceSub, Array.replicate_succ, Array.replicate_zero, List.push_toArray, List.append_toArray, List.nil_append, List.cons_append]
  have HC := Lib.hid hc
  have HS := Lib.hid hS
  clear hc hS
  gi_wp2
  have bO := Boxed.new w 22 (.slice none 0 0)
  have hB0 : Below w.heap.size w (w.alloc (.cells #[.slice none 0 0] 22)) := (Below.refl _ w).alloc (Nat.le_refl _) _
  refine wpIn_rangeFunc_ownG rfl (by omega) (gf := 64) (lb := #[.pointer (some ⟨Bs, 0, none⟩)]) rfl trivial (enters_of Try.func64 (by kernel_rfl) rfl)
    (valsI_stops Fence.wide 2 trivial rfl (by omega) Bs w.heap.size cap A l (by omega) _ (by simp; omega) ((hB0.cell (p := ⟨Bs, 0, none⟩) hBs).trans HC.out) (HS.out.below hB0) hAb) kpB_t (kpB_b (by simp)) (Below.refl _ _) (fun _ => rfl)
    (fun (pre : List Int) W => (∃ v, Boxed W w.heap.size 22 v ∧ W.ownsRow w.heap.size 3 1 v pre.length (pre.map (Value.int .i64)) ∧ True) ∧ Below w.heap.size w W)
    (fun _ _ _ => False)
    (OwnFrom.and (Own.from (holdsRow_own w.heap.size w.heap.size 22 3 1 (fun pre : List Int => pre.length) (fun pre : List Int => pre.map (Value.int .i64)) (fun _ _ => True)) _) (ownFrom_below (Nat.le_refl _) (by simp)))
    (fun _ _ _ _ _ hs _ _ => hs)
    ⟨⟨_, bO, World.ownsRow_nil _ _ _ _, trivial⟩, hB0⟩
    (fun x => { tmps := #[.slice none 0 0, .func (.func 64) #[] #[.pointer (some ⟨Bs, 0, none⟩)], .pointer (some ⟨w.heap.size, 0, none⟩), undef, .slice none 0 0, .int .i64 x, .func (.func 64) #[] #[.pointer (some ⟨Bs, 0, none⟩)], .int .i64 x, undef, undef, undef, undef, undef], defers := [] }) ?assign ?body ?done ?stop
  case assign =>
    intro q x W K hK
    gi_wp2
    exact hK
  case body =>
    rintro q pre x W ⟨⟨v, hv, hrow, _⟩, hB⟩ hlt
    have hc := hv.cell
    gi_wp2_with (gi_at_builtin; refine wpListIn_append_own _ rfl _ _ 22 rfl w.heap.size 3 i0 (.int .i64 0) 1 8 ht hi hz0 hz1 hz2 rfl (by decide) _ _ _ rfl (hrow.alloc _) ⟨W.heap.size, 0, none⟩ 1 1 [.int .i64 x] rfl rfl (cells_new _ _ _) (by simp [Value.oneCell']) (by unfold maxLen; omega) (by omega) (by have := hB.size; simp; omega) ?_; intro v' w1 hown' hgrow _; obtain ⟨g', cap', rfl⟩ := ownsRow_succ hown'; obtain ⟨hv1, hv2, hr2, hk2, hb2⟩ := hv.appended (by decide) hrow hB.size (Nat.le_refl _) hown' hgrow; have hc1 := hv1.cell; have hf1 := hv1.frozen)
    refine ⟨hk2.from _, ⟨hb2, fun u hu => (hb2.cell (p := ⟨Bs, 0, none⟩) hBs).trans hu⟩, ⟨_, hv2, ?_, trivial⟩, hB.trans hb2⟩
    rw [List.map_append, List.length_append]
    exact hr2
  case done =>
    rintro D ys W hD rfl ⟨⟨v, hv, hrow, _⟩, hB⟩ hK
    have hc := hv.cell
    have hD2 : w.heap.size < D := by simp at hD; omega
    have Hr := Lib.hid hrow
    have HB := Lib.hid hB
    clear hrow hv
    gi_wp2
    refine ⟨by simp, .inl ⟨_, _, rfl, run_takeDeferred hK, ?_⟩⟩
    have hbD := belowK_b (w := w) (Nat.le_refl _) W D _ (.deferred none) (by omega) hK rfl rfl
    refine ⟨_, results_tmp rfl _ _ _, ⟨_, rfl, ?_, HB.out.trans hbD⟩⟩
    refine own_grown Hr.out (grownBy_putObj' W D _) ?_
    rcases Hr.out.2 with ⟨e, _⟩ | ⟨g, _, _, e, _, hg, _⟩
    · left; have e2 : v = .slice none 0 0 := e; rw [e2]; rfl
    · right
      have e2 : v = _ := e
      rw [e2]
      intro e3
      have : g = D := by simpa [Value.ownBlock] using e3
      subst this
      rw [hK] at hg
      cases hg
  case stop =>
    rintro D c pre W _ _ h _
    exact h.elim
set_option maxRecDepth 100000 in
set_option maxHeartbeats 1000000 in
theorem collectI_any (Bs cap : Nat) (A : Option Addr) (l : List Int) (w : World) (hBs : Bs < w.heap.size) (hc : w.cell? ⟨Bs, 0, none⟩ = some (.slice A l.length cap)) (hS : SI w A l) (hl : l.length ≤ 1000000) :
    Calls Try.prog 63 #[.func (.func 64) #[] #[.pointer (some ⟨Bs, 0, none⟩)]] w fun e w' => ∃ v, e = .returned v ∧ w'.ownsRow w.heap.size 3 1 v l.length (l.map (Value.int .i64)) ∧ Below w.heap.size w w' := by
  have H := Lib.hid (appSeqI_any Bs cap A l w hBs hc hS hl)
  clear hc hS
  go_enter Try.func63, Try.ntmps63
  go_wp2_with fail
  refine H.out.mono ?_
  rintro e w1 ⟨v, rfl, hown, hb⟩
  have HO := Lib.hid hown
  have HB := Lib.hid hb
  clear hown hb H
  go_wp2_with fail
  go_ret
  exact ⟨v, rfl, HO.out, HB.out⟩


set_option maxRecDepth 100000 in
set_option maxHeartbeats 2000000 in
theorem valsC_in (F : Fence) (n : Nat) (h91 : F.fn 67) (hro : F.round = none) (hn : 1 ≤ n) (lp Bs n₀ cap : Nat) (A : Option Addr) (l : List Cl) (hl : l.length ≤ 1000000000) (J Jx : List Cl → World → Prop)
    (hJa : ∀ pre W o, n₀ ≤ W.heap.size → J pre W → J pre (W.alloc o)) (hY : ∀ pre x W, J pre W → pre.length < l.length → YieldAt F (n - 1) Try.prog lp #[.agg #[.int .i64 x.kind, .int .i64 x.office, .int .i64 x.fr, .int .i64 x.til, .int .i64 x.dec]] W fun e W' =>
      (e = .returned (.bool true) ∧ J (pre ++ [x]) W' ∧ KpB n₀ Bs W W') ∨ (e = .returned (.bool false) ∧ Jx (pre ++ [x]) W'))
    (W : World) (hn0 : n₀ ≤ W.heap.size) (hBs : W.cell? ⟨Bs, 0, none⟩ = some (.slice A l.length cap)) (hS : SC W A l) (hA : 0 < l.length → ∀ b o, A = some ⟨b, o, none⟩ → b < n₀) (h0 : J [] W) :
    CallsIn F n Try.prog 67 #[.func (.yield lp) #[] #[], .pointer (some ⟨Bs, 0, none⟩)] W fun e W' => (∃ v, e = .returned v) ∧
      ((∃ ys, ys = l ∧ J ys W') ∨ (∃ pre, pre <+: l ∧ Jx pre W')) := by
  refine callsIn_of_wp Try.func67 rfl h91 ?_ hro
  simp only [Try.ntmps67, List.size_toArray, List.length_cons, List.length_nil, Nat.reduceAdd, Nat.reduceSub, Array.replicate_succ, Array.replicate_zero, List.push_toArray, List.append_toArray, List.nil_append, List.cons_append]
  have HS := Lib.hid hS
  clear hS
  gi_wp2
  gi_loopw [7] (fun i wr => ∃ k : Nat, k ≤ l.length ∧ i = .int .i64 (k : Nat) ∧ J (l.take k) wr ∧ KpB n₀ Bs W wr)
    (fun i _ => l.length - (intOf i).toNat)
  case atStart => exact ⟨0, Nat.zero_le _, rfl, h0, Below.refl _ _, fun _ h => h⟩
  case round =>
    obtain ⟨k, hk, rfl, hJs, hnx⟩ := hrel
    by_cases hlt : k < l.length
    · obtain ⟨b, o, x, rfl, c0, c1, c2, c3, c4, hx⟩ := HS.out.get (k := k) hlt
      have hb := hA (by omega) b o rfl
      have hcf := fun (i : Nat) (v : Value) (h : W.cell? ⟨b, i, none⟩ = some v) => (hnx.1.cell (p := ⟨b, i, none⟩) hb).trans h
      have d0 := hcf _ _ c0
      have d1 := hcf _ _ c1
      have d2 := hcf _ _ c2
      have d3 := hcf _ _ c3
      have d4 := hcf _ _ c4
      clear c0 c1 c2 c3 c4
      have hn0 := hnx.1.size
      have hax : KpB n₀ Bs wr (wr.alloc (.cells #[.int .i64 x.kind, .int .i64 x.office, .int .i64 x.fr, .int .i64 x.til, .int .i64 x.dec] 24)) := ⟨(Below.refl n₀ wr).alloc (by omega) _, fun v hv => cell_far hv ((Below.refl _ wr).alloc (Nat.le_refl _) _)⟩
      obtain ⟨fn, tmps, assign, body, hy, hR⟩ := hY _ x _ (hJa _ _ (.cells #[.int .i64 x.kind, .int .i64 x.office, .int .i64 x.fr, .int .i64 x.til, .int .i64 x.dec] 24) (by omega) hJs) (by rw [List.length_take]; omega)
      have Ht := Lib.hid (take_snoc' hx.out)
      clear hx hcf
      gi_wp2
      refine hR.mono ?_
      clear hR hy
      rintro e W3 (⟨rfl, hJ3, hk3⟩ | ⟨rfl, hJx3⟩)
      · have hkp := kpB_t hnx (kpB_t hax hk3)
        gi_wp2
        exact ⟨⟨k + 1, by omega, by go_num, by rw [Ht.out]; exact hJ3, hkp⟩, by simp [intOf]; omega⟩
      · gi_wp2
        refine bodyPost_ret (results_none rfl _ _ _) rfl ?_
        refine ⟨⟨_, rfl⟩, .inr ⟨_, ?_, hJx3⟩⟩
        rw [← Ht.out]
        exact List.take_prefix _ _
    · obtain rfl : k = l.length := by omega
      gi_wp2
      go_end0
      rw [List.take_length] at hJs
      exact ⟨⟨_, rfl⟩, .inl ⟨_, rfl, hJs⟩⟩
/-- What the iterator over a slice does. -/
theorem valsC_stops (F : Fence) (n : Nat) (h91 : F.fn 67) (hro : F.round = none) (hn : 1 ≤ n) (Bs n₀ cap : Nat) (A : Option Addr) (l : List Cl) (hl : l.length ≤ 1000000000) (w : World) (hBs : Bs < w.heap.size) (hn0 : n₀ ≤ w.heap.size)
    (hc : w.cell? ⟨Bs, 0, none⟩ = some (.slice A l.length cap)) (hS : SC w A l) (hA : 0 < l.length → ∀ b o, A = some ⟨b, o, none⟩ → b < n₀) :
    SeqStopsK F n Try.prog 67 #[.pointer (some ⟨Bs, 0, none⟩)] (fun x : Cl => #[.agg #[.int .i64 x.kind, .int .i64 x.office, .int .i64 x.fr, .int .i64 x.til, .int .i64 x.dec]]) (KpB n₀ Bs) (fun ys => ys = l) (fun pre => pre <+: l) l.length w := fun lp J Jx W hW hJ _ hY h0 =>
  valsC_in F n h91 hro hn lp Bs n₀ cap A l hl J Jx (fun s W o _ h => hJ s _ _ none h (World.grownBy_alloc W o none) (fun r e => by cases e)) hY W (Nat.le_trans hn0 hW.size) ((hW.cell (p := ⟨Bs, 0, none⟩) hBs).trans hc) (hS.below hW) hA h0
theorem valuesC_any (A : Option Addr) (len cap : Nat) (w : World) :
    Calls Try.prog 46 #[.slice A len cap] w fun e w' => e = .returned (.func (.func 67) #[] #[.pointer (some ⟨w.heap.size, 0, none⟩)]) ∧ w' = w.alloc (.cells #[.slice A len cap] 38) := by
  go_enter Try.func46, Try.ntmps46
  go_wp2_with fail
  go_ret
  exact ⟨rfl, rfl⟩
set_option maxRecDepth 100000 in
set_option maxHeartbeats 4000000 in
theorem appSeqC_any (Bs cap : Nat) (A : Option Addr) (l : List Cl) (w : World) (hBs : Bs < w.heap.size) (hc : w.cell? ⟨Bs, 0, none⟩ = some (.slice A l.length cap)) (hS : SC w A l) (hl : l.length ≤ 1000000) :
    Calls Try.prog 89 #[.slice none 0 0, .func (.func 67) #[] #[.pointer (some ⟨Bs, 0, none⟩)]] w fun e w' => ∃ v, e = .returned v ∧ w'.ownsRow w.heap.size 24 5 v l.length (l.flatMap clC) ∧ Below w.heap.size w w' := by
  refine (callsIn_wide (n := 3)).1 ?_
  obtain ⟨ht, _, _, _, i0, hi, hz0, hz1, hz2⟩ := elt_cl
  have hAb : 0 < l.length → ∀ b o, A = some ⟨b, o, none⟩ → b < w.heap.size := fun h b o e => by
    obtain ⟨b', o', x, e', c0, c1, c2, c3, c4, _⟩ := hS.get h
    rw [e] at e'
    injection e' with e'
    injection e' with e1
    subst e1
    exact World.block_lt_of_cell? _ _ c0
  refine callsIn_of_wp_marks Try.func89 rfl trivial ?_ rfl
  simp only [Try.ntmps89, List.size_toArray, List.length_cons, List.length_nil, Nat.reduceAdd, Nat.reduceSub, Array.replicate_succ, Array.replicate_zero, List.push_toArray, List.append_toArray, List.nil_append, List.cons_append]
  have HC := Lib.hid hc
  have HS := Lib.hid hS
  clear hc hS
  gi_wp2
  have bO := Boxed.new w 38 (.slice none 0 0)
  have hB0 : Below w.heap.size w (w.alloc (.cells #[.slice none 0 0] 38)) := (Below.refl _ w).alloc (Nat.le_refl _) _
  have hIo : OwnFrom (w.alloc (.cells #[.slice none 0 0] 38)).heap.size (fun (pre : List Cl) W => (∃ v, Boxed W w.heap.size 38 v ∧ W.ownsRow w.heap.size 24 5 v pre.length (pre.flatMap clC) ∧ True) ∧ Below w.heap.size w W) :=
    OwnFrom.and (Own.from (holdsRow_own w.heap.size w.heap.size 38 24 5 (fun pre : List Cl => pre.length) (fun pre : List Cl => pre.flatMap clC) (fun _ _ => True)) _) (ownFrom_below (Nat.le_refl _) (by simp))
  refine wpIn_rangeFunc_ownH rfl (by omega) (gf := 67) (lb := #[.pointer (some ⟨Bs, 0, none⟩)]) rfl trivial (enters_of Try.func67 (by kernel_rfl) rfl)
    (valsC_stops Fence.wide 2 trivial rfl (by omega) Bs w.heap.size cap A l (by omega) _ (by simp; omega) (by simp) ((hB0.cell (p := ⟨Bs, 0, none⟩) hBs).trans HC.out) (HS.out.below hB0) hAb) kpB_t (kpB_b (by simp)) (Below.refl _ _) (fun _ => rfl)
    _ (fun _ _ _ => False) hIo (fun _ _ _ _ _ hs _ _ => hs)
    ⟨⟨_, bO, World.ownsRow_nil _ _ _ _, trivial⟩, hB0⟩
    (fun (x : Cl) (a' : Act) (W : World) => ∃ p, a' = { tmps := #[.slice none 0 0, .func (.func 67) #[] #[.pointer (some ⟨Bs, 0, none⟩)], .pointer (some ⟨w.heap.size, 0, none⟩), undef, .slice none 0 0, .pointer (some ⟨p, 0, none⟩), .func (.func 67) #[] #[.pointer (some ⟨Bs, 0, none⟩)], .agg #[.int .i64 x.kind, .int .i64 x.office, .int .i64 x.fr, .int .i64 x.til, .int .i64 x.dec], undef, undef, undef, undef, undef], defers := [] } ∧ Bk W p 24 #[.int .i64 x.kind, .int .i64 x.office, .int .i64 x.fr, .int .i64 x.til, .int .i64 x.dec])
    (fun x a' _ W W' row hs hg hr => by obtain ⟨p, e, hb⟩ := hs; exact ⟨p, e, bk_own hb hg (fun r e => (hr r e).2)⟩) ?assign ?body ?done ?stop
  case assign =>
    intro q pre x W K hI hK
    have hzz := hI.2.size
    gi_wp2
    exact hK _ _ (KeepsFrom.of_grownBy (World.grownBy_alloc W _ none) (fun _ e => by cases e)) ⟨(Below.refl _ W).alloc hzz _, fun v hv => cell_far hv ((Below.refl _ W).alloc (Nat.le_refl _) _)⟩ (hIo.alloc _ hI) ⟨_, rfl, Bk.new _ _ _⟩
  case body =>
    rintro q pre x a' W hql hqr ⟨⟨v, hv, hrow, _⟩, hB⟩ ⟨p, rfl, hbk⟩ hlt
    have hc := hv.cell
    have f0 : W.cell? ⟨p, 0, none⟩ = some (.int .i64 x.kind) := hbk.cell 0
    have f1 : W.cell? ⟨p, 1, none⟩ = some (.int .i64 x.office) := hbk.cell 1
    have f2 : W.cell? ⟨p, 2, none⟩ = some (.int .i64 x.fr) := hbk.cell 2
    have f3 : W.cell? ⟨p, 3, none⟩ = some (.int .i64 x.til) := hbk.cell 3
    have f4 : W.cell? ⟨p, 4, none⟩ = some (.int .i64 x.dec) := hbk.cell 4
    clear hbk hqr
    gi_wp2_with (gi_at_builtin; refine wpListIn_append_own _ rfl _ _ 38 rfl w.heap.size 24 i0 (.agg #[.int .i64 0, .int .i64 0, .int .i64 0, .int .i64 0, .int .i64 0]) 5 40 ht hi hz0 hz1 hz2 rfl (by decide) _ _ _ rfl (hrow.alloc _) ⟨W.heap.size, 0, none⟩ 1 1 (clC x) rfl rfl (cells_new _ _ _) (by simp [Value.oneCell', clC]) (by unfold maxLen; omega) (by omega) (by have := hB.size; simp; omega) ?_; intro v' w1 hown' hgrow _; obtain ⟨g', cap', rfl⟩ := ownsRow_succ hown'; obtain ⟨hv1, hv2, hr2, hk2, hb2⟩ := hv.appended (by decide) hrow hB.size (Nat.le_refl _) hown' hgrow; have hc1 := hv1.cell; have hf1 := hv1.frozen)
    refine ⟨hk2.from _, ⟨hb2, fun u hu => (hb2.cell (p := ⟨Bs, 0, none⟩) hBs).trans hu⟩, ⟨_, hv2, ?_, trivial⟩, hB.trans hb2⟩
    rw [List.flatMap_append, List.length_append]
    simpa [List.flatMap] using hr2
  case done =>
    rintro D ys W hD rfl ⟨⟨v, hv, hrow, _⟩, hB⟩ hK
    have hc := hv.cell
    have hD2 : w.heap.size < D := by simp at hD; omega
    have Hr := Lib.hid hrow
    have HB := Lib.hid hB
    clear hrow hv
    gi_wp2
    refine ⟨by simp, .inl ⟨_, _, rfl, run_takeDeferred hK, ?_⟩⟩
    have hbD := belowK_b (w := w) (Nat.le_refl _) W D _ (.deferred none) (by omega) hK rfl rfl
    refine ⟨_, results_tmp rfl _ _ _, ⟨_, rfl, ?_, HB.out.trans hbD⟩⟩
    refine own_grown Hr.out (grownBy_putObj' W D _) ?_
    rcases Hr.out.2 with ⟨e, _⟩ | ⟨g, _, _, e, _, hg, _⟩
    · left; have e2 : v = .slice none 0 0 := e; rw [e2]; rfl
    · right
      have e2 : v = _ := e
      rw [e2]
      intro e3
      have : g = D := by simpa [Value.ownBlock] using e3
      subst this
      rw [hK] at hg
      cases hg
  case stop =>
    rintro D c pre W _ _ h _
    exact h.elim
set_option maxRecDepth 100000 in
set_option maxHeartbeats 1000000 in
theorem collectC_any (Bs cap : Nat) (A : Option Addr) (l : List Cl) (w : World) (hBs : Bs < w.heap.size) (hc : w.cell? ⟨Bs, 0, none⟩ = some (.slice A l.length cap)) (hS : SC w A l) (hl : l.length ≤ 1000000) :
    Calls Try.prog 66 #[.func (.func 67) #[] #[.pointer (some ⟨Bs, 0, none⟩)]] w fun e w' => ∃ v, e = .returned v ∧ w'.ownsRow w.heap.size 24 5 v l.length (l.flatMap clC) ∧ Below w.heap.size w w' := by
  have H := Lib.hid (appSeqC_any Bs cap A l w hBs hc hS hl)
  clear hc hS
  go_enter Try.func66, Try.ntmps66
  go_wp2_with fail
  refine H.out.mono ?_
  rintro e w1 ⟨v, rfl, hown, hb⟩
  have HO := Lib.hid hown
  have HB := Lib.hid hb
  clear hown hb H
  go_wp2_with fail
  go_ret
  exact ⟨v, rfl, HO.out, HB.out⟩

end Go.Proofs.Ytgeciimakjfnfaa

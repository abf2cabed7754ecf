import Derived.Test.YtnapnkmehnabfaaGreatP27
import Derived.RangeFuncNested
namespace Go.Proofs.YtnapnkmehnabfaaGreat
open Go.RowKit Go.Maps

theorem orE_zeros : ∀ {l : List Int}, (∀ e ∈ l, e = 0) → orE l = 0
  | [], _ => rfl
  | x :: l, h => by rw [orE_zero (h x (by simp))]; exact orE_zeros (fun e he => h e (by simp [he]))
theorem orE_stop : ∀ {q l : List Int} {z : Int}, (∀ e ∈ q, e = 0) → z ≠ 0 → q ++ [z] <+: l → orE l = z
  | [], l, z, _, hz, h => by
    obtain ⟨t, rfl⟩ := h
    rw [List.nil_append, List.singleton_append, orE_ne hz]
  | x :: q, l, z, h0, hz, h => by
    obtain ⟨t, rfl⟩ := h
    rw [List.cons_append, List.cons_append, orE_zero (h0 x (by simp))]
    exact orE_stop (fun e he => h0 e (by simp [he])) hz ⟨t, rfl⟩
/-- The lengths of a patch's lists are those of lists in memory. -/
structure PLn (p : Pa) : Prop where
  n : p.needs.length ≤ 1099511627776
  s : p.st.length ≤ 1099511627776
  l : p.pl.length ≤ 1099511627776
  m : p.ma.length ≤ 1099511627776
  e : p.er.length ≤ 1099511627776
  d : p.dr.length ≤ 1099511627776
  r : p.rt.length ≤ 1099511627776
  x : ∀ q ∈ p.pl, q.nm.size ≤ 1099511627776
theorem rules_stops (n : Nat) (hn : 1 ≤ n) (S T I N G B : Nat) (p : Pa) (a : Pw) (w0 : World) (hR : RC w0 S T I N p a) (hl : PLn p) (hG : Bk w0 G 152 (ruleV S T I N)) (hB : Bk w0 B 185 #[.slice (some ⟨G, 0, none⟩) 9 9]) :
    SeqStopsK Fence.wide n Tryz.prog 139 #[.pointer (some ⟨B, 0, none⟩)] (fun x : Int => #[Value.int .i64 x]) (Below w0.heap.size) (fun ys => ys = paL p) (fun pre => pre <+: paL p) 9 w0 := fun lp J Jx W hW hJ _ hY h0 =>
  rules13_in n hn lp S T I N G B w0 _ _ _ _ _ _ _ _ _
    (fun W hW => (rule4_any S p a W (hR.below hW).s).mono (fun _ _ h => ⟨h.1, h.2 ▸ Below.refl _ _⟩))
    (fun W hW => (rule5_any S p a W (hR.below hW).s).mono (fun _ _ h => ⟨h.1, h.2 ▸ Below.refl _ _⟩))
    (fun W hW => (rule6_any S p a W (hR.below hW).s (hR.below hW).t.n hl.n).mono (fun _ _ h => ⟨h.1, h.2 ▸ Below.refl _ _⟩))
    (fun W hW => rule7_any S T I N p a W (hR.below hW) hl.s)
    (fun W hW => rule8_any S T I N p a W (hR.below hW) hl.l hl.x)
    (fun W hW => rule9_any S T I N p a W (hR.below hW) hl.m hl.n)
    (fun W hW => rule10_any S T I N p a W (hR.below hW) hl.e hl.n)
    (fun W hW => rule11_any S T I N p a W (hR.below hW) hl.d hl.n)
    (fun W hW => rule12_any S T I N p a W (hR.below hW) hl.r)
    hG hB J Jx W hW hJ hY h0
attribute [local go_sem] Oper.semAt_some
set_option linter.unusedSimpArgs false in
set_option maxHeartbeats 8000000 in
set_option maxRecDepth 100000 in
theorem patchValid_any (p : Pa) (a : Pw) (w : World) (h : PT w p a) (hl : PLn p) :
    Calls Tryz.prog 11 #[.agg (paC p a)] w fun e w' => e = .returned (.int .i64 (paE p)) ∧ Below w.heap.size w w' := by
  refine (callsIn_wide (n := 5)).1 ?_
  have HT := Lib.hid h
  have HL := Lib.hid hl
  obtain ⟨R, hR⟩ : ∃ z, Hid (paE p = z) := ⟨_, Lib.hid rfl⟩
  rw [hR.out]
  clear h hl
  refine callsIn_of_wp_marks Tryz.func11 rfl trivial ?_ rfl
  simp only [Tryz.ntmps11, List.size_toArray, List.length_cons, List.length_nil, Nat.reduceAdd, Nat.reduceSub, Array.replicate_succ, Array.replicate_zero, List.push_toArray, List.append_toArray, List.nil_append, List.cons_append, paC]
  gi_wp2
  refine ⟨trivial, ?_⟩
  have hB0 := ((Below.refl w.heap.size w).alloc (Nat.le_refl _) (.cells #[.int .i64 p.office, .int .i64 p.num, .slice a.n p.needs.length a.cn, .slice a.s p.st.length a.cs, .slice a.l p.pl.length a.cl, .slice a.m p.ma.length a.cm, .slice a.e p.er.length a.ce, .slice a.d p.dr.length a.cd, .slice a.r p.rt.length a.cr] 34)).alloc (by simp) (.cells #[.int .i64 0] 25)
  have c2 := Bk.new' (w.alloc (.cells #[.int .i64 p.office, .int .i64 p.num, .slice a.n p.needs.length a.cn, .slice a.s p.st.length a.cs, .slice a.l p.pl.length a.cl, .slice a.m p.ma.length a.cm, .slice a.e p.er.length a.ce, .slice a.d p.dr.length a.cd, .slice a.r p.rt.length a.cr] 34)) 25 #[.int .i64 0] (g := w.heap.size + 1) (by simp)
  have hW0 : w.heap.size + 2 ≤ ((w.alloc (.cells #[.int .i64 p.office, .int .i64 p.num, .slice a.n p.needs.length a.cn, .slice a.s p.st.length a.cs, .slice a.l p.pl.length a.cl, .slice a.m p.ma.length a.cm, .slice a.e p.er.length a.ce, .slice a.d p.dr.length a.cd, .slice a.r p.rt.length a.cr] 34)).alloc (.cells #[.int .i64 0] 25)).heap.size := by simp
  refine (callsIn_wide.2 (rules_any p a _ (HT.out.below hB0))).mono ?_
  generalize (w.alloc (.cells #[.int .i64 p.office, .int .i64 p.num, .slice a.n p.needs.length a.cn, .slice a.s p.st.length a.cs, .slice a.l p.pl.length a.cl, .slice a.m p.ma.length a.cm, .slice a.e p.er.length a.ce, .slice a.d p.dr.length a.cd, .slice a.r p.rt.length a.cr] 34)).alloc (.cells #[.int .i64 0] 25) = W0 at *
  rintro e w1 ⟨rfl, hb1, hRC, hG, hBk⟩
  have c3 := c2.below hb1 (by omega)
  have hB1 := hB0.trans (hb1.mono hB0.size)
  have hW1 : w.heap.size + 2 ≤ w1.heap.size := by have := hb1.size; omega
  gi_wp2
  refine wpIn_rangeFunc_ownF rfl (by omega) (gf := 139) (lb := #[.pointer (some ⟨W0.heap.size + 1 + 1 + 1 + 1 + 1, 0, none⟩)]) rfl trivial (enters_of Tryz.func139 (by kernel_rfl) rfl)
    (rules_stops 4 (by omega) _ _ _ _ _ _ p a w1 hRC HL.out hG hBk) belowK_t (belowK_b (Nat.le_refl _)) (Below.refl _ _) (fun _ => rfl)
    (fun pre W => ((∀ e ∈ pre, e = 0) ∧ W.cell? ⟨w.heap.size + 1, 0, none⟩ = some (.int .i64 0) ∧ W.frozen? ⟨w.heap.size + 1, 0, none⟩ = false) ∧ Below w.heap.size w W)
    (fun c pre W => (c = .ret ∧ ∃ q z, pre = q ++ [z] ∧ z ≠ 0 ∧ (∀ e ∈ q, e = 0) ∧ W.cell? ⟨w.heap.size + 1, 0, none⟩ = some (.int .i64 z)) ∧ Below w.heap.size w W)
    (OwnFrom.and (Own.from (fun s A B row hs hg hr => ⟨hs.1, cell_kept hs.2.1 hg hr, (frozen_kept hs.2.1 hg hr).trans hs.2.2⟩) _) (ownFrom_below (Nat.le_refl _) (by omega)))
    (fun c => OwnFrom.and (Own.from (fun s A B row hs hg hr => ⟨hs.1, by obtain ⟨q, z, h1, h2, h3, h4⟩ := hs.2; exact ⟨q, z, h1, h2, h3, cell_kept h4 hg hr⟩⟩) _) (ownFrom_below (Nat.le_refl _) (by omega)))
    ⟨⟨by simp, c3.cell 0, c3.frozen 0⟩, hB1⟩
    (fun x => { tmps := #[.agg #[.int .i64 p.office, .int .i64 p.num, .slice a.n p.needs.length a.cn, .slice a.s p.st.length a.cs, .slice a.l p.pl.length a.cl, .slice a.m p.ma.length a.cm, .slice a.e p.er.length a.ce, .slice a.d p.dr.length a.cd, .slice a.r p.rt.length a.cr], .pointer (some ⟨w.heap.size, 0, none⟩), .pointer (some ⟨w.heap.size + 1, 0, none⟩), .int .i64 x, .agg #[.int .i64 p.office, .int .i64 p.num, .slice a.n p.needs.length a.cn, .slice a.s p.st.length a.cs, .slice a.l p.pl.length a.cl, .slice a.m p.ma.length a.cm, .slice a.e p.er.length a.ce, .slice a.d p.dr.length a.cd, .slice a.r p.rt.length a.cr], .func (.func 139) #[] #[.pointer (some ⟨W0.heap.size + 1 + 1 + 1 + 1 + 1, 0, none⟩)], .int .i64 x, undef, undef, undef], defers := [] }) ?assign ?body ?done ?stop
  case assign =>
    intro l x W K hK
    gi_wp2
    exact hK
  case body =>
    clear hRC hG hBk hb1 hB1 hB0 c2 c3
    rintro l pre x W ⟨⟨hp, hcr, hfr⟩, hB⟩ _
    have Hp := Lib.hid hp
    have HB := Lib.hid hB
    clear hp hB
    by_cases f1 : x = 0
    · have b1 : (x != 0) = false := by simp [f1]
      have Hf1 := Lib.hid f1
      clear f1
      gi_wp2
      exact ⟨KeepsOthers.refl _, Below.refl _ _, ⟨fun e he => (List.mem_append.1 he).elim (Hp.out e) (fun h => by rw [List.mem_singleton.1 h]; exact Hf1.out), hcr, hfr⟩, HB.out⟩
    · have b1 : (x != 0) = true := by simp [f1]
      have Hf1 := Lib.hid f1
      clear f1
      gi_wp2
      exact ⟨KeepsOthers.setCell _ _ _, ⟨rfl, pre, x, rfl, Hf1.out, Hp.out, World.cell?_setCell_same' _ _ _ (by rw [hcr]; rfl)⟩, HB.out.setCell (p := ⟨w.heap.size + 1, 0, none⟩) (by simp) _⟩
  case done =>
    clear hRC hG hBk hb1 hB1 hB0 c2 c3
    rintro D ys W hD rfl ⟨⟨hne, hcr, hfr⟩, hB⟩ hK
    have hr := Lib.hid (show R = 0 from by rw [← hR.out]; exact orE_zeros hne)
    have HB := Lib.hid hB
    clear hne hB hR
    gi_wp2
    have hK' := (KeepsOthers.setCell W ⟨w.heap.size + 1, 0, none⟩ (.int .i64 0)).same D _ hK rfl
    refine ⟨by simp, .inl ⟨_, _, rfl, run_takeDeferred hK', ?_⟩⟩
    have hc5 := cell_kept (World.cell?_setCell_same' W ⟨w.heap.size + 1, 0, none⟩ (.int .i64 0) (by rw [hcr]; rfl)) (grownBy_putObj' _ D (.deferred none)) (fun r e => by cases e; exact ⟨_, hK', rfl⟩)
    refine ⟨.int .i64 0, ?_, by rw [hr.out], (HB.out.setCell (p := ⟨w.heap.size + 1, 0, none⟩) (by simp) _).trans (belowK_b (w := w1) (by omega) _ D _ _ hD hK' rfl rfl)⟩
    simp [results, Tryz.f11, go_sem, hc5]
  case stop =>
    clear hRC hG hBk hb1 hB1 hB0 c2 c3
    rintro D c pre W hD hpre ⟨⟨rfl, q, z, rfl, hz, hq, hcr⟩, hB⟩ hK
    have hr := Lib.hid (show R = z from by rw [← hR.out]; exact orE_stop hq hz hpre)
    have HB := Lib.hid hB
    clear hq hz hpre hR hB
    gi_wp2
    refine ⟨by simp, .inl ⟨_, _, rfl, run_takeDeferred hK, ?_⟩⟩
    have hc5 := cell_kept hcr (grownBy_putObj' _ D (.deferred none)) (fun r e => by cases e; exact ⟨_, hK, rfl⟩)
    refine ⟨.int .i64 z, ?_, by rw [hr.out], HB.out.trans (belowK_b (w := w1) (by omega) W D _ _ hD hK rfl rfl)⟩
    simp [results, Tryz.f11, go_sem, hc5]
end Go.Proofs.YtnapnkmehnabfaaGreat

import Derived.Test.YtnapnkmehnabfaaGreatHA
import Derived.RangeFuncCalls
set_option maxRecDepth 100000
set_option maxHeartbeats 2000000
namespace Go.Proofs.YtnapnkmehnabfaaGreat
open Go.RowKit Go.Shelf
attribute [local go_sem] Oper.semAt_some
def uN (n : Int) : Nat := (IntKind.u64.wrap n).toNat
theorem uN_lt (n : Int) : uN n < 18446744073709551616 := by unfold uN; rw [IntKind.wrap_u64]; omega
theorem uN_eq (n : Int) : IntKind.u64.wrap n = ((uN n : Nat) : Int) := by unfold uN; rw [IntKind.wrap_u64]; omega
noncomputable def labH (ws : List U64) : Nat := ws.foldl (fun s x => mixN s x.1) 0
theorem labH_snoc (ws : List U64) (x : U64) : labH (ws ++ [x]) = mixN (labH ws) x.1 := by simp [labH]
theorem fold_lt : ∀ (ws : List U64) (s : Nat), s < 18446744073709551616 → ws.foldl (fun s x => mixN s x.1) s < 18446744073709551616
 | [], _, h => h
 | x :: ws, _, h => fold_lt ws _ (mixN_lt h x.2)
theorem labH_lt (ws : List U64) : labH ws < 18446744073709551616 := fold_lt ws 0 (by decide)
noncomputable def preH (b : List Nat) (m : Nat) : Nat := mixN (mixN (labH (wordsU b)) b.length) m
noncomputable def numH (s : Nat) (l : List Int) : Nat := l.foldl (fun s n => mixN s (uN n)) s
theorem numH_snoc (s : Nat) (l : List Int) (x : Int) : numH s (l ++ [x]) = mixN (numH s l) (uN x) := by simp [numH]
theorem numH_lt : ∀ (l : List Int) (s : Nat), s < 18446744073709551616 → numH s l < 18446744073709551616
 | [], _, h => h
 | x :: l, s, h => by
  show numH (mixN s (uN x)) l < _;exact numH_lt l _ (mixN_lt h (uN_lt x))
noncomputable def sumH (b : List Nat) (l : List Int) : Nat := mixN (numH (preH b l.length) l) 0
theorem sum_any (st : ByteArray) (A : Option Addr) (c : Nat) (l : List Int) (w : World) (hst : st.size ≤ 1000000000) (hA : SI w A l) (hl : l.length ≤ 1000000000) :
  Calls Tryz.prog 106 #[.string st, .slice A l.length c] w fun e w' => e = .returned (.int .u64 (sumH (bl st) l : Nat)) ∧ Below w.heap.size w w' := by
 refine (callsIn_wide (n := 5)).1 ?_;refine callsIn_of_wp_marks Tryz.func106 rfl trivial ?_ rfl;simp only [Tryz.ntmps106, List.size_toArray, List.length_cons, List.length_nil, Nat.reduceAdd, Nat.reduceSub, Array.replicate_succ, Array.replicate_zero, List.push_toArray, List.append_toArray, List.nil_append, List.cons_append];gi_wp2
 refine ⟨trivial, ?_⟩;refine (wordsS_in Fence.wide _ trivial rfl _ _).mono ?_;rintro e w' ⟨rfl, rfl⟩;gi_wp2
 have bO := (Boxed.new w 53 (.int .u64 0)).alloc (.cells #[.string st] 9);have bN := Boxed.new (w.alloc (.cells #[.int .u64 0] 53)) 9 (.string st);rw [World.size_alloc] at bN;have hB0 : Below w.heap.size w ((w.alloc (.cells #[.int .u64 0] 53)).alloc (.cells #[.string st] 9)) := ((Below.refl _ w).alloc (Nat.le_refl _) _).alloc (by simp) _;refine wpIn_rangeFunc_ownF rfl (by omega) (gf := 181) (lb := #[.pointer (some ⟨w.heap.size + 1, 0, none⟩)]) rfl trivial (enters_of Tryz.func181 (by kernel_rfl) rfl)
  (wordsS1_stops Fence.wide 4 trivial rfl (by omega) (w.heap.size + 1) w.heap.size st hst _ (by simp) bN.cell) kpB_t (kpB_b (by simp; omega)) (Below.refl _ _) (fun _ => rfl)
  (fun pre W => (W.cell? ⟨w.heap.size, 0, none⟩ = some (.int .u64 (labH pre : Nat)) ∧ W.frozen? ⟨w.heap.size, 0, none⟩ = false) ∧ Below w.heap.size w W)
  (fun _ _ _ => False)
  (OwnFrom.and (Own.from (fun s A B row hs hg hr => ⟨cell_kept hs.1 hg hr, (frozen_kept hs.1 hg hr).trans hs.2⟩) _) (ownFrom_below (Nat.le_refl _) (by simp; omega)))
  (fun _ _ _ _ _ hs _ _ => hs)
  ⟨⟨bO.cell, bO.frozen⟩, hB0⟩
  (fun x => { tmps := #[.string st, .slice A l.length c, undef, undef, .int .u64 0, .pointer (some ⟨w.heap.size, 0, none⟩), .int .u64 (x.1 : Nat), undef, undef, .string st, .func (.func 181) #[] #[.pointer (some ⟨w.heap.size + 1, 0, none⟩)], .int .u64 (x.1 : Nat), undef, undef, undef, undef, undef, undef, undef, undef, undef, undef, undef, undef, undef, undef, undef, undef, undef, undef, undef, undef, undef, undef, undef, undef, undef], defers := [] }) ?assign ?body ?done ?stop
 case assign =>
  intro l x W K hK;gi_wp2
  exact hK
 case body =>
  rintro lp pre x W ⟨⟨hc, hf⟩, hB⟩ _;gi_wp2
  refine ⟨trivial, ?_⟩;refine (CallsIn.inRound lp (callsIn_wide.2 (mix_any (labH pre) x.1 W (labH_lt pre) x.2))).mono ?_;rintro e w' ⟨rfl, rfl⟩;gi_wp2
  refine ⟨KeepsOthers.setCell _ _ _, ⟨(Below.refl w.heap.size W).setCell (p := ⟨w.heap.size, 0, none⟩) (Nat.le_refl _) _, fun v hv => (World.cell?_setCell_other _ _ _ _ (by simp)).trans hv⟩, ⟨?_, by rw [World.frozen?_setCell]; exact hf⟩, hB.setCell (p := ⟨w.heap.size, 0, none⟩) (Nat.le_refl _) _⟩;rw [labH_snoc];exact World.cell?_setCell_same' _ _ _ (by rw [hc]; rfl)
 case done =>
  rintro D ys W hD rfl ⟨⟨hc, hf⟩, hB⟩ hK;have hm0 := labH_lt (wordsU (bl st));have hm1 := mixN_lt hm0 (show st.size < 18446744073709551616 by omega);gi_wp2
  refine ⟨trivial, ?_⟩;refine (callsIn_wide.2 (mix_any (labH (wordsU (bl st))) st.size W hm0 (by omega))).mono ?_;rintro e w' ⟨rfl, rfl⟩;gi_wp2
  refine ⟨trivial, ?_⟩;refine (callsIn_wide.2 (mix_any _ l.length W hm1 (by omega))).mono ?_;rintro e w' ⟨rfl, rfl⟩;have hpre : Hid (preH (bl st) l.length = mixN (mixN (labH (wordsU (bl st))) st.size) l.length) := by show _ = _; rw [preH, bl_len]
  have hpl : preH (bl st) l.length < 18446744073709551616 := by rw [hpre.out]; exact mixN_lt hm1 (by omega)
  have hD2 : w.heap.size < D := by simp at hD; omega
  rw [← hpre.out];generalize preH (bl st) l.length = pp at *;clear hm0 hm1 hD;gi_wp2
  have hc1 : (W.setCell ⟨w.heap.size, 0, none⟩ (.int .u64 (pp : Nat))).cell? ⟨w.heap.size, 0, none⟩ = some (.int .u64 (pp : Nat)) := World.cell?_setCell_same' _ _ _ (by rw [hc]; rfl);have hf1 : (W.setCell ⟨w.heap.size, 0, none⟩ (.int .u64 (pp : Nat))).frozen? ⟨w.heap.size, 0, none⟩ = false := by rw [World.frozen?_setCell]; exact hf
  have hB1 := hB.setCell (p := ⟨w.heap.size, 0, none⟩) (Nat.le_refl _) (.int .u64 (pp : Nat));have hK1 := (KeepsOthers.setCell W ⟨w.heap.size, 0, none⟩ (.int .u64 (pp : Nat))).same D _ hK rfl;clear hc hf hB hK;generalize W.setCell ⟨w.heap.size, 0, none⟩ (.int .u64 (pp : Nat)) = W1 at *;gi_wp2
  gi_loopw [26] (fun i wr => ∃ k : Nat, k ≤ l.length ∧ i = .int .i64 k ∧ wr.cell? ⟨w.heap.size, 0, none⟩ = some (.int .u64 (numH pp (l.take k) : Nat)) ∧ wr.frozen? ⟨w.heap.size, 0, none⟩ = false ∧ Below w.heap.size w wr ∧ wr.heap[D]? = some (.deferred (some [])))
   (fun i _ => l.length - (intOf i).toNat)
  case atStart => exact ⟨0, Nat.zero_le _, rfl, hc1, hf1, hB1, hK1⟩
  case round =>
   clear hc1 hf1 hB1 hK1;obtain ⟨k, hk, rfl, hc, hf, hB, hK⟩ := hrel;have hn := numH_lt (l.take k) pp hpl;by_cases hlt : k < l.length
   ·obtain ⟨b1, o1, x, rfl, hcx, hx⟩ := (hA.below hB).get hlt;have htk := q9 (take_snoc' hx.out);have hux := q9 (uN_eq x);have hns := q9 (numH_snoc pp (l.take k) x);generalize numH pp (l.take k) = nn at *;gi_wp2
    refine ⟨trivial, ?_⟩;rw [hux.out];refine (callsIn_wide.2 (mix_any nn (uN x) _ hn (uN_lt x))).mono ?_;rintro e w' ⟨rfl, rfl⟩;gi_wp2
    refine ⟨⟨k + 1, by omega, by go_num, ?_, by rw [World.frozen?_setCell]; exact hf, hB.setCell (p := ⟨w.heap.size, 0, none⟩) (Nat.le_refl _) _, (KeepsOthers.setCell wr ⟨w.heap.size, 0, none⟩ _).same D _ hK rfl⟩, by simp [intOf]; omega⟩;rw [htk.out, hns.out];exact World.cell?_setCell_same' _ _ _ (by rw [hc]; rfl)
   obtain rfl : k = l.length := by omega
   rw [List.take_length] at hc hn;generalize hnn : numH pp l = nn at *;have hnn := q9 hnn;gi_wp2
   refine ⟨trivial, ?_⟩;refine (callsIn_wide.2 (mix_any nn 0 _ hn (by omega))).mono ?_;rintro e w' ⟨rfl, rfl⟩;gi_wp2
   refine ⟨by simp, .inl ⟨_, _, rfl, run_takeDeferred hK, ?_⟩⟩;have hv : sumH (bl st) l = mixN nn 0 := by rw [sumH, preH, bl_len, ← hpre.out, hnn.out]
   rw [hv];exact ⟨_, results_tmp rfl _ _ _, rfl, hB.trans (belowK_b (w := w) (Nat.le_refl _) wr D _ _ (by omega) hK rfl rfl)⟩
 case stop =>
  rintro D c pre W _ _ h _;exact h.elim
end Go.Proofs.YtnapnkmehnabfaaGreat
namespace Go.Proofs.YtnapnkmehnabfaaGreat
open Go.RowKit Go.Shelf
attribute [local go_sem] Oper.semAt_some
def toI (x : U64) : Int := wrap64 (x.1 : Int)
noncomputable def bytesH (b bs : List Nat) : Nat := sumH b ((wordsU bs).map toI ++ [(bs.length : Int)])
theorem info_int : ((Tryz.prog).info? 3).map (fun i => (i.zero, i.size, i.bytes)) = some (some (.int .i64 0), 1, 8) := by kernel_rfl
theorem bk_own {W W' : World} {row : Option Nat} {b : Nat} {t : TypeId} {cs : Array Value} (h : Bk W b t cs) (hg : W.grownBy W' row) (hr : ∀ r, row = some r → ∃ o : Obj, W.heap[r]? = some o ∧ o.isCells = false) : Bk W' b t cs :=
 h.grown hg (fun e => by
  obtain ⟨o, ho, hc⟩ := hr _ e.symm;unfold Bk at h;rw [h] at ho;cases ho;cases hc)
theorem bytes_any (st : ByteArray) (A : Option Addr) (c : Nat) (bs : List Nat) (w : World) (hst : st.size ≤ 1000000000) (hA : SL w A (byV bs)) (hl : bs.length ≤ 100000000) (hbd : ∀ x ∈ bs, x < 256) :
  Calls Tryz.prog 37 #[.string st, .slice A bs.length c] w fun e w' => e = .returned (.int .u64 (bytesH (bl st) bs : Nat)) ∧ Below w.heap.size w w' := by
 refine (callsIn_wide (n := 5)).1 ?_;obtain ⟨i0, hi, hz0, hz1, hz2⟩ := info_parts info_int;have hwl : (wordsU bs).length ≤ 100000000 := by rw [wordsU, upTo_len]; omega
 have hAb : 0 < bs.length → ∀ b o, A = some ⟨b, o, none⟩ → b < w.heap.size := fun h b o e => by
  obtain ⟨b', o', e', hc⟩ := hA.byte h;rw [e] at e';injection e' with e';injection e' with e1;subst e1;exact World.block_lt_of_cell? _ _ hc
 refine callsIn_of_wp_marks Tryz.func37 rfl trivial ?_ rfl;simp only [Tryz.ntmps37, List.size_toArray, List.length_cons, List.length_nil, Nat.reduceAdd, Nat.reduceSub, Array.replicate_succ, Array.replicate_zero, List.push_toArray, List.append_toArray, List.nil_append, List.cons_append];gi_wp2
 refine ⟨trivial, ?_⟩;refine (words_in Fence.wide _ trivial rfl _ _ _ _).mono ?_;rintro e w' ⟨rfl, rfl⟩;gi_wp2
 have bO := (Boxed.new w 22 (.slice none 0 0)).alloc (.cells #[.slice A bs.length c] 50);have bN := Boxed.new (w.alloc (.cells #[.slice none 0 0] 22)) 50 (.slice A bs.length c);rw [World.size_alloc] at bN;have hB0 : Below w.heap.size w ((w.alloc (.cells #[.slice none 0 0] 22)).alloc (.cells #[.slice A bs.length c] 50)) := ((Below.refl _ w).alloc (Nat.le_refl _) _).alloc (by simp) _;refine wpIn_rangeFunc_ownG rfl (by omega) (gf := 158) (lb := #[.pointer (some ⟨w.heap.size + 1, 0, none⟩)]) rfl trivial (enters_of Tryz.func158 (by kernel_rfl) rfl)
  (words1_stops Fence.wide 4 trivial rfl (by omega) (w.heap.size + 1) w.heap.size c A bs (by omega) hbd _ (by simp) bN.cell (hA.below hB0) hAb) kpB_t (kpB_b (by simp; omega)) (Below.refl _ _) (fun _ => rfl)
  (fun (pre : List U64) W => Bk W (w.heap.size + 1) 50 #[.slice A bs.length c] ∧ (∃ v, Boxed W w.heap.size 22 v ∧ W.ownsRow w.heap.size 3 1 v (pre.map toI).length ((pre.map toI).map (Value.int .i64)) ∧ True) ∧ Below w.heap.size w W)
  (fun _ _ _ => False)
  (OwnFrom.and (Own.from (fun s A B row hs hg hr => bk_own hs hg hr) _) (OwnFrom.and (Own.from (holdsRow_own w.heap.size w.heap.size 22 3 1 (fun pre : List U64 => (pre.map toI).length) (fun pre : List U64 => (pre.map toI).map (Value.int .i64)) (fun _ _ => True)) _) (ownFrom_below (Nat.le_refl _) (by simp; omega))))
  (fun _ _ _ _ _ hs _ _ => hs)
  ⟨Bk.new' _ _ _ (by simp), ⟨_, bO, World.ownsRow_nil _ _ _ _, trivial⟩, hB0⟩
  (fun x => { tmps := #[.string st, .slice A bs.length c, undef, undef, .int .u64 0, .pointer (some ⟨w.heap.size, 0, none⟩), .int .u64 (x.1 : Nat), .slice A bs.length c, .func (.func 158) #[] #[.pointer (some ⟨w.heap.size + 1, 0, none⟩)], .int .u64 (x.1 : Nat), undef, undef, undef, undef, undef, undef, undef, undef, undef, undef, undef, undef], defers := [] }) ?assign ?body ?done ?stop
 case assign =>
  intro l x W K hK;gi_wp2
  exact hK
 case body =>
  rintro l pre x W ⟨hbk, ⟨v, hv, hrow, _⟩, hB⟩ hlt;have hc := hv.cell;have hml : (pre.map toI).length = pre.length := List.length_map _;gi_wp2_with (gi_at_builtin; refine wpListIn_append_own _ rfl _ _ 22 rfl w.heap.size 3 i0 (.int .i64 0) 1 8 Tryz.underlying22 hi hz0 hz1 hz2 rfl (by decide) _ _ _ rfl (hrow.alloc _) ⟨W.heap.size, 0, none⟩ 1 1 [.int .i64 (toI x)] rfl rfl (cell_one_new _ _ _) (by simp [Value.oneCell']) (by unfold maxLen; omega) (by omega) (by have := hB.size; simp; omega) ?_; intro v' w1 hown' hgrow _; obtain ⟨g', cap', rfl⟩ := ownsRow_succ hown'; obtain ⟨hv1, hv2, hr2, hk2, hb2⟩ := hv.appended (by decide) hrow hB.size (Nat.le_refl _) hown' hgrow; have hc1 := hv1.cell; have hf1 := hv1.frozen)
  have hne := hbk.ne_own hrow (by decide);have hbk2 := (((hbk.alloc (.cells #[.int .i64 (toI x)] 3)).grown hgrow hne).far (p := ⟨w.heap.size, 0, none⟩) (by simp) (.slice (some ⟨g', 0, none⟩) (pre.length + 1) cap'));rw [hml] at hk2 hb2 hv2;refine ⟨hk2.from _, ⟨hb2, fun u hu => ?_⟩, hbk2, ⟨_, hv2, ?_, trivial⟩, hB.trans hb2⟩
  ·rw [hbk.cell 0] at hu;rw [hbk2.cell 0];exact hu
  rw [List.map_append, List.length_append, List.map_append];simpa [hml] using hr2
 case done =>
  rintro D ys W hD rfl ⟨_, ⟨v, hv, hrow, _⟩, hB⟩ hK;have hc := hv.cell;have hml : ((wordsU bs).map toI).length ≤ 100000000 := by rw [List.length_map]; exact hwl
  have hD2 : w.heap.size < D := by simp at hD; omega
  generalize hws : (wordsU bs).map toI = ws at *;have Hws := q9 hws;have hW := hB.size;clear hws hD;gi_wp2_with (gi_at_builtin; refine wpListIn_append_own _ rfl _ _ 22 rfl w.heap.size 3 i0 (.int .i64 0) 1 8 Tryz.underlying22 hi hz0 hz1 hz2 rfl (by decide) _ _ _ rfl (hrow.alloc _) ⟨W.heap.size, 0, none⟩ 1 1 [.int .i64 (bs.length : Nat)] rfl rfl (cell_one_new _ _ _) (by simp [Value.oneCell']) (by unfold maxLen; omega) (by omega) (by simp; omega) ?_; intro v' w1 hown' hgrow _; obtain ⟨A', c', rfl⟩ := own_slice hown')
  have hS := SL.of_own hown';have hgr : (W.alloc (.cells #[.int .i64 (bs.length : Nat)] 3)).grownBy w1 v.ownBlock := hgrow;clear hgrow;have hg1 := (Below.refl w.heap.size W).grown ((World.grownBy_alloc W (.cells #[.int .i64 (bs.length : Nat)] 3) v.ownBlock).trans hgr) hW (fun k hk => (hrow.lt k hk).1);have hK1 : w1.heap[D]? = some (.deferred (some [])) := by
   have hDW := (Array.getElem?_eq_some_iff.1 hK).1;refine (hgr.block D (by simp; omega) (fun e => ?_)).trans ((Below.heap_alloc W _ D hDW).trans hK);rcases hrow.2 with ⟨rfl, _⟩ | ⟨g, cap, cur, rfl, _, hh, _⟩
   ·simp [Value.ownBlock] at e
   have : D = g := by simpa [Value.ownBlock] using e
   subst this;rw [hK] at hh;cases hh
  obtain ⟨zs, hz⟩ : ∃ zs, zs = ws ++ [(bs.length : Int)] := ⟨_, rfl⟩;have hzl : ws.length + 1 = zs.length := by rw [hz]; simp
  have hS2 : SI w1 A' zs := by rw [hz]; show SL _ _ _; rw [List.map_append]; exact hS
  have hsum : sumH (bl st) zs = bytesH (bl st) bs := by rw [bytesH, Hws.out, hz]
  rw [hzl];clear hz;refine ⟨trivial, ?_⟩;refine (callsIn_wide.2 (sum_any st A' c' zs w1 hst hS2 (by omega))).mono ?_;rintro e w2 ⟨rfl, hb2⟩;have hK2 : w2.heap[D]? = some (.deferred (some [])) := (hb2.block D (Array.getElem?_eq_some_iff.1 hK1).1).trans hK1;have hBf := (hB.trans hg1).trans (hb2.mono (by have := hg1.size; omega));have Hsum := q9 hsum;clear hsum;gi_wp2
  refine ⟨by simp, .inl ⟨_, _, rfl, run_takeDeferred hK2, ?_⟩⟩;refine ⟨_, results_tmp rfl _ _ _, ?_, hBf.trans (belowK_b (w := w) (Nat.le_refl _) w2 D _ _ (by omega) hK2 rfl rfl)⟩;exact ret_int (congrArg Nat.cast Hsum.out)
 case stop =>
  rintro D c pre W _ _ h _;exact h.elim
end Go.Proofs.YtnapnkmehnabfaaGreat

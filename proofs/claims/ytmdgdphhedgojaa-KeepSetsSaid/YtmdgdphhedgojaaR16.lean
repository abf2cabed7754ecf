import Derived.Test.YtmdgdphhedgojaaR15
import Derived.Lib.MinMax
import Derived.Deep.CutRange
namespace Go.Proofs.Ytmdgdphhedgojaa
open Go.RowKit Go.Maps

/-- The row after the first k faces are put anew. -/
def subTo (gone st : Int) (of : List Int) (k : Nat) : List Int := (of.take k).map (sub gone st) ++ of.drop k

theorem subTo_len (gone st : Int) (of : List Int) (k : Nat) : (subTo gone st of k).length = of.length := by
  simp only [subTo, List.length_append, List.length_map, List.length_take, List.length_drop]; omega

theorem subTo_at {gone st : Int} {of : List Int} {k : Nat} (hk : k < of.length) : (subTo gone st of k)[k]? = some of[k] := by
  unfold subTo
  rw [List.getElem?_append_right (by simp; omega)]
  simp [show min k of.length = k from by omega, hk]

theorem subTo_same {gone st : Int} {of : List Int} {k : Nat} (hk : k < of.length) (h : of[k] ≠ gone) : subTo gone st of (k + 1) = subTo gone st of k := by
  unfold subTo
  rw [List.take_add_one, List.getElem?_eq_getElem hk, List.map_append, List.drop_eq_getElem_cons hk]
  simp [sub, h]

theorem subTo_set {gone st : Int} {of : List Int} {k : Nat} (hk : k < of.length) (h : of[k] = gone) : (rowI (subTo gone st of k)).setIfInBounds k (.int .i64 st) = rowI (subTo gone st of (k + 1)) := by
  unfold subTo
  rw [List.take_add_one, List.getElem?_eq_getElem hk, List.map_append, List.drop_eq_getElem_cons hk]
  apply Array.ext_getElem?
  intro i
  simp only [rowI]
  rw [Array.getElem?_setIfInBounds]
  by_cases hi : k = i
  · subst hi
    simp [sub, h, show min k of.length = k from by omega]
  · rw [if_neg hi]
    simp only [List.getElem?_toArray, List.getElem?_map]
    by_cases hlt : i < k
    · rw [List.getElem?_append_left (by simp; omega), List.append_assoc, List.getElem?_append_left (by simp; omega)]
    · rw [List.getElem?_append_right (by simp; omega), List.getElem?_append_right (by simp; omega)]
      simp only [List.length_append, List.length_map, List.length_take]
      obtain ⟨j, hj⟩ : ∃ j, i = k + 1 + j := ⟨i - k - 1, by omega⟩
      subst hj
      simp [show min k of.length = k from by omega, show k + 1 + j - k = j + 1 from by omega, show k + (j + 1) = k + 1 + j from by omega]

/-- append of one element, laid in a new block, onto a slice of one's own. -/
theorem wpList_app2 {P : Program} {ops : Array Oper} {rest : List Oper} {o : Oper} {a : Act} {Q : Exit → Act → World → Prop} {w : World} {base : Nat} {us xs : List Value} {e t : TypeId} {z : Value} {size bytes n : Nat} {v : Value}
    (hgd : o.guard = none) (s x : Operand) (ho : o.op = .call { callee := .builtin .append, args := #[s, x], argTypes := #[t, t] }) (hE : Elt P t e z size bytes)
    (hown : w.ownsRow base e size v n xs) (hbs : base ≤ w.heap.size) (hs : a.eval s = v) {H : Nat} (hx : a.eval x = .slice (some ⟨H, 0, none⟩) 1 1) (hH : w.heap.size = H)
    (hl : us.length = size) (h1 : us.all (·.oneCell') = true) (hn : n < 1099511627776)
    (h : ∀ v' w1, w1.ownsRow base e size v' (n + 1) (xs ++ us) → w.grownBy w1 v.ownBlock → w.heap.size + 1 ≤ w1.heap.size →
      wpList P ops Q rest (a.put o.dst v') w1) : wpList P ops Q (o :: rest) a (w.alloc (.cells us.toArray e)) := by
  obtain ⟨ht, hsz, hby, hzs, i, hi, hz, hs1, hb1⟩ := hE
  subst hH
  refine wpList_plain hgd fun K hK => ?_
  have hmul : (n + 1) * bytes ≤ 140737488355328 := by
    have := Nat.mul_le_mul (show n + 1 ≤ 1099511627776 from hn) hby
    omega
  obtain ⟨v', w1, hrun, hown1, hgr, _, hat⟩ := run_append_own_at (P := P) (w.alloc (.cells us.toArray e)) base t o.type e i z size bytes ht hi hz hs1 hb1 hzs hsz v n xs (hown.alloc _) ⟨w.heap.size, 0, none⟩ 1 1 us (by simpa using hl) (cells_new w us e) (all_one h1) (by unfold maxLen; omega) hmul (by simp; omega)
  have hg : w.grownBy w1 v.ownBlock := ⟨hgr.os, hgr.tape, hgr.output, by have := hgr.size; simp at this; omega, fun k hk hne => (hgr.block k (by simp; omega) hne).trans (Below.heap_alloc w _ k hk)⟩
  unfold Oper.wp execOp
  simp only [ho, resolve, invoke, builtin, Sem.run_bind, Sem.run_pure, Result.andThen_ok, List.map_toArray, List.map_cons, List.map_nil, hs, hx, hrun]
  exact hK _ _ (h v' w1 hown1 hg (by have := hgr.size; simpa using this))

theorem elt_tri : Elt Try.prog 28 52 (.agg #[.int .i64 0, .int .i64 0, .int .i64 0]) 3 24 := Elt.mk' Try.underlying28 (by kernel_rfl) (by decide) (by decide) rfl

/-- Of what was there only three blocks have turned. -/
structure Fr (g r s : Nat) (w w' : World) : Prop where
  os : w'.os = w.os
  tape : w'.tape = w.tape
  output : w'.output = w.output
  size : w.heap.size ≤ w'.heap.size
  block : ∀ k, k < w.heap.size → k ≠ g → k ≠ r → k ≠ s → w'.heap[k]? = w.heap[k]?

section
variable {g r s : Nat} {w a b : World}
theorem Fr.refl (g r s : Nat) (w : World) : Fr g r s w w := ⟨rfl, rfl, rfl, Nat.le_refl _, fun _ _ _ _ _ => rfl⟩
theorem Fr.qt (h : Fr g r s w a) (hq : Qt a b) : Fr g r s w b := by obtain ⟨m, rfl⟩ := hq; exact ⟨h.os, h.tape, h.output, h.size, h.block⟩
theorem Fr.drew (h : Fr g r s w a) : Fr g r s w a.drew := ⟨h.os, h.tape, h.output, h.size, h.block⟩
theorem Fr.alloc (h : Fr g r s w a) (o : Obj) : Fr g r s w (a.alloc o) := ⟨h.os, h.tape, h.output, by have := h.size; simp; omega, fun k hk h1 h2 h3 => (Below.heap_alloc a o k (Nat.lt_of_lt_of_le hk h.size)).trans (h.block k hk h1 h2 h3)⟩
theorem Fr.setCell (h : Fr g r s w a) {p : Addr} (hp : p.block = g) (u : Value) : Fr g r s w (a.setCell p u) := ⟨h.os, h.tape, h.output, by have := h.size; simp [World.setCell]; omega, fun k hk h1 h2 h3 => (Below.heap_setCell a p u k (by omega)).trans (h.block k hk h1 h2 h3)⟩
theorem Turn.fr {t : Nat} (ht : Turn a b t) (h : Fr g r s w a) (hb : t = r ∨ t = s ∨ w.heap.size ≤ t) : Fr g r s w b := ⟨ht.os.trans h.os, ht.tape.trans h.tape, ht.output.trans h.output, by have := h.size; have := ht.size; omega, fun k hk h1 h2 h3 => (ht.block k (by omega)).trans (h.block k hk h1 h2 h3)⟩
theorem Fr.grown {row : Option Nat} (h : Fr g r s w a) (hg : a.grownBy b row) (hr : ∀ k, row = some k → w.heap.size ≤ k) : Fr g r s w b := ⟨hg.os.trans h.os, hg.tape.trans h.tape, hg.output.trans h.output, Nat.le_trans h.size hg.size, fun k hk h1 h2 h3 => (hg.block k (Nat.lt_of_lt_of_le hk h.size) (fun e => by have := hr k e.symm; omega)).trans (h.block k hk h1 h2 h3)⟩
theorem Fr.bl (h : Fr g r s w a) (hb : Below a.heap.size a b) : Fr g r s w b := ⟨hb.os.trans h.os, hb.tape.trans h.tape, hb.output.trans h.output, Nat.le_trans h.size hb.size, fun k hk h1 h2 h3 => (hb.block k (Nat.lt_of_lt_of_le hk h.size)).trans (h.block k hk h1 h2 h3)⟩
theorem Fr.below {base : Nat} (h : Fr g r s w a) (h0 : base ≤ w.heap.size) (h1 : base ≤ g) (h2 : base ≤ r) (h3 : base ≤ s) : Below base w a := ⟨h.os, h.tape, h.output, h.size, fun k hk => h.block k (by omega) (by omega) (by omega) (by omega)⟩
end

set_option maxHeartbeats 4000000 in
set_option maxRecDepth 100000 in
theorem mergeP_any (base p g rw rn c : Nat) (ws : List Int) (ns : List (Int × Int × Int)) (of : List Int) (a b : Int) (w : World) (hG : GS w base p g rw rn c ws ns of) (hab : a ≠ b) (ha : 0 ≤ a ∧ a < 4096) (hb : 0 ≤ b ∧ b < 4096) (hw : W40 ws) (hl : of.length ≤ 4096) (hn : NOK of.length ns) (hl3 : ns.length ≤ 16384) (hF : FOK of) :
    Calls Try.prog 60 #[.pointer (some ⟨p, 0, none⟩), .agg #[.int .i64 a, .int .i64 b]] w fun e w' => e = .returned (.tuple #[]) ∧ GS w' base p g rw rn c ws ns (of.map (sub (max a b) (min a b))) ∧ Fr g rw rn w w' := by
  obtain ⟨hp, hg, ⟨fw, nw, hmw, hfw⟩, ⟨nn, hmn⟩, hne, hbp, hbg, hbw, hbn⟩ := hG
  have hmax : ∀ (W : World) (ts : Array TypeId) (t : TypeId), (Builtin.max_ ts t #[.int .i64 a, .int .i64 b]).run Try.prog W = .ok (.int .i64 (max a b)) W := fun W ts t => Lib.run_max_ints W ts t .i64 .i64 a b
  have hmin : ∀ (W : World) (ts : Array TypeId) (t : TypeId), (Builtin.min_ ts t #[.int .i64 a, .int .i64 b]).run Try.prog W = .ok (.int .i64 (min a b)) W := fun W ts t => Lib.run_min_ints W ts t .i64 .i64 a b
  have hst : min a b ≠ max a b := by omega
  have hgb : 0 ≤ max a b ∧ max a b < 4096 := by omega
  have hsb : 0 ≤ min a b ∧ min a b < 4096 := by omega
  generalize max a b = gone at *
  generalize min a b = st at *
  go_enter Try.func60, Try.ntmps60
  go_upto_region 1 with fail
  have hk0 := (Bk.new w 114 #[.int .i64 a, .int .i64 b])
  have hc0 : (w.alloc (.cells #[.int .i64 a, .int .i64 b] 114)).cell? ⟨w.heap.size, 0, none⟩ = some (.int .i64 a) := hk0.cell 0
  have hc1 : (w.alloc (.cells #[.int .i64 a, .int .i64 b] 114)).cell? ⟨w.heap.size, 1, none⟩ = some (.int .i64 b) := hk0.cell 1
  go_cut [4, 5] from 14 to 23 (fun x y wx => x = .int .i64 gone ∧ y = .int .i64 st ∧ Qt (w.alloc (.cells #[.int .i64 a, .int .i64 b] 114)) wx)
  case first =>
    go_region_held3 (fun w' => w'.cell? ⟨w.heap.size, 0, none⟩ = some (.int .i64 a) ∧ w'.cell? ⟨w.heap.size, 1, none⟩ = some (.int .i64 b)) (go_keep) (fail)
    all_goals (go_wp2_with fail; go_meet; exact ⟨rfl, rfl, ⟨1, rfl⟩⟩)
  case rest =>
  obtain ⟨rfl, rfl, hq⟩ := hcut
  clear hc0 hc1 hk0
  generalize wc = W at *
  have hbw1 : Fr g rw rn w W := ((Fr.refl g rw rn w).alloc _).qt hq
  have hp1 := (hp.alloc (.cells #[.int .i64 a, .int .i64 b] 114)).qt hq
  have hg1 := (hg.alloc (.cells #[.int .i64 a, .int .i64 b] 114)).qt hq
  have hmw1 := (hmw.alloc (.cells #[.int .i64 a, .int .i64 b] 114)).qt hq
  have hmn1 := (hmn.alloc (.cells #[.int .i64 a, .int .i64 b] 114)).qt hq
  have hpg : Hid (p ≠ g) := Bk.ne_ hp hg (by decide)
  have hcp : W.cell? ⟨p, 0, none⟩ = some (.slice (some ⟨g, 0, none⟩) of.length c) := hp1.cell 0
  have Hp1 := Lib.hid hp1
  have Hg1 := Lib.hid hg1
  have Hb1 := Lib.hid hbw1
  have Hfw := Lib.hid hfw
  clear hq hp hg hmw hmn hp1 hg1 hbw1 hmax hmin hfw
  go_wp2_with fail
  clear hcp
  go_loopw [29] (fun i wr => ∃ k : Nat, k ≤ of.length ∧ i = .int .i64 k ∧ Bk wr p 130 #[.slice (some ⟨g, 0, none⟩) of.length c, .map (some rw), .map (some rn)] ∧ Bk wr g 3 (rowI (subTo gone st of k)) ∧ MapF iV iV Try.prog 3 wr rw fw nw ∧ MapF pV iV Try.prog 114 wr rn (nearF ns of ns.length) nn ∧ Fr g rw rn w wr) (fun i _ => of.length - (intOf i).toNat)
  case atStart => exact ⟨0, by omega, rfl, Hp1.out, by simpa [subTo] using Hg1.out, hmw1, hmn1, Hb1.out⟩
  case round =>
    clear Hp1 Hg1 hmw1 hmn1 Hb1
    obtain ⟨k, hk, rfl, hp, hg, hmw, hmn, hb⟩ := hrel
    by_cases hlt : k < of.length
    · have hcg : wr.cell? ⟨g, k, none⟩ = some (.int .i64 of[k]) := (hg.cell k).trans (rowI_get (subTo_at hlt))
      have hfg := hg.frozen k
      have hcp : wr.cell? ⟨p, 0, none⟩ = some (.slice (some ⟨g, 0, none⟩) of.length c) := hp.cell 0
      have i0 : (0 : Int) ≤ (k : Int) := by omega
      by_cases hx : of[k] = gone
      · have hset := Lib.hid (subTo_set (st := st) hlt hx)
        have hxe : (of[k] == gone) = true := by simpa using hx
        clear hx
        generalize of[k] = x at *
        have hp2 := hp.far (p := ⟨g, k, none⟩) hpg.out (.int .i64 st)
        have hg2 := hg.set_ k (.int .i64 st)
        rw [hset.out] at hg2
        have hmw2 := hmw.setCell (p := ⟨g, k, none⟩) (Ne.symm (hmw.bk_ne hg)) (.int .i64 st)
        have hmn2 := hmn.setCell (p := ⟨g, k, none⟩) (Ne.symm (hmn.bk_ne hg)) (.int .i64 st)
        have hb2 := hb.setCell (p := ⟨g, k, none⟩) rfl (.int .i64 st)
        have Hp2 := Lib.hid hp2
        have Hg2 := Lib.hid hg2
        have Hb2 := Lib.hid hb2
        clear hp2 hg2 hb2 hp hg hmw hmn hb
        go_wp2
        go_roundw
        case rel => exact ⟨k + 1, by omega, by go_num, Hp2.out, Hg2.out, hmw2, hmn2, Hb2.out⟩
        case measure => simp [intOf]; omega
      · have hset := Lib.hid (subTo_same (st := st) hlt hx)
        have hxe : (of[k] == gone) = false := by simpa using hx
        clear hx
        generalize of[k] = x at *
        have Hp2 := Lib.hid hp
        have Hg2 := Lib.hid hg
        have Hb2 := Lib.hid hb
        clear hp hg hb
        go_wp2
        go_roundw
        case rel => exact ⟨k + 1, by omega, by go_num, Hp2.out, by rw [hset.out]; exact Hg2.out, hmw, hmn, Hb2.out⟩
        case measure => simp [intOf]; omega
    · obtain rfl : k = of.length := by omega
      have hcp : wr.cell? ⟨p, 1, none⟩ = some (.map (some rw)) := hp.cell 1
      have Hp := Lib.hid hp
      have Hg := Lib.hid hg
      have Hb := Lib.hid hb
      clear hp hg hb hcp
      go_wp2
      refine region_tail 13 (by kernel_rfl) (by kernel_rfl) (fun W hq => ?_)
      have hgs := good_int (x := st) ⟨by omega, by omega⟩
      have hgg := good_int (x := gone) ⟨by omega, by omega⟩
      have hcp : W.cell? ⟨p, 1, none⟩ = some (.map (some rw)) := (Hp.out.qt hq).cell 1
      have hmw3 := hmw.qt hq
      have hl1 : (Instr.lookup 88 (.map (some rw)) (.int .i64 st) false).run Try.prog W = .ok (.int .i64 (weight ws of st)) W := by
        have := hmw3.lookup inj_iV keyed_int Try.underlying88 (zero_int W) hgs
        rw [Hfw.out] at this
        exact this
      have hl2 : (Instr.lookup 88 (.map (some rw)) (.int .i64 gone) false).run Try.prog W = .ok (.int .i64 (weight ws of gone)) W := by
        have := hmw3.lookup inj_iV keyed_int Try.underlying88 (zero_int W) hgg
        rw [Hfw.out] at this
        exact this
      have hwb1 := weight_bd (g := st) hw hl
      have hwb2 := weight_bd (g := gone) hw hl
      have hwrap : IntKind.i64.wrap (weight ws of st + weight ws of gone) = weight ws of st + weight ws of gone := IntWalk.i64_in _ (by omega)
      obtain ⟨w4, hup, hm4, ht4⟩ := hmw3.update inj_iV keyed_int Try.underlying88 hgs (weight ws of st + weight ws of gone)
      have hup' : (Instr.mapUpdate 88 (.map (some rw)) (.int .i64 st) (.int .i64 (weight ws of st + weight ws of gone))).run Try.prog W = .ok () w4 := hup
      obtain ⟨w5, nw5, hde, hm5, _, ht5⟩ := hm4.delete (ty := 0) inj_iV keyed_int Try.underlying88 hgg
      have hde' : (Builtin.delete_ #[88, 3] 0 #[.map (some rw), .int .i64 gone]).run Try.prog w4 = .ok (.tuple #[]) w5 := hde
      have hnp := hmw3.bk_ne (Hp.out.qt hq)
      have hp4 := ht4.bk (Hp.out.qt hq) hnp
      have hcp4 : w4.cell? ⟨p, 1, none⟩ = some (.map (some rw)) := hp4.cell 1
      have ht45 := ht4.trans ht5
      have Hp5 := Lib.hid (ht45.bk (Hp.out.qt hq) hnp)
      have hg5 := ht45.bk (Hg.out.qt hq) (hmw3.bk_ne (Hg.out.qt hq))
      have hmn5 := (hmn.qt hq).turn ht45 (Ne.symm hne)
      have Hb5 := Lib.hid (ht45.fr (Hb.out.qt hq) (.inl rfl))
      have Hg5 := Lib.hid (by simpa [subTo] using hg5 : Bk w5 g 3 (rowI (of.map (sub gone st))))
      have Hm5 : Hid (∃ f n, MapF iV iV Try.prog 3 w5 rw f n ∧ ∀ y, (f y).getD 0 = weight ws (of.map (sub gone st)) y) := ⟨_, _, hm5, fun y => by
        have e := weight_sub (ws := ws) hst y of.length (Nat.le_refl _)
        unfold weight
        rw [List.length_map, e]
        unfold delF setF
        by_cases h1 : y = gone
        · simp [h1]
        · rw [if_neg h1, if_neg h1]
          by_cases h2 : y = st
          · rw [if_pos h2, if_pos h2, h2]; rfl
          · rw [if_neg h2, if_neg h2, Int.add_zero]; exact Hfw.out y⟩
      have hnb := pair_bound hmn5 (near_ok hn hF hl _)
      have hcp5 : w5.cell? ⟨p, 2, none⟩ = some (.map (some rn)) := Hp5.out.cell 2
      obtain ⟨w6, hrg, hit6, hgr6, hsz6⟩ := hmn5.range Try.underlying128
      clear hup hde hm4 hm5 ht4 ht5 ht45 hnp hp4 hg5 hmw hmn hmw3 Hfw
      simp only [List.take_succ_cons, List.take_zero, List.drop_succ_cons, List.drop_zero]
      repeat still_step
      refine wpStill_nil ?_
      go_wp2_with fail
      clear hwrap hl1 hl2 hup' hde' hcp hcp4 hrg hcp5
      have Hp6 := Lib.hid (Hp5.out.grown hgr6 (by simp))
      have Hg6 := Lib.hid (Hg5.out.grown hgr6 (by simp))
      have Hm6 : Hid (∃ f n, MapF iV iV Try.prog 3 w6 rw f n ∧ ∀ y, (f y).getD 0 = weight ws (of.map (sub gone st)) y) := by
        obtain ⟨f, n, h1, h2⟩ := Hm5.out
        exact ⟨f, n, MapF.grown h1 hgr6 (by simp), h2⟩
      have hz5 := Hb5.out.size
      have Hb6 := Lib.hid (Hb5.out.grown hgr6 (by simp))
      have hbs6 : w.heap.size ≤ w6.heap.size := by omega
      have hbit : w.heap.size ≤ w5.heap.size := hz5
      have Hit6 := Lib.hid hit6
      clear hit6 hgr6 Hp5 Hg5 Hm5 Hb5 Hg Hp Hb
      generalize w5.heap.size = it at *
      clear hsz6 hz5
      have hg3 := hgb
      have hs3 := hsb
      go_loopw [8] (fun v wr => ∃ (done : List (Int × Int)) (l : List (Int × Int × Int)) (c' n : Nat) (f : Int × Int → Option Int), wr.ownsRow w6.heap.size 52 3 v l.length (triC l) ∧ Iter pV iV Try.prog 114 wr it rn f n done c' ∧
        Hid (∀ q, f q = if (q.1 = gone ∨ q.2 = gone) ∧ q ∈ done then none else nearF ns of ns.length q) ∧ Hid (Olds (nearF ns of ns.length) gone l) ∧ Hid (∀ t ∈ l, (t.1, t.2.1) ∈ done) ∧ Hid (∀ q ∈ done, q.1 = gone ∨ q.2 = gone → ∃ t ∈ l, (t.1, t.2.1) = q) ∧ done.length + c' ≤ nn ∧ l.length ≤ done.length ∧
        Bk wr p 130 #[.slice (some ⟨g, 0, none⟩) of.length c, .map (some rw), .map (some rn)] ∧ Bk wr g 3 (rowI (of.map (sub gone st))) ∧ Hid (∃ f n, MapF iV iV Try.prog 3 wr rw f n ∧ ∀ y, (f y).getD 0 = weight ws (of.map (sub gone st)) y) ∧ Fr g rw rn w wr ∧ w6.heap.size ≤ wr.heap.size) (fun _ wr => itLeft wr it rn)
      case atStart => exact ⟨[], [], nn, nn, _, World.ownsRow_nil _ _ _ _, Hit6.out, (fun q => by simp), ⟨by simp, by simp⟩, (fun t ht => by simp at ht), (fun q hq => by simp at hq), by simp, by simp, Hp6.out, Hg6.out, Hm6, Hb6.out, Nat.le_refl _⟩
      case round =>
        clear Hp6 Hg6 Hm6 Hb6 Hit6
        obtain ⟨done, l, c', n, f, hown, hit, hf, hO, hld, hdl, hle, hll, hp, hg, hm, hb, hsz⟩ := hrel
        have hleft := Lib.hid hit.left
        rcases hit.next inj_pV 0 with ⟨hall, hnx⟩ | ⟨q, v, w7, c2, hq1, hq2, hq3, hnx, hit2, hlt, ht2, hen⟩
        · have hnx' : ∀ ty, (Instr.next (.pointer (some ⟨it, 0, none⟩)) false ty).run Try.prog wr = .ok (.tuple #[.bool false]) wr := fun ty => hnx
          clear hnx
          have hfk : f = keepF gone (nearF ns of ns.length) := by
            funext q
            have h1 := hf.out q
            unfold keepF
            by_cases hq : q.1 = gone ∨ q.2 = gone
            · rw [if_pos hq]
              by_cases hd : q ∈ done
              · rw [h1, if_pos ⟨hq, hd⟩]
              · cases hc : f q with
                | none => rfl
                | some a => exact (hd (hall q (by rw [hc]; simp))).elim
            · rw [if_neg hq, h1, if_neg (fun h => hq h.1)]
          have hall2 : Hid (∀ q, nearF ns of ns.length q ≠ none → q.1 = gone ∨ q.2 = gone → ∃ t ∈ l, (t.1, t.2.1) = q) := fun q hq hqg => by
            refine hdl.out q ?_ hqg
            by_cases hd : q ∈ done
            · exact hd
            · refine hall q ?_
              rw [hf.out q, if_neg (fun h => hd h.2)]; exact hq
          have hmn := hit.map
          rw [hfk] at hmn
          obtain ⟨A1, c1, rfl⟩ := own_slice hown
          have Hmn := Lib.hid hmn
          have Hown := Lib.hid hown
          have Hp := Lib.hid hp
          have Hg := Lib.hid hg
          have Hb := Lib.hid hb
          clear hmn hown hp hg hb hfk hall hit hf hld hdl hleft
          go_wp2_with fail
          clear hnx'
          go_loopw [99] (fun i wr => ∃ (k m : Nat), k ≤ l.length ∧ i = .int .i64 k ∧ MapF pV iV Try.prog 114 wr rn (addF gone st (keepF gone (nearF ns of ns.length)) (l.take k)) m ∧ wr.ownsRow w6.heap.size 52 3 (.slice A1 l.length c1) l.length (triC l) ∧
            Bk wr p 130 #[.slice (some ⟨g, 0, none⟩) of.length c, .map (some rw), .map (some rn)] ∧ Bk wr g 3 (rowI (of.map (sub gone st))) ∧ Hid (∃ f n, MapF iV iV Try.prog 3 wr rw f n ∧ ∀ y, (f y).getD 0 = weight ws (of.map (sub gone st)) y) ∧ Fr g rw rn w wr ∧ w6.heap.size ≤ wr.heap.size) (fun i _ => l.length - (intOf i).toNat)
          case atStart => exact ⟨0, n, by omega, rfl, by simpa [addF] using Hmn.out, Hown.out, Hp.out, Hg.out, hm, Hb.out, hsz⟩
          case round =>
            clear Hmn Hown Hp Hg Hb hm hsz
            obtain ⟨k, m, hk, rfl, hmn, hown, hp, hg, hm, hb, hsz⟩ := hrel
            by_cases hlt : k < l.length
            · obtain ⟨b1, o1, x, y, z, rfl, hc0, hc1, hc2, ht⟩ := ST.get (SL.of_own hown : ST wr A1 l) hlt
              have hx0 := hO.out.a _ (List.mem_of_getElem? ht.out)
              dsimp only at hx0
              obtain ⟨hx1, hx2, hx3⟩ := hx0
              have hz := near_val hn hl3 hx1
              have hQ := near_ok hn hF hl _ (x, y) (by rw [hx1]; simp)
              dsimp only at hQ
              obtain ⟨hQ1, hQ2, hQ3, hQ4⟩ := hQ
              have hux : 0 ≤ sub gone st x ∧ sub gone st x < 4096 := by rcases sub_cases gone st x with h | h <;> omega
              have hvy : 0 ≤ sub gone st y ∧ sub gone st y < 4096 := by rcases sub_cases gone st y with h | h <;> omega
              have htk := take_snoc' ht.out
              have hF0 : Hid (sub gone st x ≠ sub gone st y → ∃ vv, 0 ≤ vv ∧ vv ≤ 18014398509481984 ∧ (addF gone st (keepF gone (nearF ns of ns.length)) (l.take k) (sub gone st x, sub gone st y)).getD 0 = vv) := fun h => by
                have hsplit : l = l.take k ++ (x, y, z) :: l.drop (k + 1) := by
                  obtain ⟨h1, h2⟩ := List.getElem?_eq_some_iff.1 ht.out
                  rw [← h2, ← List.drop_eq_getElem_cons h1, List.take_append_drop]
                have := addF_before (t := (x, y, z)) (by rw [← hsplit]; exact hO.out) h
                dsimp only at this
                rw [this]
                unfold keepF
                split
                · exact ⟨0, by omega, by omega, rfl⟩
                · cases hc : nearF ns of ns.length (sub gone st x, sub gone st y) with
                  | none => exact ⟨0, by omega, by omega, rfl⟩
                  | some c =>
                    have := near_val hn hl3 hc
                    exact ⟨c, by omega, by omega, rfl⟩
              have hstep : Hid (addF gone st (keepF gone (nearF ns of ns.length)) (l.take (k + 1)) = addS gone st (addF gone st (keepF gone (nearF ns of ns.length)) (l.take k)) (x, y, z)) := by
                show _ = _
                rw [htk, addF_snoc]
              clear htk hx1 hx2 hx3 ht
              generalize addF gone st (keepF gone (nearF ns of ns.length)) (l.take k) = F at *
              obtain ⟨wo, rfl⟩ : ∃ wo, wo = wr := ⟨wr, rfl⟩
              have Hmn := Lib.hid hmn
              have Hown := Lib.hid hown
              have Hp := Lib.hid hp
              have Hg := Lib.hid hg
              have Hb := Lib.hid hb
              have hzb := hb.size
              clear hmn hown hp hg hb
              go_wp2_with fail
              clear hc0 hc1 hc2
              have Hat := Lib.hid (Bk.new wo 52 #[.int .i64 x, .int .i64 y, .int .i64 z])
              have Hba := Lib.hid ((Below.refl wo.heap.size wo).alloc (Nat.le_refl _) (.cells #[.int .i64 x, .int .i64 y, .int .i64 z] 52))
              go_loopw [103] (fun i wi => ∃ (j : Nat) (u v : Int), j ≤ 2 ∧ i = .int .i64 j ∧ Bk wi wo.heap.size 52 #[.int .i64 u, .int .i64 v, .int .i64 z] ∧ Hid (u = (if 1 ≤ j then sub gone st x else x) ∧ v = (if 2 ≤ j then sub gone st y else y)) ∧ Below wo.heap.size wo wi) (fun i _ => 2 - (intOf i).toNat)
              case atStart => exact ⟨0, x, y, by omega, rfl, Hat.out, ⟨by simp, by simp⟩, Hba.out⟩
              case round =>
                clear Hat Hba
                obtain ⟨j, u, v, hj, rfl, hbk, huv, hbw⟩ := hrel
                by_cases hj2 : j < 2
                · obtain ⟨val, hcv, hT, hN⟩ : ∃ val, wr.cell? ⟨wo.heap.size, j, none⟩ = some (.int .i64 val) ∧
                      Hid (val = gone → ∃ u' v', (#[Value.int .i64 u, .int .i64 v, .int .i64 z] : Array Value).setIfInBounds j (.int .i64 st) = #[.int .i64 u', .int .i64 v', .int .i64 z] ∧ u' = (if 1 ≤ j + 1 then sub gone st x else x) ∧ v' = (if 2 ≤ j + 1 then sub gone st y else y)) ∧
                      Hid (val ≠ gone → u = (if 1 ≤ j + 1 then sub gone st x else x) ∧ v = (if 2 ≤ j + 1 then sub gone st y else y)) := by
                    obtain ⟨hu, hv⟩ := huv.out
                    rcases (by omega : j = 0 ∨ j = 1) with rfl | rfl
                    · simp at hu hv
                      refine ⟨u, hbk.cell 0, fun h => ⟨st, v, rfl, ?_, ?_⟩, fun h => ⟨?_, ?_⟩⟩
                      · rw [← hu, h]; simp [sub]
                      · simp [hv]
                      · rw [← hu]; simp [sub, h]
                      · simp [hv]
                    · simp at hu hv
                      refine ⟨v, hbk.cell 1, fun h => ⟨u, st, rfl, ?_, ?_⟩, fun h => ⟨?_, ?_⟩⟩
                      · simp [hu]
                      · rw [← hv, h]; simp [sub]
                      · simp [hu]
                      · rw [← hv]; simp [sub, h]
                  cases hval : (val == gone)
                  · have hsp := Lib.hid (hN.out (by simpa using hval))
                    have Hbk := Lib.hid hbk
                    have Hbw := Lib.hid hbw
                    clear hbk hbw hT hN huv
                    go_wp2_with fail
                    go_roundw
                    case rel => exact ⟨j + 1, u, v, by omega, by go_num, Hbk.out, hsp, Hbw.out⟩
                    case measure => simp [intOf]; omega
                  · obtain ⟨u', v', hset, hsp⟩ := hT.out (by simpa using hval)
                    have Hsp := Lib.hid hsp
                    have hf := hbk.frozen j
                    have hbk2 := hbk.set_ j (.int .i64 st)
                    rw [hset] at hbk2
                    have Hbk2 := Lib.hid hbk2
                    have Hb2 := Lib.hid (hbw.setCell (p := ⟨wo.heap.size, j, none⟩) (Nat.le_refl _) (.int .i64 st))
                    clear hbk hbw hT hN huv hset hsp hbk2
                    go_wp2_with fail
                    go_roundw
                    case rel => exact ⟨j + 1, u', v', by omega, by go_num, Hbk2.out, Hsp, Hb2.out⟩
                    case measure => simp [intOf]; omega
                · obtain rfl : j = 2 := by omega
                  obtain ⟨hu, hv⟩ := huv.out
                  simp at hu hv
                  rw [← hu, ← hv] at hF0
                  rw [← hu] at hux
                  rw [← hv] at hvy
                  have Hu := Lib.hid hu
                  have Hv := Lib.hid hv
                  clear hu hv huv
                  have hct0 : wr.cell? ⟨wo.heap.size, 0, none⟩ = some (.int .i64 u) := hbk.cell 0
                  have hct1 : wr.cell? ⟨wo.heap.size, 1, none⟩ = some (.int .i64 v) := hbk.cell 1
                  have hzw := hbw.size
                  have Hmn1 := Lib.hid (Hmn.out.below hbw Hmn.out.lt)
                  have Hown1 := Lib.hid (own_below Hown.out hbw)
                  have Hp1 := Lib.hid (Hp.out.below hbw Hp.out.lt)
                  have Hg1 := Lib.hid (Hg.out.below hbw Hg.out.lt)
                  have Hm1 : Hid (∃ f n, MapF iV iV Try.prog 3 wr rw f n ∧ ∀ y, (f y).getD 0 = weight ws (of.map (sub gone st)) y) := by
                    obtain ⟨f', n', h1, h2⟩ := hm.out
                    exact ⟨f', n', h1.below hbw h1.lt, h2⟩
                  have Hb1 := Lib.hid (Hb.out.bl hbw)
                  have Ht1 := Lib.hid hbk
                  have hzs : w6.heap.size ≤ wr.heap.size := by omega
                  clear hbk hbw Hmn Hown Hp Hg hm Hb
                  cases huv : (u != v)
                  · have hs2 : Hid (addF gone st (keepF gone (nearF ns of ns.length)) (l.take (k + 1)) = F) := by
                      show _ = _
                      rw [hstep.out]
                      exact if_pos (by rw [← Hu.out, ← Hv.out]; simpa using huv)
                    clear hF0 hstep
                    go_wp2_with fail
                    go_roundw
                    case rel => exact ⟨k + 1, m, by omega, by go_num, by rw [hs2.out]; exact Hmn1.out, Hown1.out, Hp1.out, Hg1.out, Hm1, Hb1.out, hzs⟩
                    case measure => simp [intOf]; omega
                  · have huv' : u ≠ v := by simpa using huv
                    obtain ⟨vv, hv1, hv2, hv3⟩ := hF0.out huv'
                    have hs2 : Hid (addF gone st (keepF gone (nearF ns of ns.length)) (l.take (k + 1)) = setF F (u, v) (vv + z)) := by
                      show _ = _
                      rw [hstep.out]
                      unfold addS
                      rw [if_neg (by rw [← Hu.out, ← Hv.out]; exact huv')]
                      dsimp only
                      rw [← Hu.out, ← Hv.out, hv3]
                    clear hF0 hstep huv'
                    have Hv3 := Lib.hid hv3
                    clear hv3
                    obtain ⟨hux1, hux2⟩ := hux
                    obtain ⟨hvy1, hvy2⟩ := hvy
                    obtain ⟨hz1, hz2⟩ := hz
                    go_wp2_with fail
                    have hgkw4 := good_pair (p := (u, v)) ⟨by dsimp only; omega, by dsimp only; omega⟩ ⟨by dsimp only; omega, by dsimp only; omega⟩
                    have hcpw4 : wr.cell? ⟨p, 2, none⟩ = some (.map (some rn)) := Hp1.out.cell 2
                    have hczw4 : wr.cell? ⟨wo.heap.size, 2, none⟩ = some (.int .i64 z) := Ht1.out.cell 2
                    have hmn2 := Hmn1.out
                    have hlw4 : (Instr.lookup 128 (.map (some rn)) (.agg #[.int .i64 u, .int .i64 v]) false).run Try.prog wr.drew = .ok (.int .i64 vv) wr.drew := by
                      have := hmn2.drew.lookup inj_pV keyed_pair Try.underlying128 (zero_int wr.drew) hgkw4
                      rw [Hv3.out] at this
                      exact this
                    obtain ⟨w4, se, hmew4, ht4, hm4, hst4⟩ := hmn2.drew.entry_ inj_pV keyed_pair Try.underlying128 (zero_int wr.drew) hgkw4
                    rw [Hv3.out] at hmew4 hm4
                    have hlw5 : (Instr.lookup 128 (.map (some rn)) (.agg #[.int .i64 u, .int .i64 v]) false).run Try.prog w4 = .ok (.int .i64 vv) w4 := by
                      have := hm4.lookup inj_pV keyed_pair Try.underlying128 (zero_int w4) hgkw4
                      rw [show setF _ (u, v) _ (u, v) = some _ from if_pos rfl] at this
                      exact this
                    obtain ⟨w8, hesw5, hm5, ht5⟩ := hst4 128 w4 (vv + z) rfl
                    have hme' : (Instr.mapEntry 128 (.map (some rn)) (.agg #[.int .i64 u, .int .i64 v])).run Try.prog wr.drew = .ok (.tuple #[.int .i64 vv, .int .i64 se]) w4 := hmew4
                    have hes' : (Instr.entryStore 128 (.map (some rn)) (.int .i64 se) (.int .i64 (vv + z))).run Try.prog w4 = .ok () w8 := hesw5
                    have ht45 := ht4.trans ht5
                    have hnp := hmn2.bk_ne Hp1.out
                    have hnt := hmn2.bk_ne Ht1.out
                    have hk0 : w4.cell? ⟨wo.heap.size, 0, none⟩ = some (.int .i64 u) := (ht4.cell (p := ⟨wo.heap.size, 0, none⟩) hnt).trans hct0
                    have hk1 : w4.cell? ⟨wo.heap.size, 1, none⟩ = some (.int .i64 v) := (ht4.cell (p := ⟨wo.heap.size, 1, none⟩) hnt).trans hct1
                    have hk4 : w4.cell? ⟨p, 2, none⟩ = some (.map (some rn)) := (ht4.cell (p := ⟨p, 2, none⟩) hnp).trans hcpw4
                    have hk4' : w4.cell? ⟨wo.heap.size, 2, none⟩ = some (.int .i64 z) := (ht4.cell (p := ⟨wo.heap.size, 2, none⟩) hnt).trans hczw4
                    have hj0 : w8.cell? ⟨wo.heap.size, 0, none⟩ = some (.int .i64 u) := (ht45.cell (p := ⟨wo.heap.size, 0, none⟩) hnt).trans hct0
                    have hj1 : w8.cell? ⟨wo.heap.size, 1, none⟩ = some (.int .i64 v) := (ht45.cell (p := ⟨wo.heap.size, 1, none⟩) hnt).trans hct1
                    have hk5 : w8.cell? ⟨p, 2, none⟩ = some (.map (some rn)) := (ht45.cell (p := ⟨p, 2, none⟩) hnp).trans hcpw4
                    have hk5' : w8.cell? ⟨wo.heap.size, 2, none⟩ = some (.int .i64 z) := (ht45.cell (p := ⟨wo.heap.size, 2, none⟩) hnt).trans hczw4
                    have Hp5 := Lib.hid (ht45.bk (w := wr.drew) Hp1.out hnp)
                    have Hg5 := Lib.hid (ht45.bk (w := wr.drew) Hg1.out (hmn2.bk_ne Hg1.out))
                    have Hm5 : Hid (∃ f n, MapF iV iV Try.prog 3 w8 rw f n ∧ ∀ y, (f y).getD 0 = weight ws (of.map (sub gone st)) y) := by
                      obtain ⟨f', n', h1, h2⟩ := Hm1.out
                      exact ⟨f', n', h1.drew.turn ht45 hne, h2⟩
                    have Hb5 := Lib.hid (ht45.fr Hb1.out.drew (.inr (.inl rfl)))
                    have Hown5 := Lib.hid (own_turn (own_qt Hown1.out ⟨1, rfl⟩ : wr.drew.ownsRow _ _ _ _ _ _) ht45 (MapF.own_ne hmn2 Hown1.out))
                    have hz8 : w6.heap.size ≤ w8.heap.size := Nat.le_trans hzs (Nat.le_of_eq ht45.size.symm)
                    have Hmn5 := Lib.hid hm5
                    clear hmew4 hesw5 hst4 hm5 ht4 ht5 ht45 hm4 hnp hnt hgkw4 hmn2
                    have hwrap : IntKind.i64.wrap (vv + z) = vv + z := IntWalk.i64_in _ (by omega)
                    go_region_held3 (fun w' => w'.cell? ⟨p, 2, none⟩ = some (.map (some rn)) ∧ w'.cell? ⟨wo.heap.size, 2, none⟩ = some (.int .i64 z) ∧ w'.cell? ⟨wo.heap.size, 0, none⟩ = some (.int .i64 u) ∧ w'.cell? ⟨wo.heap.size, 1, none⟩ = some (.int .i64 v)) (go_keep) (fail)
                    all_goals
                      clear hwrap hme' hes' hk0 hk1 hj0 hj1 hk4 hk4' hk5 hk5' hcpw4 hczw4 hlw4 hlw5 hct0 hct1
                      go_wp2_with fail
                      go_roundw
                      case rel => exact ⟨k + 1, _, by omega, by go_num, by rw [hs2.out]; exact Hmn5.out, Hown5.out, Hp5.out, Hg5.out, Hm5, Hb5.out, hz8⟩
                      case measure => simp [intOf]; omega
            · obtain rfl : k = l.length := by omega
              rw [List.take_length, near_merge hn hst hO.out hall2.out] at hmn
              have hlen : of.length = (of.map (sub gone st)).length := by simp
              have Hlen := Lib.hid hlen
              have Hmn := Lib.hid hmn
              have Hp := Lib.hid hp
              have Hg := Lib.hid hg
              have Hb := Lib.hid hb
              clear hmn hown hp hg hb hlen
              go_wp2_with fail
              go_end0
              exact ⟨rfl, ⟨by rw [← Hlen.out]; exact Hp.out, Hg.out, hm, ⟨m, Hmn.out⟩, hne, hbp, hbg, hbw, hbn⟩, Hb.out⟩
        · have hnx' : ∀ ty, (Instr.next (.pointer (some ⟨it, 0, none⟩)) false ty).run Try.prog wr = .ok (.tuple #[.bool true, .agg #[.int .i64 q.1, .int .i64 q.2], .int .i64 v]) w7 := fun ty => hnx
          have hen' : (Instr.entry (.pointer (some ⟨it, 0, none⟩))).run Try.prog w7 = .ok (.tuple #[.agg #[.int .i64 q.1, .int .i64 q.2], .int .i64 v]) w7 := hen
          clear hnx hen
          obtain ⟨q1, q2⟩ := q
          dsimp only at hnx' hen'
          have hf0 : nearF ns of ns.length (q1, q2) = some v := by
            have := hf.out (q1, q2)
            rw [hq2, if_neg (fun h => hq1 h.2)] at this
            exact this.symm
          have hne12 := (near_some hf0).1
          have hQ := near_ok hn hF hl _ (q1, q2) (by rw [hf0]; simp)
          dsimp only at hQ
          obtain ⟨hQ1, hQ2, hQ3, hQ4⟩ := hQ
          have hgq := good_pair (p := (q1, q2)) ⟨by dsimp only; omega, by dsimp only; omega⟩ ⟨by dsimp only; omega, by dsimp only; omega⟩
          have hown2 := own_turn hown ht2 (hit.own_ne hown)
          have hb2 := ht2.fr hb (.inr (.inr hbit))
          have hp2 := ht2.bk hp (hit.bk_ne hp)
          have hg2 := ht2.bk hg (hit.bk_ne hg)
          have hm2 : Hid (∃ f n, MapF iV iV Try.prog 3 w7 rw f n ∧ ∀ y, (f y).getD 0 = weight ws (of.map (sub gone st)) y) := by
            obtain ⟨f', n', h1, h2⟩ := hm.out
            exact ⟨f', n', h1.turn ht2 (hit.map_ne h1), h2⟩
          have hz7 : wr.heap.size ≤ w7.heap.size := Nat.le_of_eq ht2.size.symm
          have hown1 := hown2.alloc (.cells #[.int .i64 q1, .int .i64 q2] 114)
          have hit1 := hit2.keep (w' := w7.alloc (.cells #[.int .i64 q1, .int .i64 q2] 114)) (Below.heap_alloc _ _ _ hit2.lt) (Below.heap_alloc _ _ _ hit2.map.lt)
          have hb1 := hb2.alloc (.cells #[.int .i64 q1, .int .i64 q2] 114)
          have hp1 := hp2.alloc (.cells #[.int .i64 q1, .int .i64 q2] 114)
          have hg1 := hg2.alloc (.cells #[.int .i64 q1, .int .i64 q2] 114)
          have hm1 : Hid (∃ f n, MapF iV iV Try.prog 3 (w7.alloc (.cells #[.int .i64 q1, .int .i64 q2] 114)) rw f n ∧ ∀ y, (f y).getD 0 = weight ws (of.map (sub gone st)) y) := by
            obtain ⟨f', n', h1, h2⟩ := hm2.out
            exact ⟨f', n', h1.alloc _, h2⟩
          have ht1 := Bk.new w7 114 #[.int .i64 q1, .int .i64 q2]
          have hzs : w6.heap.size ≤ (w7.alloc (.cells #[.int .i64 q1, .int .i64 q2] 114)).heap.size := by simp; omega
          clear hown hown2 hb hb2 hit hit2 ht2 hp hp2 hg hg2 hm hm2
          have Hown1 := Lib.hid hown1
          have Hit1 := Lib.hid hit1
          have Hb1 := Lib.hid hb1
          have Hp1 := Lib.hid hp1
          have Hg1 := Lib.hid hg1
          have Ht1 := Lib.hid ht1
          clear hown1 hit1 hb1 hp1 hg1 ht1
          by_cases hG : q1 = gone ∨ q2 = gone
          · have hO2 : Hid (Olds (nearF ns of ns.length) gone (l ++ [(q1, q2, v)])) := by
              refine ⟨fun t ht => ?_, ?_⟩
              · rcases List.mem_append.1 ht with ht | ht
                · exact hO.out.a t ht
                · have : t = (q1, q2, v) := by simpa using ht
                  subst this
                  exact ⟨hf0, hne12, hG⟩
              · rw [List.map_append, List.nodup_append]
                refine ⟨hO.out.n, by simp, fun a ha b hb e => ?_⟩
                obtain ⟨t, ht, rfl⟩ := List.mem_map.1 ha
                have : b = (q1, q2) := by simpa using hb
                exact hq1 (this ▸ e ▸ hld.out t ht)
            have hf2 : Hid (∀ q, delF f (q1, q2) q = if (q.1 = gone ∨ q.2 = gone) ∧ q ∈ done ++ [(q1, q2)] then none else nearF ns of ns.length q) := fun q => by
              unfold delF
              by_cases h : q = (q1, q2)
              · rw [if_pos h, if_pos ⟨by rw [h]; exact hG, by simp [h]⟩]
              · rw [if_neg h, hf.out q]
                have : q ∈ done ++ [(q1, q2)] ↔ q ∈ done := by simp [h]
                simp only [this]
            have hld2 : Hid (∀ t ∈ l ++ [(q1, q2, v)], (t.1, t.2.1) ∈ done ++ [(q1, q2)]) := fun t ht => by
              rcases List.mem_append.1 ht with ht | ht
              · exact List.mem_append.2 (.inl (hld.out t ht))
              · have : t = (q1, q2, v) := by simpa using ht
                subst this; simp
            have hdl2 : Hid (∀ q ∈ done ++ [(q1, q2)], q.1 = gone ∨ q.2 = gone → ∃ t ∈ l ++ [(q1, q2, v)], (t.1, t.2.1) = q) := fun q hq hqg => by
              rcases List.mem_append.1 hq with hq | hq
              · obtain ⟨t, ht, e⟩ := hdl.out q hq hqg
                exact ⟨t, by simp [ht], e⟩
              · have : q = (q1, q2) := by simpa using hq
                subst this
                exact ⟨(q1, q2, v), by simp, rfl⟩
            have hor : (q1 == gone) = true ∨ (q1 == gone) = false ∧ (q2 == gone) = true := by
              by_cases h : q1 = gone
              · exact .inl (by simpa using h)
              · exact .inr ⟨by simpa using h, by simpa [h] using hG⟩
            clear hO hf hld hdl hG hf0 hne12
            rcases hor with hA | ⟨hA, hB⟩
            all_goals
              have hrow := Hit1.out.own_ne Hown1.out
              have hrow2 := MapF.own_ne Hit1.out.map Hown1.out
              have hrowp := Hp1.out.ne_own Hown1.out (by decide)
              have hrowg := Hg1.out.ne_own Hown1.out (by decide)
              have hrowt := Ht1.out.ne_own Hown1.out (by decide)
              have hrowlt := Hown1.out.lt
              go_wp2_with (at_builtin; refine wpList_app2 (w := w7.alloc (.cells #[.int .i64 q1, .int .i64 q2] 114)) rfl _ _ rfl elt_tri Hown1.out hzs rfl rfl (by simp) rfl rfl (by omega) ?_; intro v1 w4 hown4 hg4 hz4)
              clear hnx' hen'
              have Hp4 := Lib.hid (Hp1.out.grown hg4 hrowp)
              have Hg4 := Lib.hid (Hg1.out.grown hg4 hrowg)
              have Ht4 := Lib.hid (Ht1.out.grown hg4 hrowt)
              have Hit4 := Lib.hid (Hit1.out.keep (hg4.block it Hit1.out.lt hrow) (hg4.block rn Hit1.out.map.lt hrow2))
              have Hm4 : Hid (∃ f n, MapF iV iV Try.prog 3 w4 rw f n ∧ ∀ y, (f y).getD 0 = weight ws (of.map (sub gone st)) y) := by
                obtain ⟨f', n', h1, h2⟩ := hm1.out
                exact ⟨f', n', h1.grown hg4 (MapF.own_ne h1 Hown1.out), h2⟩
              have Hb4 := Lib.hid (Hb1.out.grown hg4 (fun k hk => by have := (hrowlt k hk).1; omega))
              have Hown4 := Lib.hid hown4
              clear hown4 hg4 hrow hrow2 hrowp hrowg hrowt hrowlt Hown1 Hit1 Hb1 Hp1 Hg1 Ht1 hm1
              generalize w7.heap.size = t at *
              refine region_tail 5 (by kernel_rfl) (by kernel_rfl) (fun W3 hq3 => ?_)
              have hcp : W3.cell? ⟨p, 2, none⟩ = some (.map (some rn)) := (Hp4.out.qt hq3).cell 2
              have hct0 : W3.cell? ⟨t, 0, none⟩ = some (.int .i64 q1) := (Ht4.out.qt hq3).cell 0
              have hct1 : W3.cell? ⟨t, 1, none⟩ = some (.int .i64 q2) := (Ht4.out.qt hq3).cell 1
              obtain ⟨w5, n', c3, hde, hit5, hc3, ht5⟩ := (Hit4.out.qt hq3).delete (ty := 0) inj_pV keyed_pair Try.underlying128 hgq
              have hde' : (Builtin.delete_ #[128, 114] 0 #[.map (some rn), .agg #[.int .i64 q1, .int .i64 q2]]).run Try.prog W3 = .ok (.tuple #[]) w5 := hde
              have Hit5 := Lib.hid hit5
              have Ht5 := Lib.hid ht5
              have hz3 : W3.heap.size = w4.heap.size := by obtain ⟨m, rfl⟩ := hq3; rfl
              clear hde hit5 ht5
              simp only [List.take_succ_cons, List.take_zero, List.drop_succ_cons, List.drop_zero]
              repeat still_step
              refine wpStill_nil ?_
              go_wp2_with fail
              go_roundw
              case rel =>
                have hrow4 := MapF.own_ne Hit4.out.map Hown4.out
                refine ⟨done ++ [(q1, q2)], l ++ [(q1, q2, v)], c3, n', delF f (q1, q2), by rw [triC_append, List.length_append]; exact own_turn (own_qt Hown4.out hq3) Ht5.out hrow4, Hit5.out, hf2, hO2, hld2, hdl2, by simp; omega, by simp; omega, Ht5.out.bk (Hp4.out.qt hq3) ((Hit4.out.qt hq3).map.bk_ne (Hp4.out.qt hq3)), Ht5.out.bk (Hg4.out.qt hq3) ((Hit4.out.qt hq3).map.bk_ne (Hg4.out.qt hq3)), ?_, Ht5.out.fr (Hb4.out.qt hq3) (.inr (.inl rfl)), by have := Ht5.out.size; omega⟩
                obtain ⟨f', n', h1, h2⟩ := Hm4.out
                exact ⟨f', n', (h1.qt hq3).turn Ht5.out hne, h2⟩
              case measure => rw [hleft.out, Hit5.out.left]; omega
          · have hA : (q1 == gone) = false := by simpa using fun h => hG (.inl h)
            have hB : (q2 == gone) = false := by simpa using fun h => hG (.inr h)
            have hf2 : Hid (∀ q, f q = if (q.1 = gone ∨ q.2 = gone) ∧ q ∈ done ++ [(q1, q2)] then none else nearF ns of ns.length q) := fun q => by
              rw [hf.out q]
              by_cases h : q = (q1, q2)
              · rw [if_neg (fun h' => hG (by rw [h] at h'; exact h'.1)), if_neg (fun h' => hG (by rw [h] at h'; exact h'.1))]
              · have : q ∈ done ++ [(q1, q2)] ↔ q ∈ done := by simp [h]
                simp only [this]
            have hld2 : Hid (∀ t ∈ l, (t.1, t.2.1) ∈ done ++ [(q1, q2)]) := fun t ht => List.mem_append.2 (.inl (hld.out t ht))
            have hdl2 : Hid (∀ q ∈ done ++ [(q1, q2)], q.1 = gone ∨ q.2 = gone → ∃ t ∈ l, (t.1, t.2.1) = q) := fun q hq hqg => by
              rcases List.mem_append.1 hq with hq | hq
              · exact hdl.out q hq hqg
              · have : q = (q1, q2) := by simpa using hq
                subst this
                exact (hG hqg).elim
            clear hf hld hdl hG hf0 hne12
            go_wp2_with fail
            clear hnx' hen'
            go_roundw
            case rel => exact ⟨done ++ [(q1, q2)], l, c2, n, f, Hown1.out, Hit1.out, hf2, hO, hld2, hdl2, by simp; omega, by simp; omega, Hp1.out, Hg1.out, hm1, Hb1.out, hzs⟩
            case measure => rw [hleft.out, Hit1.out.left]; omega
end Go.Proofs.Ytmdgdphhedgojaa

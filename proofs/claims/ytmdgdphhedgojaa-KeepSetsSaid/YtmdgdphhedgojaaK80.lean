import Derived.Test.YtmdgdphhedgojaaK23
import Derived.Deep.QuietTactic
import Derived.ChangeKeysEq
import Derived.Deep.DeepCutAuto
namespace Go.Proofs.Ytmdgdphhedgojaa
open Go.RowKit Go.Maps

theorem under_tri : (Try.prog).underlying 52 = some (.array 3 3) := by kernel_rfl
set_option maxRecDepth 100000 in
theorem neq_tri (x y z : Int) (W : World) : (binOp .neq 52 (.agg #[.int .i64 x, .int .i64 y, .int .i64 z]) (.agg #[.int .i64 x, .int .i64 y, .int .i64 z])).run Try.prog W = .ok (.bool false) W := by
  obtain ⟨i, hi, h1, h2, _⟩ := info_parts (P := Try.prog) (e := 3) (by kernel_rfl : ((Try.prog).info? 3).map (fun i => (i.zero, i.size, i.bytes)) = some (some (.int .i64 0), 1, 8))
  have h := run_equalIn_array (P := Try.prog) W 9999 #[.int .i64 x, .int .i64 y, .int .i64 z] #[.int .i64 x, .int .i64 y, .int .i64 z] under_tri hi
  rw [run_neq_struct, show (10000 : Nat) = 9999 + 1 from rfl, h]
  have hc : (Try.prog).cellsOf 3 = 1 := by kernel_rfl
  have ha := Try.isAgg3
  have hu3 := Try.underlying3
  rw [hc]
  simp [Op.eqItems, List.range, List.range.loop, part, ha, run_equalIn_int W 9998 3 .i64 .i64 _ _ hu3]

set_option maxHeartbeats 2000000 in
set_option maxRecDepth 100000 in
theorem same_any (A B C D : Option Addr) (a b c d : Nat) (ws : List Int) (ns : List (Int × Int × Int)) (w : World) (hA : SI w A ws) (hB : ST w B ns) (hC : SI w C ws) (hD : ST w D ns) (hl1 : ws.length ≤ 1099511627776) (hl2 : ns.length ≤ 1099511627776) :
    Calls Try.prog 28 #[.agg #[.slice A ws.length a, .slice B ns.length b], .agg #[.slice C ws.length c, .slice D ns.length d]] w fun e w' => e = .returned (.bool true) ∧ Below w.heap.size w w' := by
  have hbk := (Bk.new w 30 #[.slice A ws.length a, .slice B ns.length b]).alloc (.cells #[.slice C ws.length c, .slice D ns.length d] 30)
  have hbr := Bk.new' (w.alloc (.cells #[.slice A ws.length a, .slice B ns.length b] 30)) 30 #[.slice C ws.length c, .slice D ns.length d] (g := w.heap.size + 1) (by simp)
  have hb0 : Below w.heap.size w ((w.alloc (.cells #[.slice A ws.length a, .slice B ns.length b] 30)).alloc (.cells #[.slice C ws.length c, .slice D ns.length d] 30)) := ((Below.refl _ _).alloc (Nat.le_refl _) _).alloc (by simp) _
  go_enter Try.func28, Try.ntmps28
  go_wp2_with fail
  generalize (w.alloc (.cells #[.slice A ws.length a, .slice B ns.length b] 30)).alloc (.cells #[.slice C ws.length c, .slice D ns.length d] 30) = W0 at *
  refine (sameInts_any A C a c ws ws W0 (hA.below hb0) (hC.below hb0) (by omega) (by omega)).mono ?_
  rintro e w1 ⟨he, hq⟩
  obtain rfl : e = .returned (.bool true) := by rw [he]; simp
  have Hbk := Lib.hid (hbk.qt hq)
  have Hbr := Lib.hid (hbr.qt hq)
  have Hb := Lib.hid (hq.bl hb0)
  have HB := Lib.hid (hB.below Hb.out)
  have HD := Lib.hid (hD.below Hb.out)
  have hc1 : w1.cell? ⟨w.heap.size, 1, none⟩ = some (.slice B ns.length b) := Hbk.out.cell 1
  have hd1 : w1.cell? ⟨w.heap.size + 1, 1, none⟩ = some (.slice D ns.length d) := Hbr.out.cell 1
  clear hA hB hC hD hbk hbr hb0 hq he
  go_wp2_with fail
  go_loopw [6] (fun i wr => ∃ k : Nat, k ≤ ns.length ∧ i = .int .i64 k ∧ Qt w1 wr) (fun i _ => ns.length - (intOf i).toNat)
  case atStart => exact ⟨0, by omega, rfl, Qt.refl _⟩
  case round =>
    obtain ⟨k, hk, rfl, hq⟩ := hrel
    obtain ⟨n, rfl⟩ := hq
    by_cases hlt : k < ns.length
    · obtain ⟨b1, o1, x, y, z, rfl, c0, c1, c2, hx⟩ := HB.out.get (k := k) hlt
      obtain ⟨b2, o2, x', y', z', rfl, d0, d1, d2, hx'⟩ := HD.out.get (k := k) hlt
      have he := hx.out.symm.trans hx'.out
      injection he with he
      injection he with e1 e2
      injection e2 with e2 e3
      subst e1 e2 e3
      have i0 : (0 : Int) ≤ (k : Int) := by omega
      have hne := neq_tri x y z
      have heg : (Try.prog).eqGuardType (Try.prog).depth 52 = false := by kernel_rfl
      go_wp2_with fail
      go_quiet (fail)
      go_wp2_with fail
      go_roundw
      case rel => exact ⟨k + 1, by omega, by go_num, by first | exact Qt.drewN ⟨n, rfl⟩ _ | exact ⟨_, rfl⟩⟩
      case measure => simp [intOf]; omega
    · go_wp2_with fail
      go_ret
      exact ⟨rfl, below_drewN Hb.out n⟩

theorem plain_any (A B : Option Addr) (c d n m : Nat) (w : World) :
    Calls Try.prog 29 #[.agg #[.slice A n c, .slice B m d]] w fun e w' => e = .returned (.agg #[.slice A n c, .slice B m d]) ∧ Below w.heap.size w w' := by
  go_enter Try.func29, Try.ntmps29
  go_wp2
  refine bodyPost_ret (v := .agg #[.slice A n c, .slice B m d]) (by simp [results, Try.results29, go_sem]) rfl ⟨rfl, ?_⟩
  exact ((Below.refl _ _).alloc (Nat.le_refl _) _).alloc (by simp) _


theorem own_bk2 {w : World} {base g n c : Nat} {e : TypeId} {size : Nat} {xs : List Value} (h : w.ownsRow base e size (.slice (some ⟨g, 0, none⟩) n c) n xs) : ∃ cur, Bk w g e cur ∧ cur.toList.take (n * size) = xs := by
  rcases h.2 with ⟨he, _⟩ | ⟨k, cap, cur, he, h1, hg, h2, h3, h4, h5⟩
  · cases he
  · injection he with e1 e2 e3
    injection e1 with e1
    injection e1 with e1
    subst e1
    exact ⟨cur, hg, h5⟩
/-- From block b on only blocks of ints have turned. -/
structure Wi (b : Nat) (w W : World) : Prop where
  os : W.os = w.os
  tape : W.tape = w.tape
  output : W.output = w.output
  size : W.heap.size = w.heap.size
  block : ∀ k, (k < b ∨ ∀ cs fr, w.heap[k]? ≠ some (.cells cs 3 fr)) → W.heap[k]? = w.heap[k]?
theorem Wi.refl (b : Nat) (w : World) : Wi b w w := ⟨rfl, rfl, rfl, rfl, fun _ _ => rfl⟩
theorem Wi.set_ {b : Nat} {a w : World} (h : Wi b a w) {g : Nat} {cs : Array Value} (hg : Bk w g 3 cs) (hb : b ≤ g) (i : Nat) (u : Value) : Wi b a (w.setCell ⟨g, i, none⟩ u) := by
  refine ⟨h.os, h.tape, h.output, by rw [← h.size]; simp [World.setCell], fun k hk => ?_⟩
  have e := h.block k hk
  rw [← e]
  refine Below.heap_setCell w _ u k (fun hc => ?_)
  obtain rfl : k = g := hc
  rcases hk with hk | hk
  · omega
  · exact hk _ _ (e.symm.trans hg)
theorem Wi.qt {b : Nat} {a w W : World} (h : Wi b a w) (hq : Qt w W) : Wi b a W := by obtain ⟨n, rfl⟩ := hq; exact ⟨h.os, h.tape, h.output, h.size, h.block⟩
theorem Wi.bk {b : Nat} {w W : World} (h : Wi b w W) {g : Nat} {t : TypeId} {cs : Array Value} (hg : Bk w g t cs) (ht : g < b ∨ t ≠ 3) : Bk W g t cs := (h.block g (ht.imp id (fun ht cs' fr hc => by
  unfold Bk at hg
  rw [hg] at hc
  injection hc with hc
  injection hc with _ e
  exact ht e))).trans hg
theorem Wi.own {b : Nat} {w W : World} (h : Wi b w W) {base size n : Nat} {e : TypeId} {v : Value} {xs : List Value} (ho : w.ownsRow base e size v n xs) (he : (∀ g, v.ownBlock = some g → g < b) ∨ e ≠ 3) : W.ownsRow base e size v n xs := by
  refine ⟨ho.1, ?_⟩
  rcases ho.2 with hn | ⟨g, cap, cur, hv, h1, hgg, rest⟩
  · exact .inl hn
  · exact .inr ⟨g, cap, cur, hv, h1, h.bk (t := e) (cs := cur) hgg (he.imp (fun he => he g (by rw [hv]; rfl)) id), rest⟩
theorem Wi.kp {b : Nat} {w W : World} (h : Wi b w W) {p : Nat} {F : Nat → Prop} {ls ws : List Int} {ns : List (Int × Int × Int)} {work : Int} (hK : KP w p F ls ws ns work) (hF : ∀ k, F k → k < b) : KP W p F ls ws ns work := by
  obtain ⟨cs, hp⟩ := hK.bp
  refine hK.kf ⟨by rw [h.size]; exact Nat.le_refl _, fun k hk _ => h.block k (.inl (hF k hk))⟩ ((h.bk hp (.inr (by decide))).trans hp.symm)
theorem Wi.below {b B : Nat} {a w W : World} (h : Wi b w W) (hb : Below B a w) (hB : B ≤ b) : Below B a W := hb.trans ⟨h.os, h.tape, h.output, by rw [h.size]; exact Nat.le_refl _, fun k hk => h.block k (.inl (by omega))⟩
theorem Turn.kp {r p : Nat} {w W : World} (h : Turn w W r) {F : Nat → Prop} {ls ws : List Int} {ns : List (Int × Int × Int)} {work : Int} (hK : KP w p F ls ws ns work) (hF : ¬ F r) (hp : p ≠ r) : KP W p F ls ws ns work :=
  hK.kf ⟨by rw [h.size]; exact Nat.le_refl _, fun k hk _ => h.block k (fun e => hF (e ▸ hk))⟩ (h.block p hp)
/-- Rows of n ints each, in blocks from b on. -/
def RW (w : World) (b n : Nat) (vs : List Value) : Prop := ∀ (j : Nat) v, vs[j]? = some v → ∃ h cs, v = Value.slice (some ⟨h, 0, none⟩) n n ∧ b ≤ h ∧ Bk w h 3 cs ∧ cs.size = n ∧ ∀ i (hi : i < cs.size), ∃ x, cs[i] = Value.int .i64 x
theorem RW.set_ {w : World} {b n g i : Nat} {vs : List Value} (h : RW w b n vs) (x : Int) : RW (w.setCell ⟨g, i, none⟩ (.int .i64 x)) b n vs := fun j v hv => by
  obtain ⟨k, cs, e, hb, hk, hs, hx⟩ := h j v hv
  by_cases hkg : k = g
  · subst hkg
    refine ⟨k, _, e, hb, hk.set_ i _, by simpa using hs, fun m hm => ?_⟩
    rw [Array.getElem_setIfInBounds]
    split
    · exact ⟨x, rfl⟩
    · exact hx m (by simpa using hm)
  · exact ⟨k, cs, e, hb, hk.far (p := ⟨g, i, none⟩) hkg _, hs, hx⟩
theorem LLB.rw_ {w : World} {b n : Nat} {vs : List Value} {ls : List (List Int)} (h : LLB w b vs ls) (hl : ∀ l ∈ ls, l.length = n) : RW w b n vs := fun j v hv => by
  have hj : j < ls.length := by rw [← h.len]; exact (List.getElem?_eq_some_iff.1 hv).1
  obtain ⟨g, e, hg, hb⟩ := h.el j v _ hv (List.getElem?_eq_getElem hj)
  have hn := hl _ (List.getElem_mem hj)
  rw [hn] at e
  exact ⟨g, _, e, hb, hg, by rw [rowI_size, hn], fun i hi => ⟨ls[j][i]'(by rw [rowI_size] at hi; exact hi), by simp [rowI]⟩⟩
theorem KP.llb {w W : World} {p b : Nat} {F : Nat → Prop} {ls ws : List Int} {ns : List (Int × Int × Int)} {work : Int} (h : KP w p F ls ws ns work) {vs : List Value} {xs : List (List Int)} (hl : LLB w b vs xs) (hW : w.grownBy W (some p)) : LLB W b vs xs := ⟨hl.len, fun j v l hv hx => by
  obtain ⟨g, e, hg, hb⟩ := hl.el j v l hv hx
  exact ⟨g, e, h.bk hg (by decide) hW, hb⟩⟩
theorem newsD_self (ds : List (List Int × List Int × List (Int × Int × Int))) : newsD ds ds = [] := by
  unfold newsD
  rw [List.filter_eq_nil_iff]
  intro d hd
  have : d.2 ∈ ds.map fun e => e.2 := List.mem_map.2 ⟨d, hd, rfl⟩
  simp [this]
theorem incD_le2 {ws ws' : List Int} {ns ns' : List (Int × Int × Int)} (hv : validE ws' ns' = 0) : 0 ≤ incD (newsD (partsD ws ns) (partsD ws' ns')) ∧ incD (newsD (partsD ws ns) (partsD ws' ns')) ≤ 16777216 := by
  have h1 := incD_bd (l := newsD (partsD ws ns) (partsD ws' ns')) (fun d hd => by
    obtain ⟨j, hj, rfl⟩ := List.getElem_of_mem (List.mem_filter.1 hd).1
    exact (partsD_ib hv (List.getElem?_eq_getElem hj)).2.2.2.2)
  have h2 := newsD_len (partsD ws ns) (partsD ws' ns')
  have h3 : (partsD ws' ns').length ≤ 4096 := by
    rw [partsD, partsO, List.length_map]
    have := rts_len (comp ns' ws'.length) ws'.length
    have := (validE_good hv).1
    omega
  omega
theorem lists_lens2 {ws : List Int} {ns : List (Int × Int × Int)} {ls : List Int} : ∀ l ∈ lists ws ns ls, l.length = ws.length := fun l hl => by
  obtain ⟨s, hs, rfl⟩ := List.getElem_of_mem hl
  rw [lists_len] at hs
  have h := lists_at (ws := ws) (ns := ns) (ls := ls) hs
  rw [List.getElem?_eq_getElem (by rw [lists_len]; exact hs)] at h
  rw [Option.some.inj h, ix_len, (ofAt_cn ws ns ls s).2]
end Go.Proofs.Ytmdgdphhedgojaa

namespace Go.Proofs.Ytmdgdphhedgojaa
open Go.RowKit Go.Maps

theorem idx_at' {l : List Int} {r : Nat} {x : Int} (h : l[r]? = some x) (hf : ∀ i, i < r → l[i]? ≠ some x) : l.idxOf x = r := by
  obtain ⟨hr, e⟩ := List.getElem?_eq_some_iff.1 h
  subst e
  exact idxOf_first hr (Nat.le_refl _) rfl (fun i hi he => hf i hi (by rw [List.getElem?_eq_getElem (by omega), he]))
/-- The index of a number, or -1. -/
def idxZ (l : List Int) (x : Int) : Int := if x ∈ l then (l.idxOf x : Int) else -1
set_option maxHeartbeats 1000000 in
theorem refIndex_any (A : Option Addr) (c : Nat) (l : List Int) (x : Int) (w : World) (hA : SI w A l) (hl : l.length ≤ 1099511627776) :
    Calls Try.prog 41 #[.slice A l.length c, .int .i64 x] w fun e w' => e = .returned (.int .i64 (idxZ l x)) ∧ Qt w w' := by
  go_enter Try.func41, Try.ntmps41
  go_wp2
  go_loopw [5] (fun i wr => ∃ k : Nat, k ≤ l.length ∧ i = .int .i64 k ∧ Hid (x ∉ l.take k) ∧ Qt w wr) (fun i _ => l.length - (intOf i).toNat)
  case atStart => exact ⟨0, by omega, rfl, Lib.hid (by simp), Qt.refl _⟩
  case round =>
    obtain ⟨k, hk, rfl, hno, hq⟩ := hrel
    by_cases hlt : k < l.length
    · obtain ⟨b, o, y, rfl, hc, hy⟩ := (hA.qt hq).get hlt
      have Hq := Lib.hid hq
      have k0 : (0 : Int) ≤ (k : Int) := by omega
      have htk := Lib.hid (take_snoc' hy.out)
      clear hq
      by_cases hxy : y = x
      · have hb : (y == x) = true := by simp [hxy]
        have hix : Hid (idxZ l x = (k : Int)) := by
          show _ = _
          have hmem : x ∈ l := hxy ▸ List.mem_of_getElem? hy.out
          rw [idxZ, if_pos hmem, idx_at' (hxy ▸ hy.out) (fun i hi he => hno.out (List.mem_of_getElem? (by rw [List.getElem?_take_of_lt hi]; exact he)))]
        clear hxy
        go_wp2
        go_ret
        exact ⟨ret_int hix.out.symm, Hq.out⟩
      · have hb : (y == x) = false := by simpa using hxy
        have Hxy := Lib.hid hxy
        clear hxy
        go_wp2
        go_roundw
        case rel => exact ⟨k + 1, by omega, by go_num, Lib.hid (by rw [htk.out]; simp; exact ⟨hno.out, fun e => Hxy.out e.symm⟩), Hq.out⟩
        case measure => simp [intOf]; omega
    · obtain rfl : k = l.length := by omega
      have hix : Hid (idxZ l x = -1) := by
        show _ = _
        have := hno.out
        rw [List.take_length] at this
        rw [idxZ, if_neg this]
      have Hq := Lib.hid hq
      clear hq
      go_wp2
      go_ret
      exact ⟨ret_int hix.out.symm, Hq.out⟩

/-- The faces of a part, as numbers. -/
def flI (p : Nat → Bool) (n : Nat) : List Int := (fcs p n).map fun f : Nat => (f : Int)
theorem flI_len (p : Nat → Bool) (n : Nat) : (flI p n).length ≤ n := by rw [flI, List.length_map]; exact fcs_le p n
theorem idxZ_fl {p : Nat → Bool} {n f : Nat} (hf : f < n) : idxZ (flI p n) (f : Int) = if p f = true then ((loc p f : Nat) : Int) - 1 else -1 := by
  by_cases hp : p f = true
  · rw [if_pos hp]
    obtain ⟨h1, h2⟩ := fl_of hf hp
    have hx : (flI p n)[loc p f - 1]? = some (f : Int) := by
      have h3 : (flI p n)[loc p f - 1]? = some ((flI p n)[loc p f - 1]'h1) := List.getElem?_eq_getElem h1
      have h4 : (flI p n).getD (loc p f - 1) 0 = (f : Int) := h2
      rw [List.getD, h3] at h4
      rw [h3]
      exact congrArg some h4
    rw [idxZ, if_pos (List.mem_of_getElem? hx), idx_at' hx (fun i hi he => ?_)]
    · unfold loc; omega
    · have hil : i < (flI p n).length := Nat.lt_trans hi h1
      obtain ⟨g, hg, hpg, e1, e2⟩ := fl_at (p := p) (n := n) hil
      have e3 : (flI p n).getD i 0 = (f : Int) := by simp [List.getD, he]
      have e4 : (flI p n).getD i 0 = (g : Int) := e1
      obtain rfl : g = f := by omega
      omega
  · rw [if_neg hp, idxZ, if_neg (fun hm => ?_)]
    obtain ⟨g, hg, e⟩ := List.mem_map.1 hm
    unfold fcs at hg
    obtain rfl : g = f := by omega
    exact hp (List.mem_filter.1 hg).2

/-- What the region of the weights reads. -/
def S5 (o g : Nat) (v u : Value) (bC oC bA oA : Nat) (x y : Int) (W : World) : Prop := W.cell? ⟨o, 0, none⟩ = some v ∧ W.cell? ⟨g, 0, none⟩ = some u ∧ W.cell? ⟨bC, oC, none⟩ = some (.int .i64 x) ∧ W.cell? ⟨bA, oA, none⟩ = some (.int .i64 y)
/-- What the region of the borders reads. -/
def S12 (o g : Nat) (v u : Value) (b1 o1 : Nat) (z : Int) (W : World) : Prop := W.cell? ⟨o, 1, none⟩ = some v ∧ W.cell? ⟨g, 1, none⟩ = some u ∧ W.cell? ⟨b1, o1, none⟩ = some (.int .i64 z)
set_option linter.unusedSimpArgs false in
set_option maxHeartbeats 4000000 in
set_option maxRecDepth 100000 in
theorem refInput_any (A B C : Option Addr) (a b c : Nat) (ws : List Int) (ns : List (Int × Int × Int)) (p : Nat → Bool) (w : World) (hA : SI w A ws) (hB : ST w B ns) (hC : SI w C (flI p ws.length)) (hS : Shut p ws.length ns) (hl : ws.length ≤ 4096) (hl2 : ns.length ≤ 16384) :
    Calls Try.prog 21 #[.agg #[.slice A ws.length a, .slice B ns.length b], .slice C (flI p ws.length).length c] w fun e w' => ∃ A1 a1 B1 b1, e = .returned (.agg #[.slice A1 (inW ws p ws.length).length a1, .slice B1 (inN ns p).length b1]) ∧
      w'.ownsRow w.heap.size 3 1 (.slice A1 (inW ws p ws.length).length a1) (inW ws p ws.length).length ((inW ws p ws.length).map (Value.int .i64)) ∧ w'.ownsRow w.heap.size 52 3 (.slice B1 (inN ns p).length b1) (inN ns p).length (triC (inN ns p)) ∧ Below w.heap.size w w' := by
  have hfl := flI_len p ws.length
  obtain ⟨Fl, hFl⟩ : ∃ Fl, Hid (flI p ws.length = Fl) := ⟨_, Lib.hid rfl⟩
  rw [hFl.out] at hC hfl ⊢
  obtain ⟨S, hSz⟩ : ∃ S, w.heap.size = S := ⟨_, rfl⟩
  have HA := Lib.hid (fun (W : World) (hW : Below S w W) => (hA.below (hSz.symm ▸ hW) : SI W A ws))
  have HB := Lib.hid (fun (W : World) (hW : Below S w W) => (hB.below (hSz.symm ▸ hW) : ST W B ns))
  have HC := Lib.hid (fun (W : World) (hW : Below S w W) => (hC.below (hSz.symm ▸ hW) : SI W C Fl))
  have Hbz := Lib.hid (fun (W : World) (hW : Below S w W) => (show S ≤ W.heap.size by have := hW.size; omega))
  have HS := Lib.hid hS
  clear hA hB hC hS
  go_enter Try.func21, Try.ntmps21
  go_wp2_with fail
  have hb0 : Below S w ((((w.alloc (.cells #[.slice A ws.length a, .slice B ns.length b] 30)).alloc (.cells #[.slice none 0 0, .slice none 0 0] 30)).alloc (.cells #[.int .i64 0] 3)).alloc (.cells #[.slice (some ⟨S + 1 + 1, 0, none⟩) 1 1, .slice none 0 0] 30)) := hSz ▸ ((((Below.refl _ _).alloc (Nat.le_refl _) _).alloc (by simp) _).alloc (by simp; omega) _).alloc (by simp; omega) _
  have hbG : Bk ((((w.alloc (.cells #[.slice A ws.length a, .slice B ns.length b] 30)).alloc (.cells #[.slice none 0 0, .slice none 0 0] 30)).alloc (.cells #[.int .i64 0] 3)).alloc (.cells #[.slice (some ⟨S + 1 + 1, 0, none⟩) 1 1, .slice none 0 0] 30)) S 30 #[.slice A ws.length a, .slice B ns.length b] := (((Bk.new' _ _ _ hSz).alloc _).alloc _).alloc _
  have hbR : Bk ((((w.alloc (.cells #[.slice A ws.length a, .slice B ns.length b] 30)).alloc (.cells #[.slice none 0 0, .slice none 0 0] 30)).alloc (.cells #[.int .i64 0] 3)).alloc (.cells #[.slice (some ⟨S + 1 + 1, 0, none⟩) 1 1, .slice none 0 0] 30)) (S + 1) 30 #[.slice none 0 0, .slice none 0 0] := ((Bk.new' _ _ _ (by simp [hSz])).alloc _).alloc _
  have hbI : Bk ((((w.alloc (.cells #[.slice A ws.length a, .slice B ns.length b] 30)).alloc (.cells #[.slice none 0 0, .slice none 0 0] 30)).alloc (.cells #[.int .i64 0] 3)).alloc (.cells #[.slice (some ⟨S + 1 + 1, 0, none⟩) 1 1, .slice none 0 0] 30)) (S + 1 + 1) 3 (rowI [0]) := (Bk.new' _ _ _ (by simp [hSz])).alloc _
  have hbO : Bk ((((w.alloc (.cells #[.slice A ws.length a, .slice B ns.length b] 30)).alloc (.cells #[.slice none 0 0, .slice none 0 0] 30)).alloc (.cells #[.int .i64 0] 3)).alloc (.cells #[.slice (some ⟨S + 1 + 1, 0, none⟩) 1 1, .slice none 0 0] 30)) (S + 1 + 1 + 1) 30 #[.slice (some ⟨S + 1 + 1, 0, none⟩) 1 1, .slice none 0 0] := Bk.new' _ _ _ (by simp [hSz])
  generalize (((w.alloc (.cells #[.slice A ws.length a, .slice B ns.length b] 30)).alloc (.cells #[.slice none 0 0, .slice none 0 0] 30)).alloc (.cells #[.int .i64 0] 3)).alloc (.cells #[.slice (some ⟨S + 1 + 1, 0, none⟩) 1 1, .slice none 0 0] 30) = W0 at *
  have ho0 : W0.ownsRow S 3 1 (.slice (some ⟨S + 1 + 1, 0, none⟩) 1 1) 1 ([0].map (Value.int .i64)) := own_row hbI (by omega) (by simp)
  have Hb0 := Lib.hid hb0
  have HG0 := Lib.hid hbG
  have HR0 := Lib.hid hbR
  have HO0 := Lib.hid hbO
  have Ho0 := Lib.hid ho0
  have HSz := Lib.hid hSz
  clear hb0 hbG hbR hbI hbO ho0 hSz
  go_loopw [6] (fun i wr => ∃ (k : Nat) (v : Value), k ≤ Fl.length ∧ i = .int .i64 k ∧ Bk wr (S + 1 + 1 + 1) 30 #[v, .slice none 0 0] ∧ wr.ownsRow S 3 1 v (k + 1) ((0 :: (Fl.take k).map fun x => ws.getD x.toNat 0).map (Value.int .i64)) ∧ Bk wr S 30 #[.slice A ws.length a, .slice B ns.length b] ∧ Bk wr (S + 1) 30 #[.slice none 0 0, .slice none 0 0] ∧ Below S w wr) (fun i _ => Fl.length - (intOf i).toNat)
  case atStart => exact ⟨0, _, by omega, rfl, HO0.out, Ho0.out, HG0.out, HR0.out, Hb0.out⟩
  case round =>
    clear HO0 Ho0 HG0 HR0 Hb0
    obtain ⟨k, v, hk, rfl, hO, ho, hG, hR, hb⟩ := hrel
    have HO := Lib.hid hO
    have Ho := Lib.hid ho
    have HG := Lib.hid hG
    have HR := Lib.hid hR
    have Hb := Lib.hid hb
    clear hO ho hG hR hb
    by_cases hlt : k < Fl.length
    · obtain ⟨bC, oC, x, rfl, hcx, hx⟩ := (HC.out _ Hb.out).get hlt
      obtain ⟨f, hf, hpf, hfe⟩ : ∃ f : Nat, f < ws.length ∧ p f = true ∧ x = (f : Int) := by
        have hm : x ∈ flI p ws.length := by rw [hFl.out]; exact List.mem_of_getElem? hx.out
        obtain ⟨g, hg, e⟩ := List.mem_map.1 hm
        unfold fcs at hg
        have := List.mem_filter.1 hg
        exact ⟨g, by simpa using this.1, this.2, e.symm⟩
      subst hfe
      obtain ⟨bA, oA, y, rfl, hcy, hy⟩ := (HA.out _ Hb.out).get hf
      have hyd : Hid (ws.getD f 0 = y) := by show _ = _; simp [List.getD, hy.out]
      have htk := Lib.hid (take_snoc' hx.out)
      obtain ⟨AV, cV, hvV⟩ := own_slice Ho.out
      subst hvV
      have hz := Hbz.out _ Hb.out
      have hbW : S ≤ (wr.drew.alloc (.cells #[.int .i64 y] 3)).heap.size := by simp; exact Nat.le_trans hz (Nat.le_succ _)
      have Hwn := Lib.hid (fun (W : World) (hW : Below S w W) => show W.cell? ⟨bC, oC + k, none⟩ = some (.int .i64 f) ∧ W.cell? ⟨bA, oA + f, none⟩ = some (.int .i64 y) from by
        obtain ⟨b1, o1, x1, e1, h1, h2⟩ := (HC.out W hW).get hlt
        obtain ⟨b3, o3, x3, e3, h3, h4⟩ := (HA.out W hW).get hf
        injection e1 with e1
        injection e1 with e11 e12
        injection e3 with e3
        injection e3 with e31 e32
        subst e11 e12 e31 e32
        have := h2.out.symm.trans hx.out
        have e5 := Option.some.inj this
        have := h4.out.symm.trans hy.out
        have e6 := Option.some.inj this
        rw [e5] at h1
        rw [e6] at h3
        exact ⟨h1, h3⟩)
      have HS0 := Lib.hid (show S5 (S + 1 + 1 + 1) S (.slice AV (k + 1) cV) (.slice (some ⟨bA, oA, none⟩) ws.length a) bC (oC + k) bA (oA + f) f y wr.drew from ⟨HO.out.cell 0, HG.out.cell 0, hcx, hcy⟩)
      have HOa := Lib.hid (show Bk (wr.drew.alloc (.cells #[.int .i64 y] 3)) (S + 1 + 1 + 1) _ _ from (show Bk wr.drew _ _ _ from HO.out).alloc _)
      have HGa := Lib.hid (show Bk (wr.drew.alloc (.cells #[.int .i64 y] 3)) S _ _ from (show Bk wr.drew _ _ _ from HG.out).alloc _)
      have Hba := Lib.hid (show Below S w (wr.drew.alloc (.cells #[.int .i64 y] 3)) from (Hb.out.drew).alloc hz _)
      have Hoa := Lib.hid (show (wr.drew.alloc (.cells #[.int .i64 y] 3)).ownsRow _ _ _ _ _ _ from (show wr.drew.ownsRow _ _ _ _ _ _ from Ho.out).alloc _)
      have Hnew := Lib.hid (Bk.new wr.drew 3 #[.int .i64 y])
      have HS1 := Lib.hid (show S5 (S + 1 + 1 + 1) S (.slice AV (k + 1) cV) (.slice (some ⟨bA, oA, none⟩) ws.length a) bC (oC + k) bA (oA + f) f y (wr.drew.alloc (.cells #[.int .i64 y] 3)) from ⟨HOa.out.cell 0, HGa.out.cell 0, (Hwn.out _ Hba.out).1, (Hwn.out _ Hba.out).2⟩)
      have f0 : (0 : Int) ≤ (f : Int) := by omega
      have f1 : (f : Int) < ws.length := by omega
      have k0 : (0 : Int) ≤ (k : Int) := by omega
      clear hcx hcy
      go_wp2_with fail
      refine wp_region_noPanic ?_
      refine region_T (s := 13) (S := S5 (S + 1 + 1 + 1) S (.slice AV (k + 1) cV) (.slice (some ⟨bA, oA, none⟩) ws.length a) bC (oC + k) bA (oA + f) f y) (by kernel_rfl) ?_
      change wpT _ _ _ _ _ 14 _ _ wr.drew
      refine T_take (k := 0) (v := .pointer (some ⟨S + 1 + 1 + 1, 0, none⟩)) rfl (by decide +kernel) (fun _ _ _ h => h) (Or.inl ⟨by rfl, fun W hW => by obtain ⟨s0, s1, s2, s3⟩ := hW; go_simp⟩) HS0.out ?_
      try simp only [Act.put, List.setIfInBounds_toArray, List.set_cons_zero, List.set_cons_succ]
      refine T_take (k := 1) (v := .slice AV (k + 1) cV) rfl (by decide +kernel) (fun _ _ _ h => h) (Or.inl ⟨by rfl, fun W hW => by obtain ⟨s0, s1, s2, s3⟩ := hW; go_simp⟩) HS0.out ?_
      try simp only [Act.put, List.setIfInBounds_toArray, List.set_cons_zero, List.set_cons_succ]
      refine T_take (k := 2) (v := .pointer (some ⟨S, 0, none⟩)) rfl (by decide +kernel) (fun _ _ _ h => h) (Or.inl ⟨by rfl, fun W hW => by obtain ⟨s0, s1, s2, s3⟩ := hW; go_simp⟩) HS0.out ?_
      try simp only [Act.put, List.setIfInBounds_toArray, List.set_cons_zero, List.set_cons_succ]
      refine T_take (k := 3) (v := .slice (some ⟨bA, oA, none⟩) ws.length a) rfl (by decide +kernel) (fun _ _ _ h => h) (Or.inl ⟨by rfl, fun W hW => by obtain ⟨s0, s1, s2, s3⟩ := hW; go_simp⟩) HS0.out ?_
      try simp only [Act.put, List.setIfInBounds_toArray, List.set_cons_zero, List.set_cons_succ]
      refine T_take (k := 4) (v := .slice (some ⟨bC, oC, none⟩) Fl.length c) rfl (by decide +kernel) (fun _ _ _ h => h) (Or.inl ⟨by rfl, fun W hW => by obtain ⟨s0, s1, s2, s3⟩ := hW; go_simp⟩) HS0.out ?_
      try simp only [Act.put, List.setIfInBounds_toArray, List.set_cons_zero, List.set_cons_succ]
      refine T_take (k := 5) (v := .int .i64 k) rfl (by decide +kernel) (fun _ _ _ h => h) (Or.inl ⟨by rfl, fun W hW => by obtain ⟨s0, s1, s2, s3⟩ := hW; go_simp⟩) HS0.out ?_
      try simp only [Act.put, List.setIfInBounds_toArray, List.set_cons_zero, List.set_cons_succ]
      refine T_take (k := 6) (v := .pointer (some ⟨bC, oC + k, none⟩)) rfl (by decide +kernel) (fun _ _ _ h => h) (Or.inl ⟨by rfl, fun W hW => by obtain ⟨s0, s1, s2, s3⟩ := hW; go_simp⟩) HS0.out ?_
      try simp only [Act.put, List.setIfInBounds_toArray, List.set_cons_zero, List.set_cons_succ]
      refine T_take (k := 7) (v := .int .i64 f) rfl (by decide +kernel) (fun _ _ _ h => h) (Or.inl ⟨by rfl, fun W hW => by obtain ⟨s0, s1, s2, s3⟩ := hW; go_simp⟩) HS0.out ?_
      try simp only [Act.put, List.setIfInBounds_toArray, List.set_cons_zero, List.set_cons_succ]
      refine T_take (k := 8) (v := .pointer (some ⟨bA, oA + f, none⟩)) rfl (by decide +kernel) (fun _ _ _ h => h) (Or.inl ⟨by rfl, fun W hW => by obtain ⟨s0, s1, s2, s3⟩ := hW; go_simp⟩) HS0.out ?_
      try simp only [Act.put, List.setIfInBounds_toArray, List.set_cons_zero, List.set_cons_succ]
      refine T_take (k := 9) (v := .int .i64 y) rfl (by decide +kernel) (fun _ _ _ h => h) (Or.inl ⟨by rfl, fun W hW => by obtain ⟨s0, s1, s2, s3⟩ := hW; go_simp⟩) HS0.out ?_
      try simp only [Act.put, List.setIfInBounds_toArray, List.set_cons_zero, List.set_cons_succ]
      refine T_one (i := 10) (by decide +kernel) rfl rfl (fun K hK10 => ?_)
      have hK10 := Lib.hid hK10
      go_simp
      refine hK10.out _ _ HS1.out ?_
      try simp only [Act.put, List.setIfInBounds_toArray, List.set_cons_zero, List.set_cons_succ]
      refine T_one (i := 11) (by decide +kernel) rfl rfl (fun K hK11 => ?_)
      have hK11 := Lib.hid hK11
      refine app_wp3 (us := [.int .i64 y]) (c := 1) (H := wr.heap.size) (v := .slice AV (k + 1) cV) (.tmp 19) (.tmp 28) rfl elt_int.big (by simp [Act.eval]) (by simp [Act.eval]) Hoa.out Hnew.out rfl rfl (by omega) hbW ?_
      intro v8 w8 hown8 hg8 hv8
      obtain ⟨A8, c8, rfl⟩ := own_slice hown8
      have HO8 := Lib.hid (HOa.out.grown hg8 (HOa.out.ne_own Hoa.out (by decide)))
      have HG8 := Lib.hid (HGa.out.grown hg8 (HGa.out.ne_own Hoa.out (by decide)))
      have Hb8 := Lib.hid (Hba.out.grown hg8 hbW (fun q hq => (Hoa.out.lt q hq).1))
      have d4 := HO8.out.frozen 0
      have d3 : w8.cell? ⟨S + 1 + 1 + 1, 0, none⟩ = some (.slice AV (k + 1) cV) := HO8.out.cell 0
      have HS2 := Lib.hid (show S5 (S + 1 + 1 + 1) S (.slice AV (k + 1) cV) (.slice (some ⟨bA, oA, none⟩) ws.length a) bC (oC + k) bA (oA + f) f y w8 from ⟨HO8.out.cell 0, HG8.out.cell 0, (Hwn.out _ Hb8.out).1, (Hwn.out _ Hb8.out).2⟩)
      refine hK11.out _ _ HS2.out ?_
      try simp only [Act.put, List.setIfInBounds_toArray, List.set_cons_zero, List.set_cons_succ]
      refine T_take (k := 12) (v := .pointer (some ⟨S + 1 + 1 + 1, 0, none⟩)) rfl (by decide +kernel) (fun _ _ _ h => h) (Or.inl ⟨by rfl, fun W hW => by obtain ⟨s0, s1, s2, s3⟩ := hW; go_simp⟩) HS2.out ?_
      try simp only [Act.put, List.setIfInBounds_toArray, List.set_cons_zero, List.set_cons_succ]
      refine T_last (by decide +kernel) (by decide +kernel) (by decide +kernel) rfl rfl (fun K hKl => ?_)
      have hKl := Lib.hid hKl
      go_simp
      refine hKl.out _ _ (NoPanic.normal ?_)
      try simp only [Act.put, List.setIfInBounds_toArray, List.set_cons_zero, List.set_cons_succ]
      clear hK10 hK11 hKl HS0 HS1 HS2
      have HO9 := Lib.hid (HO8.out.set_ 0 (.slice A8 (k + 1 + 1) c8))
      have HG9 := Lib.hid (HG8.out.far (p := ⟨S + 1 + 1 + 1, 0, none⟩) (by show S ≠ S + 1 + 1 + 1; omega) (.slice A8 (k + 1 + 1) c8))
      have HR9 := Lib.hid ((((show Bk (wr.drew.alloc (.cells #[.int .i64 y] 3)) _ _ _ from (show Bk wr.drew _ _ _ from HR.out).alloc _).grown hg8 (HR.out.ne_own Ho.out (by decide)))).far (p := ⟨S + 1 + 1 + 1, 0, none⟩) (by show S + 1 ≠ S + 1 + 1 + 1; omega) (.slice A8 (k + 1 + 1) c8))
      have Ho9 := Lib.hid (own_set (i := 0) hown8 (HO8.out.ne_own hown8 (by decide)) (.slice A8 (k + 1 + 1) c8))
      have Hb9 := Lib.hid (Hb8.out.setCell (p := ⟨S + 1 + 1 + 1, 0, none⟩) (by show S ≤ S + 1 + 1 + 1; omega) (.slice A8 (k + 1 + 1) c8))
      go_wp2_with fail
      go_roundw
      case rel => exact ⟨k + 1, _, by omega, by go_num, HO9.out, by
          rw [htk.out, List.map_append, ← List.cons_append, List.map_append]
          show World.ownsRow _ _ _ _ _ _ (_ ++ [Value.int .i64 (ws.getD ((f : Int)).toNat 0)])
          rw [Int.toNat_natCast, hyd.out]
          exact Ho9.out, HG9.out, HR9.out, Hb9.out⟩
      case measure => simp [intOf]; omega
    · obtain rfl : k = Fl.length := by omega
      rw [List.take_length] at Ho
      have hwe : (0 :: Fl.map fun x => ws.getD x.toNat 0) = inW ws p ws.length := by
        rw [← hFl.out, flI, List.map_map]
        rfl
      have hwl : Fl.length + 1 = (inW ws p ws.length).length := by rw [inW_len, ← hFl.out, flI, List.length_map]
      rw [hwe, hwl] at Ho
      obtain ⟨A1, a1, hvA⟩ := own_slice Ho.out
      subst hvA
      obtain ⟨IW, hIW⟩ : ∃ IW, Hid (inW ws p ws.length = IW) := ⟨_, Lib.hid rfl⟩
      rw [hIW.out] at Ho HO
      clear hwe hwl
      go_wp2_with fail
      go_loopw [7] (fun i wr => ∃ (k : Nat) (v : Value), k ≤ ns.length ∧ i = .int .i64 k ∧ Bk wr (S + 1 + 1 + 1) 30 #[.slice A1 IW.length a1, v] ∧ wr.ownsRow S 3 1 (.slice A1 IW.length a1) IW.length (IW.map (Value.int .i64)) ∧ wr.ownsRow S 52 3 v (inN (ns.take k) p).length (triC (inN (ns.take k) p)) ∧
         Bk wr S 30 #[.slice A ws.length a, .slice B ns.length b] ∧ Bk wr (S + 1) 30 #[.slice none 0 0, .slice none 0 0] ∧ Below S w wr) (fun i _ => ns.length - (intOf i).toNat)
      case atStart => exact ⟨0, _, by omega, rfl, HO.out, Ho.out, World.ownsRow_nil _ _ _ _, HG.out, HR.out, Hb.out⟩
      case round =>
        clear HO Ho HG HR Hb
        obtain ⟨k, v, hk, rfl, hO, ho, hn, hG, hR, hb⟩ := hrel
        have HO := Lib.hid hO
        have Ho := Lib.hid ho
        have Hn := Lib.hid hn
        have HG := Lib.hid hG
        have HR := Lib.hid hR
        have Hb := Lib.hid hb
        clear hO ho hn hG hR hb
        by_cases hlt : k < ns.length
        · obtain ⟨b1, o1, x, y, z, rfl, k0, k1, k2, ht⟩ := (HB.out _ Hb.out).get hlt
          have he := HS.out.e _ (List.mem_of_getElem? ht.out)
          have hcl := HS.out.c _ (List.mem_of_getElem? ht.out)
          dsimp only at he hcl
          obtain ⟨xn, rfl⟩ : ∃ xn : Nat, x = (xn : Int) := ⟨x.toNat, by omega⟩
          obtain ⟨yn, rfl⟩ : ∃ yn : Nat, y = (yn : Int) := ⟨y.toNat, by omega⟩
          rw [Int.toNat_natCast, Int.toNat_natCast] at hcl
          have hix := idxZ_fl (p := p) (n := ws.length) (f := xn) (by omega)
          have hiy := idxZ_fl (p := p) (n := ws.length) (f := yn) (by omega)
          rw [hFl.out] at hix hiy
          have hg1 : wr.cell? ⟨S, 1, none⟩ = some (.slice (some ⟨b1, o1, none⟩) ns.length b) := HG.out.cell 1
          have hk0 : (0 : Int) ≤ (k : Int) := by omega
          have Hix := Lib.hid (And.intro hix (And.intro hiy hcl))
          clear hix hiy hcl
          go_wp2_with fail
          refine (refIndex_any C c Fl xn wr (HC.out _ Hb.out) (by omega)).mono ?_
          rintro e w1 ⟨rfl, hq⟩
          obtain ⟨m1, rfl⟩ := hq
          have hg1' : (wr.drewN m1).cell? ⟨S, 1, none⟩ = some (.slice (some ⟨b1, o1, none⟩) ns.length b) := hg1
          have k1' : (wr.drewN m1).cell? ⟨b1, o1 + k * 3 + 1, none⟩ = some (.int .i64 yn) := k1
          obtain ⟨ia, hia⟩ : ∃ ia, Hid (idxZ Fl (xn : Int) = ia) := ⟨_, Lib.hid rfl⟩
          rw [hia.out]
          go_wp2_with fail
          refine (refIndex_any C c Fl yn (wr.drewN m1) ((HC.out _ Hb.out).drewN m1) (by omega)).mono ?_
          rintro e w1 ⟨rfl, hq⟩
          obtain ⟨m2, rfl⟩ := hq
          obtain ⟨ib, hib⟩ : ∃ ib, Hid (idxZ Fl (yn : Int) = ib) := ⟨_, Lib.hid rfl⟩
          rw [hib.out]
          have k2' : ((wr.drewN m1).drewN m2).cell? ⟨b1, o1 + k * 3 + 2, none⟩ = some (.int .i64 z) := k2
          have hg2 : ((wr.drewN m1).drewN m2).cell? ⟨S, 1, none⟩ = some (.slice (some ⟨b1, o1, none⟩) ns.length b) := hg1
          have HO1 := Lib.hid (show Bk ((wr.drewN m1).drewN m2) _ _ _ from HO.out)
          have Ho1 := Lib.hid (show ((wr.drewN m1).drewN m2).ownsRow _ _ _ _ _ _ from Ho.out)
          have Hn1 := Lib.hid (show ((wr.drewN m1).drewN m2).ownsRow _ _ _ _ _ _ from Hn.out)
          have HG1 := Lib.hid (show Bk ((wr.drewN m1).drewN m2) S _ _ from HG.out)
          have HR1 := Lib.hid (show Bk ((wr.drewN m1).drewN m2) (S + 1) _ _ from HR.out)
          have Hb1 := Lib.hid (below_drewN (below_drewN Hb.out m1) m2)
          clear hg1 hg1' k0 k1 k1' k2 HO Ho Hn HG HR Hb
          generalize (wr.drewN m1).drewN m2 = W1 at *
          cases hp : p xn
          · have hneg : ia < 0 := by
              rw [← hia.out, Hix.out.1, if_neg (by rw [hp]; simp)]
              omega
            have hna : (0 ≤ ia) = False := by simp; omega
            have hst : Hid (inN (ns.take (k + 1)) p = inN (ns.take k) p) := by
              show _ = _
              rw [take_snoc' ht.out, inN, List.filter_append, List.filter_cons]
              simp only [Int.toNat_natCast, hp]
              simp [inN]
            clear k2' hg2
            go_wp2_with fail
            go_roundw
            case rel => exact ⟨k + 1, v, by omega, by go_num, HO1.out, Ho1.out, by rw [hst.out]; exact Hn1.out, HG1.out, HR1.out, Hb1.out⟩
            case measure => simp [intOf]; omega
          · have hx0 : (xn : Int) ≠ 0 := fun e => by
              obtain rfl : xn = 0 := by omega
              have := HS.out.z
              rw [this] at hp
              cases hp
            have hpy : p yn = true := by rw [← Hix.out.2.2 hx0]; exact hp
            obtain ⟨la, hla⟩ : ∃ la, Hid (((loc p xn : Nat) : Int) = la) := ⟨_, Lib.hid rfl⟩
            obtain ⟨lb, hlb⟩ : ∃ lb, Hid (((loc p yn : Nat) : Int) = lb) := ⟨_, Lib.hid rfl⟩
            have hea : ia = la - 1 := by rw [← hia.out, Hix.out.1, if_pos hp, hla.out]
            have heb : ib = lb - 1 := by rw [← hib.out, Hix.out.2.1, if_pos hpy, hlb.out]
            have hla1 : 1 ≤ la ∧ la ≤ 5000 := by rw [← hla.out]; have := fcs_le p xn; unfold loc; omega
            have hlb1 : 1 ≤ lb ∧ lb ≤ 5000 := by rw [← hlb.out]; have := fcs_le p yn; unfold loc; omega
            have hwa : IntKind.i64.wrap (ia + 1) = la := by rw [IntWalk.i64_in _ (by omega)]; omega
            have hwb : IntKind.i64.wrap (ib + 1) = lb := by rw [IntWalk.i64_in _ (by omega)]; omega
            have ia0 : 0 ≤ ia := by omega
            have ib0 : 0 ≤ ib := by omega
            have hst : Hid (inN (ns.take (k + 1)) p = inN (ns.take k) p ++ [(la, lb, z)]) := by
              show _ = _
              rw [take_snoc' ht.out, inN, List.filter_append, List.filter_cons]
              simp only [Int.toNat_natCast, hp, if_true, List.filter_nil, List.map_append]
              rw [← hla.out, ← hlb.out]
              rfl
            have hnl : (inN (ns.take k) p).length ≤ 20000 := by
              rw [inN, List.length_map]
              have := List.length_filter_le (fun t => p t.1.toNat) (ns.take k)
              simp only [List.length_take] at this
              omega
            obtain ⟨IN, hIN⟩ : ∃ IN, Hid (inN (ns.take k) p = IN) := ⟨_, Lib.hid rfl⟩
            rw [hIN.out] at Hn1 hst hnl
            obtain ⟨AV, cV, hvV⟩ := own_slice Hn1.out
            subst hvV
            clear hea heb hla1 hlb1
            have hz := Hbz.out _ Hb1.out
            have hbW : S ≤ (W1.drew.alloc (.cells #[.int .i64 la, .int .i64 lb, .int .i64 z] 52)).heap.size := by simp; exact Nat.le_trans hz (Nat.le_succ _)
            have Hwn := Lib.hid (fun (W : World) (hW : Below S w W) => show W.cell? ⟨b1, o1 + k * 3 + 2, none⟩ = some (.int .i64 z) from by
              obtain ⟨b2, o2, x2, y2, z2, e1, g0, g1, g2, ht2⟩ := (HB.out W hW).get hlt
              injection e1 with e1
              injection e1 with e11 e12
              subst e11 e12
              have := ht2.out.symm.trans ht.out
              have e5 := Option.some.inj this
              injection e5 with e5 e6
              injection e6 with e6 e7
              rw [e7] at g2
              exact g2)
            have HS0 := Lib.hid (show S12 (S + 1 + 1 + 1) S (.slice AV IN.length cV) (.slice (some ⟨b1, o1, none⟩) ns.length b) b1 (o1 + k * 3 + 2) z W1.drew from ⟨HO1.out.cell 1, HG1.out.cell 1, k2'⟩)
            have HOa := Lib.hid (show Bk (W1.drew.alloc (.cells #[.int .i64 la, .int .i64 lb, .int .i64 z] 52)) (S + 1 + 1 + 1) _ _ from (show Bk W1.drew _ _ _ from HO1.out).alloc _)
            have HGa := Lib.hid (show Bk (W1.drew.alloc (.cells #[.int .i64 la, .int .i64 lb, .int .i64 z] 52)) S _ _ from (show Bk W1.drew _ _ _ from HG1.out).alloc _)
            have Hba := Lib.hid (show Below S w (W1.drew.alloc (.cells #[.int .i64 la, .int .i64 lb, .int .i64 z] 52)) from (Hb1.out.drew).alloc hz _)
            have Hna := Lib.hid (show (W1.drew.alloc (.cells #[.int .i64 la, .int .i64 lb, .int .i64 z] 52)).ownsRow _ _ _ _ _ _ from (show W1.drew.ownsRow _ _ _ _ _ _ from Hn1.out).alloc _)
            have Hoa := Lib.hid (show (W1.drew.alloc (.cells #[.int .i64 la, .int .i64 lb, .int .i64 z] 52)).ownsRow _ _ _ _ _ _ from (show W1.drew.ownsRow _ _ _ _ _ _ from Ho1.out).alloc _)
            have HRa := Lib.hid (show Bk (W1.drew.alloc (.cells #[.int .i64 la, .int .i64 lb, .int .i64 z] 52)) (S + 1) _ _ from (show Bk W1.drew _ _ _ from HR1.out).alloc _)
            have Hnew := Lib.hid (Bk.new W1.drew 52 #[.int .i64 la, .int .i64 lb, .int .i64 z])
            have HS1 := Lib.hid (show S12 (S + 1 + 1 + 1) S (.slice AV IN.length cV) (.slice (some ⟨b1, o1, none⟩) ns.length b) b1 (o1 + k * 3 + 2) z (W1.drew.alloc (.cells #[.int .i64 la, .int .i64 lb, .int .i64 z] 52)) from ⟨HOa.out.cell 1, HGa.out.cell 1, Hwn.out _ Hba.out⟩)
            clear k2' hg2 HO1 Ho1 Hn1 HG1 HR1 Hb1
            go_wp2_with fail
            refine wp_region_noPanic ?_
            refine region_T (s := 16) (S := S12 (S + 1 + 1 + 1) S (.slice AV IN.length cV) (.slice (some ⟨b1, o1, none⟩) ns.length b) b1 (o1 + k * 3 + 2) z) (by kernel_rfl) ?_
            change wpT _ _ _ _ _ 17 _ _ W1.drew
            refine T_take (k := 0) (v := .pointer (some ⟨S + 1 + 1 + 1, 1, none⟩)) rfl (by decide +kernel) (fun _ _ _ h => h) (Or.inl ⟨by rfl, fun W hW => by obtain ⟨s0, s1, s2⟩ := hW; go_simp⟩) HS0.out ?_
            try simp only [Act.put, List.setIfInBounds_toArray, List.set_cons_zero, List.set_cons_succ]
            refine T_take (k := 1) (v := .slice AV IN.length cV) rfl (by decide +kernel) (fun _ _ _ h => h) (Or.inl ⟨by rfl, fun W hW => by obtain ⟨s0, s1, s2⟩ := hW; go_simp⟩) HS0.out ?_
            try simp only [Act.put, List.setIfInBounds_toArray, List.set_cons_zero, List.set_cons_succ]
            refine T_take (k := 2) (v := .int .i64 ia) rfl (by decide +kernel) (fun _ _ _ h => h) (Or.inl ⟨by rfl, fun W hW => by obtain ⟨s0, s1, s2⟩ := hW; go_simp⟩) HS0.out ?_
            try simp only [Act.put, List.setIfInBounds_toArray, List.set_cons_zero, List.set_cons_succ]
            refine T_take (k := 3) (v := .int .i64 la) rfl (by decide +kernel) (fun _ _ _ h => h) (Or.inl ⟨by rfl, fun W hW => by obtain ⟨s0, s1, s2⟩ := hW; go_simp⟩) HS0.out ?_
            try simp only [Act.put, List.setIfInBounds_toArray, List.set_cons_zero, List.set_cons_succ]
            refine T_take (k := 4) (v := .int .i64 ib) rfl (by decide +kernel) (fun _ _ _ h => h) (Or.inl ⟨by rfl, fun W hW => by obtain ⟨s0, s1, s2⟩ := hW; go_simp⟩) HS0.out ?_
            try simp only [Act.put, List.setIfInBounds_toArray, List.set_cons_zero, List.set_cons_succ]
            refine T_take (k := 5) (v := .int .i64 lb) rfl (by decide +kernel) (fun _ _ _ h => h) (Or.inl ⟨by rfl, fun W hW => by obtain ⟨s0, s1, s2⟩ := hW; go_simp⟩) HS0.out ?_
            try simp only [Act.put, List.setIfInBounds_toArray, List.set_cons_zero, List.set_cons_succ]
            refine T_take (k := 6) (v := .pointer (some ⟨S, 1, none⟩)) rfl (by decide +kernel) (fun _ _ _ h => h) (Or.inl ⟨by rfl, fun W hW => by obtain ⟨s0, s1, s2⟩ := hW; go_simp⟩) HS0.out ?_
            try simp only [Act.put, List.setIfInBounds_toArray, List.set_cons_zero, List.set_cons_succ]
            refine T_take (k := 7) (v := .slice (some ⟨b1, o1, none⟩) ns.length b) rfl (by decide +kernel) (fun _ _ _ h => h) (Or.inl ⟨by rfl, fun W hW => by obtain ⟨s0, s1, s2⟩ := hW; go_simp⟩) HS0.out ?_
            try simp only [Act.put, List.setIfInBounds_toArray, List.set_cons_zero, List.set_cons_succ]
            refine T_take (k := 8) (v := .int .i64 k) rfl (by decide +kernel) (fun _ _ _ h => h) (Or.inl ⟨by rfl, fun W hW => by obtain ⟨s0, s1, s2⟩ := hW; go_simp⟩) HS0.out ?_
            try simp only [Act.put, List.setIfInBounds_toArray, List.set_cons_zero, List.set_cons_succ]
            refine T_take (k := 9) (v := .pointer (some ⟨b1, o1 + k * 3, none⟩)) rfl (by decide +kernel) (fun _ _ _ h => h) (Or.inl ⟨by rfl, fun W hW => by obtain ⟨s0, s1, s2⟩ := hW; go_simp⟩) HS0.out ?_
            try simp only [Act.put, List.setIfInBounds_toArray, List.set_cons_zero, List.set_cons_succ]
            refine T_take (k := 10) (v := .pointer (some ⟨b1, o1 + k * 3 + 2, none⟩)) rfl (by decide +kernel) (fun _ _ _ h => h) (Or.inl ⟨by rfl, fun W hW => by obtain ⟨s0, s1, s2⟩ := hW; go_simp⟩) HS0.out ?_
            try simp only [Act.put, List.setIfInBounds_toArray, List.set_cons_zero, List.set_cons_succ]
            refine T_take (k := 11) (v := .int .i64 z) rfl (by decide +kernel) (fun _ _ _ h => h) (Or.inl ⟨by rfl, fun W hW => by obtain ⟨s0, s1, s2⟩ := hW; go_simp⟩) HS0.out ?_
            try simp only [Act.put, List.setIfInBounds_toArray, List.set_cons_zero, List.set_cons_succ]
            refine T_take (k := 12) (v := .agg #[.int .i64 la, .int .i64 lb, .int .i64 z]) rfl (by decide +kernel) (fun _ _ _ h => h) (Or.inl ⟨by rfl, fun W hW => by obtain ⟨s0, s1, s2⟩ := hW; go_simp⟩) HS0.out ?_
            try simp only [Act.put, List.setIfInBounds_toArray, List.set_cons_zero, List.set_cons_succ]
            refine T_one (i := 13) (by decide +kernel) rfl rfl (fun K hK13 => ?_)
            have hK13 := Lib.hid hK13
            go_simp
            refine hK13.out _ _ HS1.out ?_
            try simp only [Act.put, List.setIfInBounds_toArray, List.set_cons_zero, List.set_cons_succ]
            refine T_one (i := 14) (by decide +kernel) rfl rfl (fun K hK14 => ?_)
            have hK14 := Lib.hid hK14
            refine app_wp3 (us := [.int .i64 la, .int .i64 lb, .int .i64 z]) (c := 1) (H := W1.heap.size) (v := .slice AV IN.length cV) (.tmp 61) (.tmp 73) rfl elt_tri.big (by simp [Act.eval]) (by simp [Act.eval]) Hna.out Hnew.out rfl rfl (by omega) hbW ?_
            intro v8 w8 hown8 hg8 hv8
            obtain ⟨A8, c8, rfl⟩ := own_slice hown8
            have HO8 := Lib.hid (HOa.out.grown hg8 (HOa.out.ne_own Hna.out (by decide)))
            have HG8 := Lib.hid (HGa.out.grown hg8 (HGa.out.ne_own Hna.out (by decide)))
            have HR8 := Lib.hid (HRa.out.grown hg8 (HRa.out.ne_own Hna.out (by decide)))
            have Ho8 := Lib.hid (own_grown Hoa.out hg8 (own_ne Hoa.out Hna.out (by decide)))
            have Hb8 := Lib.hid (Hba.out.grown hg8 hbW (fun q hq => (Hna.out.lt q hq).1))
            have d4 := HO8.out.frozen 1
            have d3 : w8.cell? ⟨S + 1 + 1 + 1, 1, none⟩ = some (.slice AV IN.length cV) := HO8.out.cell 1
            have HS2 := Lib.hid (show S12 (S + 1 + 1 + 1) S (.slice AV IN.length cV) (.slice (some ⟨b1, o1, none⟩) ns.length b) b1 (o1 + k * 3 + 2) z w8 from ⟨HO8.out.cell 1, HG8.out.cell 1, Hwn.out _ Hb8.out⟩)
            refine hK14.out _ _ HS2.out ?_
            try simp only [Act.put, List.setIfInBounds_toArray, List.set_cons_zero, List.set_cons_succ]
            refine T_take (k := 15) (v := .pointer (some ⟨S + 1 + 1 + 1, 1, none⟩)) rfl (by decide +kernel) (fun _ _ _ h => h) (Or.inl ⟨by rfl, fun W hW => by obtain ⟨s0, s1, s2⟩ := hW; go_simp⟩) HS2.out ?_
            try simp only [Act.put, List.setIfInBounds_toArray, List.set_cons_zero, List.set_cons_succ]
            refine T_last (by decide +kernel) (by decide +kernel) (by decide +kernel) rfl rfl (fun K hKl => ?_)
            have hKl := Lib.hid hKl
            go_simp
            refine hKl.out _ _ (NoPanic.normal ?_)
            try simp only [Act.put, List.setIfInBounds_toArray, List.set_cons_zero, List.set_cons_succ]
            clear hK13 hK14 hKl HS0 HS1 HS2
            have HO9 := Lib.hid (HO8.out.set_ 1 (.slice A8 (IN.length + 1) c8))
            have HG9 := Lib.hid (HG8.out.far (p := ⟨S + 1 + 1 + 1, 1, none⟩) (by show S ≠ S + 1 + 1 + 1; omega) (.slice A8 (IN.length + 1) c8))
            have HR9 := Lib.hid (HR8.out.far (p := ⟨S + 1 + 1 + 1, 1, none⟩) (by show S + 1 ≠ S + 1 + 1 + 1; omega) (.slice A8 (IN.length + 1) c8))
            have Hn9 := Lib.hid (own_set (i := 1) hown8 (HO8.out.ne_own hown8 (by decide)) (.slice A8 (IN.length + 1) c8))
            have Ho9 := Lib.hid (own_set (i := 1) Ho8.out (HO8.out.ne_own Ho8.out (by decide)) (.slice A8 (IN.length + 1) c8))
            have Hb9 := Lib.hid (Hb8.out.setCell (p := ⟨S + 1 + 1 + 1, 1, none⟩) (by show S ≤ S + 1 + 1 + 1; omega) (.slice A8 (IN.length + 1) c8))
            go_wp2_with fail
            go_roundw
            case rel =>
              refine ⟨k + 1, _, by omega, by go_num, HO9.out, Ho9.out, ?_, HG9.out, HR9.out, Hb9.out⟩
              rw [hst.out, triC_append, List.length_append]
              exact Hn9.out
            case measure => simp [intOf]; omega
        · obtain rfl : k = ns.length := by omega
          rw [List.take_length] at Hn
          obtain ⟨B1, b1, hvB⟩ := own_slice Hn.out
          subst hvB
          have hc0 : wr.cell? ⟨S + 1 + 1 + 1, 0, none⟩ = some (.slice A1 IW.length a1) := HO.out.cell 0
          have hc1 : wr.cell? ⟨S + 1 + 1 + 1, 1, none⟩ = some (.slice B1 (inN ns p).length b1) := HO.out.cell 1
          have hr0 : wr.cell? ⟨S + 1, 0, none⟩ = some (.slice none 0 0) := HR.out.cell 0
          have hr1 : wr.cell? ⟨S + 1, 1, none⟩ = some (.slice none 0 0) := HR.out.cell 1
          have hf0 := HR.out.frozen 0
          have hf1 := HR.out.frozen 1
          have hz0 := ((HR.out.set_ 0 (.slice A1 IW.length a1)).set_ 1 (.slice B1 (inN ns p).length b1)).cell 0
          have hz1 := ((HR.out.set_ 0 (.slice A1 IW.length a1)).set_ 1 (.slice B1 (inN ns p).length b1)).cell 1
          have hg1 : wr.cell? ⟨S, 1, none⟩ = some (.slice B ns.length b) := HG.out.cell 1
          go_wp2_with fail
          refine bodyPost_ret (v := .agg #[.slice A1 IW.length a1, .slice B1 (inN ns p).length b1]) (by simp [results, Try.results21, go_sem, hz0, hz1]) rfl ⟨A1, a1, B1, b1, by rw [hIW.out], ?_, ?_, ?_⟩
          · rw [HSz.out, hIW.out]; exact own_set (i := 1) (own_set (i := 0) Ho.out (HR.out.ne_own Ho.out (by decide)) _) (HR.out.ne_own Ho.out (by decide)) _
          · rw [HSz.out]; exact own_set (i := 1) (own_set (i := 0) Hn.out (HR.out.ne_own Hn.out (by decide)) _) (HR.out.ne_own Hn.out (by decide)) _
          · rw [HSz.out]; exact (Hb.out.setCell (p := ⟨S + 1, 0, none⟩) (by show S ≤ S + 1; omega) _).setCell (p := ⟨S + 1, 1, none⟩) (by show S ≤ S + 1; omega) _
end Go.Proofs.Ytmdgdphhedgojaa

namespace Go.Proofs.Ytmdgdphhedgojaa
open Go.RowKit Go.Maps

/-- A set of faces that no border leaves is a union of parts. -/
theorem join_min {p : Nat → Bool} {of : List Int} {n : Nat} {t : Int × Int × Int} (hl : of.length = n) (h : ∀ i j, i < n → j < n → of.getD i 0 = of.getD j 0 → p i = p j) (ht : 0 ≤ t.1 ∧ t.1 < t.2.1 ∧ t.2.1 < n) (hp : t.1 ≠ 0 → p t.1.toNat = p t.2.1.toNat) :
    ∀ i j, i < n → j < n → (joined of t).getD i 0 = (joined of t).getD j 0 → p i = p j := by
  intro i j hi hj
  unfold joined
  split
  · exact h i j hi hj
  · rename_i h0
    have hab := hp h0
    rw [getD_merged _ _ _ (by omega), getD_merged _ _ _ (by omega)]
    generalize hA : of.getD t.1.toNat 0 = a
    generalize hB : of.getD t.2.1.toNat 0 = b
    generalize hI : of.getD i 0 = x
    generalize hJ : of.getD j 0 = y
    have k1 : ∀ k, k < n → (of.getD k 0 = a ∨ of.getD k 0 = b) → p k = p t.1.toNat := fun k hk hc => by
      rcases hc with hc | hc
      · exact h k _ hk (by omega) (hc.trans hA.symm)
      · exact (h k _ hk (by omega) (hc.trans hB.symm)).trans hab.symm
    show (if (x == a || x == b) = true then (if b < a then b else a) else x) = (if (y == a || y == b) = true then (if b < a then b else a) else y) → p i = p j
    have hm : (if b < a then b else a) = a ∨ (if b < a then b else a) = b := by split <;> simp
    by_cases hx : x = a ∨ x = b
    · by_cases hy : y = a ∨ y = b
      · intro _
        rw [k1 i hi (by rw [hI]; exact hx), k1 j hj (by rw [hJ]; exact hy)]
      · rw [if_pos (by simpa using hx), if_neg (show ¬ (y == a || y == b) = true by simpa using hy)]
        intro he
        rw [he] at hm
        exact absurd hm hy
    · by_cases hy : y = a ∨ y = b
      · rw [if_neg (show ¬ (x == a || x == b) = true by simpa using hx), if_pos (by simpa using hy)]
        intro he
        rw [← he] at hm
        exact absurd hm hx
      · rw [if_neg (show ¬ (x == a || x == b) = true by simpa using hx), if_neg (show ¬ (y == a || y == b) = true by simpa using hy)]
        intro he
        exact h i j hi hj (by rw [hI, hJ]; exact he)
theorem fold_min {p : Nat → Bool} {n : Nat} : ∀ (ns : List (Int × Int × Int)) (of : List Int), of.length = n → (∀ i j, i < n → j < n → of.getD i 0 = of.getD j 0 → p i = p j) → EOK n ns → (∀ t ∈ ns, t.1 ≠ 0 → p t.1.toNat = p t.2.1.toNat) →
    ∀ i j, i < n → j < n → (ns.foldl joined of).getD i 0 = (ns.foldl joined of).getD j 0 → p i = p j
  | [], _, _, h, _, _ => h
  | t :: ns, of, hl, h, hE, hp => fold_min ns (joined of t) (by rw [joined_len]; exact hl) (join_min hl h (hE t List.mem_cons_self) (hp t List.mem_cons_self)) (fun u hu => hE u (List.mem_cons_of_mem _ hu)) (fun u hu => hp u (List.mem_cons_of_mem _ hu))
theorem comp_min {p : Nat → Bool} {n : Nat} {ns : List (Int × Int × Int)} (hE : EOK n ns) (hp : ∀ t ∈ ns, t.1 ≠ 0 → p t.1.toNat = p t.2.1.toNat) {i j : Nat} (hi : i < n) (hj : j < n) (h : (comp ns n).getD i 0 = (comp ns n).getD j 0) : p i = p j :=
  fold_min ns (alone n) (alone_len n) (fun i j hi hj he => by
    have e1 : (alone n).getD i 0 = (i : Int) := by simp [alone, List.getD, hi]
    have e2 : (alone n).getD j 0 = (j : Int) := by simp [alone, List.getD, hj]
    rw [e1, e2] at he
    have : i = j := by omega
    rw [this]) hE hp i j hi hj h

theorem nodup_le : ∀ (n : Nat) (L : List Int), L.Nodup → (∀ z ∈ L, 0 ≤ z ∧ z < n) → L.length ≤ n
  | 0, L, _, h => by
    cases L with
    | nil => exact Nat.le_refl _
    | cons z L => have := h z List.mem_cons_self; omega
  | n + 1, L, hd, h => by
    by_cases hn : (n : Int) ∈ L
    · have h1 := nodup_le n (L.erase (n : Int)) (hd.erase _) (fun z hz => by
        have h2 := h z (List.mem_of_mem_erase hz)
        have h3 : z ≠ (n : Int) := fun e => by
          rw [e] at hz
          exact (List.Nodup.not_mem_erase hd) hz
        omega)
      rw [List.length_erase_of_mem hn] at h1
      omega
    · exact Nat.le_succ_of_le (nodup_le n L hd (fun z hz => by
        have h2 := h z hz
        have h3 : z ≠ (n : Int) := fun e => hn (e ▸ hz)
        omega))

/-- The faces that have been reached from face f. -/
structure GL (n : Nat) (of : List Int) (f : Nat) (L : List Int) : Prop where
  m : (f : Int) ∈ L
  s : ∀ z ∈ L, ∃ k : Nat, z = (k : Int) ∧ k < n ∧ of.getD k 0 = (f : Int)
  d : L.Nodup
theorem GL.len {n : Nat} {of : List Int} {f : Nat} {L : List Int} (h : GL n of f L) : L.length ≤ n := nodup_le n L h.d (fun z hz => by
  obtain ⟨k, rfl, hk, _⟩ := h.s z hz
  omega)
theorem GL.one {n : Nat} {of : List Int} {f : Nat} (hf : f < n) (hr : of.getD f 0 = (f : Int)) : GL n of f [(f : Int)] := ⟨by simp, fun z hz => by
  obtain rfl : z = (f : Int) := by simpa using hz
  exact ⟨f, rfl, hf, hr⟩, by simp⟩
theorem GL.add {n : Nat} {of : List Int} {f : Nat} {L : List Int} (h : GL n of f L) {x y : Int} (hx : x ∈ L) (hy : y ∉ L) (h0 : 0 ≤ y) (hyn : y < n) (he : of.getD x.toNat 0 = of.getD y.toNat 0) : GL n of f (L ++ [y]) := ⟨List.mem_append_left _ h.m, fun z hz => by
  rcases List.mem_append.1 hz with hz | hz
  · exact h.s z hz
  · obtain rfl : z = y := by simpa using hz
    obtain ⟨k, rfl, hk, hk2⟩ := h.s x hx
    refine ⟨z.toNat, by omega, by omega, ?_⟩
    rw [← he]
    exact hk2, by
  rw [List.nodup_append]
  exact ⟨h.d, by simp, fun a ha b hb e => hy (by
    obtain rfl : b = y := by simpa using hb
    exact e ▸ ha)⟩⟩
/-- No border leaves the faces. -/
def Cl (L : List Int) (ns : List (Int × Int × Int)) : Prop := ∀ t ∈ ns, t.1 ≠ 0 → (t.1 ∈ L ↔ t.2.1 ∈ L)
theorem Cl.all {n : Nat} {ns : List (Int × Int × Int)} {f : Nat} {L : List Int} (hE : EOK n ns) (h : GL n (comp ns n) f L) (hc : Cl L ns) (hf : f < n) (hr : (comp ns n).getD f 0 = (f : Int)) {k : Nat} (hk : k < n) : (k : Int) ∈ L ↔ (comp ns n).getD k 0 = (f : Int) := by
  constructor
  · intro hm
    obtain ⟨j, e, _, h2⟩ := h.s _ hm
    obtain rfl : k = j := by omega
    exact h2
  · intro he
    have := comp_min (p := fun k => decide ((k : Int) ∈ L)) hE (fun t ht h0 => by
      have h1 := hE t ht
      have h2 := hc t ht h0
      rw [show ((t.1.toNat : Nat) : Int) = t.1 by omega, show ((t.2.1.toNat : Nat) : Int) = t.2.1 by omega]
      by_cases h3 : t.1 ∈ L
      · simp [h3, h2.1 h3]
      · have h4 : t.2.1 ∉ L := fun h4 => h3 (h2.2 h4)
        simp [h3, h4]) hk hf (he.trans hr.symm)
    have h5 := h.m
    simp only [h5, decide_true, decide_eq_true_eq] at this
    exact this
/-- The faces of a part. -/
def pF (of : List Int) (n r : Nat) : List Int := (fcs (inP of r) n).map fun f : Nat => (f : Int)
/-- The faces of the parts whose least face lies below f. -/
def dn (of : List Int) (n f : Nat) : List Int := (rts of f).flatMap (pF of n)
theorem pF_len (of : List Int) (n r : Nat) : (pF of n r).length ≤ n := by
  rw [pF, List.length_map]; exact fcs_le _ _
theorem mem_pF {of : List Int} {n r : Nat} {z : Int} : z ∈ pF of n r ↔ ∃ k : Nat, z = (k : Int) ∧ k < n ∧ k ≠ 0 ∧ of.getD k 0 = (r : Int) := by
  unfold pF fcs inP
  simp only [List.mem_map, List.mem_filter, List.mem_range]
  constructor
  · rintro ⟨k, ⟨hk, h⟩, rfl⟩
    simp at h
    exact ⟨k, rfl, hk, h.1, by simpa [List.getD] using h.2⟩
  · rintro ⟨k, rfl, hk, h0, h⟩
    refine ⟨k, ⟨hk, ?_⟩, rfl⟩
    simp [h0]
    simpa [List.getD] using h
theorem dn_len (of : List Int) (n f : Nat) : (dn of n f).length ≤ f * n := by
  have h1 : ∀ l : List Nat, (l.flatMap (pF of n)).length ≤ l.length * n := fun l => by
    induction l with
    | nil => simp
    | cons r l ih =>
      have := pF_len of n r
      rw [List.flatMap_cons, List.length_append, List.length_cons, Nat.succ_mul]
      omega
  exact Nat.le_trans (h1 _) (Nat.mul_le_mul_right _ (rts_len of f))
theorem dn_root {of : List Int} {n f : Nat} (hf : f ≠ 0) (hr : of.getD f 0 = (f : Int)) : rts of (f + 1) = rts of f ++ [f] ∧ dn of n (f + 1) = dn of n f ++ pF of n f := by
  have h1 : rts of (f + 1) = rts of f ++ [f] := by rw [rts_succ, if_pos (by rw [hr]; simp [hf])]
  exact ⟨h1, by rw [dn, h1, List.flatMap_append, dn]; simp⟩
theorem dn_else {of : List Int} {n f : Nat} (hr : of.getD f 0 ≠ (f : Int)) : rts of (f + 1) = rts of f ∧ dn of n (f + 1) = dn of n f := by
  have h1 : rts of (f + 1) = rts of f := by rw [rts_succ, if_neg (by simp only [Bool.and_eq_true, beq_iff_eq]; exact fun h => hr h.2), List.append_nil]
  exact ⟨h1, by rw [dn, h1, dn]⟩
theorem dn_mem {of : List Int} {n f : Nat} (hl : of.length = n) (hC : CN of) (hA : Al of) (hf : f ≠ 0) (hfn : f < n) : (f : Int) ∈ dn of n f ↔ of.getD f 0 ≠ (f : Int) := by
  unfold dn
  rw [List.mem_flatMap]
  constructor
  · rintro ⟨r, hr, h⟩ he
    obtain ⟨k, e, _, _, h2⟩ := mem_pF.1 h
    obtain rfl : f = k := by omega
    have := (mem_rts.1 hr).1
    omega
  · intro he
    obtain ⟨r, h1, h2, h3⟩ := hC f (by omega)
    have hr0 : r ≠ 0 := fun e => hf (hA f (by omega) (by rw [h1, e]; rfl))
    have hrf : r ≠ f := fun e => he (by rw [h1, e])
    exact ⟨r, mem_rts.2 ⟨by omega, hr0, h3⟩, mem_pF.2 ⟨f, rfl, hfn, hf, h1⟩⟩
theorem dn_zero (of : List Int) (n : Nat) : dn of n 0 = [] ∧ rts of 0 = [] := ⟨rfl, rfl⟩
theorem dn_one (of : List Int) (n : Nat) : dn of n 1 = [] ∧ rts of 1 = [] := by
  have h1 : rts of 1 = [] := by rw [rts_succ]; rfl
  exact ⟨by rw [dn, h1]; rfl, h1⟩
theorem facesOf_parts (ws : List Int) (ns : List (Int × Int × Int)) : facesOf (partsD ws ns) = (rts (comp ns ws.length) ws.length).map (pF (comp ns ws.length) ws.length) := by
  rw [facesOf, partsD, partsO, List.map_map]
  rfl
theorem pF_succ (of : List Int) (r k : Nat) : pF of (k + 1) r = pF of k r ++ if inP of r k then [(k : Int)] else [] := by
  rw [pF, fcs_succ, List.map_append]
  unfold pF
  split <;> rfl

set_option maxHeartbeats 1000000 in
theorem has_any (A : Option Addr) (c : Nat) (l : List Int) (x : Int) (w : World) (hA : SI w A l) (hl : l.length ≤ 1099511627776) :
    Calls Try.prog 44 #[.slice A l.length c, .int .i64 x] w fun e w' => e = .returned (.bool (decide (x ∈ l))) ∧ Qt w w' := by
  go_enter Try.func44, Try.ntmps44
  go_wp2
  go_loopw [5] (fun i wr => ∃ k : Nat, k ≤ l.length ∧ i = .int .i64 k ∧ Hid (x ∉ l.take k) ∧ Qt w wr) (fun i _ => l.length - (intOf i).toNat)
  case atStart => exact ⟨0, by omega, rfl, Lib.hid (by simp), Qt.refl _⟩
  case round =>
    obtain ⟨k, hk, rfl, hno, hq⟩ := hrel
    by_cases hlt : k < l.length
    · obtain ⟨b, o, y, rfl, hc, hy⟩ := (hA.qt hq).get hlt
      have Hq := Lib.hid hq
      have k0 : (0 : Int) ≤ (k : Int) := by omega
      have htk := Lib.hid (take_snoc' hy.out)
      clear hq
      by_cases hxy : y = x
      · have hb : (y == x) = true := by simp [hxy]
        have hmem : Hid (decide (x ∈ l) = true) := Lib.hid (by simp [← hxy, List.mem_of_getElem? hy.out])
        clear hy htk hno hA hxy
        go_wp2_with fail
        go_ret
        exact ⟨by rw [hmem.out]; rfl, Hq.out⟩
      · have hb : (y == x) = false := by simp [hxy]
        have hno2 : Hid (x ∉ l.take (k + 1)) := by
          rw [htk.out]
          exact Lib.hid (by simp [hno.out, Ne.symm hxy])
        clear hy htk hno hA hxy
        go_wp2_with fail
        go_roundw
        case rel => exact ⟨k + 1, by omega, by go_num, hno2, Hq.out⟩
        case measure => simp [intOf]; omega
    · obtain rfl : k = l.length := by omega
      have Hq := Lib.hid hq
      have hmem : Hid (decide (x ∈ l) = false) := Lib.hid (by have := hno.out; rw [List.take_length] at this; simp [this])
      clear hno hA hq
      go_wp2_with fail
      go_ret
      exact ⟨by rw [hmem.out]; rfl, Hq.out⟩
end Go.Proofs.Ytmdgdphhedgojaa

namespace Go.Proofs.Ytmdgdphhedgojaa
open Go.RowKit Go.Maps

def slLen : Value → Nat
  | .slice _ n _ => n
  | _ => 0
def bN : Value → Nat
  | .bool true => 1
  | _ => 0
/-- What the rows hold: the faces that are done, and the parts. -/
def fl (of : List Int) (n f j : Nat) : List Int := if j = 0 then dn of n f else pF of n ((rts of f).getD (j - 1) 0)
/-- The parts of the reference so far, in memory. -/
structure RP (S : Nat) (w0 W : World) (A B : Option Addr) (a b : Nat) (ws : List Int) (ns : List (Int × Int × Int)) (of : List Int) (f : Nat) (vo vd : Value) (V : Nat → Value) : Prop where
  fam : Fam W S 3 1 ((rts of f).length + 1) V (fun j => (fl of ws.length f j).length) (fun j => (fl of ws.length f j).map (Value.int .i64))
  d : V 0 = vd
  out : W.ownsRow S 22 1 vo (rts of f).length ((List.range (rts of f).length).map fun j => V (j + 1))
  g : Bk W S 30 #[.slice A ws.length a, .slice B ns.length b]
  bl : Below S w0 W
  z : S ≤ W.heap.size
section
variable {S : Nat} {w0 W W' : World} {A B : Option Addr} {a b : Nat} {ws : List Int} {ns : List (Int × Int × Int)} {of : List Int} {f : Nat} {vo vd : Value} {V : Nat → Value}
theorem RP.below (h : RP S w0 W A B a b ws ns of f vo vd V) (hb : Below W.heap.size W W') : RP S w0 W' A B a b ws ns of f vo vd V :=
  ⟨h.fam.below hb, h.d, own_below h.out hb, h.g.below hb h.g.lt, h.bl.trans (hb.mono h.z), Nat.le_trans h.z hb.size⟩
theorem RP.done (h : RP S w0 W A B a b ws ns of f vo vd V) : W.ownsRow S 3 1 vd (dn of ws.length f).length ((dn of ws.length f).map (Value.int .i64)) := by
  have := h.fam.o 0 (by omega)
  rw [h.d] at this
  exact this
theorem RP.skip (h : RP S w0 W A B a b ws ns of f vo vd V) (hr : of.getD f 0 ≠ (f : Int)) : RP S w0 W A B a b ws ns of (f + 1) vo vd V := by
  obtain ⟨e1, e2⟩ := dn_else (n := ws.length) hr
  have e3 : fl of ws.length (f + 1) = fl of ws.length f := by funext j; unfold fl; rw [e1, e2]
  exact ⟨by rw [e1, e3]; exact h.fam, h.d, by rw [e1]; exact h.out, h.g, h.bl, h.z⟩
end
/-- What the rows hold while a part is sorted. -/
def fk (of : List Int) (n f : Nat) (L ld l : List Int) (j : Nat) : List Int := if j = 0 then ld else if j = (rts of f).length + 1 then l else if j = (rts of f).length + 2 then L else pF of n ((rts of f).getD (j - 1) 0)
/-- A part is sorted: in memory. -/
structure RK (S : Nat) (w0 W : World) (A B : Option Addr) (a b : Nat) (ws : List Int) (ns : List (Int × Int × Int)) (of : List Int) (f : Nat) (vo vd vs vL : Value) (L ld l : List Int) (V : Nat → Value) : Prop where
  fam : Fam W S 3 1 ((rts of f).length + 3) V (fun j => (fk of ws.length f L ld l j).length) (fun j => (fk of ws.length f L ld l j).map (Value.int .i64))
  d : V 0 = vd
  s : V ((rts of f).length + 1) = vs
  l : V ((rts of f).length + 2) = vL
  out : W.ownsRow S 22 1 vo (rts of f).length ((List.range (rts of f).length).map fun j => V (j + 1))
  g : Bk W S 30 #[.slice A ws.length a, .slice B ns.length b]
  bl : Below S w0 W
  z : S ≤ W.heap.size
section
variable {S : Nat} {w0 W W' : World} {A B : Option Addr} {a b : Nat} {ws : List Int} {ns : List (Int × Int × Int)} {of : List Int} {f : Nat} {vo vd vs vL : Value} {V : Nat → Value} {L ld l : List Int}
theorem RK.start (h : RP S w0 W A B a b ws ns of f vo vd V) (hb : Below W.heap.size W W') (hl : W'.ownsRow W.heap.size 3 1 vL L.length (L.map (Value.int .i64))) :
    RK S w0 W' A B a b ws ns of f vo vd (.slice none 0 0) vL L (dn of ws.length f) [] (up (up V ((rts of f).length + 1) (.slice none 0 0)) ((rts of f).length + 2) vL) := by
  have h2 := h.below hb
  have f1 := h2.fam.push (v := .slice none 0 0) (World.ownsRow_nil _ S _ _) (fun j hj => .inl rfl)
  have f2 := f1.push (v := vL) (own_mono hl h.z) (fun j hj => by
    by_cases hjm : j = (rts of f).length + 1
    · rw [hjm, up_same]; exact Ap.symm (.inl rfl)
    · rw [up_else _ _ hjm]
      by_cases hn : vL.ownBlock = none
      · exact .inl hn
      · refine .inr fun hc => ?_
        cases hg : vL.ownBlock with
        | none => exact hn hg
        | some g =>
          have k1 := (hl.lt g hg).1
          have k2 := (h.fam.lt (j := j) (by omega) (hc.symm.trans hg)).2
          omega)
  refine ⟨f2.congr (fun j hj => ?_) (fun j hj => ?_), ?_, ?_, ?_, ?_, h2.g, h2.bl, h2.z⟩
  · unfold fk up fl
    by_cases h0 : j = 0
    · simp [h0]
    · by_cases h1 : j = (rts of f).length + 1
      · simp [h1]
      · by_cases h3 : j = (rts of f).length + 2
        · simp [h3]
        · simp [h0, h1, h3]
  · unfold fk up fl
    by_cases h0 : j = 0
    · simp [h0]
    · by_cases h1 : j = (rts of f).length + 1
      · simp [h1]
      · by_cases h3 : j = (rts of f).length + 2
        · simp [h3]
        · simp [h0, h1, h3]
  · simp [up, h2.d]
  · simp [up]
  · simp [up]
  · have e : ((List.range (rts of f).length).map fun j => up (up V ((rts of f).length + 1) (Value.slice none 0 0)) ((rts of f).length + 2) vL (j + 1)) = (List.range (rts of f).length).map fun j => V (j + 1) := List.map_congr_left fun j hj => by
      have := List.mem_range.1 hj
      rw [up_else _ _ (by omega), up_else _ _ (by omega)]
    rw [e]
    exact h2.out
theorem RK.own_list (h : RK S w0 W A B a b ws ns of f vo vd vs vL L ld l V) : W.ownsRow S 3 1 vL L.length (L.map (Value.int .i64)) := by
  have := h.fam.o ((rts of f).length + 2) (by omega)
  rw [h.l] at this
  have e : fk of ws.length f L ld l ((rts of f).length + 2) = L := by simp [fk]
  simpa only [e] using this
theorem RK.own_sort (h : RK S w0 W A B a b ws ns of f vo vd vs vL L ld l V) : W.ownsRow S 3 1 vs l.length (l.map (Value.int .i64)) := by
  have := h.fam.o ((rts of f).length + 1) (by omega)
  rw [h.s] at this
  have e : fk of ws.length f L ld l ((rts of f).length + 1) = l := by simp [fk]
  simpa only [e] using this
theorem RK.own_done (h : RK S w0 W A B a b ws ns of f vo vd vs vL L ld l V) : W.ownsRow S 3 1 vd ld.length (ld.map (Value.int .i64)) := by
  have := h.fam.o 0 (by omega)
  rw [h.d] at this
  have e : fk of ws.length f L ld l 0 = ld := by simp [fk]
  simpa only [e] using this
theorem RK.below (h : RK S w0 W A B a b ws ns of f vo vd vs vL L ld l V) (hb : Below W.heap.size W W') : RK S w0 W' A B a b ws ns of f vo vd vs vL L ld l V :=
  ⟨h.fam.below hb, h.d, h.s, h.l, own_below h.out hb, h.g.below hb h.g.lt, h.bl.trans (hb.mono h.z), Nat.le_trans h.z hb.size⟩
theorem RK.appS (h : RK S w0 W A B a b ws ns of f vo vd vs vL L ld l V) {x : Int} {vs' : Value} (hg : W.grownBy W' vs.ownBlock) (ho : W'.ownsRow S 3 1 vs' (l.length + 1) ((l ++ [x]).map (Value.int .i64))) (hv : vs'.ownBlock = vs.ownBlock ∨ ∃ b, vs'.ownBlock = some b ∧ W.heap.size ≤ b) :
    RK S w0 W' A B a b ws ns of f vo vd vs' vL L ld (l ++ [x]) (up V ((rts of f).length + 1) vs') := by
  have hs := h.own_sort
  have f1 := h.fam.app (i := (rts of f).length + 1) (by omega) (h.s ▸ hg) ho (h.s ▸ hv)
  refine ⟨f1.congr (fun j hj => ?_) (fun j hj => ?_), ?_, up_same _ _ _, ?_, ?_, h.g.grown hg (h.g.ne_own hs (by decide)), h.bl.grown hg h.z (fun q hq => (hs.lt q hq).1), Nat.le_trans h.z hg.size⟩
  · by_cases h1 : j = (rts of f).length + 1
    · rw [h1, up_same]; simp [fk]
    · rw [up_else _ _ h1]; unfold fk; simp [h1]
  · by_cases h1 : j = (rts of f).length + 1
    · rw [h1, up_same]; simp [fk]
    · rw [up_else _ _ h1]; unfold fk; simp [h1]
  · rw [up_else _ _ (by omega)]; exact h.d
  · rw [up_else _ _ (by omega)]; exact h.l
  · have e : ((List.range (rts of f).length).map fun j => up V ((rts of f).length + 1) vs' (j + 1)) = (List.range (rts of f).length).map fun j => V (j + 1) := List.map_congr_left fun j hj => by
      have := List.mem_range.1 hj
      rw [up_else _ _ (by omega)]
    rw [e]
    exact own_grown h.out hg (own_ne h.out hs (by decide))
theorem RK.appD (h : RK S w0 W A B a b ws ns of f vo vd vs vL L ld l V) {x : Int} {vd' : Value} (hg : W.grownBy W' vd.ownBlock) (ho : W'.ownsRow S 3 1 vd' (ld.length + 1) ((ld ++ [x]).map (Value.int .i64))) (hv : vd'.ownBlock = vd.ownBlock ∨ ∃ b, vd'.ownBlock = some b ∧ W.heap.size ≤ b) :
    RK S w0 W' A B a b ws ns of f vo vd' vs vL L (ld ++ [x]) l (up V 0 vd') := by
  have hs := h.own_done
  have f1 := h.fam.app (i := 0) (by omega) (h.d ▸ hg) ho (h.d ▸ hv)
  refine ⟨f1.congr (fun j hj => ?_) (fun j hj => ?_), up_same _ _ _, ?_, ?_, ?_, h.g.grown hg (h.g.ne_own hs (by decide)), h.bl.grown hg h.z (fun q hq => (hs.lt q hq).1), Nat.le_trans h.z hg.size⟩
  · by_cases h1 : j = 0
    · rw [h1, up_same]; simp [fk]
    · rw [up_else _ _ h1]; unfold fk; simp [h1]
  · by_cases h1 : j = 0
    · rw [h1, up_same]; simp [fk]
    · rw [up_else _ _ h1]; unfold fk; simp [h1]
  · rw [up_else _ _ (by omega)]; exact h.s
  · rw [up_else _ _ (by omega)]; exact h.l
  · have e : ((List.range (rts of f).length).map fun j => up V 0 vd' (j + 1)) = (List.range (rts of f).length).map fun j => V (j + 1) := List.map_congr_left fun j hj => by
      rw [up_else _ _ (by omega)]
    rw [e]
    exact own_grown h.out hg (own_ne h.out hs (by decide))
theorem RK.fin (h : RK S w0 W A B a b ws ns of f vo vd vs vL L (dn of ws.length f ++ pF of ws.length f) (pF of ws.length f) V) (hf : f ≠ 0) (hr : of.getD f 0 = (f : Int)) {vo' : Value} (hg : W.grownBy W' vo.ownBlock)
    (ho : W'.ownsRow S 22 1 vo' ((rts of f).length + 1) (((List.range (rts of f).length).map fun j => V (j + 1)) ++ [vs])) : RP S w0 W' A B a b ws ns of (f + 1) vo' vd V := by
  obtain ⟨e1, e2⟩ := dn_root (n := ws.length) hf hr
  have f1 := h.fam.grown hg (fun j hj => own_ne (h.fam.o j hj) h.out (by decide))
  have f2 : Fam W' S 3 1 ((rts of f).length + 1 + 1) V _ _ := ⟨fun j hj => f1.o j (by omega), fun i j hi hj => f1.a i j (by omega) (by omega)⟩
  have e3 : ∀ j, j < (rts of f).length + 1 + 1 → fk of ws.length f L (dn of ws.length f ++ pF of ws.length f) (pF of ws.length f) j = fl of ws.length (f + 1) j := fun j hj => by
    unfold fk fl
    rw [e1, e2]
    by_cases h0 : j = 0
    · simp [h0]
    · by_cases h1 : j = (rts of f).length + 1
      · rw [if_neg h0, if_pos h1, if_neg h0, h1]
        simp
      · rw [if_neg h0, if_neg h1, if_neg (by omega), if_neg h0]
        have : j - 1 < (rts of f).length := by omega
        simp [List.getD, List.getElem?_append_left this]
  refine ⟨?_, h.d, ?_, h.g.grown hg (h.g.ne_own h.out (by decide)), h.bl.grown hg h.z (fun q hq => (h.out.lt q hq).1), Nat.le_trans h.z hg.size⟩
  · rw [e1, List.length_append]
    exact f2.congr (fun j hj => by rw [e3 j hj]) (fun j hj => by rw [e3 j hj])
  · rw [e1, List.length_append, show (([f] : List Nat).length) = 1 from rfl, List.range_succ, List.map_append, List.map_singleton, h.s]
    exact ho
end
end Go.Proofs.Ytmdgdphhedgojaa

namespace Go.Proofs.Ytmdgdphhedgojaa
open Go.RowKit Go.Maps

theorem RP.sll {S : Nat} {w0 W : World} {A B : Option Addr} {a b n c : Nat} {ws : List Int} {ns : List (Int × Int × Int)} {of : List Int} {f : Nat} {D : Option Addr} {vd : Value} {V : Nat → Value} (h : RP S w0 W A B a b ws ns of f (.slice D n c) vd V) (hn : n = (rts of f).length) : SLL W D ((rts of f).map (pF of ws.length)) := by
  subst hn
  refine ⟨_, SL.of_own h.out, by simp, fun j v l hv hl => ?_⟩
  have hj : j < (rts of f).length := by
    have := (List.getElem?_eq_some_iff.1 hl).1
    simpa using this
  rw [List.getElem?_map, List.getElem?_range hj] at hv
  obtain rfl : V (j + 1) = v := Option.some.inj hv
  have hl2 : fl of ws.length f (j + 1) = l := by
    rw [List.getElem?_map, List.getElem?_eq_getElem hj] at hl
    have := Option.some.inj hl
    rw [fl, if_neg (by omega), ← this, Nat.add_sub_cancel, List.getD, List.getElem?_eq_getElem hj, Option.getD_some]
  have ho := h.fam.o (j + 1) (by omega)
  simp only [hl2] at ho
  obtain ⟨B', c', e⟩ := own_slice ho
  rw [e] at ho
  exact ⟨B', c', e, own_si ho⟩
theorem cell_far {w W : World} {p : Addr} {v : Value} (h : w.cell? p = some v) (hb : Below w.heap.size w W) : W.cell? p = some v := by
  by_cases hp : p.block < w.heap.size
  · rw [hb.cell hp]; exact h
  · unfold World.cell? at h
    rw [Array.getElem?_eq_none (by omega)] at h
    cases h
set_option linter.unusedSimpArgs false in
set_option maxHeartbeats 8000000 in
set_option maxRecDepth 100000 in
theorem refParts_any (A B : Option Addr) (a b : Nat) (ws : List Int) (ns : List (Int × Int × Int)) (w : World) (hA : SI w A ws) (hB : ST w B ns) (hv : validE ws ns = 0) :
    Calls Try.prog 26 #[.agg #[.slice A ws.length a, .slice B ns.length b]] w fun e w' => ∃ D m, e = .returned (.slice D (facesOf (partsD ws ns)).length m) ∧ SLL w' D (facesOf (partsD ws ns)) ∧ Below w.heap.size w w' := by
  obtain ⟨S, hSz⟩ : ∃ S, w.heap.size = S := ⟨_, rfl⟩
  have HA := Lib.hid (fun (W : World) (hW : Below S w W) => (hA.below (hSz.symm ▸ hW) : SI W A ws))
  have HB := Lib.hid (fun (W : World) (hW : Below S w W) => (hB.below (hSz.symm ▸ hW) : ST W B ns))
  have HE := Lib.hid (validE_eok hv)
  have hg := GV.of hv
  have n1 := hg.n1
  have n2 := hg.n2
  have HCm := Lib.hid (comp_all HE.out)
  have Hcl := Lib.hid (fun (f : Nat) (L : List Int) (h : GL ws.length (comp ns ws.length) f L) (hc : Cl L ns) (hf : f < ws.length) (hr : (comp ns ws.length).getD f 0 = (f : Int)) (k : Nat) (hk : k < ws.length) => (Cl.all HE.out h hc hf hr hk))
  have hfo := facesOf_parts ws ns
  rw [hfo]
  obtain ⟨of, hof⟩ : ∃ of, Hid (comp ns ws.length = of) := ⟨_, Lib.hid rfl⟩
  rw [hof.out] at HCm Hcl ⊢
  have hol : of.length = ws.length := HCm.out.len
  clear hA hB hv hg hfo hof
  go_enter Try.func26, Try.ntmps26
  go_wp2_with fail
  have hb0 : Below S w (w.alloc (.cells #[.slice A ws.length a, .slice B ns.length b] 30)) := hSz ▸ (Below.refl _ _).alloc (Nat.le_refl _) _
  have hbG : Bk (w.alloc (.cells #[.slice A ws.length a, .slice B ns.length b] 30)) S 30 #[.slice A ws.length a, .slice B ns.length b] := Bk.new' _ _ _ hSz
  have hz0 : S ≤ (w.alloc (.cells #[.slice A ws.length a, .slice B ns.length b] 30)).heap.size := by simp [hSz]
  generalize w.alloc (.cells #[.slice A ws.length a, .slice B ns.length b] 30) = W0 at *
  obtain ⟨d1, d2⟩ := dn_one of ws.length
  have HR0 := Lib.hid (show RP S w W0 A B a b ws ns of 1 (.slice none 0 0) (.slice none 0 0) (fun _ => .slice none 0 0) from
    ⟨⟨fun j hj => by
      rw [d2] at hj
      obtain rfl : j = 0 := by simpa using hj
      simp only [fl, if_pos, d1]
      exact World.ownsRow_nil _ _ _ _, fun i j hi hj hij => .inl rfl⟩, rfl, by rw [d2]; exact World.ownsRow_nil _ _ _ _, hbG, hb0, hz0⟩)
  have HSz := Lib.hid hSz
  clear hb0 hbG hz0 d1 d2 hSz
  go_loopw [3, 4, 5] (fun vo vd v wr => ∃ (f : Nat) (V : Nat → Value), 1 ≤ f ∧ (f ≤ ws.length ∨ f = 1) ∧ v = .int .i64 f ∧ RP S w wr A B a b ws ns of f vo vd V) (fun _ _ v _ => ws.length - (intOf v).toNat)
  case atStart => exact ⟨1, _, by omega, by omega, rfl, HR0.out⟩
  case round =>
    obtain ⟨f, V, hf1, hf2, rfl, hR⟩ := hrel
    clear HR0
    have HR := Lib.hid hR
    have hg0 : wr.cell? ⟨S, 0, none⟩ = some (.slice A ws.length a) := hR.g.cell 0
    have f0 : (0 : Int) ≤ (f : Int) := by omega
    by_cases hlt : f < ws.length
    · obtain ⟨AD, cD, rfl⟩ := own_slice hR.done
      obtain ⟨AO, cO, rfl⟩ := own_slice hR.out
      have hdl := dn_len of ws.length f
      have hdl2 : (dn of ws.length f).length ≤ 16777216 := Nat.le_trans hdl (Nat.le_trans (Nat.mul_le_mul (show f ≤ 4096 by omega) n1) (by omega))
      have Hm := Lib.hid (dn_mem (n := ws.length) hol HCm.out.cn HCm.out.al (f := f) (by omega) hlt)
      have Hhas := Lib.hid (has_any AD cD (dn of ws.length f) (f : Int) wr (own_si hR.done) (by omega))
      by_cases hr : of.getD f 0 = (f : Int)
      · have hno : decide ((f : Int) ∈ dn of ws.length f) = false := decide_eq_false (fun h => Hm.out.1 h hr)
        rw [hno] at Hhas
        obtain ⟨e1, e2⟩ := dn_root (n := ws.length) (show f ≠ 0 by omega) hr
        have Hr := Lib.hid hr
        clear hR hdl hno Hm hr
        go_wp2_with fail
        refine (Hhas.out).mono ?_
        rintro e wf ⟨rfl, hq⟩
        have HR := Lib.hid (HR.out.below (hq.below _))
        clear Hhas hq hg0
        go_wp2_with fail
        have hlo := own_row (base := wf.heap.size) (l := [(f : Int)]) (show Bk (wf.alloc (.cells #[.int .i64 (f : Int)] 3)) wf.heap.size 3 (rowI [(f : Int)]) from Bk.new wf 3 #[.int .i64 (f : Int)]) (Nat.le_refl _) (by simp)
        have hL0 := Lib.hid (show (wf.alloc (.cells #[.int .i64 (f : Int)] 3)).ownsRow wf.heap.size 3 1 (.slice (some ⟨wf.heap.size, 0, none⟩) 1 1) ([(f : Int)]).length (([(f : Int)]).map (Value.int .i64)) from hlo)
        have hLb := Lib.hid ((Below.refl wf.heap.size wf).alloc (Nat.le_refl _) (.cells #[.int .i64 (f : Int)] 3))
        clear hlo
        have hzf := HR.out.z
        go_loopw [7, 8] (fun vL vg w2 => ∃ (L : List Int) (g : Bool), vg = .bool g ∧ GL ws.length of f L ∧ Hid (g = false → Cl L ns) ∧ w2.ownsRow wf.heap.size 3 1 vL L.length (L.map (Value.int .i64)) ∧ Below wf.heap.size wf w2) (fun vL vg _ => 2 * (ws.length - slLen vL) + bN vg)
        case atStart => exact ⟨[(f : Int)], true, rfl, GL.one hlt Hr.out, Lib.hid (fun h => by cases h), hL0.out, hLb.out⟩
        case round =>
          obtain ⟨L, g, rfl, hGL, hCl, hoL, hbL⟩ := hrel
          obtain ⟨AL, cL, rfl⟩ := own_slice hoL
          have hLn := hGL.len
          clear hL0 hLb
          cases g with
          | true =>
            have HGL := Lib.hid hGL
            have HoL := Lib.hid hoL
            have HbL := Lib.hid hbL
            clear hGL hCl hoL hbL
            go_wp2_with fail
            go_loopw [7, 8, 9] (fun vL vg v w3 => ∃ (i : Nat) (L2 : List Int) (g2 : Bool), i ≤ ns.length ∧ v = .int .i64 i ∧ vg = .bool g2 ∧ GL ws.length of f L2 ∧ Hid ((g2 = false → L2 = L ∧ Cl L (ns.take i)) ∧ (g2 = true → L.length < L2.length)) ∧ w3.ownsRow wf.heap.size 3 1 vL L2.length (L2.map (Value.int .i64)) ∧ Below wf.heap.size wf w3) (fun _ _ v _ => ns.length - (intOf v).toNat)
            case atStart => exact ⟨0, L, false, by omega, rfl, rfl, HGL.out, Lib.hid ⟨fun _ => ⟨rfl, fun t ht => by simp at ht⟩, fun h => by cases h⟩, HoL.out, HbL.out⟩
            case round =>
              obtain ⟨i, L2, g2, hi, rfl, rfl, hGL, hcl, hoL, hbL⟩ := hrel
              obtain ⟨AM, cM, rfl⟩ := own_slice hoL
              have hLn2 := hGL.len
              have hS1 := Lib.hid ((HR.out.below hbL).g)
              have hg1 : wr.cell? ⟨S, 1, none⟩ = some (.slice B ns.length b) := hS1.out.cell 1
              have HGL2 := Lib.hid hGL
              have HoL2 := Lib.hid hoL
              have HbL2 := Lib.hid hbL
              have i0 : (0 : Int) ≤ (i : Int) := by omega
              clear HoL HbL
              by_cases hli : i < ns.length
              · obtain ⟨bB, oB, m0, m1, m2, rfl, c0, c1, _, hm⟩ := (HB.out _ HR.out.bl).get (k := i) hli
                have HSf := Lib.hid (fun (W : World) (hW : Below wf.heap.size wf W) => show W.cell? ⟨S, 1, none⟩ = some (.slice (some ⟨bB, oB, none⟩) ns.length b) ∧ W.cell? ⟨bB, oB + i * 3, none⟩ = some (.int .i64 m0) ∧ W.cell? ⟨bB, oB + i * 3 + 1, none⟩ = some (.int .i64 m1) from ⟨(HR.out.below hW).g.cell 1, cell_far c0 hW, cell_far c1 hW⟩)
                have c0 : wr.cell? ⟨bB, oB + i * 3, none⟩ = some (.int .i64 m0) := (HSf.out _ hbL).2.1
                have c1 : wr.cell? ⟨bB, oB + i * 3 + 1, none⟩ = some (.int .i64 m1) := (HSf.out _ hbL).2.2
                have hmb := HE.out (m0, m1, m2) (List.mem_of_getElem? hm.out)
                have hm0 : 0 ≤ m0 := hmb.1
                have hm1 : m0 < m1 := hmb.2.1
                have hm2 : m1 < ws.length := hmb.2.2
                obtain ⟨x, hx⟩ : ∃ z, Hid (decide (m0 ∈ L2) = z) := ⟨_, Lib.hid rfl⟩
                obtain ⟨y, hy⟩ : ∃ z, Hid (decide (m1 ∈ L2) = z) := ⟨_, Lib.hid rfl⟩
                have Hx := Lib.hid (hx.out ▸ has_any AM cM L2 m0 wr (own_si hoL) (by omega))
                have Hy := Lib.hid (fun W (hq : Qt wr W) => hy.out ▸ has_any AM cM L2 m1 W (own_si (own_below hoL (hq.below _))) (by omega))
                have hce := Lib.hid (HCm.out.e (m0, m1, m2) (List.mem_of_getElem? hm.out))
                have htk := Lib.hid (take_snoc' hm.out)
                clear hGL hoL hbL hmb
                go_wp2_with fail
                refine (Hx.out).mono ?_
                rintro e w4 ⟨rfl, hq⟩
                have Hy := Lib.hid (Hy.out w4 hq)
                have HoL3 := Lib.hid (own_below HoL2.out (hq.below _))
                have HbL3 := Lib.hid (hq.bl HbL2.out)
                have hg1 : w4.cell? ⟨S, 1, none⟩ = some (.slice (some ⟨bB, oB, none⟩) ns.length b) := cell_qt hg1 hq
                have c0 : w4.cell? ⟨bB, oB + i * 3, none⟩ = some (.int .i64 m0) := cell_qt c0 hq
                have c1 : w4.cell? ⟨bB, oB + i * 3 + 1, none⟩ = some (.int .i64 m1) := cell_qt c1 hq
                clear Hx hq HoL2 HbL2
                go_wp2_with fail
                refine (Hy.out).mono ?_
                rintro e w5 ⟨rfl, hq⟩
                have HoL4 := Lib.hid (own_below HoL3.out (hq.below _))
                have HbL4 := Lib.hid (hq.bl HbL3.out)
                have hg1 : w5.cell? ⟨S, 1, none⟩ = some (.slice (some ⟨bB, oB, none⟩) ns.length b) := cell_qt hg1 hq
                have c0 : w5.cell? ⟨bB, oB + i * 3, none⟩ = some (.int .i64 m0) := cell_qt c0 hq
                have c1 : w5.cell? ⟨bB, oB + i * 3 + 1, none⟩ = some (.int .i64 m1) := cell_qt c1 hq
                clear Hy hq HoL3 HbL3
                by_cases h0 : m0 = 0
                · have hl0 : ¬ (0 : Int) < m0 := by omega
                  have Hc := Lib.hid (show (g2 = false → L2 = L ∧ Cl L (ns.take (i + 1))) ∧ (g2 = true → L.length < L2.length) from ⟨fun hg => ⟨(hcl.out.1 hg).1, fun t ht => by
                    rw [htk.out] at ht
                    rcases List.mem_append.1 ht with ht | ht
                    · exact (hcl.out.1 hg).2 t ht
                    · obtain rfl : t = (m0, m1, m2) := by simpa using ht
                      exact fun hn => absurd h0 hn⟩, hcl.out.2⟩)
                  clear h0 hcl htk
                  go_wp2_with fail
                  go_roundw
                  case rel => exact ⟨i + 1, L2, g2, by omega, by go_num, rfl, HGL2.out, Hc, HoL4.out, HbL4.out⟩
                  case measure => simp [intOf]; omega
                · have hl0 : (0 : Int) < m0 := by omega
                  by_cases hxy : x = y
                  · subst hxy
                    have Hc := Lib.hid (show (g2 = false → L2 = L ∧ Cl L (ns.take (i + 1))) ∧ (g2 = true → L.length < L2.length) from ⟨fun hg => ⟨(hcl.out.1 hg).1, fun t ht => by
                      rw [htk.out] at ht
                      rcases List.mem_append.1 ht with ht | ht
                      · exact (hcl.out.1 hg).2 t ht
                      · obtain rfl : t = (m0, m1, m2) := by simpa using ht
                        intro _
                        have h1 := hx.out.trans hy.out.symm
                        rw [← (hcl.out.1 hg).1]
                        exact decide_eq_decide.1 h1⟩, hcl.out.2⟩)
                    clear h0 hcl htk hx hy
                    cases x
                    all_goals
                      go_wp2_with fail
                      go_roundw
                      case rel => exact ⟨i + 1, L2, g2, by omega, by go_num, rfl, HGL2.out, Hc, HoL4.out, HbL4.out⟩
                      case measure => simp [intOf]; omega
                  · have hge : L.length ≤ L2.length := by
                      cases g2 with
                      | false => rw [(hcl.out.1 rfl).1]; exact Nat.le_refl _
                      | true => exact Nat.le_of_lt (hcl.out.2 rfl)
                    have hw0 : IntKind.i64.wrap (m0 + m1) = m0 + m1 := IntWalk.i64_in _ (by omega)
                    have hw1 : IntKind.i64.wrap ((L2.length : Int) + 1 - 1) = (L2.length : Int) := by rw [IntWalk.i64_in _ (by omega)]; omega
                    have Ho0 := Lib.hid (show w5.drew.ownsRow wf.heap.size 3 1 (.slice AM L2.length cM) L2.length (L2.map (Value.int .i64)) from HoL4.out)
                    have HB0 := Lib.hid (HbL4.out.drew)
                    have HS0 := Lib.hid (HSf.out _ HB0.out)
                    cases x with
                    | true =>
                      cases y with
                      | true => exact absurd rfl hxy
                      | false =>
                        have HG3 := Lib.hid (HGL2.out.add (x := m0) (y := m1) (of_decide_eq_true hx.out) (of_decide_eq_false hy.out) (by omega) (by omega) (hce.out h0))
                        have Hc := Lib.hid (show L.length < (L2 ++ [m1]).length from by rw [List.length_append, List.length_singleton]; omega)
                        clear h0 hcl htk hx hy hce HGL2 hxy
                        go_wp2_with fail
                        refine wp_region_noPanic ?_
                        refine region_H (S := fun W => W.cell? ⟨S, 1, none⟩ = some (.slice (some ⟨bB, oB, none⟩) ns.length b) ∧ W.cell? ⟨bB, oB + i * 3, none⟩ = some (.int .i64 m0) ∧ W.cell? ⟨bB, oB + i * 3 + 1, none⟩ = some (.int .i64 m1)) (by kernel_rfl) ?_
                        change wpH _ _ _ _ 17 _ _ w5.drew
                        generalize w5.drew = X0 at *
                        refine H_takeD (k := 0) (v := .slice AM L2.length cM) (d := some 65) rfl rfl (by decide +kernel) (fun _ _ _ h => h) (Or.inl ⟨by rfl, fun W hW => by obtain ⟨s0, s1, s2⟩ := hW; go_simp⟩) HS0.out ?_
                        try simp only [Act.put, List.setIfInBounds_toArray, List.set_cons_zero, List.set_cons_succ]
                        refine H_takeD (k := 1) (v := .pointer (some ⟨S, 1, none⟩)) (d := some 66) rfl rfl (by decide +kernel) (fun _ _ _ h => h) (Or.inl ⟨by rfl, fun W hW => by obtain ⟨s0, s1, s2⟩ := hW; go_simp⟩) HS0.out ?_
                        try simp only [Act.put, List.setIfInBounds_toArray, List.set_cons_zero, List.set_cons_succ]
                        refine H_takeD (k := 2) (v := .slice (some ⟨bB, oB, none⟩) ns.length b) (d := some 67) rfl rfl (by decide +kernel) (fun _ _ _ h => h) (Or.inl ⟨by rfl, fun W hW => by obtain ⟨s0, s1, s2⟩ := hW; go_simp⟩) HS0.out ?_
                        try simp only [Act.put, List.setIfInBounds_toArray, List.set_cons_zero, List.set_cons_succ]
                        refine H_takeD (k := 3) (v := .int .i64 i) (d := some 68) rfl rfl (by decide +kernel) (fun _ _ _ h => h) (Or.inl ⟨by rfl, fun W hW => by obtain ⟨s0, s1, s2⟩ := hW; go_simp⟩) HS0.out ?_
                        try simp only [Act.put, List.setIfInBounds_toArray, List.set_cons_zero, List.set_cons_succ]
                        refine H_takeD (k := 4) (v := .pointer (some ⟨bB, oB + i * 3, none⟩)) (d := some 69) rfl rfl (by decide +kernel) (fun _ _ _ h => h) (Or.inl ⟨by rfl, fun W hW => by obtain ⟨s0, s1, s2⟩ := hW; go_simp⟩) HS0.out ?_
                        try simp only [Act.put, List.setIfInBounds_toArray, List.set_cons_zero, List.set_cons_succ]
                        refine H_takeD (k := 5) (v := .pointer (some ⟨bB, oB + i * 3, none⟩)) (d := some 70) rfl rfl (by decide +kernel) (fun _ _ _ h => h) (Or.inl ⟨by rfl, fun W hW => by obtain ⟨s0, s1, s2⟩ := hW; go_simp⟩) HS0.out ?_
                        try simp only [Act.put, List.setIfInBounds_toArray, List.set_cons_zero, List.set_cons_succ]
                        refine H_takeD (k := 6) (v := .int .i64 m0) (d := some 71) rfl rfl (by decide +kernel) (fun _ _ _ h => h) (Or.inl ⟨by rfl, fun W hW => by obtain ⟨s0, s1, s2⟩ := hW; go_simp⟩) HS0.out ?_
                        try simp only [Act.put, List.setIfInBounds_toArray, List.set_cons_zero, List.set_cons_succ]
                        refine H_takeD (k := 7) (v := .pointer (some ⟨S, 1, none⟩)) (d := some 72) rfl rfl (by decide +kernel) (fun _ _ _ h => h) (Or.inl ⟨by rfl, fun W hW => by obtain ⟨s0, s1, s2⟩ := hW; go_simp⟩) HS0.out ?_
                        try simp only [Act.put, List.setIfInBounds_toArray, List.set_cons_zero, List.set_cons_succ]
                        refine H_takeD (k := 8) (v := .slice (some ⟨bB, oB, none⟩) ns.length b) (d := some 73) rfl rfl (by decide +kernel) (fun _ _ _ h => h) (Or.inl ⟨by rfl, fun W hW => by obtain ⟨s0, s1, s2⟩ := hW; go_simp⟩) HS0.out ?_
                        try simp only [Act.put, List.setIfInBounds_toArray, List.set_cons_zero, List.set_cons_succ]
                        refine H_takeD (k := 9) (v := .int .i64 i) (d := some 74) rfl rfl (by decide +kernel) (fun _ _ _ h => h) (Or.inl ⟨by rfl, fun W hW => by obtain ⟨s0, s1, s2⟩ := hW; go_simp⟩) HS0.out ?_
                        try simp only [Act.put, List.setIfInBounds_toArray, List.set_cons_zero, List.set_cons_succ]
                        refine H_takeD (k := 10) (v := .pointer (some ⟨bB, oB + i * 3, none⟩)) (d := some 75) rfl rfl (by decide +kernel) (fun _ _ _ h => h) (Or.inl ⟨by rfl, fun W hW => by obtain ⟨s0, s1, s2⟩ := hW; go_simp⟩) HS0.out ?_
                        try simp only [Act.put, List.setIfInBounds_toArray, List.set_cons_zero, List.set_cons_succ]
                        refine H_takeD (k := 11) (v := .pointer (some ⟨bB, oB + i * 3 + 1, none⟩)) (d := some 76) rfl rfl (by decide +kernel) (fun _ _ _ h => h) (Or.inl ⟨by rfl, fun W hW => by obtain ⟨s0, s1, s2⟩ := hW; go_simp⟩) HS0.out ?_
                        try simp only [Act.put, List.setIfInBounds_toArray, List.set_cons_zero, List.set_cons_succ]
                        refine H_takeD (k := 12) (v := .int .i64 m1) (d := some 77) rfl rfl (by decide +kernel) (fun _ _ _ h => h) (Or.inl ⟨by rfl, fun W hW => by obtain ⟨s0, s1, s2⟩ := hW; go_simp⟩) HS0.out ?_
                        try simp only [Act.put, List.setIfInBounds_toArray, List.set_cons_zero, List.set_cons_succ]
                        refine H_takeD (k := 13) (v := .int .i64 (m0 + m1)) (d := some 78) rfl rfl (by decide +kernel) (fun _ _ _ h => h) (Or.inl ⟨by rfl, fun W hW => by obtain ⟨s0, s1, s2⟩ := hW; go_simp⟩) HS0.out ?_
                        try simp only [Act.put, List.setIfInBounds_toArray, List.set_cons_zero, List.set_cons_succ]
                        refine H_one (i := 14) (by decide +kernel) (H_step rfl rfl (fun K hK14 => ?_))
                        have hK14 := Lib.hid hK14
                        go_simp
                        have Ho1 := Lib.hid (Ho0.out.alloc (.cells #[.int .i64 (m0 + m1)] 3))
                        have Hn1 := Lib.hid (Bk.new X0 3 #[.int .i64 (m0 + m1)])
                        have HB1 := Lib.hid (HB0.out.alloc HB0.out.size (.cells #[.int .i64 (m0 + m1)] 3))
                        refine hK14.out _ _ (HSf.out _ HB1.out) ?_
                        try simp only [Act.put, List.setIfInBounds_toArray, List.set_cons_zero, List.set_cons_succ]
                        generalize X0.alloc (.cells #[.int .i64 (m0 + m1)] 3) = X1 at *
                        generalize X0.heap.size = h1 at *
                        refine H_one (i := 15) (by decide +kernel) (H_step rfl rfl (fun K hK15 => ?_))
                        have hK15 := Lib.hid hK15
                        refine app_wp3 (us := [.int .i64 (m0 + m1)]) (c := 1) (H := h1) (v := .slice AM L2.length cM) (.tmp 65) (.tmp 79) rfl elt_int.big (by simp [Act.eval]) (by simp [Act.eval]) Ho1.out Hn1.out rfl rfl (by omega) HB1.out.size ?_
                        intro v8 X2 hown8 hg8 _
                        obtain ⟨g8, c8, rfl, hg9, _⟩ := hown8.form (by omega)
                        have Ho2 := Lib.hid hown8
                        have HB2 := Lib.hid (HB1.out.grown hg8 HB1.out.size (fun q hq => (Ho1.out.lt q hq).1))
                        clear hown8 hg8
                        refine hK15.out _ _ (HSf.out _ HB2.out) ?_
                        try simp only [Act.put, List.setIfInBounds_toArray, List.set_cons_zero, List.set_cons_succ]
                        refine H_takeD (k := 16) (v := .slice (some ⟨g8, 0, none⟩) (L2.length + 1) c8) (d := some 7) rfl rfl (by decide +kernel) (fun _ _ _ h => h) (Or.inl ⟨by rfl, fun W hW => by obtain ⟨s0, s1, s2⟩ := hW; go_simp⟩) (HSf.out _ HB2.out) ?_
                        try simp only [Act.put, List.setIfInBounds_toArray, List.set_cons_zero, List.set_cons_succ]
                        refine H_end (by decide +kernel) (NoPanic.normal ?_)
                        try simp only [Act.put, List.setIfInBounds_toArray, List.set_cons_zero, List.set_cons_succ]
                        clear HB0 HB1 HS0 Ho0 Ho1 Hn1 hg1 c0 c1
                        have hg1 : X2.cell? ⟨S, 1, none⟩ = some (.slice (some ⟨bB, oB, none⟩) ns.length b) := (HSf.out _ HB2.out).1
                        have c0 : X2.cell? ⟨bB, oB + i * 3, none⟩ = some (.int .i64 m0) := (HSf.out _ HB2.out).2.1
                        have c1 : X2.cell? ⟨bB, oB + i * 3 + 1, none⟩ = some (.int .i64 m1) := (HSf.out _ HB2.out).2.2
                        obtain ⟨cur8, hc8, htk8⟩ := own_bk2 Ho2.out
                        have k1 := hc8.frozen L2.length
                        have k2 : X2.cell? ⟨g8, L2.length, none⟩ = some (.int .i64 (m0 + m1)) := by
                          obtain ⟨b9, o9, he, hc⟩ := SL.of_own Ho2.out L2.length (.int .i64 (m0 + m1)) (by simp)
                          injection he with he
                          injection he with he1 he2
                          subst he1 he2
                          rw [Nat.zero_add] at hc
                          exact hc.2
                        have Ho3 := Lib.hid (own_put (i := L2.length) Ho2.out (.int .i64 m1))
                        have hls : ((L2.map (Value.int .i64) ++ [Value.int .i64 (m0 + m1)]).set L2.length (Value.int .i64 m1)) = (L2 ++ [m1]).map (Value.int .i64) := by
                          rw [List.map_append]
                          simp [List.set_append_right]
                        rw [hls] at Ho3
                        have HB3 := Lib.hid (HB2.out.setCell (p := ⟨g8, L2.length, none⟩) hg9 (.int .i64 m1))
                        clear hls hc8 htk8 Ho2
                        go_wp2_with fail
                        go_roundw
                        case rel => exact ⟨i + 1, L2 ++ [m1], true, by omega, by go_num, rfl, HG3.out, Lib.hid ⟨fun h => (by cases h), fun _ => Hc.out⟩, by rw [List.length_append]; exact Ho3.out, HB3.out⟩
                        case measure => simp [intOf]; omega
                    | false =>
                      cases y with
                      | false => exact absurd rfl hxy
                      | true =>
                        have HG3 := Lib.hid (HGL2.out.add (x := m1) (y := m0) (of_decide_eq_true hy.out) (of_decide_eq_false hx.out) (by omega) (by omega) (hce.out h0).symm)
                        have Hc := Lib.hid (show L.length < (L2 ++ [m0]).length from by rw [List.length_append, List.length_singleton]; omega)
                        clear h0 hcl htk hx hy hce HGL2 hxy
                        go_wp2_with fail
                        refine wp_region_noPanic ?_
                        refine region_H (S := fun W => W.cell? ⟨S, 1, none⟩ = some (.slice (some ⟨bB, oB, none⟩) ns.length b) ∧ W.cell? ⟨bB, oB + i * 3, none⟩ = some (.int .i64 m0) ∧ W.cell? ⟨bB, oB + i * 3 + 1, none⟩ = some (.int .i64 m1)) (by kernel_rfl) ?_
                        change wpH _ _ _ _ 17 _ _ w5.drew
                        generalize w5.drew = X0 at *
                        refine H_takeD (k := 0) (v := .slice AM L2.length cM) (d := some 65) rfl rfl (by decide +kernel) (fun _ _ _ h => h) (Or.inl ⟨by rfl, fun W hW => by obtain ⟨s0, s1, s2⟩ := hW; go_simp⟩) HS0.out ?_
                        try simp only [Act.put, List.setIfInBounds_toArray, List.set_cons_zero, List.set_cons_succ]
                        refine H_takeD (k := 1) (v := .pointer (some ⟨S, 1, none⟩)) (d := some 66) rfl rfl (by decide +kernel) (fun _ _ _ h => h) (Or.inl ⟨by rfl, fun W hW => by obtain ⟨s0, s1, s2⟩ := hW; go_simp⟩) HS0.out ?_
                        try simp only [Act.put, List.setIfInBounds_toArray, List.set_cons_zero, List.set_cons_succ]
                        refine H_takeD (k := 2) (v := .slice (some ⟨bB, oB, none⟩) ns.length b) (d := some 67) rfl rfl (by decide +kernel) (fun _ _ _ h => h) (Or.inl ⟨by rfl, fun W hW => by obtain ⟨s0, s1, s2⟩ := hW; go_simp⟩) HS0.out ?_
                        try simp only [Act.put, List.setIfInBounds_toArray, List.set_cons_zero, List.set_cons_succ]
                        refine H_takeD (k := 3) (v := .int .i64 i) (d := some 68) rfl rfl (by decide +kernel) (fun _ _ _ h => h) (Or.inl ⟨by rfl, fun W hW => by obtain ⟨s0, s1, s2⟩ := hW; go_simp⟩) HS0.out ?_
                        try simp only [Act.put, List.setIfInBounds_toArray, List.set_cons_zero, List.set_cons_succ]
                        refine H_takeD (k := 4) (v := .pointer (some ⟨bB, oB + i * 3, none⟩)) (d := some 69) rfl rfl (by decide +kernel) (fun _ _ _ h => h) (Or.inl ⟨by rfl, fun W hW => by obtain ⟨s0, s1, s2⟩ := hW; go_simp⟩) HS0.out ?_
                        try simp only [Act.put, List.setIfInBounds_toArray, List.set_cons_zero, List.set_cons_succ]
                        refine H_takeD (k := 5) (v := .pointer (some ⟨bB, oB + i * 3, none⟩)) (d := some 70) rfl rfl (by decide +kernel) (fun _ _ _ h => h) (Or.inl ⟨by rfl, fun W hW => by obtain ⟨s0, s1, s2⟩ := hW; go_simp⟩) HS0.out ?_
                        try simp only [Act.put, List.setIfInBounds_toArray, List.set_cons_zero, List.set_cons_succ]
                        refine H_takeD (k := 6) (v := .int .i64 m0) (d := some 71) rfl rfl (by decide +kernel) (fun _ _ _ h => h) (Or.inl ⟨by rfl, fun W hW => by obtain ⟨s0, s1, s2⟩ := hW; go_simp⟩) HS0.out ?_
                        try simp only [Act.put, List.setIfInBounds_toArray, List.set_cons_zero, List.set_cons_succ]
                        refine H_takeD (k := 7) (v := .pointer (some ⟨S, 1, none⟩)) (d := some 72) rfl rfl (by decide +kernel) (fun _ _ _ h => h) (Or.inl ⟨by rfl, fun W hW => by obtain ⟨s0, s1, s2⟩ := hW; go_simp⟩) HS0.out ?_
                        try simp only [Act.put, List.setIfInBounds_toArray, List.set_cons_zero, List.set_cons_succ]
                        refine H_takeD (k := 8) (v := .slice (some ⟨bB, oB, none⟩) ns.length b) (d := some 73) rfl rfl (by decide +kernel) (fun _ _ _ h => h) (Or.inl ⟨by rfl, fun W hW => by obtain ⟨s0, s1, s2⟩ := hW; go_simp⟩) HS0.out ?_
                        try simp only [Act.put, List.setIfInBounds_toArray, List.set_cons_zero, List.set_cons_succ]
                        refine H_takeD (k := 9) (v := .int .i64 i) (d := some 74) rfl rfl (by decide +kernel) (fun _ _ _ h => h) (Or.inl ⟨by rfl, fun W hW => by obtain ⟨s0, s1, s2⟩ := hW; go_simp⟩) HS0.out ?_
                        try simp only [Act.put, List.setIfInBounds_toArray, List.set_cons_zero, List.set_cons_succ]
                        refine H_takeD (k := 10) (v := .pointer (some ⟨bB, oB + i * 3, none⟩)) (d := some 75) rfl rfl (by decide +kernel) (fun _ _ _ h => h) (Or.inl ⟨by rfl, fun W hW => by obtain ⟨s0, s1, s2⟩ := hW; go_simp⟩) HS0.out ?_
                        try simp only [Act.put, List.setIfInBounds_toArray, List.set_cons_zero, List.set_cons_succ]
                        refine H_takeD (k := 11) (v := .pointer (some ⟨bB, oB + i * 3 + 1, none⟩)) (d := some 76) rfl rfl (by decide +kernel) (fun _ _ _ h => h) (Or.inl ⟨by rfl, fun W hW => by obtain ⟨s0, s1, s2⟩ := hW; go_simp⟩) HS0.out ?_
                        try simp only [Act.put, List.setIfInBounds_toArray, List.set_cons_zero, List.set_cons_succ]
                        refine H_takeD (k := 12) (v := .int .i64 m1) (d := some 77) rfl rfl (by decide +kernel) (fun _ _ _ h => h) (Or.inl ⟨by rfl, fun W hW => by obtain ⟨s0, s1, s2⟩ := hW; go_simp⟩) HS0.out ?_
                        try simp only [Act.put, List.setIfInBounds_toArray, List.set_cons_zero, List.set_cons_succ]
                        refine H_takeD (k := 13) (v := .int .i64 (m0 + m1)) (d := some 78) rfl rfl (by decide +kernel) (fun _ _ _ h => h) (Or.inl ⟨by rfl, fun W hW => by obtain ⟨s0, s1, s2⟩ := hW; go_simp⟩) HS0.out ?_
                        try simp only [Act.put, List.setIfInBounds_toArray, List.set_cons_zero, List.set_cons_succ]
                        refine H_one (i := 14) (by decide +kernel) (H_step rfl rfl (fun K hK14 => ?_))
                        have hK14 := Lib.hid hK14
                        go_simp
                        have Ho1 := Lib.hid (Ho0.out.alloc (.cells #[.int .i64 (m0 + m1)] 3))
                        have Hn1 := Lib.hid (Bk.new X0 3 #[.int .i64 (m0 + m1)])
                        have HB1 := Lib.hid (HB0.out.alloc HB0.out.size (.cells #[.int .i64 (m0 + m1)] 3))
                        refine hK14.out _ _ (HSf.out _ HB1.out) ?_
                        try simp only [Act.put, List.setIfInBounds_toArray, List.set_cons_zero, List.set_cons_succ]
                        generalize X0.alloc (.cells #[.int .i64 (m0 + m1)] 3) = X1 at *
                        generalize X0.heap.size = h1 at *
                        refine H_one (i := 15) (by decide +kernel) (H_step rfl rfl (fun K hK15 => ?_))
                        have hK15 := Lib.hid hK15
                        refine app_wp3 (us := [.int .i64 (m0 + m1)]) (c := 1) (H := h1) (v := .slice AM L2.length cM) (.tmp 65) (.tmp 79) rfl elt_int.big (by simp [Act.eval]) (by simp [Act.eval]) Ho1.out Hn1.out rfl rfl (by omega) HB1.out.size ?_
                        intro v8 X2 hown8 hg8 _
                        obtain ⟨g8, c8, rfl, hg9, _⟩ := hown8.form (by omega)
                        have Ho2 := Lib.hid hown8
                        have HB2 := Lib.hid (HB1.out.grown hg8 HB1.out.size (fun q hq => (Ho1.out.lt q hq).1))
                        clear hown8 hg8
                        refine hK15.out _ _ (HSf.out _ HB2.out) ?_
                        try simp only [Act.put, List.setIfInBounds_toArray, List.set_cons_zero, List.set_cons_succ]
                        refine H_takeD (k := 16) (v := .slice (some ⟨g8, 0, none⟩) (L2.length + 1) c8) (d := some 7) rfl rfl (by decide +kernel) (fun _ _ _ h => h) (Or.inl ⟨by rfl, fun W hW => by obtain ⟨s0, s1, s2⟩ := hW; go_simp⟩) (HSf.out _ HB2.out) ?_
                        try simp only [Act.put, List.setIfInBounds_toArray, List.set_cons_zero, List.set_cons_succ]
                        refine H_end (by decide +kernel) (NoPanic.normal ?_)
                        try simp only [Act.put, List.setIfInBounds_toArray, List.set_cons_zero, List.set_cons_succ]
                        clear HB0 HB1 HS0 Ho0 Ho1 Hn1 hg1 c0 c1
                        have hg1 : X2.cell? ⟨S, 1, none⟩ = some (.slice (some ⟨bB, oB, none⟩) ns.length b) := (HSf.out _ HB2.out).1
                        have c0 : X2.cell? ⟨bB, oB + i * 3, none⟩ = some (.int .i64 m0) := (HSf.out _ HB2.out).2.1
                        have c1 : X2.cell? ⟨bB, oB + i * 3 + 1, none⟩ = some (.int .i64 m1) := (HSf.out _ HB2.out).2.2
                        obtain ⟨cur8, hc8, htk8⟩ := own_bk2 Ho2.out
                        have k1 := hc8.frozen L2.length
                        have k2 : X2.cell? ⟨g8, L2.length, none⟩ = some (.int .i64 (m0 + m1)) := by
                          obtain ⟨b9, o9, he, hc⟩ := SL.of_own Ho2.out L2.length (.int .i64 (m0 + m1)) (by simp)
                          injection he with he
                          injection he with he1 he2
                          subst he1 he2
                          rw [Nat.zero_add] at hc
                          exact hc.2
                        have Ho3 := Lib.hid (own_put (i := L2.length) Ho2.out (.int .i64 m0))
                        have hls : ((L2.map (Value.int .i64) ++ [Value.int .i64 (m0 + m1)]).set L2.length (Value.int .i64 m0)) = (L2 ++ [m0]).map (Value.int .i64) := by
                          rw [List.map_append]
                          simp [List.set_append_right]
                        rw [hls] at Ho3
                        have HB3 := Lib.hid (HB2.out.setCell (p := ⟨g8, L2.length, none⟩) hg9 (.int .i64 m0))
                        clear hls hc8 htk8 Ho2
                        go_wp2_with fail
                        go_roundw
                        case rel => exact ⟨i + 1, L2 ++ [m0], true, by omega, by go_num, rfl, HG3.out, Lib.hid ⟨fun h => (by cases h), fun _ => Hc.out⟩, by rw [List.length_append]; exact Ho3.out, HB3.out⟩
                        case measure => simp [intOf]; omega
              · obtain rfl : i = ns.length := by omega
                have Hc := Lib.hid (show g2 = false → Cl L2 ns from fun hg => by have h1 := hcl.out.1 hg; rw [List.take_length] at h1; rw [h1.1]; exact h1.2)
                have hms : 2 * (ws.length - L2.length) + bN (.bool g2) < 2 * (ws.length - L.length) + bN (.bool true) := by
                  cases g2 with
                  | false => rw [(hcl.out.1 rfl).1]; simp [bN]
                  | true => have := hcl.out.2 rfl; simp [bN]; omega
                clear hcl hGL hoL hbL HGL
                go_wp2_with fail
                go_roundw
                case rel => exact ⟨L2, g2, rfl, HGL2.out, Hc, HoL2.out, HbL2.out⟩
                case measure => exact hms
          | false =>
            have HL := Lib.hid (Hcl.out f L hGL (hCl.out rfl) hlt Hr.out)
            have hK0 := Lib.hid (RK.start HR.out hbL hoL)
            clear hGL hCl hoL hbL HR
            go_wp2_with fail
            go_loopw [4, 13, 14] (fun vd vs v w3 => ∃ (k : Nat) (V2 : Nat → Value) (ld l : List Int), k ≤ ws.length ∧ v = .int .i64 k ∧ RK S w w3 A B a b ws ns of f (.slice AO (rts of f).length cO) vd vs (.slice AL L.length cL) L ld l V2 ∧ Hid (ld = dn of ws.length f ++ pF of k f ∧ l = pF of k f)) (fun _ _ v _ => ws.length - (intOf v).toNat)
            case atStart => exact ⟨0, _, _, _, by omega, rfl, hK0.out, Lib.hid ⟨by rw [show pF of 0 f = [] from rfl, List.append_nil], rfl⟩⟩
            case round =>
              clear hK0
              obtain ⟨k, V2, ld, l, hk, rfl, hK, hE⟩ := hrel
              obtain ⟨AE, cE, rfl⟩ := own_slice hK.own_done
              obtain ⟨AS, cS, rfl⟩ := own_slice hK.own_sort
              have HK := Lib.hid hK
              have hg0 : wr.cell? ⟨S, 0, none⟩ = some (.slice A ws.length a) := hK.g.cell 0
              have k0 : (0 : Int) ≤ (k : Int) := by omega
              have hpl := pF_len of k f
              have hdl3 : ld.length ≤ 16781312 := by rw [hE.out.1, List.length_append]; omega
              have hll : l.length ≤ k := by rw [hE.out.2]; exact hpl
              by_cases hlk : k < ws.length
              · have Hh := Lib.hid (has_any AL cL L (k : Int) wr (own_si hK.own_list) (by omega))
                have hi := HL.out k hlk
                have hps := pF_succ of f k
                clear hK
                by_cases hin : of.getD k 0 = (f : Int)
                · have hyes : decide ((k : Int) ∈ L) = true := decide_eq_true (hi.2 hin)
                  have hip : inP of f k = true := by
                    have : k ≠ 0 := fun e => by
                      rw [e, cn_zero' HCm.out.cn (by omega)] at hin
                      omega
                    simp [inP, this]
                    simpa [List.getD] using hin
                  rw [hyes] at Hh
                  rw [if_pos hip] at hps
                  have Hps := Lib.hid hps
                  clear hyes hip hin hi hps
                  go_wp2_with fail
                  refine (Hh.out).mono ?_
                  rintro e w4 ⟨rfl, hq⟩
                  have HK4 := Lib.hid (HK.out.below (hq.below _))
                  clear Hh hq hg0 HK
                  have hz4 := HK4.out.z
                  have hos := Lib.hid HK4.out.own_sort
                  go_upto_region 31 with (at_builtin; refine wpList_app3 (w := w4) rfl _ _ rfl elt_int.big hos.out hz4 rfl rfl (by simp) rfl rfl (by omega) ?_; intro v5 w5 hown5 hg5 hv5 hz5)
                  have HK5 := Lib.hid (HK4.out.appS (x := (k : Int)) hg5 (by rw [List.map_append]; exact hown5) hv5)
                  obtain ⟨l2, hl2⟩ : ∃ z, Hid (l ++ [(k : Int)] = z) := ⟨_, Lib.hid rfl⟩
                  rw [hl2.out] at HK5
                  have hod := Lib.hid HK5.out.own_done
                  have hz6 := HK5.out.z
                  clear HK4 hos hown5 hg5 hv5
                  go_wp2_with (at_builtin; refine wpList_app3 (w := w5) rfl _ _ rfl elt_int.big hod.out hz6 rfl rfl (by simp) rfl rfl (by omega) ?_; intro v6 w6 hown6 hg6 hv6 hz7; have HK6 := Lib.hid (HK5.out.appD (x := (k : Int)) hg6 (by rw [List.map_append]; exact hown6) hv6); clear HK5 hod hown6 hg6 hv6)
                  go_roundw
                  case rel => exact ⟨k + 1, _, _, _, by omega, by go_num, HK6.out, Lib.hid ⟨by rw [hE.out.1, List.append_assoc, ← Hps.out], by rw [← hl2.out, hE.out.2, ← Hps.out]⟩⟩
                  case measure => simp [intOf]; omega
                · have hno : decide ((k : Int) ∈ L) = false := decide_eq_false (fun h => hin (hi.1 h))
                  have hip : ¬ inP of f k = true := by
                    simp [inP]
                    intro _
                    simpa [List.getD] using hin
                  rw [hno] at Hh
                  rw [if_neg hip, List.append_nil] at hps
                  have Hps := Lib.hid hps
                  have HK2 := Lib.hid HK.out
                  clear hno hip hin hi hps HK
                  go_wp2_with fail
                  refine (Hh.out).mono ?_
                  rintro e w4 ⟨rfl, hq⟩
                  have HK3 := Lib.hid (HK2.out.below (hq.below _))
                  clear Hh hq hg0 HK2
                  go_wp2_with fail
                  go_roundw
                  case rel => exact ⟨k + 1, V2, ld, l, by omega, by go_num, HK3.out, Lib.hid ⟨by rw [hE.out.1, Hps.out], by rw [hE.out.2, Hps.out]⟩⟩
                  case measure => simp [intOf]; omega
              · obtain rfl : k = ws.length := by omega
                have hz6 := HK.out.z
                have hrl := rts_len of f
                have hoo := Lib.hid HK.out.out
                clear hK
                go_wp2_with (at_builtin; refine wpList_app3 (w := wr) rfl _ _ rfl elt_lists.big hoo.out hz6 rfl rfl (by simp) rfl rfl (by omega) ?_; intro v7 w7 hown7 hg7 hv7 hz7)
                have HK' := HK.out
                rw [hE.out.1, hE.out.2] at HK'
                have HR9 := Lib.hid (HK'.fin (by omega) Hr.out hg7 (by rw [← hE.out.2]; exact hown7))
                clear HK hoo hown7 hg7 hv7
                go_roundw
                case rel => exact ⟨f + 1, V2, by omega, by omega, by go_num, by rw [hE.out.1]; exact HR9.out⟩
                case measure => simp [intOf]; omega
      · have hyes : decide ((f : Int) ∈ dn of ws.length f) = true := decide_eq_true (Hm.out.2 hr)
        rw [hyes] at Hhas
        have HR2 := Lib.hid (hR.skip hr)
        clear hR hdl hyes Hm hr HR
        go_wp2_with fail
        refine (Hhas.out).mono ?_
        rintro e wf ⟨rfl, hq⟩
        have HR2 := Lib.hid (HR2.out.below (hq.below _))
        clear Hhas hq hg0
        go_wp2_with fail
        go_roundw
        case rel => exact ⟨f + 1, V, by omega, by omega, by go_num, HR2.out⟩
        case measure => simp [intOf]; omega
    · have hrt : rts of ws.length = rts of f := by
        by_cases h0 : ws.length = f
        · rw [h0]
        · rw [show ws.length = 0 by omega, show f = 1 by omega, (dn_one of 0).2]; rfl
      obtain ⟨AO, cO, rfl⟩ := own_slice hR.out
      have Hs := Lib.hid (hR.sll rfl)
      have Hb := Lib.hid hR.bl
      have Hrt := Lib.hid hrt
      clear hR HR hrt
      go_wp2_with fail
      go_ret
      exact ⟨AO, cO, by rw [Hrt.out, List.length_map]; rfl, by rw [Hrt.out]; exact Hs.out, HSz.out ▸ Hb.out⟩
end Go.Proofs.Ytmdgdphhedgojaa

namespace Go.Proofs.Ytmdgdphhedgojaa
open Go.RowKit Go.Maps

theorem elt_rgraph : Elt Try.prog 33 30 (.agg #[.slice none 0 0, .slice none 0 0]) 2 48 := Elt.mk' Try.underlying33 (by kernel_rfl) (by decide) (by decide) rfl
set_option maxRecDepth 100000 in
theorem neq_tri2 (x y z x' y' z' : Int) (W : World) : (binOp .neq 52 (.agg #[.int .i64 x, .int .i64 y, .int .i64 z]) (.agg #[.int .i64 x', .int .i64 y', .int .i64 z'])).run Try.prog W = .ok (.bool (!(x == x' && (y == y' && z == z')))) W := by
  obtain ⟨i, hi, h1, h2, _⟩ := info_parts (P := Try.prog) (e := 3) (by kernel_rfl : ((Try.prog).info? 3).map (fun i => (i.zero, i.size, i.bytes)) = some (some (.int .i64 0), 1, 8))
  have h := run_equalIn_array (P := Try.prog) W 9999 #[.int .i64 x, .int .i64 y, .int .i64 z] #[.int .i64 x', .int .i64 y', .int .i64 z'] under_tri hi
  rw [run_neq_struct, show (10000 : Nat) = 9999 + 1 from rfl, h]
  have hc : (Try.prog).cellsOf 3 = 1 := by kernel_rfl
  have ha := Try.isAgg3
  have hu3 := Try.underlying3
  rw [hc]
  by_cases e1 : x = x'
  · by_cases e2 : y = y'
    · by_cases e3 : z = z'
      · simp [Op.eqItems, List.range, List.range.loop, part, ha, run_equalIn_int W 9998 3 .i64 .i64 _ _ hu3, e1, e2, e3]
      · simp [Op.eqItems, List.range, List.range.loop, part, ha, run_equalIn_int W 9998 3 .i64 .i64 _ _ hu3, e1, e2, e3]
    · simp [Op.eqItems, List.range, List.range.loop, part, ha, run_equalIn_int W 9998 3 .i64 .i64 _ _ hu3, e1, e2]
  · simp [Op.eqItems, List.range, List.range.loop, part, ha, run_equalIn_int W 9998 3 .i64 .i64 _ _ hu3, e1]

set_option maxHeartbeats 2000000 in
set_option maxRecDepth 100000 in
theorem same2_any (A B C D : Option Addr) (a b c d : Nat) (ws ws' : List Int) (ns ns' : List (Int × Int × Int)) (w : World) (hA : SI w A ws) (hB : ST w B ns) (hC : SI w C ws') (hD : ST w D ns') (hl1 : ws.length ≤ 1099511627776) (hl2 : ns.length ≤ 1099511627776) (hl3 : ws'.length ≤ 1099511627776) :
    Calls Try.prog 28 #[.agg #[.slice A ws.length a, .slice B ns.length b], .agg #[.slice C ws'.length c, .slice D ns'.length d]] w fun e w' => e = .returned (.bool (decide ((ws, ns) = (ws', ns')))) ∧ Below w.heap.size w w' := by
  have hbk := (Bk.new w 30 #[.slice A ws.length a, .slice B ns.length b]).alloc (.cells #[.slice C ws'.length c, .slice D ns'.length d] 30)
  have hbr := Bk.new' (w.alloc (.cells #[.slice A ws.length a, .slice B ns.length b] 30)) 30 #[.slice C ws'.length c, .slice D ns'.length d] (g := w.heap.size + 1) (by simp)
  have hb0 : Below w.heap.size w ((w.alloc (.cells #[.slice A ws.length a, .slice B ns.length b] 30)).alloc (.cells #[.slice C ws'.length c, .slice D ns'.length d] 30)) := ((Below.refl _ _).alloc (Nat.le_refl _) _).alloc (by simp) _
  obtain ⟨R, hR⟩ : ∃ z, Hid (decide ((ws, ns) = (ws', ns')) = z) := ⟨_, Lib.hid rfl⟩
  rw [hR.out]
  go_enter Try.func28, Try.ntmps28
  go_wp2_with fail
  generalize (w.alloc (.cells #[.slice A ws.length a, .slice B ns.length b] 30)).alloc (.cells #[.slice C ws'.length c, .slice D ns'.length d] 30) = W0 at *
  refine (sameInts_any A C a c ws ws' W0 (hA.below hb0) (hC.below hb0) (by omega) (by omega)).mono ?_
  rintro e w1 ⟨he, hq⟩
  have Hbk := Lib.hid (hbk.qt hq)
  have Hbr := Lib.hid (hbr.qt hq)
  have Hb := Lib.hid (hq.bl hb0)
  have HB := Lib.hid (hB.below Hb.out)
  have HD := Lib.hid (hD.below Hb.out)
  have hc1 : w1.cell? ⟨w.heap.size, 1, none⟩ = some (.slice B ns.length b) := Hbk.out.cell 1
  have hd1 : w1.cell? ⟨w.heap.size + 1, 1, none⟩ = some (.slice D ns'.length d) := Hbr.out.cell 1
  by_cases hw : ws = ws'
  · rw [decide_eq_true hw] at he
    subst he
    have Hw := Lib.hid hw
    clear hw hA hB hC hD hbk hbr hb0 hq
    by_cases hln : ns.length = ns'.length
    · have Hln := Lib.hid hln
      have hlc : ((ns.length : Int) != (ns'.length : Int)) = false := by rw [hln]; simp
      clear hln
      go_wp2_with fail
      go_loopw [6] (fun i wr => ∃ k : Nat, k ≤ ns.length ∧ i = .int .i64 k ∧ Hid (ns.take k = ns'.take k) ∧ Qt w1 wr) (fun i _ => ns.length - (intOf i).toNat)
      case atStart => exact ⟨0, by omega, rfl, Lib.hid (by simp), Qt.refl _⟩
      case round =>
        obtain ⟨k, hk, rfl, hpre, hq⟩ := hrel
        obtain ⟨n, rfl⟩ := hq
        by_cases hlt : k < ns.length
        · have hlt2 : k < ns'.length := by rw [← Hln.out]; exact hlt
          obtain ⟨b1, o1, x, y, z, rfl, c0, c1, c2, hx⟩ := HB.out.get (k := k) hlt
          obtain ⟨b2, o2, x', y', z', rfl, d0, d1, d2, hx'⟩ := HD.out.get (k := k) hlt2
          have i0 : (0 : Int) ≤ (k : Int) := by omega
          have hne := neq_tri2 x y z x' y' z'
          have heg : (Try.prog).eqGuardType (Try.prog).depth 52 = false := by kernel_rfl
          by_cases hxy : x = x' ∧ y = y' ∧ z = z'
          · have hbt : (!(x == x' && (y == y' && z == z'))) = false := by simp [hxy]
            rw [hbt] at hne
            have Hpre2 := Lib.hid (show ns.take (k + 1) = ns'.take (k + 1) from by rw [take_snoc' hx.out, take_snoc' hx'.out, hpre.out, hxy.1, hxy.2.1, hxy.2.2])
            clear hxy hbt hpre hx hx'
            go_wp2_with fail
            go_quiet (fail)
            go_wp2_with fail
            go_roundw
            case rel => exact ⟨k + 1, by omega, by go_num, Hpre2, by first | exact Qt.drewN ⟨n, rfl⟩ _ | exact ⟨_, rfl⟩⟩
            case measure => simp [intOf]; omega
          · have hbt : (!(x == x' && (y == y' && z == z'))) = true := by simp; omega
            rw [hbt] at hne
            have hRf := Lib.hid (show R = false from by
              rw [← hR.out]
              refine decide_eq_false (fun h => hxy ?_)
              injection h with _ h2
              have h3 := hx.out
              rw [h2, hx'.out] at h3
              injection h3 with h3
              injection h3 with h4 h5
              injection h5 with h5 h6
              exact ⟨h4.symm, h5.symm, h6.symm⟩)
            clear hxy hbt hpre hx hx'
            go_wp2_with fail
            go_quiet (fail)
            go_wp2_with fail
            go_ret
            exact ⟨by rw [hRf.out]; rfl, by first | exact below_drewN (below_drewN Hb.out _) _ | exact below_drewN Hb.out _⟩
        · have hRt := Lib.hid (show R = true from by
            obtain rfl : k = ns.length := by omega
            have h1 := hpre.out
            rw [List.take_length, Hln.out, List.take_length] at h1
            rw [← hR.out]
            exact decide_eq_true (by rw [Hw.out, h1]))
          clear hpre
          go_wp2_with fail
          go_ret
          exact ⟨by rw [hRt.out]; rfl, below_drewN Hb.out n⟩
    · have hlc : ((ns.length : Int) != (ns'.length : Int)) = true := by simp; omega
      have hRf := Lib.hid (show R = false from by
        rw [← hR.out]
        exact decide_eq_false (fun h => by
          injection h with _ h2
          exact hln (by rw [h2])))
      clear hln
      go_wp2_with fail
      go_ret
      exact ⟨by rw [hRf.out]; rfl, Hb.out⟩
  · rw [decide_eq_false hw] at he
    subst he
    have hRf := Lib.hid (show R = false from by
      rw [← hR.out]
      exact decide_eq_false (fun h => by
        injection h with h1 _
        exact hw h1))
    clear hw hA hB hC hD hbk hbr hb0 hq hc1 hd1
    go_wp2_with fail
    go_ret
    exact ⟨by rw [hRf.out]; rfl, Hb.out⟩

/-- Inputs, in rows of their own. -/
structure RI (S : Nat) (w0 W : World) (vo : Value) (k : Nat) (ds : List (List Int × List Int × List (Int × Int × Int))) (vs : List Value) : Prop where
  out : W.ownsRow S 30 2 vo k vs
  el : ∀ (j : Nat) d, j < k → ds[j]? = some d → ∃ A a B b, vs[j * 2]? = some (.slice A d.2.1.length a) ∧ vs[j * 2 + 1]? = some (.slice B d.2.2.length b) ∧ W.ownsRow S 3 1 (.slice A d.2.1.length a) d.2.1.length (d.2.1.map (Value.int .i64)) ∧ W.ownsRow S 52 3 (.slice B d.2.2.length b) d.2.2.length (triC d.2.2)
  bl : Below S w0 W
  z : S ≤ W.heap.size
section
variable {S : Nat} {w0 W W' : World} {vo : Value} {k : Nat} {ds : List (List Int × List Int × List (Int × Int × Int))} {vs : List Value}
theorem RI.below (h : RI S w0 W vo k ds vs) (hb : Below W.heap.size W W') : RI S w0 W' vo k ds vs := ⟨own_below h.out hb, fun j d hj hd => by
  obtain ⟨A, a, B, b, e1, e2, o1, o2⟩ := h.el j d hj hd
  exact ⟨A, a, B, b, e1, e2, own_below o1 hb, own_below o2 hb⟩, h.bl.trans (hb.mono h.z), Nat.le_trans h.z hb.size⟩
theorem RI.push (h : RI S w0 W vo k ds vs) {d : List Int × List Int × List (Int × Int × Int)} (hd : ds[k]? = some d) {A B : Option Addr} {a b : Nat} (o1 : W.ownsRow S 3 1 (.slice A d.2.1.length a) d.2.1.length (d.2.1.map (Value.int .i64))) (o2 : W.ownsRow S 52 3 (.slice B d.2.2.length b) d.2.2.length (triC d.2.2))
    {vo' : Value} (hg : W.grownBy W' vo.ownBlock) (ho : W'.ownsRow S 30 2 vo' (k + 1) (vs ++ [.slice A d.2.1.length a, .slice B d.2.2.length b])) : RI S w0 W' vo' (k + 1) ds (vs ++ [.slice A d.2.1.length a, .slice B d.2.2.length b]) := by
  have hvl := h.out.1
  refine ⟨ho, fun j e hj he => ?_, h.bl.grown hg h.z (fun q hq => (h.out.lt q hq).1), Nat.le_trans h.z hg.size⟩
  by_cases hjk : j = k
  · subst hjk
    rw [hd] at he
    obtain rfl := Option.some.inj he
    refine ⟨A, a, B, b, ?_, ?_, own_grown o1 hg (own_ne o1 h.out (by decide)), own_grown o2 hg (own_ne o2 h.out (by decide))⟩
    · rw [List.getElem?_append_right (by omega), hvl, Nat.sub_self]; rfl
    · rw [List.getElem?_append_right (by omega), hvl, show j * 2 + 1 - j * 2 = 1 by omega]; rfl
  · obtain ⟨A', a', B', b', e1, e2, p1, p2⟩ := h.el j e (by omega) he
    refine ⟨A', a', B', b', ?_, ?_, own_grown p1 hg (own_ne p1 h.out (by decide)), own_grown p2 hg (own_ne p2 h.out (by decide))⟩
    · rw [List.getElem?_append_left (by omega)]; exact e1
    · rw [List.getElem?_append_left (by omega)]; exact e2
theorem RI.at_ {g c : Nat} (h : RI S w0 W (.slice (some ⟨g, 0, none⟩) k c) k ds vs) {j : Nat} {d : List Int × List Int × List (Int × Int × Int)} (hj : j < k) (hd : ds[j]? = some d) : ∃ A a B b, W.cell? ⟨g, j * 2, none⟩ = some (.slice A d.2.1.length a) ∧ W.cell? ⟨g, j * 2 + 1, none⟩ = some (.slice B d.2.2.length b) ∧ SI W A d.2.1 ∧ ST W B d.2.2 := by
  obtain ⟨A, a, B, b, e1, e2, o1, o2⟩ := h.el j d hj hd
  have hs := SL.of_own h.out
  obtain ⟨b1, q1, f1, _, c1⟩ := hs _ _ e1
  obtain ⟨b2, q2, f2, _, c2⟩ := hs _ _ e2
  injection f1 with f1
  injection f1 with f1 f1'
  injection f2 with f2
  injection f2 with f2 f2'
  subst f1 f1' f2 f2'
  rw [Nat.zero_add] at c1 c2
  exact ⟨A, a, B, b, c1, c2, own_si o1, SL.of_own o2⟩
end

set_option linter.unusedSimpArgs false in
set_option maxHeartbeats 8000000 in
set_option maxRecDepth 100000 in
theorem refInputs_any (A B : Option Addr) (a b : Nat) (ws : List Int) (ns : List (Int × Int × Int)) (w : World) (hA : SI w A ws) (hB : ST w B ns) (hv : validE ws ns = 0) :
    Calls Try.prog 43 #[.agg #[.slice A ws.length a, .slice B ns.length b]] w fun e w' => ∃ D m vs, e = .returned (.slice D (partsD ws ns).length m) ∧ RI w.heap.size w w' (.slice D (partsD ws ns).length m) (partsD ws ns).length (partsD ws ns) vs := by
  obtain ⟨S, hSz⟩ : ∃ S, w.heap.size = S := ⟨_, rfl⟩
  have HA := Lib.hid (fun (W : World) (hW : Below S w W) => (hA.below (hSz.symm ▸ hW) : SI W A ws))
  have HB := Lib.hid (fun (W : World) (hW : Below S w W) => (hB.below (hSz.symm ▸ hW) : ST W B ns))
  have hg := GV.of hv
  have n1 := hg.n1
  have n2 := hg.n2
  have Hv := Lib.hid hv
  have Hsh := Lib.hid (fun r => shut_part (validE_eok hv) r)
  clear hA hB hv hg
  obtain ⟨ds, hds⟩ : ∃ ds, Hid (partsD ws ns = ds) := ⟨_, Lib.hid rfl⟩
  have Hfl := Lib.hid (show (facesOf (partsD ws ns)).length = ds.length from by rw [hds.out, facesOf, List.length_map])
  have hdl : ds.length ≤ 4096 := by rw [← hds.out, partsD, partsO, List.length_map]; have := rts_len (comp ns ws.length) ws.length; omega
  rw [hds.out]
  go_enter Try.func43, Try.ntmps43
  have hb0 : Below S w (w.alloc (.cells #[.slice A ws.length a, .slice B ns.length b] 30)) := hSz ▸ (Below.refl _ _).alloc (Nat.le_refl _) _
  have hbG : Bk (w.alloc (.cells #[.slice A ws.length a, .slice B ns.length b] 30)) S 30 #[.slice A ws.length a, .slice B ns.length b] := Bk.new' _ _ _ hSz
  have hg0 : (w.alloc (.cells #[.slice A ws.length a, .slice B ns.length b] 30)).cell? ⟨w.heap.size, 0, none⟩ = some (.slice A ws.length a) := hSz ▸ hbG.cell 0
  have hg1 : (w.alloc (.cells #[.slice A ws.length a, .slice B ns.length b] 30)).cell? ⟨w.heap.size, 1, none⟩ = some (.slice B ns.length b) := hSz ▸ hbG.cell 1
  go_wp2_with fail
  generalize w.alloc (.cells #[.slice A ws.length a, .slice B ns.length b] 30) = W0 at *
  clear hg0 hg1
  refine (refParts_any A B a b ws ns W0 (HA.out _ hb0) (HB.out _ hb0) Hv.out).mono ?_
  rintro e w1 ⟨D, m, rfl, hsl, hb1⟩
  have hz0 : S ≤ W0.heap.size := by have := hb0.size; omega
  have Hb1 := Lib.hid (hb0.trans (hb1.mono hz0))
  have Hg1 := Lib.hid (hbG.below hb1 hbG.lt)
  have HL := Lib.hid (fun (W : World) (hW : Below w1.heap.size w1 W) => hsl.below hW)
  have HSz := Lib.hid hSz
  clear hb0 hbG hsl hb1 hSz
  rw [Hfl.out]
  have hz1 : S ≤ w1.heap.size := by have := Hb1.out.size; have := HSz.out; omega
  go_wp2_with fail
  have hri0 : RI w1.heap.size w1 w1 (.slice none 0 0) 0 ds [] := ⟨World.ownsRow_nil _ _ _ _, fun j d hj => by omega, Below.refl _ _, Nat.le_refl _⟩
  go_loopw [3, 5] (fun vo v wr => ∃ (k : Nat) (vs : List Value), k ≤ ds.length ∧ v = .int .i64 k ∧ RI w1.heap.size w1 wr vo k ds vs) (fun _ v _ => ds.length - (intOf v).toNat)
  case atStart => exact ⟨0, [], by omega, rfl, hri0⟩
  case round =>
    clear hri0
    obtain ⟨k, vs, hk, rfl, hR⟩ := hrel
    obtain ⟨AO, cO, rfl⟩ := own_slice hR.out
    have HR := Lib.hid hR
    have k0 : (0 : Int) ≤ (k : Int) := by omega
    by_cases hlt : k < ds.length
    · obtain ⟨bD, oD, BF, cF, Fl, rfl, hcD, hsF, hFl⟩ := (HL.out w1 (Below.refl _ _)).get (k := k) (by rw [Hfl.out]; exact hlt)
      obtain ⟨Wl, Nl, hd⟩ : ∃ (Wl : List Int) (Nl : List (Int × Int × Int)), ds[k]? = some (Fl, Wl, Nl) := by
        have h1 := hFl.out
        rw [hds.out, facesOf, List.getElem?_map] at h1
        cases hx : ds[k]? with
        | none => rw [hx] at h1; cases h1
        | some d =>
          obtain ⟨f0, W0, N0⟩ := d
          rw [hx] at h1
          obtain rfl : f0 = Fl := Option.some.inj h1
          exact ⟨W0, N0, rfl⟩
      obtain ⟨r, _, hFe, hWe, hNe⟩ := partsD_at (show (partsD ws ns)[k]? = some (Fl, Wl, Nl) by rw [hds.out]; exact hd)
      have HSf := Lib.hid (fun (W : World) (hW : Below w1.heap.size w1 W) => show W.cell? ⟨S, 0, none⟩ = some (.slice A ws.length a) ∧ W.cell? ⟨S, 1, none⟩ = some (.slice B ns.length b) ∧ W.cell? ⟨bD, oD + k, none⟩ = some (.slice BF Fl.length cF) from ⟨(Hg1.out.below hW Hg1.out.lt).cell 0, (Hg1.out.below hW Hg1.out.lt).cell 1, cell_far hcD hW⟩)
      have HIn := Lib.hid (fun (W : World) (hW : Below w1.heap.size w1 W) => show Calls Try.prog 21 #[.agg #[.slice A ws.length a, .slice B ns.length b], .slice BF Fl.length cF] W fun e w' => ∃ A1 a1 B1 b1, e = .returned (.agg #[.slice A1 Wl.length a1, .slice B1 Nl.length b1]) ∧
          w'.ownsRow W.heap.size 3 1 (.slice A1 Wl.length a1) Wl.length (Wl.map (Value.int .i64)) ∧ w'.ownsRow W.heap.size 52 3 (.slice B1 Nl.length b1) Nl.length (triC Nl) ∧ Below W.heap.size W w' from by
        have h := refInput_any A B BF a b cF ws ns (inP (comp ns ws.length) r) W (HA.out _ (Hb1.out.trans (hW.mono hz1))) (HB.out _ (Hb1.out.trans (hW.mono hz1))) (by have := hsF.below hW; rw [hFe] at this; exact this) (Hsh.out r) n1 n2
        have e1 : flI (inP (comp ns ws.length) r) ws.length = Fl := hFe.symm
        rw [e1, ← hWe, ← hNe] at h
        exact h)
      have Hd := Lib.hid hd
      have HB0 := Lib.hid ((Below.refl wr.heap.size wr).drew)
      have HX0 := Lib.hid (hR.bl.drew)
      have HR0 := Lib.hid (hR.below HB0.out)
      clear hcD hsF hFl hd hFe hWe hNe hR HR
      go_wp2_with fail
      refine wp_region_noPanic ?_
      refine region_H (S := fun W => W.cell? ⟨S, 0, none⟩ = some (.slice A ws.length a) ∧ W.cell? ⟨S, 1, none⟩ = some (.slice B ns.length b) ∧ W.cell? ⟨bD, oD + k, none⟩ = some (.slice BF Fl.length cF)) (by kernel_rfl) ?_
      change wpH _ _ _ _ 10 _ _ wr.drew
      generalize wr.drew = X0 at *
      refine H_takeD (k := 0) (v := .slice AO k cO) (d := some 14) rfl rfl (by decide +kernel) (fun _ _ _ h => h) (Or.inl ⟨by rfl, fun W hW => by obtain ⟨s0, s1, s2⟩ := hW; go_simp⟩) (HSf.out _ HX0.out) ?_
      try simp only [Act.put, List.setIfInBounds_toArray, List.set_cons_zero, List.set_cons_succ]
      refine H_takeD (k := 1) (v := .agg #[.slice A ws.length a, .slice B ns.length b]) (d := some 15) rfl rfl (by decide +kernel) (fun _ _ _ h => h) (Or.inl ⟨by rfl, fun W hW => by obtain ⟨s0, s1, s2⟩ := hW; go_simp⟩) (HSf.out _ HX0.out) ?_
      try simp only [Act.put, List.setIfInBounds_toArray, List.set_cons_zero, List.set_cons_succ]
      refine H_takeD (k := 2) (v := .slice (some ⟨bD, oD, none⟩) ds.length m) (d := some 16) rfl rfl (by decide +kernel) (fun _ _ _ h => h) (Or.inl ⟨by rfl, fun W hW => by obtain ⟨s0, s1, s2⟩ := hW; go_simp⟩) (HSf.out _ HX0.out) ?_
      try simp only [Act.put, List.setIfInBounds_toArray, List.set_cons_zero, List.set_cons_succ]
      refine H_takeD (k := 3) (v := .int .i64 k) (d := some 17) rfl rfl (by decide +kernel) (fun _ _ _ h => h) (Or.inl ⟨by rfl, fun W hW => by obtain ⟨s0, s1, s2⟩ := hW; go_simp⟩) (HSf.out _ HX0.out) ?_
      try simp only [Act.put, List.setIfInBounds_toArray, List.set_cons_zero, List.set_cons_succ]
      refine H_takeD (k := 4) (v := .pointer (some ⟨bD, oD + k, none⟩)) (d := some 18) rfl rfl (by decide +kernel) (fun _ _ _ h => h) (Or.inl ⟨by rfl, fun W hW => by obtain ⟨s0, s1, s2⟩ := hW; go_simp⟩) (HSf.out _ HX0.out) ?_
      try simp only [Act.put, List.setIfInBounds_toArray, List.set_cons_zero, List.set_cons_succ]
      refine H_takeD (k := 5) (v := .slice BF Fl.length cF) (d := some 19) rfl rfl (by decide +kernel) (fun _ _ _ h => h) (Or.inl ⟨by rfl, fun W hW => by obtain ⟨s0, s1, s2⟩ := hW; go_simp⟩) (HSf.out _ HX0.out) ?_
      try simp only [Act.put, List.setIfInBounds_toArray, List.set_cons_zero, List.set_cons_succ]
      refine H_one (i := 6) (by decide +kernel) (H_step rfl rfl (fun K hK6 => ?_))
      have hK6 := Lib.hid hK6
      go_simp
      go_at_call 21
      refine (HIn.out _ HX0.out).mono ?_
      rintro e X1 ⟨A1, a1, B1, b1, rfl, ho1, ho2, hb⟩
      have HR1 := Lib.hid (HR0.out.below hb)
      have Hp1 := Lib.hid (own_mono ho1 HR0.out.z)
      have Hp2 := Lib.hid (own_mono ho2 HR0.out.z)
      have HX1 := Lib.hid HR1.out.bl
      clear ho1 ho2 hb
      refine hK6.out _ _ (HSf.out _ HX1.out) ?_
      try simp only [Act.put, List.setIfInBounds_toArray, List.set_cons_zero, List.set_cons_succ]
      refine H_one (i := 7) (by decide +kernel) (H_step rfl rfl (fun K hK7 => ?_))
      have hK7 := Lib.hid hK7
      go_simp
      have HR2 := Lib.hid (HR1.out.below ((Below.refl _ _).alloc (Nat.le_refl _) (.cells #[.slice A1 Wl.length a1, .slice B1 Nl.length b1] 30)))
      have Hq1 := Lib.hid (Hp1.out.alloc (.cells #[.slice A1 Wl.length a1, .slice B1 Nl.length b1] 30))
      have Hq2 := Lib.hid (Hp2.out.alloc (.cells #[.slice A1 Wl.length a1, .slice B1 Nl.length b1] 30))
      have Hn2 := Lib.hid (Bk.new X1 30 #[.slice A1 Wl.length a1, .slice B1 Nl.length b1])
      have HX2 := Lib.hid HR2.out.bl
      refine hK7.out _ _ (HSf.out _ HX2.out) ?_
      try simp only [Act.put, List.setIfInBounds_toArray, List.set_cons_zero, List.set_cons_succ]
      generalize X1.alloc (.cells #[.slice A1 Wl.length a1, .slice B1 Nl.length b1] 30) = X2 at *
      generalize X1.heap.size = h1 at *
      refine H_one (i := 8) (by decide +kernel) (H_step rfl rfl (fun K hK8 => ?_))
      have hK8 := Lib.hid hK8
      refine app_wp3 (us := [.slice A1 Wl.length a1, .slice B1 Nl.length b1]) (c := 1) (H := h1) (v := .slice AO k cO) (.tmp 14) (.tmp 21) rfl elt_rgraph.big (by simp [Act.eval]) (by simp [Act.eval]) HR2.out.out Hn2.out rfl rfl (by omega) HR2.out.z ?_
      intro v8 X3 hown8 hg8 _
      obtain ⟨A8, c8, rfl⟩ := own_slice hown8
      have HR3 := Lib.hid (HR2.out.push Hd.out Hq1.out Hq2.out hg8 hown8)
      have HX3 := Lib.hid HR3.out.bl
      clear hown8 hg8
      refine hK8.out _ _ (HSf.out _ HX3.out) ?_
      try simp only [Act.put, List.setIfInBounds_toArray, List.set_cons_zero, List.set_cons_succ]
      refine H_takeD (k := 9) (v := .slice A8 (k + 1) c8) (d := some 3) rfl rfl (by decide +kernel) (fun _ _ _ h => h) (Or.inl ⟨by rfl, fun W hW => by obtain ⟨s0, s1, s2⟩ := hW; go_simp⟩) (HSf.out _ HX3.out) ?_
      try simp only [Act.put, List.setIfInBounds_toArray, List.set_cons_zero, List.set_cons_succ]
      refine H_end (by decide +kernel) (NoPanic.normal ?_)
      try simp only [Act.put, List.setIfInBounds_toArray, List.set_cons_zero, List.set_cons_succ]
      clear HIn HSf HR0 HR1 HR2 HX0 HX1 HX2 HX3 HB0 Hp1 Hp2 Hq1 Hq2 Hn2
      go_wp2_with fail
      go_roundw
      case rel => exact ⟨k + 1, _, by omega, by go_num, HR3.out⟩
      case measure => simp [intOf]; omega
    · obtain rfl : k = ds.length := by omega
      clear hR
      go_wp2_with fail
      go_ret
      exact ⟨AO, cO, vs, rfl, ⟨own_mono HR.out.out (by rw [HSz.out]; exact hz1), fun j d hj hd => by
        obtain ⟨A', a', B', b', e1, e2, p1, p2⟩ := HR.out.el j d hj hd
        exact ⟨A', a', B', b', e1, e2, own_mono p1 (by rw [HSz.out]; exact hz1), own_mono p2 (by rw [HSz.out]; exact hz1)⟩, by rw [HSz.out]; exact Hb1.out.trans (HR.out.bl.mono hz1), by rw [HSz.out]; exact Nat.le_trans hz1 HR.out.z⟩⟩
end Go.Proofs.Ytmdgdphhedgojaa

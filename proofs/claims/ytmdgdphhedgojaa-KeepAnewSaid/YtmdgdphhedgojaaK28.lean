import Derived.Test.YtmdgdphhedgojaaK23
import Derived.Deep.QuietTactic
import Derived.ChangeKeysEq
namespace Go.Proofs.Ytmdgdphhedgojaa
open Go.RowKit Go.Maps

theorem under_tri : (Try.prog).underlying 52 = some (.array 3 3) := by kernel_rfl
set_option maxRecDepth 100000 in
theorem neq_tri (x y z : Int) (W : World) : (binOp .neq 52 (.agg #[.int .i64 x, .int .i64 y, .int .i64 z]) (.agg #[.int .i64 x, .int .i64 y, .int .i64 z])).run Try.prog W = .ok (.bool false) W := by
  obtain ⟨i, hi, h1, h2, _⟩ := info_parts (P := Try.prog) (e := 3) (by kernel_rfl : ((Try.prog).info? 3).map (fun i => (i.zero, i.size, i.bytes)) = some (some (.int .i64 0), 1, 8))
  have h := run_equalIn_array (P := Try.prog) W 9999 #[.int .i64 x, .int .i64 y, .int .i64 z] #[.int .i64 x, .int .i64 y, .int .i64 z] under_tri hi
  rw [run_neq_struct, show (10000 : Nat) = 9999 + 1 from rfl, h]
  have hc : (Try.prog).cellsOf 3 = 1 := by kernel_rfl
  have ha := Try.isAgg3
  have hu3 := Try.underlying3
  rw [hc]
  simp [Op.eqItems, List.range, List.range.loop, part, ha, run_equalIn_int W 9998 3 .i64 .i64 _ _ hu3]

set_option maxHeartbeats 2000000 in
set_option maxRecDepth 100000 in
theorem same_any (A B C D : Option Addr) (a b c d : Nat) (ws : List Int) (ns : List (Int × Int × Int)) (w : World) (hA : SI w A ws) (hB : ST w B ns) (hC : SI w C ws) (hD : ST w D ns) (hl1 : ws.length ≤ 1099511627776) (hl2 : ns.length ≤ 1099511627776) :
    Calls Try.prog 28 #[.agg #[.slice A ws.length a, .slice B ns.length b], .agg #[.slice C ws.length c, .slice D ns.length d]] w fun e w' => e = .returned (.bool true) ∧ Below w.heap.size w w' := by
  have hbk := (Bk.new w 30 #[.slice A ws.length a, .slice B ns.length b]).alloc (.cells #[.slice C ws.length c, .slice D ns.length d] 30)
  have hbr := Bk.new' (w.alloc (.cells #[.slice A ws.length a, .slice B ns.length b] 30)) 30 #[.slice C ws.length c, .slice D ns.length d] (g := w.heap.size + 1) (by simp)
  have hb0 : Below w.heap.size w ((w.alloc (.cells #[.slice A ws.length a, .slice B ns.length b] 30)).alloc (.cells #[.slice C ws.length c, .slice D ns.length d] 30)) := ((Below.refl _ _).alloc (Nat.le_refl _) _).alloc (by simp) _
  go_enter Try.func28, Try.ntmps28
  go_wp2_with fail
  generalize (w.alloc (.cells #[.slice A ws.length a, .slice B ns.length b] 30)).alloc (.cells #[.slice C ws.length c, .slice D ns.length d] 30) = W0 at *
  refine (sameInts_any A C a c ws ws W0 (hA.below hb0) (hC.below hb0) (by omega) (by omega)).mono ?_
  rintro e w1 ⟨he, hq⟩
  obtain rfl : e = .returned (.bool true) := by rw [he]; simp
  have Hbk := Lib.hid (hbk.qt hq)
  have Hbr := Lib.hid (hbr.qt hq)
  have Hb := Lib.hid (hq.bl hb0)
  have HB := Lib.hid (hB.below Hb.out)
  have HD := Lib.hid (hD.below Hb.out)
  have hc1 : w1.cell? ⟨w.heap.size, 1, none⟩ = some (.slice B ns.length b) := Hbk.out.cell 1
  have hd1 : w1.cell? ⟨w.heap.size + 1, 1, none⟩ = some (.slice D ns.length d) := Hbr.out.cell 1
  clear hA hB hC hD hbk hbr hb0 hq he
  go_wp2_with fail
  go_loopw [6] (fun i wr => ∃ k : Nat, k ≤ ns.length ∧ i = .int .i64 k ∧ Qt w1 wr) (fun i _ => ns.length - (intOf i).toNat)
  case atStart => exact ⟨0, by omega, rfl, Qt.refl _⟩
  case round =>
    obtain ⟨k, hk, rfl, hq⟩ := hrel
    obtain ⟨n, rfl⟩ := hq
    by_cases hlt : k < ns.length
    · obtain ⟨b1, o1, x, y, z, rfl, c0, c1, c2, hx⟩ := HB.out.get (k := k) hlt
      obtain ⟨b2, o2, x', y', z', rfl, d0, d1, d2, hx'⟩ := HD.out.get (k := k) hlt
      have he := hx.out.symm.trans hx'.out
      injection he with he
      injection he with e1 e2
      injection e2 with e2 e3
      subst e1 e2 e3
      have i0 : (0 : Int) ≤ (k : Int) := by omega
      have hne := neq_tri x y z
      have heg : (Try.prog).eqGuardType (Try.prog).depth 52 = false := by kernel_rfl
      go_wp2_with fail
      go_quiet (fail)
      go_wp2_with fail
      go_roundw
      case rel => exact ⟨k + 1, by omega, by go_num, by first | exact Qt.drewN ⟨n, rfl⟩ _ | exact ⟨_, rfl⟩⟩
      case measure => simp [intOf]; omega
    · go_wp2_with fail
      go_ret
      exact ⟨rfl, below_drewN Hb.out n⟩

theorem plain_any (A B : Option Addr) (c d n m : Nat) (w : World) :
    Calls Try.prog 29 #[.agg #[.slice A n c, .slice B m d]] w fun e w' => e = .returned (.agg #[.slice A n c, .slice B m d]) ∧ Below w.heap.size w w' := by
  go_enter Try.func29, Try.ntmps29
  go_wp2
  refine bodyPost_ret (v := .agg #[.slice A n c, .slice B m d]) (by simp [results, Try.results29, go_sem]) rfl ⟨rfl, ?_⟩
  exact ((Below.refl _ _).alloc (Nat.le_refl _) _).alloc (by simp) _


theorem own_bk2 {w : World} {base g n c : Nat} {e : TypeId} {size : Nat} {xs : List Value} (h : w.ownsRow base e size (.slice (some ⟨g, 0, none⟩) n c) n xs) : ∃ cur, Bk w g e cur ∧ cur.toList.take (n * size) = xs := by
  rcases h.2 with ⟨he, _⟩ | ⟨k, cap, cur, he, h1, hg, h2, h3, h4, h5⟩
  · cases he
  · injection he with e1 e2 e3
    injection e1 with e1
    injection e1 with e1
    subst e1
    exact ⟨cur, hg, h5⟩
/-- From block b on only blocks of ints have turned. -/
structure Wi (b : Nat) (w W : World) : Prop where
  os : W.os = w.os
  tape : W.tape = w.tape
  output : W.output = w.output
  size : W.heap.size = w.heap.size
  block : ∀ k, (k < b ∨ ∀ cs fr, w.heap[k]? ≠ some (.cells cs 3 fr)) → W.heap[k]? = w.heap[k]?
theorem Wi.refl (b : Nat) (w : World) : Wi b w w := ⟨rfl, rfl, rfl, rfl, fun _ _ => rfl⟩
theorem Wi.set_ {b : Nat} {a w : World} (h : Wi b a w) {g : Nat} {cs : Array Value} (hg : Bk w g 3 cs) (hb : b ≤ g) (i : Nat) (u : Value) : Wi b a (w.setCell ⟨g, i, none⟩ u) := by
  refine ⟨h.os, h.tape, h.output, by rw [← h.size]; simp [World.setCell], fun k hk => ?_⟩
  have e := h.block k hk
  rw [← e]
  refine Below.heap_setCell w _ u k (fun hc => ?_)
  obtain rfl : k = g := hc
  rcases hk with hk | hk
  · omega
  · exact hk _ _ (e.symm.trans hg)
theorem Wi.qt {b : Nat} {a w W : World} (h : Wi b a w) (hq : Qt w W) : Wi b a W := by obtain ⟨n, rfl⟩ := hq; exact ⟨h.os, h.tape, h.output, h.size, h.block⟩
theorem Wi.bk {b : Nat} {w W : World} (h : Wi b w W) {g : Nat} {t : TypeId} {cs : Array Value} (hg : Bk w g t cs) (ht : g < b ∨ t ≠ 3) : Bk W g t cs := (h.block g (ht.imp id (fun ht cs' fr hc => by
  unfold Bk at hg
  rw [hg] at hc
  injection hc with hc
  injection hc with _ e
  exact ht e))).trans hg
theorem Wi.own {b : Nat} {w W : World} (h : Wi b w W) {base size n : Nat} {e : TypeId} {v : Value} {xs : List Value} (ho : w.ownsRow base e size v n xs) (he : (∀ g, v.ownBlock = some g → g < b) ∨ e ≠ 3) : W.ownsRow base e size v n xs := by
  refine ⟨ho.1, ?_⟩
  rcases ho.2 with hn | ⟨g, cap, cur, hv, h1, hgg, rest⟩
  · exact .inl hn
  · exact .inr ⟨g, cap, cur, hv, h1, h.bk (t := e) (cs := cur) hgg (he.imp (fun he => he g (by rw [hv]; rfl)) id), rest⟩
theorem Wi.kp {b : Nat} {w W : World} (h : Wi b w W) {p : Nat} {F : Nat → Prop} {ls ws : List Int} {ns : List (Int × Int × Int)} {work : Int} (hK : KP w p F ls ws ns work) (hF : ∀ k, F k → k < b) : KP W p F ls ws ns work := by
  obtain ⟨cs, hp⟩ := hK.bp
  refine hK.kf ⟨by rw [h.size]; exact Nat.le_refl _, fun k hk _ => h.block k (.inl (hF k hk))⟩ ((h.bk hp (.inr (by decide))).trans hp.symm)
theorem Wi.below {b B : Nat} {a w W : World} (h : Wi b w W) (hb : Below B a w) (hB : B ≤ b) : Below B a W := hb.trans ⟨h.os, h.tape, h.output, by rw [h.size]; exact Nat.le_refl _, fun k hk => h.block k (.inl (by omega))⟩
theorem Turn.kp {r p : Nat} {w W : World} (h : Turn w W r) {F : Nat → Prop} {ls ws : List Int} {ns : List (Int × Int × Int)} {work : Int} (hK : KP w p F ls ws ns work) (hF : ¬ F r) (hp : p ≠ r) : KP W p F ls ws ns work :=
  hK.kf ⟨by rw [h.size]; exact Nat.le_refl _, fun k hk _ => h.block k (fun e => hF (e ▸ hk))⟩ (h.block p hp)
/-- Rows of n ints each, in blocks from b on. -/
def RW (w : World) (b n : Nat) (vs : List Value) : Prop := ∀ (j : Nat) v, vs[j]? = some v → ∃ h cs, v = Value.slice (some ⟨h, 0, none⟩) n n ∧ b ≤ h ∧ Bk w h 3 cs ∧ cs.size = n ∧ ∀ i (hi : i < cs.size), ∃ x, cs[i] = Value.int .i64 x
theorem RW.set_ {w : World} {b n g i : Nat} {vs : List Value} (h : RW w b n vs) (x : Int) : RW (w.setCell ⟨g, i, none⟩ (.int .i64 x)) b n vs := fun j v hv => by
  obtain ⟨k, cs, e, hb, hk, hs, hx⟩ := h j v hv
  by_cases hkg : k = g
  · subst hkg
    refine ⟨k, _, e, hb, hk.set_ i _, by simpa using hs, fun m hm => ?_⟩
    rw [Array.getElem_setIfInBounds]
    split
    · exact ⟨x, rfl⟩
    · exact hx m (by simpa using hm)
  · exact ⟨k, cs, e, hb, hk.far (p := ⟨g, i, none⟩) hkg _, hs, hx⟩
theorem LLB.rw_ {w : World} {b n : Nat} {vs : List Value} {ls : List (List Int)} (h : LLB w b vs ls) (hl : ∀ l ∈ ls, l.length = n) : RW w b n vs := fun j v hv => by
  have hj : j < ls.length := by rw [← h.len]; exact (List.getElem?_eq_some_iff.1 hv).1
  obtain ⟨g, e, hg, hb⟩ := h.el j v _ hv (List.getElem?_eq_getElem hj)
  have hn := hl _ (List.getElem_mem hj)
  rw [hn] at e
  exact ⟨g, _, e, hb, hg, by rw [rowI_size, hn], fun i hi => ⟨ls[j][i]'(by rw [rowI_size] at hi; exact hi), by simp [rowI]⟩⟩
theorem KP.llb {w W : World} {p b : Nat} {F : Nat → Prop} {ls ws : List Int} {ns : List (Int × Int × Int)} {work : Int} (h : KP w p F ls ws ns work) {vs : List Value} {xs : List (List Int)} (hl : LLB w b vs xs) (hW : w.grownBy W (some p)) : LLB W b vs xs := ⟨hl.len, fun j v l hv hx => by
  obtain ⟨g, e, hg, hb⟩ := hl.el j v l hv hx
  exact ⟨g, e, h.bk hg (by decide) hW, hb⟩⟩
theorem newsD_self (ds : List (List Int × List Int × List (Int × Int × Int))) : newsD ds ds = [] := by
  unfold newsD
  rw [List.filter_eq_nil_iff]
  intro d hd
  have : d.2 ∈ ds.map fun e => e.2 := List.mem_map.2 ⟨d, hd, rfl⟩
  simp [this]
theorem incD_le2 {ws ws' : List Int} {ns ns' : List (Int × Int × Int)} (hv : validE ws' ns' = 0) : 0 ≤ incD (newsD (partsD ws ns) (partsD ws' ns')) ∧ incD (newsD (partsD ws ns) (partsD ws' ns')) ≤ 16777216 := by
  have h1 := incD_bd (l := newsD (partsD ws ns) (partsD ws' ns')) (fun d hd => by
    obtain ⟨j, hj, rfl⟩ := List.getElem_of_mem (List.mem_filter.1 hd).1
    exact (partsD_ib hv (List.getElem?_eq_getElem hj)).2.2.2.2)
  have h2 := newsD_len (partsD ws ns) (partsD ws' ns')
  have h3 : (partsD ws' ns').length ≤ 4096 := by
    rw [partsD, partsO, List.length_map]
    have := rts_len (comp ns' ws'.length) ws'.length
    have := (validE_good hv).1
    omega
  omega
theorem lists_lens2 {ws : List Int} {ns : List (Int × Int × Int)} {ls : List Int} : ∀ l ∈ lists ws ns ls, l.length = ws.length := fun l hl => by
  obtain ⟨s, hs, rfl⟩ := List.getElem_of_mem hl
  rw [lists_len] at hs
  have h := lists_at (ws := ws) (ns := ns) (ls := ls) hs
  rw [List.getElem?_eq_getElem (by rw [lists_len]; exact hs)] at h
  rw [Option.some.inj h, ix_len, (ofAt_cn ws ns ls s).2]
end Go.Proofs.Ytmdgdphhedgojaa

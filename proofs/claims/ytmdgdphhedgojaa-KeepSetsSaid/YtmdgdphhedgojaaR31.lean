import Derived.Test.YtmdgdphhedgojaaR30
import Derived.Deep.RegionHeld3
namespace Go.Proofs.Ytmdgdphhedgojaa
open Go.RowKit Go.Maps

/-- The rows of ints behind some slices, each with its own room. -/
structure IL (w : World) (vs : List Value) (ls : List (List Int)) : Prop where
  len : vs.length = ls.length
  el : ∀ (j : Nat) v l, vs[j]? = some v → ls[j]? = some l → ∃ B c, v = Value.slice B l.length c ∧ w.ownsRow 0 3 1 (.slice B l.length c) l.length (l.map (Value.int .i64))

section
variable {w w' : World} {vs : List Value} {ls : List (List Int)}
theorem IL.nil (w : World) : IL w [] [] := ⟨rfl, fun j v l h => by simp at h⟩
theorem IL.below (h : IL w vs ls) (hb : Below w.heap.size w w') : IL w' vs ls := ⟨h.len, fun j v l hv hl => by
  obtain ⟨B, c, e, hg⟩ := h.el j v l hv hl
  exact ⟨B, c, e, own_below hg hb⟩⟩
theorem IL.grown (h : IL w vs ls) {base n size : Nat} {e : TypeId} {v : Value} {xs : List Value} (ho : w.ownsRow base e size v n xs) (he : 3 ≠ e) (hg : w.grownBy w' v.ownBlock) : IL w' vs ls := ⟨h.len, fun j u l hv hl => by
  obtain ⟨B, c, eq, hk⟩ := h.el j u l hv hl
  exact ⟨B, c, eq, own_grown hk hg (own_ne hk ho he)⟩⟩
theorem IL.snoc (h : IL w vs ls) {base c : Nat} {B : Option Addr} {l : List Int} (hg : w.ownsRow base 3 1 (.slice B l.length c) l.length (l.map (Value.int .i64))) : IL w (vs ++ [.slice B l.length c]) (ls ++ [l]) := ⟨by simp [h.len], fun j v k hv hk => by
  have hlen := h.len
  rcases snoc_get hv with ⟨hv, h1⟩ | ⟨h1, rfl⟩ <;> rcases snoc_get hk with ⟨hk, h2⟩ | ⟨h2, rfl⟩
  · exact h.el j v k hv hk
  · omega
  · omega
  · exact ⟨B, c, rfl, own_mono hg (Nat.zero_le _)⟩⟩
theorem SLL.of_il {base n c : Nat} {A : Option Addr} (ho : w.ownsRow base 22 1 (.slice A n c) n vs) (h : IL w vs ls) : SLL w A ls :=
  ⟨vs, SL.of_own ho, h.len, fun j v l hv hl => by
    obtain ⟨B, c, e, hg⟩ := h.el j v l hv hl
    exact ⟨B, c, e, own_si hg⟩⟩
end

theorem SLo.of_scale {wr w1 : World} {base n : Nat} {e : TypeId} {size : Nat} {v : Value} {xs : List Value} {A A1 : Option Addr} {of of1 : List Int} (ho : wr.ownsRow base e size v n xs) (hA : SLo wr A (of.map (Value.int .i64)) v.ownBlock) (h1 : SI w1 A1 of1) (hl : of1.length = of.length)
    (hd : A1 = A ∨ ∀ a, A1 = some a → wr.heap.size ≤ a.block) : SLo w1 A1 (of1.map (Value.int .i64)) v.ownBlock := fun j u hu => by
  obtain ⟨b, o, e1, hb, hc⟩ := h1 j u hu
  refine ⟨b, o, e1, hb, hc, ?_⟩
  rcases hd with hd | hd
  · have hj : 0 < of.length := by
      have := (List.getElem?_eq_some_iff.1 hu).1
      simp at this
      omega
    obtain ⟨b', o', e2, _, _, hne⟩ := hA 0 (.int .i64 of[0]) (by simp [hj])
    rw [← hd, e1] at e2
    injection e2 with e2
    injection e2 with e2
    rw [e2]
    exact hne
  · intro h
    have h2 := hd _ e1
    have h3 := (ho.lt b h.symm).2
    dsimp only at h2
    omega

theorem alone_si {w : World} {base n c : Nat} {A : Option Addr} (h : w.ownsRow base 3 1 (.slice A n c) n ((alone n).map (Value.int .i64))) : SI w A (alone n) := SL.of_own h

theorem after_take {ws : List Int} {ns : List (Int × Int × Int)} {of ls : List Int} {k : Nat} {n : Int} (h : ls[k]? = some n) : after ws ns of (ls.take (k + 1)) = (scale ws ns (after ws ns of (ls.take k)) n).1 := by
  rw [take_snoc' h, after_snoc]
theorem chain_take_snoc {ws : List Int} {ns : List (Int × Int × Int)} {of ls : List Int} {k : Nat} {n : Int} (h : ls[k]? = some n) : chain ws ns of (ls.take (k + 1)) = chain ws ns of (ls.take k) ++ [scale ws ns (after ws ns of (ls.take k)) n] := by
  rw [take_snoc' h, chain_snoc]

theorem ofE_eq (ws : List Int) (ns : List (Int × Int × Int)) (ls : List Int) : ofE ws ns ls = if validE ws ns ≠ 0 then validE ws ns else thrE ls := by
  unfold ofE
  by_cases h : validE ws ns = 0
  · by_cases h2 : thrE ls = 0 <;> simp [orI, h, h2]
  · simp [orI, h]

set_option maxHeartbeats 4000000 in
set_option maxRecDepth 100000 in
theorem refOf_any (A B C : Option Addr) (c d f : Nat) (ws : List Int) (ns : List (Int × Int × Int)) (ls : List Int) (w : World) (hA : SI w A ws) (hB : ST w B ns) (hC : SI w C ls) (hl1 : ws.length ≤ 4611686018427387904) (hl2 : ns.length ≤ 4611686018427387904) (hl3 : ls.length ≤ 4611686018427387904) :
    Calls Try.prog 27 #[.agg #[.slice A ws.length c, .slice B ns.length d], .slice C ls.length f] w fun e w' => ∃ D m, e = .returned (.tuple #[.slice D (ofL ws ns ls).length m, .int .i64 (ofE ws ns ls)]) ∧ SLL w' D (ofL ws ns ls) ∧ Below w.heap.size w w' := by
  go_enter Try.func27, Try.ntmps27
  go_wp2_with fail
  have hb0 := (Below.refl w.heap.size w).alloc (Nat.le_refl _) (.cells #[.slice A ws.length c, .slice B ns.length d] 30)
  have hbk0 := Bk.new w 30 #[.slice A ws.length c, .slice B ns.length d]
  generalize w.alloc (.cells #[.slice A ws.length c, .slice B ns.length d] 30) = W0 at *
  have Hb0 := Lib.hid hb0
  have Hbk0 := Lib.hid hbk0
  clear hb0 hbk0
  refine (refValid_any A B c d ws ns W0 (hA.below Hb0.out) (hB.below Hb0.out) hl1 hl2).mono ?_
  rintro e w1 ⟨rfl, hb1⟩
  have Hbk1 := Lib.hid (Hbk0.out.below hb1 Hbk0.out.lt)
  have Hb1 := Lib.hid (Hb0.out.trans (hb1.mono Hb0.out.size))
  clear hb1 Hbk0 Hb0
  have hE := Lib.hid (ofE_eq ws ns ls)
  by_cases hv : validE ws ns = 0
  · have hg := validE_good hv
    obtain ⟨g1, g2, g3, g4⟩ := hg
    have Hg := Lib.hid (And.intro g3 g4)
    have hEt : Hid (ofE ws ns ls = thrE ls) := by show _ = _; rw [hE.out, if_neg (by simp [hv])]
    have hvb : (validE ws ns != 0) = false := by simpa using hv
    have Hv := Lib.hid hv
    clear hE g3 g4 hv
    obtain ⟨ve, hve⟩ : ∃ ve, Hid (validE ws ns = ve) := ⟨_, rfl⟩
    rw [hve.out] at hvb
    rw [hve.out]
    go_wp2_with fail
    refine (refThr_any C f ls w1 (hC.below Hb1.out) hl3).mono ?_
    rintro e w' ⟨rfl, rfl⟩
    by_cases ht : thrE ls = 0
    · have hT := thrE_good ht
      obtain ⟨t1, t2⟩ := hT
      have hE0 : Hid (ofE ws ns ls = 0) := by show _ = _; rw [hEt.out, ht]
      have hL : Hid (ofL ws ns ls = lists ws ns ls) := by show _ = _; rw [ofL, if_pos hE0.out]
      have htb : (thrE ls != 0) = false := by simpa using ht
      clear ht hEt
      obtain ⟨te, hte⟩ : ∃ te, Hid (thrE ls = te) := ⟨_, rfl⟩
      rw [hte.out] at htb
      rw [hte.out]
      have hc0 : w1.cell? ⟨w.heap.size, 0, none⟩ = some (.slice A ws.length c) := Hbk1.out.cell 0
      go_wp2_with fail
      refine (alone_any ws.length w1 (by omega)).mono ?_
      rintro e w2 ⟨v2, rfl, hown2, hb2⟩
      obtain ⟨A2, c2, rfl⟩ := own_slice hown2
      have hsi2 := alone_si hown2
      have Hbk2 := Lib.hid (Hbk1.out.below hb2 Hbk1.out.lt)
      have Hb2 := Lib.hid (Hb1.out.trans (hb2.mono Hb1.out.size))
      have Hsi2 := Lib.hid hsi2
      clear hown2 hsi2 hb2 hc0 Hbk1 Hb1
      go_wp2_with fail
      go_loopw [8, 9, 10] (fun v8 v9 i wr => ∃ (k c8 : Nat) (A8 : Option Addr) (of : List Int) (vs : List Value), k ≤ ls.length ∧ i = .int .i64 k ∧ v8 = .slice A8 ws.length c8 ∧ Hid (after ws ns (alone ws.length) (ls.take k) = of) ∧ Hid (of.length = ws.length) ∧ Hid (CN of) ∧ SLo wr A8 (of.map (Value.int .i64)) v9.ownBlock ∧
        wr.ownsRow w.heap.size 22 1 v9 k vs ∧ IL wr vs ((chain ws ns (alone ws.length) (ls.take k)).map fun s => ix s.1) ∧ Below w.heap.size w wr ∧ Bk wr w.heap.size 30 #[.slice A ws.length c, .slice B ns.length d]) (fun _ _ i _ => ls.length - (intOf i).toNat)
      case atStart => exact ⟨0, c2, A2, alone ws.length, [], by omega, rfl, rfl, rfl, alone_len _, alone_cn _, SLo.of_sl Hsi2.out (Below.refl _ _) (by simp [Value.ownBlock]), World.ownsRow_nil _ _ _ _, IL.nil _, Hb2.out, Hbk2.out⟩
      case round =>
        clear Hsi2 Hbk2 Hb2
        obtain ⟨k, c8, A8, of, vs, hk, rfl, rfl, haf, hol, hCN, hsi, hown, hIL, hb, hbk⟩ := hrel
        have hbs := hb.size
        by_cases hlt : k < ls.length
        · obtain ⟨b1, o1, n, rfl, hcn, hn1⟩ := (hC.below hb).get hlt
          have hc0 : wr.cell? ⟨w.heap.size, 0, none⟩ = some (.slice A ws.length c) := hbk.cell 0
          have hc1 : wr.cell? ⟨w.heap.size, 1, none⟩ = some (.slice B ns.length d) := hbk.cell 1
          have hsc := scale_any2 A B A8 c d c8 ws ns of n wr.drew (hA.below hb.drew) (hB.below hb.drew) hsi.sl Hg.out.1 hol.out g1 (Hg.out.2.len hol.out.symm) g2
          rw [hol.out] at hsc
          have Hsc := Lib.hid hsc
          have Hown := Lib.hid hown
          have Hsi := Lib.hid hsi
          have HIL := Lib.hid hIL
          have Hb := Lib.hid hb
          have Hbk := Lib.hid hbk
          have Hbkd := Lib.hid (hbk.qt ⟨1, rfl⟩ : Bk wr.drew _ _ _)
          have hbl := Hbkd.out.lt
          clear hsc hown hsi hIL hb hbk
          have hCs := CN.scaleF (ws := ws) (ns := ns) (least := n) of.length of hCN.out
          have HCs : Hid (CN (scale ws ns of n).1 ∧ (scale ws ns of n).1.length = ws.length) := ⟨hCs.1, hCs.2.trans hol.out⟩
          have haf2 := Lib.hid (after_take (ws := ws) (ns := ns) (of := alone ws.length) hn1.out)
          have hch2 := Lib.hid (chain_take_snoc (ws := ws) (ns := ns) (of := alone ws.length) hn1.out)
          rw [haf.out] at haf2 hch2
          clear hCs haf
          have j0 : (0 : Int) ≤ (k : Int) := by omega
          go_wp2_with fail
          go_region_held3 (fun W => W.cell? ⟨w.heap.size, 0, none⟩ = some (.slice A ws.length c) ∧ W.cell? ⟨w.heap.size, 1, none⟩ = some (.slice B ns.length d) ∧ W.cell? ⟨b1, o1 + k, none⟩ = some (.int .i64 n)) (go_keep) ((go_at_call 47; refine Hsc.out.mono ?_; rintro e w4 ⟨A1, c1, A9, c9, rfl, hs1, hd, hs2, hs3, hs4, hb4⟩; have hbk4 := Hbkd.out.below hb4 hbl; have hc04 : w4.cell? ⟨w.heap.size, 0, none⟩ = some (.slice A ws.length c) := hbk4.cell 0; have hc14 : w4.cell? ⟨w.heap.size, 1, none⟩ = some (.slice B ns.length d) := hbk4.cell 1; have hcn4 : w4.cell? ⟨b1, o1 + k, none⟩ = some (.int .i64 n) := (hb4.cell (World.block_lt_of_cell? _ _ hcn)).trans hcn; clear hbk4))
          all_goals
            have Hs1 := Lib.hid hs1
            have hsl := SLo.of_scale Hown.out Hsi.out hs1 (hs3.trans hol.out.symm) hd
            have Hsl := Lib.hid hsl
            have Hown4 := Lib.hid (own_below (own_qt Hown.out ⟨1, rfl⟩ : wr.drew.ownsRow _ _ _ _ _ _) hb4)
            have Hb4 := Lib.hid (Hb.out.drew.trans (hb4.mono hbs))
            have HIL4 := Lib.hid ((HIL.out.below ((Below.refl wr.heap.size wr).drew : Below wr.heap.size wr wr.drew)).below hb4)
            have Hbk4 := Lib.hid (Hbkd.out.below hb4 hbl)
            clear hs1 hsl hs2 hb4 hc0 hc1 hcn hc04 hc14 hcn4 Hown Hsi HIL Hb Hbk Hbkd
            go_wp2_with fail
            have hix := refIndices_any A1 c1 (scale ws ns of n).1 w4 Hs1.out HCs.out.1 (by rw [HCs.out.2]; exact g1)
            rw [HCs.out.2] at hix
            refine hix.mono ?_
            rintro e w5 ⟨v5, rfl, hown5, hb5⟩
            obtain ⟨A5, c5, rfl⟩ := own_slice hown5
            have hown6 := own_below Hown4.out hb5
            have hb6 := Hb4.out.trans (hb5.mono Hb4.out.size)
            have Hsl5 := Lib.hid (Hsl.out.below hb5)
            have HIL5 := Lib.hid (HIL4.out.below hb5)
            have Hbk5 := Lib.hid (Hbk4.out.below hb5 Hbk4.out.lt)
            have Hown5 := Lib.hid hown5
            clear hown5 hb5 hix Hs1
            go_wp2_with (at_builtin; refine wpList_app1 (w := w5) rfl _ _ rfl elt_lists hown6 hb6 rfl rfl (by simp) rfl rfl (by omega) ?_; intro v7 w7 hown7 hb7 hg7 hat7 hz7)
            go_roundw
            case rel =>
              have hlen5 : (ix (scale ws ns of n).1).length = ws.length := (ix_len _).trans HCs.out.2
              refine ⟨k + 1, c1, A1, (scale ws ns of n).1, _, by omega, by go_num, rfl, haf2.out, HCs.out.2, HCs.out.1, ?_, hown7, ?_, hb7, Hbk5.out.grown hg7 (Hbk5.out.ne_own hown6 (by decide))⟩
              · refine Hsl5.out.grown hg7 (fun k hk => ?_)
                rcases hat7 with h | h <;> rw [hk] at h
                · exact .inl h.symm
                · right; injection h with h; omega
              · rw [hch2.out, List.map_append]
                have h1 := HIL5.out.snoc (by rw [hlen5]; exact Hown5.out : w5.ownsRow _ 3 1 (.slice A5 (ix (scale ws ns of n).1).length c5) (ix (scale ws ns of n).1).length ((ix (scale ws ns of n).1).map (Value.int .i64)))
                rw [hlen5] at h1
                exact h1.grown hown6 (by decide) hg7
            case measure => simp [intOf]; omega
        · obtain rfl : k = ls.length := by omega
          rw [List.take_length] at hIL
          obtain ⟨D, m, rfl⟩ := own_slice hown
          have hL2 : Hid ((ofL ws ns ls).length = ls.length) := by show _ = _; rw [hL.out, lists_len]
          go_wp2_with fail
          go_ret2
          exact ⟨D, m, by rw [hL2.out, hE0.out]; rfl, by rw [hL.out]; exact SLL.of_il hown hIL, hb⟩
    · have htb : (thrE ls != 0) = true := by simpa using ht
      have hL : Hid (ofL ws ns ls = []) := by show _ = _; rw [ofL, if_neg (by rw [hEt.out]; exact ht)]
      clear ht
      obtain ⟨te, hte⟩ : ∃ te, Hid (thrE ls = te) := ⟨_, rfl⟩
      rw [hte.out] at htb
      rw [hte.out]
      go_wp2_with fail
      go_ret2
      exact ⟨none, 0, by rw [hL.out, hEt.out, hte.out]; rfl, by rw [hL.out]; exact ⟨[], SL.nil_, rfl, fun j v l h => by simp at h⟩, Hb1.out⟩
  · have hvb : (validE ws ns != 0) = true := by simpa using hv
    have hEv : Hid (ofE ws ns ls = validE ws ns) := by show _ = _; rw [hE.out, if_pos hv]
    have hL : Hid (ofL ws ns ls = []) := by show _ = _; rw [ofL, if_neg (by rw [hEv.out]; exact hv)]
    clear hv hE
    obtain ⟨ve, hve⟩ : ∃ ve, Hid (validE ws ns = ve) := ⟨_, rfl⟩
    rw [hve.out] at hvb
    rw [hve.out]
    go_wp2_with fail
    go_ret2
    exact ⟨none, 0, by rw [hL.out, hEv.out, hve.out]; rfl, by rw [hL.out]; exact ⟨[], SL.nil_, rfl, fun j v l h => by simp at h⟩, Hb1.out⟩
end Go.Proofs.Ytmdgdphhedgojaa

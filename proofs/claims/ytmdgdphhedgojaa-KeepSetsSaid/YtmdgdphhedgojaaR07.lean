import Derived.Test.YtmdgdphhedgojaaR06
namespace Go.Proofs.Ytmdgdphhedgojaa
open Go.RowKit

/-- The length in a slot. -/
def lenOf : Value → Nat | .slice _ n _ => n | _ => 0

theorem NOK.len {n m : Nat} {ns : List (Int × Int × Int)} (h : NOK n ns) (e : n = m) : NOK m ns := e ▸ h

set_option maxHeartbeats 2000000 in
theorem scale_any (A B C : Option Addr) (c d f : Nat) (ws : List Int) (ns : List (Int × Int × Int)) (of : List Int) (least : Int) (w : World) (hA : SI w A ws) (hB : ST w B ns) (hC : SI w C of) (hw : W40 ws) (hl : of.length = ws.length) (hl2 : ws.length ≤ 4096) (hn : NOK of.length ns) (hl3 : ns.length ≤ 16384) :
    Calls Try.prog 47 #[.agg #[.slice A ws.length c, .slice B ns.length d], .slice C of.length f, .int .i64 least] w fun e w' =>
      ∃ A1 c1 A2 c2, e = .returned (.tuple #[.slice A1 (scale ws ns of least).1.length c1, .slice A2 (scale ws ns of least).2.length c2]) ∧ SI w' A1 (scale ws ns of least).1 ∧ SL w' A2 (pairC (scale ws ns of least).2) ∧ (scale ws ns of least).1.length = of.length ∧ (scale ws ns of least).2.length ≤ of.length ∧ Below w.heap.size w w' := by
  have Hl := Lib.hid hl
  have hle : of.length ≤ ws.length := by omega
  have hle2 : ws.length ≤ of.length := by omega
  have HC := Lib.hid hC
  have Hn := Lib.hid hn
  clear hl hC hn
  go_enter Try.func47, Try.ntmps47
  go_wp2
  go_loopw [1, 8] (fun vo vs wr => ∃ (A1 : Option Addr) (c1 fu : Nat) (ofc : List Int) (st : List (Int × Int)), vo = .slice A1 ofc.length c1 ∧ ofc.length ≤ of.length ∧ of.length ≤ ofc.length ∧ wr.ownsRow w.heap.size 114 2 vs st.length (pairC st) ∧ SLo wr A1 (ofc.map (Value.int .i64)) vs.ownBlock ∧
     st.length + fu ≤ of.length ∧ Hid (st.length + fu = of.length) ∧ Hid (roots ofc ≤ fu) ∧ Hid (scale ws ns of least = ((scaleF ws ns least fu ofc).1, st ++ (scaleF ws ns least fu ofc).2)) ∧
     Below w.heap.size w wr ∧ Bk wr w.heap.size 30 #[.slice A ws.length c, .slice B ns.length d]) (fun _ vs _ => of.length - lenOf vs)
  case atStart => exact ⟨C, f, of.length, of, [], rfl, Nat.le_refl _, Nat.le_refl _, World.ownsRow_nil _ _ _ _, SLo.of_sl HC.out ((Below.refl _ _).alloc (Nat.le_refl _) _) (by simp [Value.ownBlock]), by simp, (by show _ = _; simp), roots_le of, (by show _ = _; simp [scale]), (Below.refl _ _).alloc (Nat.le_refl _) _, Bk.new _ _ _⟩
  case round =>
    obtain ⟨A1, c1, fu, ofc, st, rfl, hL1, hL2, hown, hof, hfu, hfe, hroots, hsc, hb, hbk⟩ := hrel
    have hc0 : wr.cell? ⟨w.heap.size, 0, none⟩ = some (.slice A ws.length c) := hbk.cell 0
    have hc1 : wr.cell? ⟨w.heap.size, 1, none⟩ = some (.slice B ns.length d) := hbk.cell 1
    have hbs := hb.size
    have hlt := hbk.lt
    obtain ⟨A2, c2, rfl⟩ := own_slice hown
    have hnx := next_any A B A1 c d c1 ws ns ofc least wr (hA.below hb) (hB.below hb) hof.sl hw (by omega) hl2 (Hn.out.len (by omega)) hl3
    have Hnx := Lib.hid hnx
    clear hnx
    have Hown := Lib.hid hown
    have Hof := Lib.hid hof
    have Hbk := Lib.hid hbk
    clear hown hof hbk
    cases hfound : (next ws ns ofc least).2.2.1
    · have hfin : Hid (scale ws ns of least = (ofc, st)) := by
        show _ = _
        rw [hsc.out]
        cases fu <;> simp [scaleF, hfound]
      go_wp2_with fail
      refine Hnx.out.mono ?_
      rintro e w1 ⟨rfl, hb1⟩
      generalize (next ws ns ofc least).1 = x at *
      generalize (next ws ns ofc least).2.1 = y at *
      have hb1a : ∀ o, Below wr.heap.size wr (w1.alloc o) := fun o => hb1.alloc hb1.size o
      go_wp2_with fail
      go_ret2
      exact ⟨A1, c1, A2, c2, by rw [hfin.out]; rfl, by rw [hfin.out]; exact (Hof.out.below (hb1a _)).sl, by rw [hfin.out]; exact SL.of_own (own_below Hown.out (hb1a _)), by rw [hfin.out]; simp only []; omega, by rw [hfin.out]; simp only []; omega, hb.trans ((hb1a _).mono hbs)⟩
    · obtain ⟨fu, rfl⟩ : ∃ k, fu = k + 1 := by
        have := next_roots hfound
        have := hroots.out
        exact ⟨fu - 1, by omega⟩
      have hsc2 : Hid (scale ws ns of least = ((scaleF ws ns least fu (merged ofc ((next ws ns ofc least).1, (next ws ns ofc least).2.1))).1, (st ++ [((next ws ns ofc least).1, (next ws ns ofc least).2.1)]) ++ (scaleF ws ns least fu (merged ofc ((next ws ns ofc least).1, (next ws ns ofc least).2.1))).2)) := by
        show _ = _
        rw [hsc.out, scaleF, if_pos hfound]
        simp
      have hr2 : Hid (roots (merged ofc ((next ws ns ofc least).1, (next ws ns ofc least).2.1)) ≤ fu) := by
        have := next_roots hfound
        have := hroots.out
        show _ ≤ _
        omega
      clear hsc hroots
      go_wp2_with fail
      refine Hnx.out.mono ?_
      rintro e w1 ⟨rfl, hb1⟩
      generalize (next ws ns ofc least).1 = x at *
      generalize (next ws ns ofc least).2.1 = y at *
      have hz1 := hb1.size
      have hbx := hb.trans (hb1.mono hbs)
      have Hown1 := Lib.hid (own_below Hown.out hb1)
      have Hof1 := Lib.hid (Hof.out.below hb1)
      have Hbk1 := Lib.hid (Hbk.out.below hb1 hlt)
      have hne : ∀ k, k = w1.heap.size ∨ k = w.heap.size → some k ≠ (Value.slice A2 st.length c2).ownBlock := fun k hk he => by
        have h1 := Hown.out.lt k he.symm
        have h2 := Bk.ne_own Hbk.out Hown.out (by decide)
        rcases hk with e | e
        · omega
        · exact h2 (e ▸ he)
      have Hne := Lib.hid hne
      clear hne
      go_wp2_with (at_builtin; refine wpList_app1 (w := w1.alloc _) rfl _ _ rfl elt_pair (Hown1.out.alloc _) (hbx.alloc (by omega) _) rfl rfl (by simp) rfl rfl (by omega) ?_; intro v1 w2 hown2 hb2 hg2 hat2 hz2; have hbt := (Bk.new w1 114 #[.int .i64 x, .int .i64 y]).grown hg2 (Hne.out _ (.inl rfl)); have hm0 : w2.cell? ⟨w1.heap.size, 0, none⟩ = some (.int .i64 x) := hbt.cell 0; have hm1 : w2.cell? ⟨w1.heap.size, 1, none⟩ = some (.int .i64 y) := hbt.cell 1; clear hbt)
      have Hof2 : Hid (SLo w2 A1 (ofc.map (Value.int .i64)) v1.ownBlock) := (Hof1.out.below ((Below.refl _ _).alloc (Nat.le_refl _) _)).grown hg2 (fun k hk => by
        rcases hat2 with h | h <;> rw [hk] at h
        · exact .inl h.symm
        · right; injection h with h; omega)
      have Hbk2 := Lib.hid ((Hbk1.out.alloc _).grown hg2 (Hne.out _ (.inr rfl)))
      have hz2' : w1.heap.size + 2 ≤ w2.heap.size := by simp at hz2; omega
      refine (merged_any A1 c1 ofc x y w2 Hof2.out.sl (by omega)).mono ?_
      rintro e w3 ⟨v3, rfl, hown3, hb3⟩
      obtain ⟨A3, c3, rfl⟩ := own_slice hown3
      have Hml := Lib.hid (merged_len ofc (x, y))
      have Hown3 := Lib.hid hown3
      clear hown3
      go_wp2_with fail
      go_roundw
      case rel =>
        refine ⟨A3, c3, fu, merged ofc (x, y), st ++ [(x, y)], by rw [Hml.out], by rw [Hml.out]; exact hL1, by rw [Hml.out]; exact hL2, ?_, ?_, by simp; omega, by show _ = _; have := hfe.out; simp; omega, hr2, hsc2, hb2.trans (hb3.mono (by omega)), Hbk2.out.below hb3 (by omega)⟩
        · rw [pairC_append, List.length_append]; exact own_below hown2 hb3
        · exact SLo.of_own Hown3.out (own_ne Hown3.out (own_below hown2 hb3) (by decide))
      case measure =>
        obtain ⟨A4, c4, rfl⟩ := own_slice hown2
        simp [lenOf]; omega
end Go.Proofs.Ytmdgdphhedgojaa

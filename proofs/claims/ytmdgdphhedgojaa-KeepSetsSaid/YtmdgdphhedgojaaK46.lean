import Derived.Test.YtmdgdphhedgojaaK81
import Derived.Maps.AppendAt
import Derived.Deep.CutBlock
namespace Go.Proofs.Ytmdgdphhedgojaa
open Go.RowKit Go.Maps

theorem own_cap3 {w : World} {base n c : Nat} {A : Option Addr} {e : TypeId} {size : Nat} {xs : List Value} (h : w.ownsRow base e size (.slice A n c) n xs) : n ≤ c := by
  rcases h.2 with ⟨h0, _⟩ | ⟨g', cap', cur, hv, hg, hh, hn, hcap, hsz, htake⟩
  · cases h0; exact Nat.le_refl _
  · cases hv; exact hn
/-- What the rounds keep: the hierarchy at p, the model at q, the graph at tg. -/
structure SX (S : Nat) (w0 W : World) (p q tg : Nat) (ls : List Int) (A3 : Option Addr) (c3 : Nat) (F : Nat → Prop) (ys : List Int) (us : List (Int × Int × Int)) (wy : Int) (xs : List Int) (ts : List (Int × Int × Int)) (wx : Int) (Am Bm : Option Addr) (am bm : Nat) (A B : Option Addr) (a b : Nat) (ws : List Int) (ns : List (Int × Int × Int)) : Prop where
  kp : KP W p F ls ys us wy
  fq : ¬ F q
  ft : ¬ F tg
  mo : Bk W q 59 #[.slice A3 ls.length c3, .slice Am xs.length am, .slice Bm ts.length bm, .int .i64 wx]
  ma : W.ownsRow S 3 1 (.slice Am xs.length am) xs.length (xs.map (Value.int .i64))
  mb : W.ownsRow S 52 3 (.slice Bm ts.length bm) ts.length (triC ts)
  mv : validE xs ts = 0
  g : Bk W tg 30 #[.slice A ws.length a, .slice B ns.length b]
  ga : W.ownsRow S 3 1 (.slice A ws.length a) ws.length (ws.map (Value.int .i64))
  gb : W.ownsRow S 52 3 (.slice B ns.length b) ns.length (triC ns)
  l3 : W.ownsRow S 3 1 (.slice A3 ls.length c3) ls.length (ls.map (Value.int .i64))
  bl : Below S w0 W
  z : S ≤ W.heap.size
  sp : S ≤ p
  sq : S ≤ q
  st : S ≤ tg
section
variable {S : Nat} {w0 W W' : World} {p q tg : Nat} {ls : List Int} {A3 : Option Addr} {c3 : Nat} {F : Nat → Prop} {ys : List Int} {us : List (Int × Int × Int)} {wy : Int} {xs : List Int} {ts : List (Int × Int × Int)} {wx : Int} {Am Bm : Option Addr} {am bm : Nat} {A B : Option Addr} {a b : Nat} {ws : List Int} {ns : List (Int × Int × Int)}
theorem SX.below (h : SX S w0 W p q tg ls A3 c3 F ys us wy xs ts wx Am Bm am bm A B a b ws ns) (hb : Below W.heap.size W W') : SX S w0 W' p q tg ls A3 c3 F ys us wy xs ts wx Am Bm am bm A B a b ws ns :=
  ⟨h.kp.below hb, h.fq, h.ft, h.mo.below hb h.mo.lt, own_below h.ma hb, own_below h.mb hb, h.mv, h.g.below hb h.g.lt, own_below h.ga hb, own_below h.gb hb, own_below h.l3 hb, h.bl.trans (hb.mono h.z), Nat.le_trans h.z hb.size, h.sp, h.sq, h.st⟩
theorem SX.setg (h : SX S w0 W p q tg ls A3 c3 F ys us wy xs ts wx Am Bm am bm A B a b ws ns) {A' B' : Option Addr} {a' b' : Nat} {ws' : List Int} {ns' : List (Int × Int × Int)} (o1 : W.ownsRow S 3 1 (.slice A' ws'.length a') ws'.length (ws'.map (Value.int .i64))) (o2 : W.ownsRow S 52 3 (.slice B' ns'.length b') ns'.length (triC ns')) :
    SX S w0 ((W.setCell ⟨tg, 0, none⟩ (.slice A' ws'.length a')).setCell ⟨tg, 1, none⟩ (.slice B' ns'.length b')) p q tg ls A3 c3 F ys us wy xs ts wx Am Bm am bm A' B' a' b' ws' ns' := by
  obtain ⟨cs, hp⟩ := h.kp.bp
  have hpt : p ≠ tg := Bk.ne_ hp h.g (by decide)
  have hqt : q ≠ tg := Bk.ne_ h.mo h.g (by decide)
  have ow : ∀ {e : TypeId} {size n : Nat} {v : Value} {l : List Value}, W.ownsRow S e size v n l → e ≠ 30 → ((W.setCell ⟨tg, 0, none⟩ (.slice A' ws'.length a')).setCell ⟨tg, 1, none⟩ (.slice B' ns'.length b')).ownsRow S e size v n l := fun ho he => own_set (i := 1) (own_set (i := 0) ho (h.g.ne_own ho he) _) (h.g.ne_own ho he) _
  exact ⟨(h.kp.set_ h.ft hpt 0 _).set_ h.ft hpt 1 _, h.fq, h.ft, (h.mo.far (p := ⟨tg, 0, none⟩) hqt _).far (p := ⟨tg, 1, none⟩) hqt _, ow h.ma (by decide), ow h.mb (by decide), h.mv, (h.g.set_ 0 (.slice A' ws'.length a')).set_ 1 (.slice B' ns'.length b'), ow o1 (by decide), ow o2 (by decide), ow h.l3 (by decide),
    (h.bl.setCell (p := ⟨tg, 0, none⟩) h.st _).setCell (p := ⟨tg, 1, none⟩) h.st _, by have := h.z; simpa [World.setCell] using this, h.sp, h.sq, h.st⟩
theorem SX.xset (h : SX S w0 W p q tg ls A3 c3 F ys us wy xs ts wx Am Bm am bm A B a b ws ns) (hg : W.grownBy W' (some p)) {F' : Nat → Prop} {ys' : List Int} {us' : List (Int × Int × Int)} {wy' : Int} (hK : KP W' p F' ls ys' us' wy') (hF : ∀ k, F' k → F k ∨ W.heap.size ≤ k) : SX S w0 W' p q tg ls A3 c3 F' ys' us' wy' xs ts wx Am Bm am bm A B a b ws ns :=
  ⟨hK, fun hc => (hF q hc).elim h.fq (fun hz => absurd h.mo.lt (by omega)), fun hc => (hF tg hc).elim h.ft (fun hz => absurd h.g.lt (by omega)), h.kp.bk h.mo (by decide) hg, h.kp.own h.ma (by decide) hg, h.kp.own h.mb (by decide) hg, h.mv, h.kp.bk h.g (by decide) hg, h.kp.own h.ga (by decide) hg, h.kp.own h.gb (by decide) hg, h.kp.own h.l3 (by decide) hg,
    far_p h.bl h.z h.sp hg, Nat.le_trans h.z hg.size, h.sp, h.sq, h.st⟩
theorem SX.mset (h : SX S w0 W p q tg ls A3 c3 F ys us wy xs ts wx Am Bm am bm A B a b ws ns) (hg : W.grownBy W' (some q)) {A' B' : Option Addr} {a' b' : Nat} {xs' : List Int} {ts' : List (Int × Int × Int)} {wx' : Int} (hb : Bk W' q 59 #[.slice A3 ls.length c3, .slice A' xs'.length a', .slice B' ts'.length b', .int .i64 wx'])
    (o1 : W.ownsRow S 3 1 (.slice A' xs'.length a') xs'.length (xs'.map (Value.int .i64))) (o2 : W.ownsRow S 52 3 (.slice B' ts'.length b') ts'.length (triC ts')) (hv : validE xs' ts' = 0) : SX S w0 W' p q tg ls A3 c3 F ys us wy xs' ts' wx' A' B' a' b' A B a b ws ns := by
  obtain ⟨cs, hp⟩ := h.kp.bp
  have hpq : p ≠ q := Bk.ne_ hp h.mo (by decide)
  have ow : ∀ {e : TypeId} {size n : Nat} {v : Value} {l : List Value}, W.ownsRow S e size v n l → e ≠ 59 → W'.ownsRow S e size v n l := fun ho he => own_grown ho hg (.inr (Ne.symm (h.mo.ne_own ho he)))
  exact ⟨h.kp.kf (Kf.of_grown h.fq hg) (hg.block p h.kp.lt (fun e => hpq (by injection e))), h.fq, h.ft, hb, ow o1 (by decide), ow o2 (by decide), hv, h.g.grown hg (fun e => Bk.ne_ h.g h.mo (by decide) (by injection e)), ow h.ga (by decide), ow h.gb (by decide), ow h.l3 (by decide),
    h.bl.grown hg h.z (fun k hk => by injection hk with hk; have := h.sq; omega), Nat.le_trans h.z hg.size, h.sp, h.sq, h.st⟩
end

set_option linter.unusedSimpArgs false in
set_option maxHeartbeats 16000000 in
set_option maxRecDepth 100000 in
theorem sets_walk (A B C E : Option Addr) (c d f e' : Nat) (l k ms hs : List Int) (by_ : Int) (w : World) (hA : SI w A l) (hB : SI w B k) (hC : SI w C ms) (hE : SI w E hs) (hwl : W64 l) (hwk : W64 k) (hwm : W64 ms) (hwh : W64 hs) (hby : i64 by_) :
    Calls Try.prog 7 #[.slice A l.length c, .slice C ms.length f, .slice B k.length d, .slice E hs.length e', .int .i64 by_] w fun e w' => e = .returned (.bool true) ∧ Below w.heap.size w w' := by
  obtain ⟨S, hSz⟩ : ∃ S, Hid (w.heap.size = S) := ⟨_, Lib.hid rfl⟩
  have HA := Lib.hid (fun (W : World) (hW : Below S w W) => (hA.below (hSz.out.symm ▸ hW) : SI W A l))
  have HE := Lib.hid (fun (W : World) (hW : Below S w W) => (hE.below (hSz.out.symm ▸ hW) : SI W E hs))
  have HC := Lib.hid (fun (W : World) (hW : Below S w W) => (hC.below (hSz.out.symm ▸ hW) : SI W C ms))
  have Hbz := Lib.hid (fun (W : World) (hW : Below S w W) => (show S ≤ W.heap.size by have := hW.size; have := hSz.out; omega))
  go_enter Try.func7, Try.ntmps7
  go_wp2_with fail
  refine (least_any B d k w hB hwk).mono ?_
  rintro e w1 ⟨v3, ls, rfl, hown3, hT, hb1⟩
  obtain ⟨A3, c3, rfl⟩ := own_slice hown3
  have m1 := hT.n1
  have m2 := hT.n2
  have hthr := hT.ok (by omega)
  rw [hSz.out] at hown3 hb1
  have Hls := Lib.hid hown3
  have Hb1 := Lib.hid hb1
  have Hthr := Lib.hid hthr
  clear hA hB hC hE hwk hT hown3 hb1 hthr
  go_wp2_with fail
  refine (new_any A3 c3 ls w1 (own_si Hls.out) (by omega)).mono ?_
  rintro e w2 ⟨hb2, hok, _⟩
  obtain ⟨p, F1, rfl, hpz, hKP, _⟩ := hok Hthr.out
  have hSp : S ≤ p := Nat.le_trans (Hbz.out _ Hb1.out) hpz
  have HK2 := Lib.hid hKP
  have Hb2 := Lib.hid (Hb1.out.trans (hb2.mono (Hbz.out _ Hb1.out)))
  have Hls := Lib.hid (own_below Hls.out hb2)
  clear hok hKP hb2 hpz
  go_wp2_with fail
  obtain ⟨q, hqe⟩ : ∃ z, Hid (w2.heap.size = z) := ⟨_, Lib.hid rfl⟩
  have hF1q : ¬ F1 q := fun h => by have := HK2.out.fl q h; have := hqe.out; omega
  have hz2 := Hbz.out _ Hb2.out
  have Hm3 := Lib.hid (Bk.new' w2 59 #[.slice A3 ls.length c3, .slice none 0 0, .slice none 0 0, .int .i64 0] hqe.out)
  have HK3 := Lib.hid (HK2.out.below ((Below.refl _ _).alloc (Nat.le_refl _) (.cells #[.slice A3 ls.length c3, .slice none 0 0, .slice none 0 0, .int .i64 0] 59)))
  have Hls := Lib.hid (Hls.out.alloc (.cells #[.slice A3 ls.length c3, .slice none 0 0, .slice none 0 0, .int .i64 0] 59))
  have Hb3 := Lib.hid (Hb2.out.alloc hz2 (.cells #[.slice A3 ls.length c3, .slice none 0 0, .slice none 0 0, .int .i64 0] 59))
  have hSq : S ≤ q := hqe.out ▸ hz2
  clear HK2 Hb2 Hb1
  go_wp2_with fail
  rw [hqe.out]
  generalize w2.alloc (.cells #[.slice A3 ls.length c3, .slice none 0 0, .slice none 0 0, .int .i64 0] 59) = W3 at *
  refine (some_any A c l 14 W3 (HA.out _ Hb3.out) hwl (by omega) (by omega)).mono ?_
  rintro e w4 ⟨v1, v2, ws, ns, rfl, hown1, hown2, hG, hb4⟩
  obtain ⟨A1, c1, rfl⟩ := own_slice hown1
  obtain ⟨A2, c2, rfl⟩ := own_slice hown2
  have n1 := hG.n1
  have n2 := hG.n2
  have n3 := hG.n3
  have Hgv := Lib.hid (GV.of (hG.ok (by omega) (by omega)))
  have hz3 := Hbz.out _ Hb3.out
  have hz4 : S ≤ w4.heap.size := Nat.le_trans hz3 hb4.size
  have hft : ¬ F1 w4.heap.size := fun h => by have := HK3.out.fl _ h; have := hb4.size; omega
  have HX := Lib.hid (⟨(HK3.out.below hb4).below ((Below.refl _ _).alloc (Nat.le_refl _) (.cells #[.slice A1 ws.length c1, .slice A2 ns.length c2] 30)), hF1q, hft, (Hm3.out.below hb4 Hm3.out.lt).alloc _, World.ownsRow_nil _ _ _ _, World.ownsRow_nil _ _ _ _, HK3.out.ok, Bk.new w4 30 #[.slice A1 ws.length c1, .slice A2 ns.length c2],
    (own_mono hown1 hz3).alloc _, (own_mono hown2 hz3).alloc _, (own_below Hls.out hb4).alloc _, (Hb3.out.trans (hb4.mono hz3)).alloc hz4 _, by simp; omega, hSp, hSq, hz4⟩ :
    SX S w (w4.alloc (.cells #[.slice A1 ws.length c1, .slice A2 ns.length c2] 30)) p q w4.heap.size ls A3 c3 F1 [] [] 0 [] [] 0 none none 0 0 A1 A2 c1 c2 ws ns)
  clear hown1 hown2 hG hb4 HK3 Hm3 Hls Hb3 hft hF1q hqe hz3 hz4
  go_wp2_with fail
  generalize w4.alloc (.cells #[.slice A1 ws.length c1, .slice A2 ns.length c2] 30) = W4 at *
  generalize w4.heap.size = tg at *
  go_loopw [16] (fun v wr => ∃ (i : Nat) (F : Nat → Prop) (xs : List Int) (ts : List (Int × Int × Int)) (wk : Int) (Am Bm : Option Addr) (am bm : Nat) (A5 B5 : Option Addr) (a5 b5 : Nat) (ws5 : List Int) (ns5 : List (Int × Int × Int)), i ≤ hs.length ∧ i ≤ 8 ∧ v = .int .i64 i ∧ GV ws5 ns5 ∧ 1 ≤ ws5.length ∧ ws5.length ≤ 20 + i ∧ 0 ≤ wk ∧ wk ≤ 40000000 * i ∧ SX S w wr p q tg ls A3 c3 F xs ts wk xs ts wk Am Bm am bm A5 B5 a5 b5 ws5 ns5) (fun v _ => 8 - (intOf v).toNat)
  case atStart => exact ⟨0, F1, [], [], 0, none, none, 0, 0, A1, A2, c1, c2, ws, ns, by omega, by omega, rfl, Hgv.out, by omega, by omega, by omega, by omega, HX.out⟩
  case round =>
    clear HX Hgv
    obtain ⟨i, F, xs, ts, wk, Am, Bm, am, bm, A5, B5, a5, b5, ws5, ns5, hi, hi8, rfl, hgv, hw1, hw2, hk1, hk2, hX⟩ := hrel
    have HX := Lib.hid hX
    have Hgv := Lib.hid hgv
    have m2 := hgv.n2
    have i0 : (0 : Int) ≤ (i : Int) := by omega
    by_cases hgo : i < hs.length ∧ i < 8
    · obtain ⟨h1, h2⟩ := hgo
      obtain ⟨bC, oC, x, rfl, hcC, hx⟩ := (HE.out _ hX.bl).get (k := i) h1
      have hxb := hwh x (List.mem_of_getElem? hx.out)
      obtain ⟨hn1, hn2⟩ := around_bd x 1048576 (by omega)
      have Han := Lib.hid (fun W => around_any x 1048576 W hxb.1 hxb.2 (by omega) (by omega))
      generalize around x 1048576 = n at *
      clear hX hgv hx hxb
      go_wp2_with fail
      refine (Han.out _).mono ?_
      rintro e wz ⟨rfl, rfl⟩
      clear Han hcC
      obtain ⟨r, hr, hr1, hr2⟩ : ∃ r : Int, n.tmod 8 = r ∧ 0 ≤ r ∧ r < 8 := ⟨_, rfl, by rw [Int.tmod_eq_emod_of_nonneg hn1]; omega, by rw [Int.tmod_eq_emod_of_nonneg hn1]; omega⟩
      go_upto_block 2 with fail
      go_cut [] (fun wx => ∃ (F : Nat → Prop) (xs : List Int) (ts : List (Int × Int × Int)) (wk : Int) (Am Bm : Option Addr) (am bm : Nat) (A5 B5 : Option Addr) (a5 b5 : Nat) (ws5 : List Int) (ns5 : List (Int × Int × Int)), GV ws5 ns5 ∧ 1 ≤ ws5.length ∧ ws5.length ≤ 21 + i ∧ 0 ≤ wk ∧ wk ≤ 40000000 * i + 20000000 ∧ SX S w wx p q tg ls A3 c3 F xs ts wk xs ts wk Am Bm am bm A5 B5 a5 b5 ws5 ns5)
      case first =>
        as_aux_lemma =>
        have hcase : r = 0 ∨ r = 1 ∨ 2 ≤ r := by omega
        have hq1 : n.tdiv 8 = n / 8 := Int.tdiv_eq_ediv_of_nonneg hn1
        have hq2 : n.tdiv 64 = n / 64 := Int.tdiv_eq_ediv_of_nonneg hn1
        have hq3 : n.tdiv 999 = n / 999 := Int.tdiv_eq_ediv_of_nonneg hn1
        have hw3 : IntKind.i64.wrap (n / 8) = n / 8 := IntWalk.i64_in _ (by omega)
        have hw4 : IntKind.i64.wrap (n / 64) = n / 64 := IntWalk.i64_in _ (by omega)
        have hw5 : IntKind.i64.wrap (n / 999) = n / 999 := IntWalk.i64_in _ (by omega)
        rcases hcase with rfl | rfl | hr3
        · go_wp2_with fail
          refine (some_any C f ms 8 wr (HC.out _ HX.out.bl) hwm (by omega) (by omega)).mono ?_
          rintro e w5 ⟨v1, v2, ws6, ns6, rfl, hown1, hown2, hG, hb5⟩
          obtain ⟨A6, c6, rfl⟩ := own_slice hown1
          obtain ⟨A7, c7, rfl⟩ := own_slice hown2
          have e1 := hG.n1
          have e2 := hG.n2
          have e3 := hG.n3
          have Hgv6 := Lib.hid (GV.of (hG.ok (by omega) (by omega)))
          have HX5 := Lib.hid (HX.out.below hb5)
          have HX6 := Lib.hid (HX5.out.setg (own_mono hown1 HX.out.z) (own_mono hown2 HX.out.z))
          have g0 : w5.cell? ⟨tg, 0, none⟩ = some (.slice A5 ws5.length a5) := HX5.out.g.cell 0
          have g1 : w5.cell? ⟨tg, 1, none⟩ = some (.slice B5 ns5.length b5) := HX5.out.g.cell 1
          have g2 := HX5.out.g.frozen 0
          have g3 := HX5.out.g.frozen 1
          clear hown1 hown2 hG hb5 HX HX5
          go_wp2_with fail
          go_meet
          exact ⟨F, xs, ts, wk, Am, Bm, am, bm, A6, A7, c6, c7, ws6, ns6, Hgv6.out, by omega, by omega, by omega, by omega, HX6.out⟩
        · have g0 : wr.cell? ⟨tg, 0, none⟩ = some (.slice A5 ws5.length a5) := HX.out.g.cell 0
          have g1 : wr.cell? ⟨tg, 1, none⟩ = some (.slice B5 ns5.length b5) := HX.out.g.cell 1
          go_wp2_with fail
          refine (spoilt_any A5 B5 a5 b5 ws5 ns5 (n / 8) (n / 64) by_ wr (own_si HX.out.ga) (SL.of_own HX.out.gb) hw1 (by omega) (by omega) (by omega) (by omega) hby).mono ?_
          rintro e w5 ⟨A6, c6, A7, c7, ws6, ns6, rfl, hown1, hown2, e1, e2, hb5⟩
          have HX5 := Lib.hid ((HX.out.below hb5).below ((Below.refl _ _).alloc (Nat.le_refl _) (.cells #[.slice A6 ws6.length c6, .slice A7 ns6.length c7] 30)))
          have Ho1 := Lib.hid ((own_mono hown1 HX.out.z).alloc (.cells #[.slice A6 ws6.length c6, .slice A7 ns6.length c7] 30))
          have Ho2 := Lib.hid ((own_mono hown2 HX.out.z).alloc (.cells #[.slice A6 ws6.length c6, .slice A7 ns6.length c7] 30))
          have Hk5 := Lib.hid (Bk.new w5 30 #[.slice A6 ws6.length c6, .slice A7 ns6.length c7])
          have f0 : (w5.alloc (.cells #[.slice A6 ws6.length c6, .slice A7 ns6.length c7] 30)).cell? ⟨w5.heap.size, 0, none⟩ = some (.slice A6 ws6.length c6) := Hk5.out.cell 0
          have f1 : (w5.alloc (.cells #[.slice A6 ws6.length c6, .slice A7 ns6.length c7] 30)).cell? ⟨w5.heap.size, 1, none⟩ = some (.slice A7 ns6.length c7) := Hk5.out.cell 1
          clear hown1 hown2 hb5 HX g0 g1
          go_wp2_with fail
          clear f0 f1
          generalize w5.alloc (.cells #[.slice A6 ws6.length c6, .slice A7 ns6.length c7] 30) = W5 at *
          generalize w5.heap.size = tk at *
          refine (own_any A6 A7 c6 c7 ws6.length ns6.length W5).mono ?_
          rintro e w6 ⟨rfl, hb6⟩
          have HX6 := Lib.hid (HX5.out.below hb6)
          have Ho1 := Lib.hid (own_below Ho1.out hb6)
          have Ho2 := Lib.hid (own_below Ho2.out hb6)
          have Hk6 := Lib.hid (Hk5.out.below hb6 Hk5.out.lt)
          clear hb6 HX5 Hk5
          go_wp2_with fail
          refine (set_any p F A6 A7 c6 c7 ls xs ws6 ts ns6 wk w6 HX6.out.kp (HX6.out.kp.siO Ho1.out) (HX6.out.kp.stO Ho2.out) (by omega) (by omega) (by omega)).mono ?_
          rintro e w7 ⟨hbad, hok⟩
          by_cases hv6 : validE ws6 ns6 = 0
          · obtain ⟨he, hg, F7, hK, hF7⟩ := hok hv6
            subst he
            have hinc := incD_le2 (ws := xs) (ns := ts) hv6
            have HX7 := Lib.hid (HX6.out.xset hg hK hF7)
            have Ho1 := Lib.hid (HX6.out.kp.own Ho1.out (by decide) hg)
            have Ho2 := Lib.hid (HX6.out.kp.own Ho2.out (by decide) hg)
            have Hk7 := Lib.hid (HX6.out.kp.bk Hk6.out (by decide) hg)
            have f0 : w7.cell? ⟨tk, 0, none⟩ = some (.slice A6 ws6.length c6) := Hk7.out.cell 0
            have f1 : w7.cell? ⟨tk, 1, none⟩ = some (.slice A7 ns6.length c7) := Hk7.out.cell 1
            have Hv6 := Lib.hid hv6
            clear hbad hok hg hK hF7 HX6 Hk6 hv6
            obtain ⟨wk2, hwk2⟩ : ∃ z, Hid (wk + incD (newsD (partsD xs ts) (partsD ws6 ns6)) = z) := ⟨_, Lib.hid rfl⟩
            have hwb : 0 ≤ wk2 ∧ wk2 ≤ 40000000 * i + 20000000 := by rw [← hwk2.out]; omega
            generalize hmm : (newsD (partsD xs ts) (partsD ws6 ns6)).length = mm
            have Hmm := Lib.hid hmm
            rw [hwk2.out] at HX7
            clear hmm hinc
            go_wp2_with fail
            clear f0 f1
            refine (refSet_any q S (.slice A3 ls.length c3) Am Bm A6 A7 am bm c6 c7 xs ws6 ts ns6 wk w7 HX7.out.mo HX7.out.ma HX7.out.mb Ho1.out Ho2.out HX7.out.mv (by omega) (by omega) (by omega)).mono ?_
            rintro e w8 ⟨_, hok⟩
            obtain ⟨he, hg, hb⟩ := hok Hv6.out
            subst he
            rw [hwk2.out] at hb
            have HX8 := Lib.hid (HX7.out.mset hg hb Ho1.out Ho2.out Hv6.out)
            have hee : ((0 : Int) != 0) = false := rfl
            clear hok hg hb HX7 Ho1 Ho2 Hk7
            go_wp2_with fail
            go_meet
            exact ⟨F7, ws6, ns6, wk2, A6, A7, c6, c7, A5, B5, a5, b5, ws5, ns5, Hgv.out, by omega, by omega, by omega, by omega, HX8.out⟩
          · obtain ⟨he, hK, hb⟩ := hbad hv6
            subst he
            have HX7 := Lib.hid (HX6.out.below hb)
            have Ho1 := Lib.hid (own_below Ho1.out hb)
            have Ho2 := Lib.hid (own_below Ho2.out hb)
            have Hk7 := Lib.hid (Hk6.out.below hb Hk6.out.lt)
            have f0 : w7.cell? ⟨tk, 0, none⟩ = some (.slice A6 ws6.length c6) := Hk7.out.cell 0
            have f1 : w7.cell? ⟨tk, 1, none⟩ = some (.slice A7 ns6.length c7) := Hk7.out.cell 1
            have Hv6 := Lib.hid hv6
            clear hbad hok hb hK HX6 Hk6 hv6
            go_wp2_with fail
            clear f0 f1
            refine (refSet_any q S (.slice A3 ls.length c3) Am Bm A6 A7 am bm c6 c7 xs ws6 ts ns6 wk w7 HX7.out.mo HX7.out.ma HX7.out.mb Ho1.out Ho2.out HX7.out.mv (by omega) (by omega) (by omega)).mono ?_
            rintro e w8 ⟨hbad, _⟩
            obtain ⟨he, hb⟩ := hbad Hv6.out
            subst he
            have HX8 := Lib.hid (HX7.out.below hb)
            have hee : (validE ws6 ns6 != validE ws6 ns6) = false := by simp
            clear hbad hb HX7 Ho1 Ho2 Hk7
            go_wp2_with fail
            go_meet
            exact ⟨F, xs, ts, wk, Am, Bm, am, bm, A5, B5, a5, b5, ws5, ns5, Hgv.out, by omega, by omega, by omega, by omega, HX8.out⟩
        · have g0 : wr.cell? ⟨tg, 0, none⟩ = some (.slice A5 ws5.length a5) := HX.out.g.cell 0
          have g1 : wr.cell? ⟨tg, 1, none⟩ = some (.slice B5 ns5.length b5) := HX.out.g.cell 1
          have hz0 : (r == 0) = false := beq_eq_false_iff_ne.2 (by omega)
          have hz1 : (r == 1) = false := beq_eq_false_iff_ne.2 (by omega)
          go_wp2_with fail
          refine (changed_any A5 B5 a5 b5 (n / 8) (n / 64) (n / 999) ws5 ns5 wr (own_si HX.out.ga) (SL.of_own HX.out.gb) Hgv.out (by omega) (own_cap3 HX.out.gb) (by unfold i64; omega) (by unfold i64; omega) (by unfold i64; omega)).mono ?_
          rintro e w5 ⟨ws6, ns6, A6, c6, A7, c7, rfl, hgv6, hln, hown1, hown2, hb5⟩
          have Hgv6 := Lib.hid hgv6
          have HX5 := Lib.hid (HX.out.below hb5)
          have HX6 := Lib.hid (HX5.out.setg (own_mono hown1 HX.out.z) (own_mono hown2 HX.out.z))
          have g0 : w5.cell? ⟨tg, 0, none⟩ = some (.slice A5 ws5.length a5) := HX5.out.g.cell 0
          have g1 : w5.cell? ⟨tg, 1, none⟩ = some (.slice B5 ns5.length b5) := HX5.out.g.cell 1
          have g2 := HX5.out.g.frozen 0
          have g3 := HX5.out.g.frozen 1
          clear hown1 hown2 hb5 HX HX5 hgv6
          go_wp2_with fail
          go_meet
          exact ⟨F, xs, ts, wk, Am, Bm, am, bm, A6, A7, c6, c7, ws6, ns6, Hgv6.out, by omega, by omega, by omega, by omega, HX6.out⟩
      case rest =>
        clear HX Hgv
        obtain ⟨F, xs, ts, wk, Am, Bm, am, bm, A5, B5, a5, b5, ws5, ns5, hgv, hw1, hw2, hk1, hk2, hX⟩ := hcut
        obtain ⟨w5, rfl⟩ : ∃ z, z = wc := ⟨wc, rfl⟩
        have HX5 := Lib.hid hX
        have Hgv := Lib.hid hgv
        have Hv5 := Lib.hid hgv.ok
        have m2 := hgv.n2
        have g0 : w5.cell? ⟨tg, 0, none⟩ = some (.slice A5 ws5.length a5) := hX.g.cell 0
        have g1 : w5.cell? ⟨tg, 1, none⟩ = some (.slice B5 ns5.length b5) := hX.g.cell 1
        clear hgv hX
        go_wp2_with fail
        clear g0 g1
        refine (own_any A5 B5 a5 b5 ws5.length ns5.length w5).mono ?_
        rintro e w6 ⟨rfl, hb6⟩
        have HX6 := Lib.hid (HX5.out.below hb6)
        clear hb6 HX5
        go_wp2_with fail
        refine (set_any p F A5 B5 a5 b5 ls xs ws5 ts ns5 wk w6 HX6.out.kp (HX6.out.kp.siO HX6.out.ga) (HX6.out.kp.stO HX6.out.gb) (by omega) (by omega) (by omega)).mono ?_
        rintro e w7 ⟨_, hok⟩
        obtain ⟨he, hg, F7, hK, hF7⟩ := hok Hv5.out
        subst he
        have hinc := incD_le2 (ws := xs) (ns := ts) Hv5.out
        have HX7 := Lib.hid (HX6.out.xset hg hK hF7)
        have g0 : w7.cell? ⟨tg, 0, none⟩ = some (.slice A5 ws5.length a5) := HX7.out.g.cell 0
        have g1 : w7.cell? ⟨tg, 1, none⟩ = some (.slice B5 ns5.length b5) := HX7.out.g.cell 1
        clear hok hg hK hF7 HX6
        obtain ⟨wk2, hwk2⟩ : ∃ z, Hid (wk + incD (newsD (partsD xs ts) (partsD ws5 ns5)) = z) := ⟨_, Lib.hid rfl⟩
        have hwb : 0 ≤ wk2 ∧ wk2 ≤ 40000000 * ((i : Int) + 1) := by rw [← hwk2.out]; omega
        obtain ⟨mm, hmm⟩ : ∃ z, Hid ((newsD (partsD xs ts) (partsD ws5 ns5)).length = z) := ⟨_, Lib.hid rfl⟩
        rw [hwk2.out] at HX7
        rw [hmm.out]
        clear hinc
        go_wp2_with fail
        clear g0 g1
        refine (refSet_any q S (.slice A3 ls.length c3) Am Bm A5 B5 am bm a5 b5 xs ws5 ts ns5 wk w7 HX7.out.mo HX7.out.ma HX7.out.mb HX7.out.ga HX7.out.gb HX7.out.mv (by omega) (by omega) (by omega)).mono ?_
        rintro e w8 ⟨_, hok⟩
        obtain ⟨he, hg, hb⟩ := hok Hv5.out
        subst he
        rw [hwk2.out] at hb
        rw [hmm.out]
        have HX8 := Lib.hid (HX7.out.mset hg hb HX7.out.ga HX7.out.gb Hv5.out)
        have g0 : w8.cell? ⟨tg, 0, none⟩ = some (.slice A5 ws5.length a5) := HX8.out.g.cell 0
        have g1 : w8.cell? ⟨tg, 1, none⟩ = some (.slice B5 ns5.length b5) := HX8.out.g.cell 1
        clear hok hg hb HX7 hwk2 hmm
        go_wp2_with fail
        clear g0 g1
        refine (own_any A5 B5 a5 b5 ws5.length ns5.length w8).mono ?_
        rintro e w9 ⟨rfl, hb9⟩
        have HX9 := Lib.hid (HX8.out.below hb9)
        clear hb9 HX8
        go_wp2_with fail
        obtain ⟨fs, hfs⟩ : ∃ z, Hid (facesOf (partsD ws5 ns5) = z) := ⟨_, Lib.hid rfl⟩
        have hfl : fs.length ≤ 4096 := by
          rw [← hfs.out, facesOf, List.length_map, partsD, partsO, List.length_map]
          have := rts_len (comp ns5 ws5.length) ws5.length
          omega
        have hfe : ∀ l ∈ fs, l.length ≤ 4096 := fun l hl => by
          rw [← hfs.out, facesOf] at hl
          obtain ⟨d, hd, rfl⟩ := List.mem_map.1 hl
          obtain ⟨kk, hkk, rfl⟩ := List.getElem_of_mem hd
          have := (partsD_ib Hv5.out (List.getElem?_eq_getElem hkk)).2.2.2.2
          exact this
        have Hfe := Lib.hid hfe
        clear hfe
        refine (partsX_any A5 B5 a5 b5 ws5 ns5 w9 (own_si HX9.out.ga) (SL.of_own HX9.out.gb) (by omega) (by omega)).mono ?_
        rintro e w10 ⟨hb10, hok, _⟩
        obtain ⟨DP, mP, rfl, hL⟩ := hok Hv5.out
        rw [hfs.out] at hL ⊢
        have HX10 := Lib.hid (HX9.out.below hb10)
        have HDP := Lib.hid (fun (W : World) (hW : Below w10.heap.size w10 W) => hL W (Up.of_below hW))
        have HRP := Lib.hid (fun (W : World) (hW : Below w10.heap.size w10 W) => show Calls Try.prog 26 #[.agg #[.slice A5 ws5.length a5, .slice B5 ns5.length b5]] W fun e w' => ∃ D m, e = .returned (.slice D fs.length m) ∧ SLL w' D fs ∧ Below W.heap.size W w' from by
          have h := refParts_any A5 B5 a5 b5 ws5 ns5 W (own_si (HX10.out.below hW).ga) (SL.of_own (HX10.out.below hW).gb) Hv5.out
          rw [hfs.out] at h
          exact h)
        have HSl := Lib.hid (fun (D : Option Addr) (m : Nat) (W : World) (hW : Below w10.heap.size w10 W) (hD : SLL W D fs) => show Calls Try.prog 16 #[.slice DP fs.length mP, .slice D fs.length m] W fun e w' => e = .returned (.bool true) ∧ Qt W w' from
          (sameLists_any DP D mP m fs fs W (HDP.out _ hW) hD (by omega) (fun l hl => by have := Hfe.out l hl; omega) (fun l hl => by have := Hfe.out l hl; omega)).mono fun e w' ⟨he, hq⟩ => ⟨by rw [he]; simp, hq⟩)
        have HSf := Lib.hid (fun (W : World) (hW : Below w10.heap.size w10 W) => show W.cell? ⟨tg, 0, none⟩ = some (.slice A5 ws5.length a5) ∧ W.cell? ⟨tg, 1, none⟩ = some (.slice B5 ns5.length b5) ∧ W.cell? ⟨q, 3, none⟩ = some (.int .i64 wk2) from ⟨(HX10.out.below hW).g.cell 0, (HX10.out.below hW).g.cell 1, (HX10.out.below hW).mo.cell 3⟩)
        have HB0 := Lib.hid ((Below.refl w10.heap.size w10).drew)
        clear hb10 hok hL HX9 hfs
        go_wp2_with fail
        refine wp_region_noPanic ?_
        refine region_H (S := fun W => W.cell? ⟨tg, 0, none⟩ = some (.slice A5 ws5.length a5) ∧ W.cell? ⟨tg, 1, none⟩ = some (.slice B5 ns5.length b5) ∧ W.cell? ⟨q, 3, none⟩ = some (.int .i64 wk2)) (by kernel_rfl) ?_
        change wpH _ _ _ _ 29 _ _ w10.drew
        refine H_takeD (k := 0) (v := .int .i64 mm) (d := some 126) rfl rfl (by decide +kernel) (fun _ _ _ h => h) (Or.inl ⟨by rfl, fun W hW => by obtain ⟨s0, s1, s2⟩ := hW; go_simp⟩) (HSf.out _ HB0.out) ?_
        try simp only [Act.put, List.setIfInBounds_toArray, List.set_cons_zero, List.set_cons_succ]
        refine H_takeD (k := 1) (v := .int .i64 mm) (d := some 127) rfl rfl (by decide +kernel) (fun _ _ _ h => h) (Or.inl ⟨by rfl, fun W hW => by obtain ⟨s0, s1, s2⟩ := hW; go_simp⟩) (HSf.out _ HB0.out) ?_
        try simp only [Act.put, List.setIfInBounds_toArray, List.set_cons_zero, List.set_cons_succ]
        refine H_takeD (k := 2) (v := .bool false) (d := some 128) rfl rfl (by decide +kernel) (fun _ _ _ h => h) (Or.inl ⟨by rfl, fun W hW => by obtain ⟨s0, s1, s2⟩ := hW; go_simp⟩) (HSf.out _ HB0.out) ?_
        try simp only [Act.put, List.setIfInBounds_toArray, List.set_cons_zero, List.set_cons_succ]
        refine H_takeD (k := 3) (v := .bool false) (d := some 129) rfl rfl (by decide +kernel) (fun _ _ _ h => h) (Or.inl ⟨by rfl, fun W hW => by obtain ⟨s0, s1, s2⟩ := hW; go_simp⟩) (HSf.out _ HB0.out) ?_
        try simp only [Act.put, List.setIfInBounds_toArray, List.set_cons_zero, List.set_cons_succ]
        refine H_takeD (k := 4) (v := .int .i64 0) (d := some 130) rfl rfl (by decide +kernel) (fun _ _ _ h => h) (Or.inl ⟨by simp [Region.wanted, yielded], fun W hW => by obtain ⟨s0, s1, s2⟩ := hW; go_simp⟩) (HSf.out _ HB0.out) ?_
        try simp only [Act.put, List.setIfInBounds_toArray, List.set_cons_zero, List.set_cons_succ]
        refine H_takeD (k := 5) (v := .int .i64 0) (d := some 131) rfl rfl (by decide +kernel) (fun _ _ _ h => h) (Or.inl ⟨by simp [Region.wanted, yielded], fun W hW => by obtain ⟨s0, s1, s2⟩ := hW; go_simp⟩) (HSf.out _ HB0.out) ?_
        try simp only [Act.put, List.setIfInBounds_toArray, List.set_cons_zero, List.set_cons_succ]
        refine H_takeD (k := 6) (v := .bool false) (d := some 132) rfl rfl (by decide +kernel) (fun _ _ _ h => h) (Or.inl ⟨by simp [Region.wanted, yielded], fun W hW => by obtain ⟨s0, s1, s2⟩ := hW; go_simp⟩) (HSf.out _ HB0.out) ?_
        try simp only [Act.put, List.setIfInBounds_toArray, List.set_cons_zero, List.set_cons_succ]
        refine H_takeD (k := 7) (v := .bool false) (d := some 133) rfl rfl (by decide +kernel) (fun _ _ _ h => h) (Or.inl ⟨by rfl, fun W hW => by obtain ⟨s0, s1, s2⟩ := hW; go_simp⟩) (HSf.out _ HB0.out) ?_
        try simp only [Act.put, List.setIfInBounds_toArray, List.set_cons_zero, List.set_cons_succ]
        refine H_takeD (k := 8) (v := .bool false) (d := some 134) rfl rfl (by decide +kernel) (fun _ _ _ h => h) (Or.inl ⟨by rfl, fun W hW => by obtain ⟨s0, s1, s2⟩ := hW; go_simp⟩) (HSf.out _ HB0.out) ?_
        try simp only [Act.put, List.setIfInBounds_toArray, List.set_cons_zero, List.set_cons_succ]
        refine H_takeD (k := 9) (v := .int .i64 0) (d := some 135) rfl rfl (by decide +kernel) (fun _ _ _ h => h) (Or.inl ⟨by simp [Region.wanted, yielded], fun W hW => by obtain ⟨s0, s1, s2⟩ := hW; go_simp⟩) (HSf.out _ HB0.out) ?_
        try simp only [Act.put, List.setIfInBounds_toArray, List.set_cons_zero, List.set_cons_succ]
        refine H_takeD (k := 10) (v := .int .i64 0) (d := some 136) rfl rfl (by decide +kernel) (fun _ _ _ h => h) (Or.inl ⟨by simp [Region.wanted, yielded], fun W hW => by obtain ⟨s0, s1, s2⟩ := hW; go_simp⟩) (HSf.out _ HB0.out) ?_
        try simp only [Act.put, List.setIfInBounds_toArray, List.set_cons_zero, List.set_cons_succ]
        refine H_takeD (k := 11) (v := .bool false) (d := some 137) rfl rfl (by decide +kernel) (fun _ _ _ h => h) (Or.inl ⟨by simp [Region.wanted, yielded], fun W hW => by obtain ⟨s0, s1, s2⟩ := hW; go_simp⟩) (HSf.out _ HB0.out) ?_
        try simp only [Act.put, List.setIfInBounds_toArray, List.set_cons_zero, List.set_cons_succ]
        refine H_takeD (k := 12) (v := .bool false) (d := some 138) rfl rfl (by decide +kernel) (fun _ _ _ h => h) (Or.inl ⟨by rfl, fun W hW => by obtain ⟨s0, s1, s2⟩ := hW; go_simp⟩) (HSf.out _ HB0.out) ?_
        try simp only [Act.put, List.setIfInBounds_toArray, List.set_cons_zero, List.set_cons_succ]
        refine H_takeD (k := 13) (v := .bool false) (d := some 139) rfl rfl (by decide +kernel) (fun _ _ _ h => h) (Or.inl ⟨by rfl, fun W hW => by obtain ⟨s0, s1, s2⟩ := hW; go_simp⟩) (HSf.out _ HB0.out) ?_
        try simp only [Act.put, List.setIfInBounds_toArray, List.set_cons_zero, List.set_cons_succ]
        refine H_takeD (k := 14) (v := .slice DP fs.length mP) (d := some 140) rfl rfl (by decide +kernel) (fun _ _ _ h => h) (Or.inl ⟨by simp [Region.wanted, yielded], fun W hW => by obtain ⟨s0, s1, s2⟩ := hW; go_simp⟩) (HSf.out _ HB0.out) ?_
        try simp only [Act.put, List.setIfInBounds_toArray, List.set_cons_zero, List.set_cons_succ]
        refine H_takeD (k := 15) (v := .agg #[.slice A5 ws5.length a5, .slice B5 ns5.length b5]) (d := some 141) rfl rfl (by decide +kernel) (fun _ _ _ h => h) (Or.inl ⟨by simp [Region.wanted, yielded], fun W hW => by obtain ⟨s0, s1, s2⟩ := hW; go_simp⟩) (HSf.out _ HB0.out) ?_
        try simp only [Act.put, List.setIfInBounds_toArray, List.set_cons_zero, List.set_cons_succ]
        refine H_one (i := 16) (by decide +kernel) (H_stepg rfl (by simp [Region.wanted, yielded]) (fun K hK16 => ?_))
        have hK16 := Lib.hid hK16
        go_simp
        go_at_call 26
        refine (HRP.out _ HB0.out).mono ?_
        rintro e wv1 ⟨DR, mR, rfl, hsl, hv1⟩
        have HDR := Lib.hid hsl
        have HB1 := Lib.hid (HB0.out.trans (hv1.mono HB0.out.size))
        clear hsl hv1
        refine hK16.out _ _ (HSf.out _ HB1.out) ?_
        try simp only [Act.put, List.setIfInBounds_toArray, List.set_cons_zero, List.set_cons_succ]
        refine H_one (i := 17) (by decide +kernel) (H_stepg rfl (by simp [Region.wanted, yielded]) (fun K hK17 => ?_))
        have hK17 := Lib.hid hK17
        go_simp
        go_at_call 16
        refine (HSl.out DR mR _ HB1.out HDR.out).mono ?_
        rintro e wv2 ⟨rfl, hv2⟩
        have HB2 := Lib.hid (hv2.bl HB1.out)
        clear hv2
        refine hK17.out _ _ (HSf.out _ HB2.out) ?_
        try simp only [Act.put, List.setIfInBounds_toArray, List.set_cons_zero, List.set_cons_succ]
        refine H_takeD (k := 18) (v := .bool false) (d := some 144) rfl rfl (by decide +kernel) (fun _ _ _ h => h) (Or.inl ⟨by simp [Region.wanted, yielded], fun W hW => by obtain ⟨s0, s1, s2⟩ := hW; go_simp⟩) (HSf.out _ HB2.out) ?_
        try simp only [Act.put, List.setIfInBounds_toArray, List.set_cons_zero, List.set_cons_succ]
        refine H_takeD (k := 19) (v := .bool false) (d := some 145) rfl rfl (by decide +kernel) (fun _ _ _ h => h) (Or.inl ⟨by rfl, fun W hW => by obtain ⟨s0, s1, s2⟩ := hW; go_simp⟩) (HSf.out _ HB2.out) ?_
        try simp only [Act.put, List.setIfInBounds_toArray, List.set_cons_zero, List.set_cons_succ]
        refine H_takeD (k := 20) (v := .bool false) (d := some 146) rfl rfl (by decide +kernel) (fun _ _ _ h => h) (Or.inl ⟨by rfl, fun W hW => by obtain ⟨s0, s1, s2⟩ := hW; go_simp⟩) (HSf.out _ HB2.out) ?_
        try simp only [Act.put, List.setIfInBounds_toArray, List.set_cons_zero, List.set_cons_succ]
        refine H_takeD (k := 21) (v := .pointer (some ⟨p, 0, none⟩)) (d := some 147) rfl rfl (by decide +kernel) (fun _ _ _ h => h) (Or.inl ⟨by simp [Region.wanted, yielded], fun W hW => by obtain ⟨s0, s1, s2⟩ := hW; go_simp⟩) (HSf.out _ HB2.out) ?_
        try simp only [Act.put, List.setIfInBounds_toArray, List.set_cons_zero, List.set_cons_succ]
        refine H_takeD (k := 23) (v := .pointer (some ⟨q, 0, none⟩)) (d := some 149) rfl rfl (by decide +kernel) (fun _ _ _ h => h) (Or.inl ⟨by simp [Region.wanted, yielded], fun W hW => by obtain ⟨s0, s1, s2⟩ := hW; go_simp⟩) (HSf.out _ HB2.out) ?_
        try simp only [Act.put, List.setIfInBounds_toArray, List.set_cons_zero, List.set_cons_succ]
        refine H_takeD (k := 24) (v := .pointer (some ⟨q, 0, none⟩)) (d := some 150) rfl rfl (by decide +kernel) (fun _ _ _ h => h) (Or.inl ⟨by simp [Region.wanted, yielded], fun W hW => by obtain ⟨s0, s1, s2⟩ := hW; go_simp⟩) (HSf.out _ HB2.out) ?_
        try simp only [Act.put, List.setIfInBounds_toArray, List.set_cons_zero, List.set_cons_succ]
        refine H_takeD (k := 25) (v := .pointer (some ⟨q, 3, none⟩)) (d := some 151) rfl rfl (by decide +kernel) (fun _ _ _ h => h) (Or.inl ⟨by simp [Region.wanted, yielded], fun W hW => by obtain ⟨s0, s1, s2⟩ := hW; go_simp⟩) (HSf.out _ HB2.out) ?_
        try simp only [Act.put, List.setIfInBounds_toArray, List.set_cons_zero, List.set_cons_succ]
        refine H_takeD (k := 26) (v := .int .i64 wk2) (d := some 152) rfl rfl (by decide +kernel) (fun _ _ _ h => h) (Or.inl ⟨by simp [Region.wanted, yielded], fun W hW => by obtain ⟨s0, s1, s2⟩ := hW; go_simp⟩) (HSf.out _ HB2.out) ?_
        try simp only [Act.put, List.setIfInBounds_toArray, List.set_cons_zero, List.set_cons_succ]
        refine H_one (i := 22) (by decide +kernel) (H_stepg rfl (by simp [Region.wanted, yielded]) (fun K hK26 => ?_))
        have hK26 := Lib.hid hK26
        go_simp
        go_at_call 22
        refine (work_any p F7 ls ws5 ns5 wk2 _ (HX10.out.below HB2.out).kp).mono ?_
        rintro e wv3 ⟨rfl, hv3⟩
        have HB3 := Lib.hid (hv3.bl HB2.out)
        clear hv3
        refine hK26.out _ _ (HSf.out _ HB3.out) ?_
        try simp only [Act.put, List.setIfInBounds_toArray, List.set_cons_zero, List.set_cons_succ]
        refine H_takeD (k := 27) (v := .bool false) (d := some 153) rfl rfl (by decide +kernel) (fun _ _ _ h => h) (Or.inl ⟨by simp [Region.wanted, yielded], fun W hW => by obtain ⟨s0, s1, s2⟩ := hW; go_simp⟩) (HSf.out _ HB3.out) ?_
        try simp only [Act.put, List.setIfInBounds_toArray, List.set_cons_zero, List.set_cons_succ]
        refine H_takeD (k := 28) (v := .bool false) (d := some 154) rfl rfl (by decide +kernel) (fun _ _ _ h => h) (Or.inl ⟨by rfl, fun W hW => by obtain ⟨s0, s1, s2⟩ := hW; go_simp⟩) (HSf.out _ HB3.out) ?_
        try simp only [Act.put, List.setIfInBounds_toArray, List.set_cons_zero, List.set_cons_succ]
        refine H_end (by decide +kernel) (NoPanic.normal ?_)
        try simp only [Act.put, List.setIfInBounds_toArray, List.set_cons_zero, List.set_cons_succ]
        have HX11 := Lib.hid (HX10.out.below HB3.out)
        clear HDP HRP HSl HSf HB0 HB1 HB2 HB3 HX10 HDR Hfe
        have g0 : wv3.cell? ⟨tg, 0, none⟩ = some (.slice A5 ws5.length a5) := HX11.out.g.cell 0
        have g1 : wv3.cell? ⟨tg, 1, none⟩ = some (.slice B5 ns5.length b5) := HX11.out.g.cell 1
        go_wp2_with fail
        clear g0 g1
        have hoE : ofE ws5 ns5 ls = 0 := by rw [ofE_eq, Hv5.out, Hthr.out]; rfl
        have hoL : ofL ws5 ns5 ls = lists ws5 ns5 ls := by rw [ofL, if_pos hoE]
        have hw5 : ∀ l ∈ lists ws5 ns5 ls, l.length ≤ 1099511627776 := fun l hl => by rw [lists_lens2 l hl]; omega
        refine (refOf_any A5 B5 A3 a5 b5 c3 ws5 ns5 ls wv3 (own_si HX11.out.ga) (SL.of_own HX11.out.gb) (own_si HX11.out.l3) (by omega) (by omega) (by omega)).mono ?_
        rintro e w12 ⟨DW, mW, he, hsl, hb12⟩
        rw [hoE, hoL, lists_len] at he
        rw [hoL] at hsl
        subst he
        have HX12 := Lib.hid (HX11.out.below hb12)
        clear HX11
        have HDW := Lib.hid (fun (W : World) (hW : Below w12.heap.size w12 W) => hsl.below hW)
        have Hsame := Lib.hid (fun (D : Option Addr) (m : Nat) (W : World) (hW : Below w12.heap.size w12 W) (hD : SLL W D (lists ws5 ns5 ls)) => show Calls Try.prog 16 #[.slice D ls.length m, .slice DW ls.length mW] W fun e w' => e = .returned (.bool true) ∧ Qt W w' from by
          have h := sameLists_any D DW m mW (lists ws5 ns5 ls) (lists ws5 ns5 ls) W hD (HDW.out _ hW) (by rw [lists_len]; omega) (fun l hl => by rw [lists_lens2 l hl]; omega) (fun l hl => by rw [lists_lens2 l hl]; omega)
          rw [lists_len] at h
          exact h.mono fun e w' ⟨he, hq⟩ => ⟨by rw [he]; simp, hq⟩)
        have Hw5 := Lib.hid hw5
        have HSf := Lib.hid (fun (W : World) (hW : Below w12.heap.size w12 W) => show W.cell? ⟨tg, 0, none⟩ = some (.slice A5 ws5.length a5) ∧ W.cell? ⟨tg, 1, none⟩ = some (.slice B5 ns5.length b5) from ⟨(HX12.out.below hW).g.cell 0, (HX12.out.below hW).g.cell 1⟩)
        have HB0 := Lib.hid ((Below.refl w12.heap.size w12).drew)
        clear hw5 hoE hoL hsl hb12 HDW
        go_wp2_with fail
        refine wp_region_noPanic ?_
        refine region_H (S := fun W => W.cell? ⟨tg, 0, none⟩ = some (.slice A5 ws5.length a5) ∧ W.cell? ⟨tg, 1, none⟩ = some (.slice B5 ns5.length b5)) (by kernel_rfl) ?_
        change wpH _ _ _ _ 18 _ _ w12.drew
        refine H_takeD (k := 0) (v := .int .i64 0) (d := some 161) rfl rfl (by decide +kernel) (fun _ _ _ h => h) (Or.inl ⟨by rfl, fun W hW => by obtain ⟨s0, s1⟩ := hW; go_simp⟩) (HSf.out _ HB0.out) ?_
        try simp only [Act.put, List.setIfInBounds_toArray, List.set_cons_zero, List.set_cons_succ]
        refine H_takeD (k := 1) (v := .bool false) (d := some 162) rfl rfl (by decide +kernel) (fun _ _ _ h => h) (Or.inl ⟨by rfl, fun W hW => by obtain ⟨s0, s1⟩ := hW; go_simp⟩) (HSf.out _ HB0.out) ?_
        try simp only [Act.put, List.setIfInBounds_toArray, List.set_cons_zero, List.set_cons_succ]
        refine H_takeD (k := 2) (v := .bool false) (d := some 163) rfl rfl (by decide +kernel) (fun _ _ _ h => h) (Or.inl ⟨by rfl, fun W hW => by obtain ⟨s0, s1⟩ := hW; go_simp⟩) (HSf.out _ HB0.out) ?_
        try simp only [Act.put, List.setIfInBounds_toArray, List.set_cons_zero, List.set_cons_succ]
        refine H_takeD (k := 3) (v := .pointer (some ⟨p, 0, none⟩)) (d := some 164) rfl rfl (by decide +kernel) (fun _ _ _ h => h) (Or.inl ⟨by simp [Region.wanted, yielded], fun W hW => by obtain ⟨s0, s1⟩ := hW; go_simp⟩) (HSf.out _ HB0.out) ?_
        try simp only [Act.put, List.setIfInBounds_toArray, List.set_cons_zero, List.set_cons_succ]
        refine H_takeD (k := 6) (v := .slice DW ls.length mW) (d := some 167) rfl rfl (by decide +kernel) (fun _ _ _ h => h) (Or.inl ⟨by simp [Region.wanted, yielded], fun W hW => by obtain ⟨s0, s1⟩ := hW; go_simp⟩) (HSf.out _ HB0.out) ?_
        try simp only [Act.put, List.setIfInBounds_toArray, List.set_cons_zero, List.set_cons_succ]
        refine H_one (i := 4) (by decide +kernel) (H_stepg rfl (by simp [Region.wanted, yielded]) (fun K hK5 => ?_))
        have hK5 := Lib.hid hK5
        go_simp
        go_at_call 17
        refine (chain_any p F7 ls ws5 ns5 wk2 _ (HX12.out.below HB0.out).kp).mono ?_
        rintro e wu1 ⟨DC, mC, vsD, rfl, hoD, hLD, hv1⟩
        have HDs := Lib.hid (SLL.of_rows hoD hLD.ll Hw5.out)
        have hfd : ∀ W : World, (Instr.field 40 (.agg #[.slice DC ls.length mC]) 0).run Try.prog W = .ok (.slice DC ls.length mC) W := fun _ => by kernel_rfl
        clear hoD hLD
        have HB1 := Lib.hid (HB0.out.trans (hv1.mono HB0.out.size))
        clear hv1
        refine hK5.out _ _ (HSf.out _ HB1.out) ?_
        try simp only [Act.put, List.setIfInBounds_toArray, List.set_cons_zero, List.set_cons_succ]
        refine H_takeD (k := 5) (v := .slice DC ls.length mC) (d := some 166) rfl rfl (by decide +kernel) (fun _ _ _ h => h) (Or.inl ⟨by simp [Region.wanted, yielded], fun W hW => by obtain ⟨s0, s1⟩ := hW; go_simp⟩) (HSf.out _ HB1.out) ?_
        try simp only [Act.put, List.setIfInBounds_toArray, List.set_cons_zero, List.set_cons_succ]
        refine H_one (i := 7) (by decide +kernel) (H_stepg rfl (by simp [Region.wanted, yielded]) (fun K hK7 => ?_))
        have hK7 := Lib.hid hK7
        go_simp
        go_at_call 16
        refine (Hsame.out DC mC _ HB1.out HDs.out).mono ?_
        rintro e wu2 ⟨rfl, hv2⟩
        have HB2 := Lib.hid (hv2.bl HB1.out)
        clear hv2
        refine hK7.out _ _ (HSf.out _ HB2.out) ?_
        try simp only [Act.put, List.setIfInBounds_toArray, List.set_cons_zero, List.set_cons_succ]
        refine H_takeD (k := 8) (v := .bool false) (d := some 169) rfl rfl (by decide +kernel) (fun _ _ _ h => h) (Or.inl ⟨by simp [Region.wanted, yielded], fun W hW => by obtain ⟨s0, s1⟩ := hW; go_simp⟩) (HSf.out _ HB2.out) ?_
        try simp only [Act.put, List.setIfInBounds_toArray, List.set_cons_zero, List.set_cons_succ]
        refine H_takeD (k := 9) (v := .bool false) (d := some 170) rfl rfl (by decide +kernel) (fun _ _ _ h => h) (Or.inl ⟨by rfl, fun W hW => by obtain ⟨s0, s1⟩ := hW; go_simp⟩) (HSf.out _ HB2.out) ?_
        try simp only [Act.put, List.setIfInBounds_toArray, List.set_cons_zero, List.set_cons_succ]
        refine H_takeD (k := 10) (v := .bool false) (d := some 171) rfl rfl (by decide +kernel) (fun _ _ _ h => h) (Or.inl ⟨by rfl, fun W hW => by obtain ⟨s0, s1⟩ := hW; go_simp⟩) (HSf.out _ HB2.out) ?_
        try simp only [Act.put, List.setIfInBounds_toArray, List.set_cons_zero, List.set_cons_succ]
        refine H_takeD (k := 11) (v := .pointer (some ⟨p, 0, none⟩)) (d := some 172) rfl rfl (by decide +kernel) (fun _ _ _ h => h) (Or.inl ⟨by simp [Region.wanted, yielded], fun W hW => by obtain ⟨s0, s1⟩ := hW; go_simp⟩) (HSf.out _ HB2.out) ?_
        try simp only [Act.put, List.setIfInBounds_toArray, List.set_cons_zero, List.set_cons_succ]
        refine H_takeD (k := 14) (v := .agg #[.slice A5 ws5.length a5, .slice B5 ns5.length b5]) (d := some 175) rfl rfl (by decide +kernel) (fun _ _ _ h => h) (Or.inl ⟨by simp [Region.wanted, yielded], fun W hW => by obtain ⟨s0, s1⟩ := hW; go_simp⟩) (HSf.out _ HB2.out) ?_
        try simp only [Act.put, List.setIfInBounds_toArray, List.set_cons_zero, List.set_cons_succ]
        refine H_one (i := 12) (by decide +kernel) (H_stepg rfl (by simp [Region.wanted, yielded]) (fun K hK13 => ?_))
        have hK13 := Lib.hid hK13
        go_simp
        go_at_call 30
        refine (graph_any p F7 ls ws5 ns5 wk2 _ (HX12.out.below HB2.out).kp).mono ?_
        rintro e wu3 ⟨A6, a6, B6, b6, rfl, ho6, ho7, hv3⟩
        have HX6 := Lib.hid (own_si ho6)
        have HY6 := Lib.hid (SL.of_own ho7)
        clear ho6 ho7
        have HB3 := Lib.hid (HB2.out.trans (hv3.mono HB2.out.size))
        clear hv3
        refine hK13.out _ _ (HSf.out _ HB3.out) ?_
        try simp only [Act.put, List.setIfInBounds_toArray, List.set_cons_zero, List.set_cons_succ]
        refine H_one (i := 13) (by decide +kernel) (H_stepg rfl (by simp [Region.wanted, yielded]) (fun K hK14 => ?_))
        have hK14 := Lib.hid hK14
        go_simp
        go_at_call 29
        refine (plain_any A6 B6 a6 b6 ws5.length ns5.length _).mono ?_
        rintro e wu4 ⟨rfl, hv4⟩
        have HX6 := Lib.hid (HX6.out.below hv4)
        have HY6 := Lib.hid (HY6.out.below hv4)
        have HB4 := Lib.hid (HB3.out.trans (hv4.mono HB3.out.size))
        clear hv4
        refine hK14.out _ _ (HSf.out _ HB4.out) ?_
        try simp only [Act.put, List.setIfInBounds_toArray, List.set_cons_zero, List.set_cons_succ]
        refine H_one (i := 15) (by decide +kernel) (H_stepg rfl (by simp [Region.wanted, yielded]) (fun K hK15 => ?_))
        have hK15 := Lib.hid hK15
        go_simp
        go_at_call 28
        refine (same_any A6 B6 A5 B5 a6 b6 a5 b5 ws5 ns5 _ HX6.out HY6.out (own_si (HX12.out.below HB4.out).ga) (SL.of_own (HX12.out.below HB4.out).gb) (by omega) (by omega)).mono ?_
        rintro e wu5 ⟨rfl, hv5⟩
        have HB5 := Lib.hid (HB4.out.trans (hv5.mono HB4.out.size))
        clear hv5
        refine hK15.out _ _ (HSf.out _ HB5.out) ?_
        try simp only [Act.put, List.setIfInBounds_toArray, List.set_cons_zero, List.set_cons_succ]
        refine H_takeD (k := 16) (v := .bool false) (d := some 177) rfl rfl (by decide +kernel) (fun _ _ _ h => h) (Or.inl ⟨by simp [Region.wanted, yielded], fun W hW => by obtain ⟨s0, s1⟩ := hW; go_simp⟩) (HSf.out _ HB5.out) ?_
        try simp only [Act.put, List.setIfInBounds_toArray, List.set_cons_zero, List.set_cons_succ]
        refine H_takeD (k := 17) (v := .bool false) (d := some 178) rfl rfl (by decide +kernel) (fun _ _ _ h => h) (Or.inl ⟨by rfl, fun W hW => by obtain ⟨s0, s1⟩ := hW; go_simp⟩) (HSf.out _ HB5.out) ?_
        try simp only [Act.put, List.setIfInBounds_toArray, List.set_cons_zero, List.set_cons_succ]
        refine H_end (by decide +kernel) (NoPanic.normal ?_)
        try simp only [Act.put, List.setIfInBounds_toArray, List.set_cons_zero, List.set_cons_succ]
        have HX13 := Lib.hid (HX12.out.below HB5.out)
        clear hfd HX12 HB0 HB1 HB2 HB3 HB4 HB5 Hsame HSf HX6 HY6 HDs
        go_wp2_with fail
        go_roundw
        case rel => exact ⟨i + 1, F7, ws5, ns5, wk2, A5, B5, a5, b5, A5, B5, a5, b5, ws5, ns5, by omega, by omega, by go_num, Hgv.out, hw1, by omega, hwb.1, by omega, HX13.out⟩
        case measure => simp [intOf]; omega
    · have hb := HX.out.bl
      have hex : ¬ i < hs.length ∨ (i < hs.length ∧ ¬ i < 8) := by omega
      have Hb := Lib.hid hb
      have hz := HX.out.z
      clear hX hgv HX Hgv hgo hb
      rcases hex with h1 | ⟨h1, h2⟩
      all_goals
        go_wp2_with fail
        have hb1 := Hb.out.alloc hz (.cells #[.int .i64 2, .int .i64 1] 3)
        have hs1 : SI (wr.alloc (.cells #[.int .i64 2, .int .i64 1] 3)) (some ⟨wr.heap.size, 0, none⟩) [2, 1] := sl_bk (Bk.new wr 3 #[.int .i64 2, .int .i64 1])
        have hz1 := Hbz.out _ hb1
        refine (new_any (some ⟨wr.heap.size, 0, none⟩) 2 [2, 1] (wr.alloc (.cells #[.int .i64 2, .int .i64 1] 3)) hs1 (by decide)).mono ?_
        rintro e w5 ⟨hb5, _, hbad⟩
        have hth : thrE [2, 1] = 1 := by decide
        have he := hbad (by rw [hth]; decide)
        rw [hth] at he
        subst he
        have Hb5 := Lib.hid (hb1.trans (hb5.mono hz1))
        have hz5 := Hbz.out _ Hb5.out
        clear hbad hb5 hb1 hs1 hz1 hth
        go_wp2_with fail
        have hb6 := Hb5.out.alloc hz5 (.cells #[.int .i64 (-1)] 3)
        have hs1 : SI (w5.alloc (.cells #[.int .i64 (-1)] 3)) (some ⟨w5.heap.size, 0, none⟩) [-1] := sl_bk (Bk.new w5 3 #[.int .i64 (-1)])
        have hz6 := Hbz.out _ hb6
        refine (partsX_any (some ⟨w5.heap.size, 0, none⟩) none 1 0 [-1] [] (w5.alloc (.cells #[.int .i64 (-1)] 3)) hs1 SL.nil_ (by decide) (by decide)).mono ?_
        rintro e w7 ⟨hb7, _, hbad⟩
        have hve : validE [-1] [] = 1 := by decide
        have he := hbad (by rw [hve]; decide)
        rw [hve] at he
        subst he
        have Hb7 := Lib.hid (hb6.trans (hb7.mono hz6))
        clear hbad hb7 hb6 hs1 hz6 hve
        go_wp2_with fail
        refine (lives_any _).mono ?_
        rintro e w9 ⟨rfl, hb9⟩
        go_wp2_with fail
        go_ret
        exact ⟨rfl, by rw [hSz.out]; exact Hb7.out.trans (hb9.mono (Hbz.out _ Hb7.out))⟩
end Go.Proofs.Ytmdgdphhedgojaa

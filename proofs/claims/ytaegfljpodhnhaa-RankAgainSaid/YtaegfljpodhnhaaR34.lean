import Derived.Test.YtaegfljpodhnhaaR33
import Derived.Deep.RegionLaw
import Derived.Deep.RegionHeld3
namespace Go.Proofs.Ytaegfljpodhnhaa
open Go.RowKit Go.Maps

/-- append of a slice at a step of a region that draws its order. -/
theorem step_appM {P : Program} {ops : Array Oper} {Q : Exit → Act → World → Prop} {E : Prop} {o : Oper} {a : Act} {w : World} {K : Act → World → Prop} {base : Nat} {us xs : List Value} {e t : TypeId} {z : Value} {size bytes n m c : Nat} {v : Value} {B : Option Addr} (hgd : o.guard = none) (s x : Operand)
    (ho : o.op = .call { callee := .builtin .append, args := #[s, x], argTypes := #[t, t] }) (hE : Elt P t e z size bytes) (hs : a.eval s = v) (hx : a.eval x = .slice B m c)
    (hown : w.ownsRow base e size v n xs) (hbs : base ≤ w.heap.size) (hB : SL w B us) (hl : us.length = m * size) (h1 : us.all (·.oneCell') = true) (hn : n + m < 1099511627776)
    (h : ∀ v' w1, w1.ownsRow base e size v' (n + m) (xs ++ us) → w.grownBy w1 v.ownBlock → K (a.put o.dst v') w1) :
    if Region.wanted o (yielded ops a.tmps) = true then Oper.wp P o a w K Q else E := by
  have hw : Region.wanted o (yielded ops a.tmps) = true := by simp [Region.wanted, hgd]
  rw [if_pos hw]
  exact app_wpM s x ho hE hown hbs hs hx hB hl h1 hn h

theorem own_bk {w : World} {base g n c : Nat} {e : TypeId} {size : Nat} {xs : List Value} (h : w.ownsRow base e size (.slice (some ⟨g, 0, none⟩) n c) n xs) : ∃ cur, Bk w g e cur ∧ cur.toList.take (n * size) = xs := by
  rcases h.2 with ⟨he, _⟩ | ⟨k, cap, cur, he, h1, hg, h2, h3, h4, h5⟩
  · cases he
  · injection he with e1 e2 e3
    injection e1 with e1
    injection e1 with e1
    subst e1
    exact ⟨cur, hg, h5⟩

theorem tdiv3 {x : Int} (h : -9223372036854775808 ≤ x ∧ x ≤ 9223372036854775807) : -9223372036854775808 ≤ x.tdiv 3 ∧ x.tdiv 3 ≤ 9223372036854775807 := by
  rcases Int.le_total 0 x with h0 | h0
  · rw [Int.tdiv_eq_ediv_of_nonneg h0]; omega
  · have : x.tdiv 3 = -((-x).tdiv 3) := by rw [Int.neg_tdiv, Int.neg_neg]
    rw [this, Int.tdiv_eq_ediv_of_nonneg (by omega)]
    omega

theorem triC_int : ∀ {ns : List (Int × Int × Int)} {i r : Nat}, i < ns.length → r < 3 → ∃ x, (triC ns)[i * 3 + r]? = some (.int .i64 x)
  | [], i, r, h, _ => by simp at h
  | t :: ns, 0, r, _, h => by
    rcases (by omega : r = 0 ∨ r = 1 ∨ r = 2) with rfl | rfl | rfl <;> simp [triC_cons]
  | t :: ns, i + 1, r, h1, h2 => by
    obtain ⟨x, hx⟩ := triC_int (ns := ns) (i := i) (r := r) (by simpa using h1) h2
    refine ⟨x, ?_⟩
    rw [triC_cons, show (i + 1) * 3 + r = (i * 3 + r) + 3 by omega, List.getElem?_append_right (by simp)]
    simpa using hx

theorem triC_set : ∀ (ns : List (Int × Int × Int)) (i r : Nat) (v : Int), i < ns.length → r < 3 → ∃ ns', ns'.length = ns.length ∧ (triC ns).set (i * 3 + r) (.int .i64 v) = triC ns'
  | [], i, r, v, h, _ => by simp at h
  | t :: ns, 0, r, v, _, h => by
    rcases (by omega : r = 0 ∨ r = 1 ∨ r = 2) with rfl | rfl | rfl
    · exact ⟨(v, t.2.1, t.2.2) :: ns, rfl, by simp [triC_cons]⟩
    · exact ⟨(t.1, v, t.2.2) :: ns, rfl, by simp [triC_cons]⟩
    · exact ⟨(t.1, t.2.1, v) :: ns, rfl, by simp [triC_cons]⟩
  | t :: ns, i + 1, r, v, h1, h2 => by
    obtain ⟨ns', hl, he⟩ := triC_set ns i r v (by simpa using h1) h2
    refine ⟨t :: ns', by simp [hl], ?_⟩
    rw [triC_cons, triC_cons, show (i + 1) * 3 + r = (i * 3 + r) + 3 by omega, ← he]
    simp

theorem own_lit {w : World} {base g : Nat} {e : TypeId} {size : Nat} {cs : Array Value} (h : Bk w g e cs) (hs : cs.size = size) (hb : base ≤ g) : w.ownsRow base e size (.slice (some ⟨g, 0, none⟩) 1 1) 1 cs.toList :=
  ⟨by simp [hs], .inr ⟨g, 1, cs, rfl, hb, h, Nat.le_refl _, by unfold maxLen; omega, by simp [hs], by rw [List.take_of_length_le (by simp [hs])]⟩⟩

set_option linter.unusedSimpArgs false in
set_option maxHeartbeats 16000000 in
set_option maxRecDepth 100000 in
theorem spoilt_rest (A B : Option Addr) (c d : Nat) (ws : List Int) (ns : List (Int × Int × Int)) (at_ how by_ : Int) (w : World) (hA : SI w A ws) (hB : ST w B ns) (hl0 : 1 ≤ ws.length) (hl1 : ws.length ≤ 16) (hl2 : ns.length ≤ 256)
    (h1 : -9223372036854775808 ≤ at_ ∧ at_ ≤ 9223372036854775807) (h2 : -9223372036854775808 ≤ how ∧ how ≤ 9223372036854775807) (h3 : -9223372036854775808 ≤ by_ ∧ by_ ≤ 9223372036854775807)
    (hne : around how 6 ≠ 3) :
    Calls Try.prog 40 #[.agg #[.slice A ws.length c, .slice B ns.length d], .int .i64 at_, .int .i64 how, .int .i64 by_] w fun e w' => ∃ A1 c1 A2 c2 ws' ns', e = .returned (.agg #[.slice A1 (ws' : List Int).length c1, .slice A2 (ns' : List (Int × Int × Int)).length c2]) ∧ SI w' A1 ws' ∧ ST w' A2 ns' ∧ ws'.length ≤ 4096 ∧ ns'.length ≤ 16384 ∧ Below w.heap.size w w' := by
  go_enter Try.func40, Try.ntmps40
  have hi1 : SI (((w.alloc (.cells #[.slice A ws.length c, .slice B ns.length d] 33)).alloc (.cells #[.slice none 0 0, .slice none 0 0] 33)).alloc (.cells #[.slice none 0 0, .slice none 0 0] 33)) A ws := ((hA.alloc _).alloc _).alloc _
  have hi2 : ST (((w.alloc (.cells #[.slice A ws.length c, .slice B ns.length d] 33)).alloc (.cells #[.slice none 0 0, .slice none 0 0] 33)).alloc (.cells #[.slice none 0 0, .slice none 0 0] 33)) B ns := ((hB.alloc _).alloc _).alloc _
  have hbk0 := ((Bk.new w 33 #[.slice A ws.length c, .slice B ns.length d]).alloc (.cells #[.slice none 0 0, .slice none 0 0] 33)).alloc (.cells #[.slice none 0 0, .slice none 0 0] 33)
  have hbk1 := (Bk.new' (w.alloc (.cells #[.slice A ws.length c, .slice B ns.length d] 33)) 33 #[.slice none 0 0, .slice none 0 0] (g := w.heap.size + 1) (by simp)).alloc (.cells #[.slice none 0 0, .slice none 0 0] 33)
  have hbk2 := Bk.new' ((w.alloc (.cells #[.slice A ws.length c, .slice B ns.length d] 33)).alloc (.cells #[.slice none 0 0, .slice none 0 0] 33)) 33 #[.slice none 0 0, .slice none 0 0] (g := w.heap.size + 1 + 1) (by simp)
  have hb0 := ((((Below.refl w.heap.size w).alloc (Nat.le_refl _) (.cells #[.slice A ws.length c, .slice B ns.length d] 33)).alloc (by simp) (.cells #[.slice none 0 0, .slice none 0 0] 33)).alloc (by simp; omega) (.cells #[.slice none 0 0, .slice none 0 0] 33))
  go_upto_region 2 with fail
  generalize ((w.alloc (.cells #[.slice A ws.length c, .slice B ns.length d] 33)).alloc (.cells #[.slice none 0 0, .slice none 0 0] 33)).alloc (.cells #[.slice none 0 0, .slice none 0 0] 33) = W at *
  have hc0 : W.cell? ⟨w.heap.size, 0, none⟩ = some (.slice A ws.length c) := hbk0.cell 0
  have ho0 : W.cell? ⟨w.heap.size + 1 + 1, 0, none⟩ = some (.slice none 0 0) := hbk2.cell 0
  have Hi1 := Lib.hid hi1
  have Hi2 := Lib.hid hi2
  have H0 := Lib.hid hbk0
  have H1 := Lib.hid hbk1
  have H2 := Lib.hid hbk2
  have Hb := Lib.hid hb0
  have hws := hb0.size
  clear hi1 hi2 hbk0 hbk1 hbk2 hb0
  go_upto_region 3 with (at_builtin; refine wpList_appM (w := W) rfl _ _ rfl elt_int (World.ownsRow_nil W w.heap.size _ _) hws rfl rfl Hi1.out (by simp) (ints_all ws) (by omega) ?_; intro v1 W1 hown1 hg1; obtain ⟨AW, cW, rfl⟩ := own_slice hown1; have ho0 : W1.cell? ⟨w.heap.size + 1 + 1, 0, none⟩ = some (.slice none 0 0) := (H2.out.grown hg1 (by simp [Value.ownBlock])).cell 0; have hof := (H2.out.grown hg1 (by simp [Value.ownBlock])).frozen 0)
  simp only [Nat.zero_add, List.nil_append] at hown1
  try simp only [Nat.zero_add]
  have hbx := (Hb.out.grown hg1 hws (fun k hk => by simp [Value.ownBlock] at hk)).setCell (p := ⟨w.heap.size + 1 + 1, 0, none⟩) (by show w.heap.size ≤ w.heap.size + 1 + 1; omega) (.slice AW ws.length cW)
  have h0 := (H0.out.grown hg1 (by simp [Value.ownBlock])).far (p := ⟨w.heap.size + 1 + 1, 0, none⟩) (by show w.heap.size ≠ w.heap.size + 1 + 1; omega) (.slice AW ws.length cW)
  have h1x := (H1.out.grown hg1 (by simp [Value.ownBlock])).far (p := ⟨w.heap.size + 1 + 1, 0, none⟩) (by show w.heap.size + 1 ≠ w.heap.size + 1 + 1; omega) (.slice AW ws.length cW)
  have h2a := H2.out.grown hg1 (by simp [Value.ownBlock])
  have h2x := h2a.set_ 0 (.slice AW ws.length cW)
  have hoW := own_set (i := 0) hown1 (h2a.ne_own hown1 (by decide)) (.slice AW ws.length cW)
  clear hown1 hg1 ho0 hof hc0 H0 H1 H2 Hb Hi1 Hi2 hws h2a
  generalize W1.setCell ⟨w.heap.size + 1 + 1, 0, none⟩ (.slice AW ws.length cW) = W2 at *
  have hc1 : W2.cell? ⟨w.heap.size, 1, none⟩ = some (.slice B ns.length d) := h0.cell 1
  have ho1 : W2.cell? ⟨w.heap.size + 1 + 1, 1, none⟩ = some (.slice none 0 0) := h2x.cell 1
  have hw2 := hbx.size
  have Hi2 := Lib.hid (ST.below hB hbx)
  have H0 := Lib.hid h0
  have H1 := Lib.hid h1x
  have H2 := Lib.hid h2x
  have Hb := Lib.hid hbx
  have HoW := Lib.hid hoW
  clear h0 h1x h2x hbx hoW
  go_upto_region 4 with (at_builtin; refine wpList_appM (w := W2) rfl _ _ rfl elt_tri (World.ownsRow_nil W2 w.heap.size _ _) hw2 rfl rfl Hi2.out (triC_len ns) (triC_all ns) (by omega) ?_; intro v1 W1 hown1 hg1; obtain ⟨AN, cN, rfl⟩ := own_slice hown1; have ho0 : W1.cell? ⟨w.heap.size + 1 + 1, 1, none⟩ = some (.slice none 0 0) := (H2.out.grown hg1 (by simp [Value.ownBlock])).cell 1; have hof := (H2.out.grown hg1 (by simp [Value.ownBlock])).frozen 1)
  simp only [Nat.zero_add, List.nil_append] at hown1
  try simp only [Nat.zero_add]
  have hbx := (Hb.out.grown hg1 hw2 (fun k hk => by simp [Value.ownBlock] at hk)).setCell (p := ⟨w.heap.size + 1 + 1, 1, none⟩) (by show w.heap.size ≤ w.heap.size + 1 + 1; omega) (.slice AN ns.length cN)
  have h1x := (H1.out.grown hg1 (by simp [Value.ownBlock])).far (p := ⟨w.heap.size + 1 + 1, 1, none⟩) (by show w.heap.size + 1 ≠ w.heap.size + 1 + 1; omega) (.slice AN ns.length cN)
  have h2a := H2.out.grown hg1 (by simp [Value.ownBlock])
  have h2x := h2a.set_ 1 (.slice AN ns.length cN)
  have hoN := own_set (i := 1) hown1 (h2a.ne_own hown1 (by decide)) (.slice AN ns.length cN)
  have hoW1 := own_grown HoW.out hg1 (.inr (by
    intro h
    have := (HoW.out.form (by omega))
    obtain ⟨g, cap, hv, _, _⟩ := this
    rw [hv] at h
    simp [Value.ownBlock] at h))
  have hoW := own_set (i := 1) hoW1 (h2a.ne_own hoW1 (by decide)) (.slice AN ns.length cN)
  clear hown1 hg1 ho0 hof hc1 ho1 H0 H1 H2 Hb Hi2 hw2 h2a hoW1 HoW
  generalize W1.setCell ⟨w.heap.size + 1 + 1, 1, none⟩ (.slice AN ns.length cN) = W3 at *
  have hc0 : W3.cell? ⟨w.heap.size + 1 + 1, 0, none⟩ = some (.slice AW ws.length cW) := h2x.cell 0
  have HR := Lib.hid h1x
  have HO := Lib.hid h2x
  have HB := Lib.hid hbx
  have HW := Lib.hid hoW
  have HN := Lib.hid hoN
  have Ha := Lib.hid (around_any at_ ws.length W3 h1.1 h1.2 (by omega) (by omega))
  have Hh := Lib.hid (around_any how 6 W3 h2.1 h2.2 (by omega) (by omega))
  obtain ⟨hk1, hk2⟩ := around_bd at_ ws.length (by omega)
  obtain ⟨k, hk⟩ := Int.eq_ofNat_of_zero_le hk1
  rw [hk] at Ha hk2
  obtain ⟨hh1, hh2⟩ := around_bd how 6 (by omega)
  clear h1x h2x hbx hoW hoN hk1 hk
  have hkl : k < ws.length := by omega
  go_wp2_with fail
  refine Ha.out.mono ?_
  rintro e w' ⟨rfl, rfl⟩
  go_wp2_with fail
  refine Hh.out.mono ?_
  rintro e w' ⟨rfl, rfl⟩
  generalize around how 6 = hw at *
  clear Ha Hh hc0
  rcases (by omega : hw = 0 ∨ hw = 1 ∨ hw = 2 ∨ hw = 4 ∨ hw = 5) with rfl | rfl | rfl | rfl | rfl
  · obtain ⟨hr1, hr2⟩ := around_bd by_ 5 (by omega)
    have Har := Lib.hid (fun W => around_any by_ 5 W h3.1 h3.2 (by omega) (by omega))
    generalize around by_ 5 = r' at *
    obtain ⟨r, rfl⟩ := Int.eq_ofNat_of_zero_le hr1
    obtain ⟨gW, cW', hv, hgb, hgl⟩ := HW.out.form (by omega)
    injection hv with hv1 hv2 hv3
    subst hv1 hv3
    have hc0 : W3.cell? ⟨w.heap.size + 1 + 1, 0, none⟩ = some (.slice (some ⟨gW, 0, none⟩) ws.length cW) := HO.out.cell 0
    obtain ⟨cur, hcur, htk⟩ := own_bk HW.out
    have hxk : cur[k]? = some (.int .i64 ws[k]) := by
      have h1 : (cur.toList.take (ws.length * 1))[k]? = some (.int .i64 ws[k]) := by rw [htk]; simp [hkl]
      rw [List.getElem?_take_of_lt (by omega)] at h1
      simpa using h1
    have hcw : W3.cell? ⟨gW, k, none⟩ = some (.int .i64 ws[k]) := (hcur.cell k).trans hxk
    have hfw := hcur.frozen k
    have hcura := hcur.alloc (.cells #[.int .i64 by_, .int .i64 (-1), .int .i64 0, .int .i64 1099511627776, .int .i64 1099511627777] 3)
    have hcwa : (W3.alloc (.cells #[.int .i64 by_, .int .i64 (-1), .int .i64 0, .int .i64 1099511627776, .int .i64 1099511627777] 3)).cell? ⟨gW, k, none⟩ = some (.int .i64 ws[k]) := (hcura.cell k).trans hxk
    have hfwa := hcura.frozen k
    have hc0a : (W3.alloc (.cells #[.int .i64 by_, .int .i64 (-1), .int .i64 0, .int .i64 1099511627776, .int .i64 1099511627777] 3)).cell? ⟨w.heap.size + 1 + 1, 0, none⟩ = some (.slice (some ⟨gW, 0, none⟩) ws.length cW) := (HO.out.alloc _).cell 0
    obtain ⟨val, hval⟩ : ∃ val, (W3.alloc (.cells #[.int .i64 by_, .int .i64 (-1), .int .i64 0, .int .i64 1099511627776, .int .i64 1099511627777] 3)).cell? ⟨W3.heap.size, r, none⟩ = some (.int .i64 val) := by
      have h := Bk.new W3 3 #[.int .i64 by_, .int .i64 (-1), .int .i64 0, .int .i64 1099511627776, .int .i64 1099511627777]
      rcases (by omega : r = 0 ∨ r = 1 ∨ r = 2 ∨ r = 3 ∨ r = 4) with rfl | rfl | rfl | rfl | rfl
      · exact ⟨_, h.cell 0⟩
      · exact ⟨_, h.cell 1⟩
      · exact ⟨_, h.cell 2⟩
      · exact ⟨_, h.cell 3⟩
      · exact ⟨_, h.cell 4⟩
    have hw3 := HB.out.size
    generalize ws[k] = xk at *
    have Hcur := Lib.hid (And.intro hcur htk)
    clear hcur hcura hxk htk
    have j0 : (0 : Int) ≤ (k : Int) := by omega
    have j1 : (0 : Int) ≤ (r : Int) := by omega
    have j2 : (r : Int) < 5 := by omega
    have j3 : r < 5 := by omega
    go_upto_region 10 with fail
    go_region_law (go_simp; go_at_call 18; refine (Har.out _).mono ?_; rintro e w' ⟨rfl, rfl⟩)
    all_goals
      have hneO := Bk.ne_ HO.out Hcur.out.1 (by decide)
      have hneR := Bk.ne_ HR.out Hcur.out.1 (by decide)
      have HO2 := Lib.hid ((HO.out.far (p := ⟨gW, k, none⟩) hneO (.int .i64 val)).alloc (.cells #[.int .i64 by_, .int .i64 (-1), .int .i64 0, .int .i64 1099511627776, .int .i64 1099511627777] 3))
      have HR2 := Lib.hid ((HR.out.far (p := ⟨gW, k, none⟩) hneR (.int .i64 val)).alloc (.cells #[.int .i64 by_, .int .i64 (-1), .int .i64 0, .int .i64 1099511627776, .int .i64 1099511627777] 3))
      have HB2 := Lib.hid ((HB.out.setCell (p := ⟨gW, k, none⟩) hgb (.int .i64 val)).alloc (by simp [World.setCell]; omega) (.cells #[.int .i64 by_, .int .i64 (-1), .int .i64 0, .int .i64 1099511627776, .int .i64 1099511627777] 3))
      have HN2 := Lib.hid ((own_set (i := k) HN.out (Bk.ne_own Hcur.out.1 HN.out (by decide)) (.int .i64 val)).alloc (.cells #[.int .i64 by_, .int .i64 (-1), .int .i64 0, .int .i64 1099511627776, .int .i64 1099511627777] 3))
      have hWp := (own_put (i := k) HW.out (.int .i64 val)).alloc (.cells #[.int .i64 by_, .int .i64 (-1), .int .i64 0, .int .i64 1099511627776, .int .i64 1099511627777] 3)
      rw [← List.map_set] at hWp
      have HW2 := Lib.hid hWp
      have Hlen : Hid ((ws.set k val).length = ws.length) := by show _ = _; simp
      clear hWp hc0 hcw hfw hcwa hfwa hc0a hval hneO hneR
      generalize hWF : (W3.setCell ⟨gW, k, none⟩ (.int .i64 val)).alloc (.cells #[.int .i64 by_, .int .i64 (-1), .int .i64 0, .int .i64 1099511627776, .int .i64 1099511627777] 3) = WX at *
      clear hWF
      have HO2 := Lib.hid (HO2.out.qt ⟨1, rfl⟩ : Bk WX.drew _ _ _)
      have HR2 := Lib.hid (HR2.out.qt ⟨1, rfl⟩ : Bk WX.drew _ _ _)
      have HB2 := Lib.hid (HB2.out.drew)
      have HN2 := Lib.hid (own_qt HN2.out ⟨1, rfl⟩ : WX.drew.ownsRow _ _ _ _ _ _)
      have HW2 := Lib.hid (own_qt HW2.out ⟨1, rfl⟩ : WX.drew.ownsRow _ _ _ _ _ _)
      go_upto_region 23 with fail
      generalize WX.drew = WF at *
      have hfc0 : WF.cell? ⟨w.heap.size + 1 + 1, 0, none⟩ = some (.slice (some ⟨gW, 0, none⟩) ws.length cW) := HO2.out.cell 0
      have hfc1 : WF.cell? ⟨w.heap.size + 1 + 1, 1, none⟩ = some (.slice AN ns.length cN) := HO2.out.cell 1
      have hr0 : WF.cell? ⟨w.heap.size + 1, 0, none⟩ = some (.slice none 0 0) := HR2.out.cell 0
      have hr1 : WF.cell? ⟨w.heap.size + 1, 1, none⟩ = some (.slice none 0 0) := HR2.out.cell 1
      have hf0 := HR2.out.frozen 0
      have hf1 := HR2.out.frozen 1
      have hz0 := ((HR2.out.set_ 0 (.slice (some ⟨gW, 0, none⟩) ws.length cW)).set_ 1 (.slice AN ns.length cN)).cell 0
      have hz1 := ((HR2.out.set_ 0 (.slice (some ⟨gW, 0, none⟩) ws.length cW)).set_ 1 (.slice AN ns.length cN)).cell 1
      have ho1 := Lib.hid (own_set (i := 1) (own_set (i := 0) HW2.out (HR2.out.ne_own HW2.out (by decide)) (.slice (some ⟨gW, 0, none⟩) ws.length cW)) (HR2.out.ne_own HW2.out (by decide)) (.slice AN ns.length cN))
      have ho2 := Lib.hid (own_set (i := 1) (own_set (i := 0) HN2.out (HR2.out.ne_own HN2.out (by decide)) (.slice (some ⟨gW, 0, none⟩) ws.length cW)) (HR2.out.ne_own HN2.out (by decide)) (.slice AN ns.length cN))
      have hbf := Lib.hid ((HB2.out.setCell (p := ⟨w.heap.size + 1, 0, none⟩) (by show w.heap.size ≤ w.heap.size + 1; omega) (.slice (some ⟨gW, 0, none⟩) ws.length cW)).setCell (p := ⟨w.heap.size + 1, 1, none⟩) (by show w.heap.size ≤ w.heap.size + 1; omega) (.slice AN ns.length cN))
      go_wp2_with fail
      refine bodyPost_ret (v := .agg #[.slice (some ⟨gW, 0, none⟩) ws.length cW, .slice AN ns.length cN]) (by simp [results, Try.results40, go_sem, hz0, hz1]) rfl ?_
      exact ⟨some ⟨gW, 0, none⟩, cW, AN, cN, ws.set k val, ns, by rw [Hlen.out], SL.of_own ho1.out, SL.of_own ho2.out, by rw [Hlen.out]; omega, by omega, hbf.out⟩
  · have hc0 : W3.cell? ⟨w.heap.size + 1 + 1, 0, none⟩ = some (.slice AW ws.length cW) := HO.out.cell 0
    have hc1 : W3.cell? ⟨w.heap.size + 1 + 1, 1, none⟩ = some (.slice AN ns.length cN) := HO.out.cell 1
    have hw3 := HB.out.size
    have hrow := HO.out.ne_own HN.out (by decide)
    have hwrap : IntKind.i64.wrap ((ws.length : Int) - 1) = (ws.length : Int) - 1 := IntWalk.i64_in _ (by omega)
    go_upto_region 23 with (at_builtin; refine wpList_app2 (w := W3) rfl _ _ rfl elt_tri HN.out hw3 rfl rfl (by simp) rfl rfl (by omega) ?_; intro v4 W4 hown4 hg4 hz4; obtain ⟨A4, c4, rfl⟩ := own_slice hown4; have ho0 : W4.cell? ⟨w.heap.size + 1 + 1, 1, none⟩ = some (.slice AN ns.length cN) := (HO.out.grown hg4 hrow).cell 1; have hof := (HO.out.grown hg4 hrow).frozen 1)
    have hO4 := HO.out.grown hg4 hrow
    have hR4 := HR.out.grown hg4 (HR.out.ne_own HN.out (by decide))
    have hB4 := HB.out.grown hg4 hw3 (fun k hk => (HN.out.lt k hk).1)
    have hW4 := own_grown HW.out hg4 (own_ne HW.out HN.out (by decide))
    have hN4 := hown4
    have HO2 := Lib.hid (hO4.set_ 1 (.slice A4 (ns.length + 1) c4))
    have HR2 := Lib.hid (hR4.far (p := ⟨w.heap.size + 1 + 1, 1, none⟩) (by show w.heap.size + 1 ≠ w.heap.size + 1 + 1; omega) (.slice A4 (ns.length + 1) c4))
    have HB2 := Lib.hid (hB4.setCell (p := ⟨w.heap.size + 1 + 1, 1, none⟩) (by show w.heap.size ≤ w.heap.size + 1 + 1; omega) (.slice A4 (ns.length + 1) c4))
    have HW2 := Lib.hid (own_set (i := 1) hW4 (hO4.ne_own hW4 (by decide)) (.slice A4 (ns.length + 1) c4))
    have HN2 := Lib.hid (own_set (i := 1) hN4 (hO4.ne_own hN4 (by decide)) (.slice A4 (ns.length + 1) c4))
    have Hlen : Hid ((ns ++ [((k : Int), (ws.length : Int) - 1, by_)]).length = ns.length + 1) := by show _ = _; simp
    clear hO4 hR4 hB4 hW4 hN4 hown4 hg4 ho0 hof hc0 hc1 hrow
    generalize W4.setCell ⟨w.heap.size + 1 + 1, 1, none⟩ (.slice A4 (ns.length + 1) c4) = WF at *
    have hfc0 : WF.cell? ⟨w.heap.size + 1 + 1, 0, none⟩ = some (.slice AW ws.length cW) := HO2.out.cell 0
    have hfc1 : WF.cell? ⟨w.heap.size + 1 + 1, 1, none⟩ = some (.slice A4 (ns.length + 1) c4) := HO2.out.cell 1
    have hr0 : WF.cell? ⟨w.heap.size + 1, 0, none⟩ = some (.slice none 0 0) := HR2.out.cell 0
    have hr1 : WF.cell? ⟨w.heap.size + 1, 1, none⟩ = some (.slice none 0 0) := HR2.out.cell 1
    have hf0 := HR2.out.frozen 0
    have hf1 := HR2.out.frozen 1
    have hz0 := ((HR2.out.set_ 0 (.slice AW ws.length cW)).set_ 1 (.slice A4 (ns.length + 1) c4)).cell 0
    have hz1 := ((HR2.out.set_ 0 (.slice AW ws.length cW)).set_ 1 (.slice A4 (ns.length + 1) c4)).cell 1
    have ho1 := Lib.hid (own_set (i := 1) (own_set (i := 0) HW2.out (HR2.out.ne_own HW2.out (by decide)) (.slice AW ws.length cW)) (HR2.out.ne_own HW2.out (by decide)) (.slice A4 (ns.length + 1) c4))
    have ho2 := Lib.hid (own_set (i := 1) (own_set (i := 0) HN2.out (HR2.out.ne_own HN2.out (by decide)) (.slice AW ws.length cW)) (HR2.out.ne_own HN2.out (by decide)) (.slice A4 (ns.length + 1) c4))
    have hbf := Lib.hid ((HB2.out.setCell (p := ⟨w.heap.size + 1, 0, none⟩) (by show w.heap.size ≤ w.heap.size + 1; omega) (.slice AW ws.length cW)).setCell (p := ⟨w.heap.size + 1, 1, none⟩) (by show w.heap.size ≤ w.heap.size + 1; omega) (.slice A4 (ns.length + 1) c4))
    go_wp2_with fail
    refine bodyPost_ret (v := .agg #[.slice AW ws.length cW, .slice A4 (ns.length + 1) c4]) (by simp [results, Try.results40, go_sem, hz0, hz1]) rfl ?_
    exact ⟨AW, cW, A4, c4, ws, ns ++ [((k : Int), (ws.length : Int) - 1, by_)], by rw [Hlen.out], own_si ho1.out, by show SL _ _ _; rw [triC_append]; exact SL.of_own ho2.out, by omega, by simp; omega, hbf.out⟩
  · obtain ⟨hr1, hr2⟩ := around_bd by_ ((ws.length : Int) + 1) (by omega)
    have Har := Lib.hid (around_any by_ ((ws.length : Int) + 1) W3.drew h3.1 h3.2 (by omega) (by omega))
    generalize around by_ ((ws.length : Int) + 1) = r at *
    have hwrap : IntKind.i64.wrap ((ws.length : Int) + 1) = (ws.length : Int) + 1 := IntWalk.i64_in _ (by omega)
    have hc0 : W3.cell? ⟨w.heap.size + 1 + 1, 0, none⟩ = some (.slice AW ws.length cW) := HO.out.cell 0
    have hc1 : W3.cell? ⟨w.heap.size + 1 + 1, 1, none⟩ = some (.slice AN ns.length cN) := HO.out.cell 1
    have hw3 := HB.out.size
    go_upto_region 14 with fail
    have HS0 := Lib.hid (And.intro (show W3.drew.cell? ⟨w.heap.size + 1 + 1, 0, none⟩ = some (.slice AW ws.length cW) from hc0) (show W3.drew.cell? ⟨w.heap.size + 1 + 1, 1, none⟩ = some (.slice AN ns.length cN) from hc1))
    have hO3 : Bk ((W3.alloc (.cells #[.int .i64 k, .int .i64 r, .int .i64 1] 52)).drew) (w.heap.size + 1 + 1) 33 #[.slice AW ws.length cW, .slice AN ns.length cN] := HO.out.alloc _
    have hR3 : Bk ((W3.alloc (.cells #[.int .i64 k, .int .i64 r, .int .i64 1] 52)).drew) (w.heap.size + 1) 33 #[.slice none 0 0, .slice none 0 0] := HR.out.alloc _
    have hW3 : ((W3.alloc (.cells #[.int .i64 k, .int .i64 r, .int .i64 1] 52)).drew).ownsRow w.heap.size 3 1 (.slice AW ws.length cW) ws.length (ws.map (Value.int .i64)) := HW.out.alloc _
    have hB3 : Below w.heap.size w ((W3.alloc (.cells #[.int .i64 k, .int .i64 r, .int .i64 1] 52)).drew) := (HB.out.alloc hw3 _).drew
    have hown2 : ((W3.alloc (.cells #[.int .i64 k, .int .i64 r, .int .i64 1] 52)).drew).ownsRow w.heap.size 52 3 (.slice (some ⟨W3.heap.size, 0, none⟩) 1 1) 1 [.int .i64 k, .int .i64 r, .int .i64 1] := own_lit (Bk.new W3 52 #[.int .i64 k, .int .i64 r, .int .i64 1] : Bk ((W3.alloc (.cells #[.int .i64 k, .int .i64 r, .int .i64 1] 52)).drew) _ _ _) rfl hw3
    have hsl : SL ((W3.alloc (.cells #[.int .i64 k, .int .i64 r, .int .i64 1] 52)).drew) AN (triC ns) := SL.of_own (HN.out.alloc (.cells #[.int .i64 k, .int .i64 r, .int .i64 1] 52) : ((W3.alloc (.cells #[.int .i64 k, .int .i64 r, .int .i64 1] 52)).drew).ownsRow _ _ _ _ _ _)
    have hbb : w.heap.size ≤ ((W3.alloc (.cells #[.int .i64 k, .int .i64 r, .int .i64 1] 52)).drew).heap.size := hB3.size
    have hSa : ((W3.alloc (.cells #[.int .i64 k, .int .i64 r, .int .i64 1] 52)).drew).cell? ⟨w.heap.size + 1 + 1, 0, none⟩ = some (.slice AW ws.length cW) ∧ ((W3.alloc (.cells #[.int .i64 k, .int .i64 r, .int .i64 1] 52)).drew).cell? ⟨w.heap.size + 1 + 1, 1, none⟩ = some (.slice AN ns.length cN) := ⟨hO3.cell 0, hO3.cell 1⟩
    have Hall := Lib.hid (And.intro hown2 (And.intro hsl (And.intro hO3 (And.intro hR3 (And.intro hW3 hB3)))))
    clear hown2 hsl hO3 hR3 hW3 hB3
    refine wp_region_noPanic ?_
    refine region_T (s := 13) (S := fun W => W.cell? ⟨w.heap.size + 1 + 1, 0, none⟩ = some (.slice AW ws.length cW) ∧ W.cell? ⟨w.heap.size + 1 + 1, 1, none⟩ = some (.slice AN ns.length cN)) (by kernel_rfl) ?_
    change wpT _ _ _ _ _ 14 _ _ W3.drew
    refine T_take (k := 0) (v := .int .i64 k) rfl (by decide +kernel) (fun _ _ _ h => h) (Or.inl ⟨by rfl, fun W hW => by obtain ⟨s0, s1⟩ := hW; go_simp⟩) HS0.out ?_
    try simp only [Act.put, List.setIfInBounds_toArray, List.set_cons_zero, List.set_cons_succ]
    refine T_take (k := 1) (v := .int .i64 by_) rfl (by decide +kernel) (fun _ _ _ h => h) (Or.inl ⟨by rfl, fun W hW => by obtain ⟨s0, s1⟩ := hW; go_simp⟩) HS0.out ?_
    try simp only [Act.put, List.setIfInBounds_toArray, List.set_cons_zero, List.set_cons_succ]
    refine T_take (k := 2) (v := .pointer (some ⟨w.heap.size + 1 + 1, 0, none⟩)) rfl (by decide +kernel) (fun _ _ _ h => h) (Or.inl ⟨by rfl, fun W hW => by obtain ⟨s0, s1⟩ := hW; go_simp⟩) HS0.out ?_
    try simp only [Act.put, List.setIfInBounds_toArray, List.set_cons_zero, List.set_cons_succ]
    refine T_take (k := 3) (v := .slice AW ws.length cW) rfl (by decide +kernel) (fun _ _ _ h => h) (Or.inl ⟨by rfl, fun W hW => by obtain ⟨s0, s1⟩ := hW; go_simp⟩) HS0.out ?_
    try simp only [Act.put, List.setIfInBounds_toArray, List.set_cons_zero, List.set_cons_succ]
    refine T_take (k := 4) (v := .int .i64 ws.length) rfl (by decide +kernel) (fun _ _ _ h => h) (Or.inl ⟨by rfl, fun W hW => by obtain ⟨s0, s1⟩ := hW; go_simp⟩) HS0.out ?_
    try simp only [Act.put, List.setIfInBounds_toArray, List.set_cons_zero, List.set_cons_succ]
    refine T_take (k := 5) (v := .int .i64 ((ws.length : Int) + 1)) rfl (by decide +kernel) (fun _ _ _ h => h) (Or.inl ⟨by rfl, fun W hW => by obtain ⟨s0, s1⟩ := hW; go_simp⟩) HS0.out ?_
    try simp only [Act.put, List.setIfInBounds_toArray, List.set_cons_zero, List.set_cons_succ]
    refine T_take (k := 9) (v := .pointer (some ⟨w.heap.size + 1 + 1, 1, none⟩)) rfl (by decide +kernel) (fun _ _ _ h => h) (Or.inl ⟨by rfl, fun W hW => by obtain ⟨s0, s1⟩ := hW; go_simp⟩) HS0.out ?_
    try simp only [Act.put, List.setIfInBounds_toArray, List.set_cons_zero, List.set_cons_succ]
    refine T_take (k := 10) (v := .slice AN ns.length cN) rfl (by decide +kernel) (fun _ _ _ h => h) (Or.inl ⟨by rfl, fun W hW => by obtain ⟨s0, s1⟩ := hW; go_simp⟩) HS0.out ?_
    try simp only [Act.put, List.setIfInBounds_toArray, List.set_cons_zero, List.set_cons_succ]
    refine T_one (i := 6) (by decide +kernel) rfl rfl (fun K0 hK0 => ?_)
    have hK0 := Lib.hid hK0
    go_simp
    go_at_call 18
    refine Har.out.mono ?_
    rintro e w' ⟨rfl, rfl⟩
    refine hK0.out _ _ HS0.out ?_
    try simp only [Act.put, List.setIfInBounds_toArray, List.set_cons_zero, List.set_cons_succ]
    refine T_take (k := 7) (v := .agg #[.int .i64 k, .int .i64 r, .int .i64 1]) rfl (by decide +kernel) (fun _ _ _ h => h) (Or.inl ⟨by rfl, fun W hW => by obtain ⟨s0, s1⟩ := hW; go_simp⟩) HS0.out ?_
    try simp only [Act.put, List.setIfInBounds_toArray, List.set_cons_zero, List.set_cons_succ]
    refine T_one (i := 8) (by decide +kernel) rfl rfl (fun K hK => ?_)
    have hK := Lib.hid hK
    go_simp
    refine hK.out _ _ hSa ?_
    try simp only [Act.put, List.setIfInBounds_toArray, List.set_cons_zero, List.set_cons_succ]
    refine T_one (i := 11) (by decide +kernel) rfl rfl (fun K2 hK2 => ?_)
    have hK2 := Lib.hid hK2
    refine app_wpM (us := triC ns) (m := ns.length) (c := cN) (B := AN) (v := .slice (some ⟨W3.heap.size, 0, none⟩) 1 1) (.tmp 79) (.tmp 81) rfl elt_tri Hall.out.1 hbb (by simp [Act.eval]) (by simp [Act.eval]) Hall.out.2.1 (triC_len ns) (triC_all ns) (by omega) ?_
    intro v4 W4 hown4 hg4
    obtain ⟨A4, c4, rfl⟩ := own_slice hown4
    have hrow3 := Hall.out.2.2.1.ne_own Hall.out.1 (by decide)
    have hO4 := Hall.out.2.2.1.grown hg4 hrow3
    have hS4 : W4.cell? ⟨w.heap.size + 1 + 1, 0, none⟩ = some (.slice AW ws.length cW) ∧ W4.cell? ⟨w.heap.size + 1 + 1, 1, none⟩ = some (.slice AN ns.length cN) := ⟨hO4.cell 0, hO4.cell 1⟩
    have hq0 := hS4.2
    have hq1 := hO4.frozen 1
    refine hK2.out _ _ hS4 ?_
    try simp only [Act.put, List.setIfInBounds_toArray, List.set_cons_zero, List.set_cons_succ]
    refine T_take (k := 12) (v := .pointer (some ⟨w.heap.size + 1 + 1, 1, none⟩)) rfl (by decide +kernel) (fun _ _ _ h => h) (Or.inl ⟨by rfl, fun W hW => by obtain ⟨s0, s1⟩ := hW; go_simp⟩) hS4 ?_
    try simp only [Act.put, List.setIfInBounds_toArray, List.set_cons_zero, List.set_cons_succ]
    clear hS4 hK2 hK HS0 hSa
    refine T_last (by decide +kernel) (by decide +kernel) (by decide +kernel) rfl rfl (fun K3 hK3 => ?_)
    have hK3 := Lib.hid hK3
    go_simp
    refine hK3.out _ _ (NoPanic.normal ?_)
    try simp only [Act.put, List.setIfInBounds_toArray, List.set_cons_zero, List.set_cons_succ]
    clear hK3
    have hR4 := Hall.out.2.2.2.1.grown hg4 (Hall.out.2.2.2.1.ne_own Hall.out.1 (by decide))
    have hB4 := Hall.out.2.2.2.2.2.grown hg4 hbb (fun k hk => (Hall.out.1.lt k hk).1)
    have hW4 := own_grown Hall.out.2.2.2.2.1 hg4 (own_ne Hall.out.2.2.2.2.1 Hall.out.1 (by decide))
    have hN4 := hown4
    have HO2 := Lib.hid (hO4.set_ 1 (.slice A4 (1 + ns.length) c4))
    have HR2 := Lib.hid (hR4.far (p := ⟨w.heap.size + 1 + 1, 1, none⟩) (by show w.heap.size + 1 ≠ w.heap.size + 1 + 1; omega) (.slice A4 (1 + ns.length) c4))
    have HB2 := Lib.hid (hB4.setCell (p := ⟨w.heap.size + 1 + 1, 1, none⟩) (by show w.heap.size ≤ w.heap.size + 1 + 1; omega) (.slice A4 (1 + ns.length) c4))
    have HW2 := Lib.hid (own_set (i := 1) hW4 (hO4.ne_own hW4 (by decide)) (.slice A4 (1 + ns.length) c4))
    have HN2 := Lib.hid (own_set (i := 1) hN4 (hO4.ne_own hN4 (by decide)) (.slice A4 (1 + ns.length) c4))
    have Hlen : Hid (((((k : Int), r, 1) : Int × Int × Int) :: ns).length = 1 + ns.length) := by show _ = _; simp; omega
    clear hO4 hR4 hB4 hW4 hN4 hown4 hg4 hq0 hq1 hrow3 hc0 hc1 Hall
    generalize W4.setCell ⟨w.heap.size + 1 + 1, 1, none⟩ (.slice A4 (1 + ns.length) c4) = WF at *
    go_upto_region 23 with fail
    have hfc0 : WF.cell? ⟨w.heap.size + 1 + 1, 0, none⟩ = some (.slice AW ws.length cW) := HO2.out.cell 0
    have hfc1 : WF.cell? ⟨w.heap.size + 1 + 1, 1, none⟩ = some (.slice A4 (1 + ns.length) c4) := HO2.out.cell 1
    have hr0 : WF.cell? ⟨w.heap.size + 1, 0, none⟩ = some (.slice none 0 0) := HR2.out.cell 0
    have hr1 : WF.cell? ⟨w.heap.size + 1, 1, none⟩ = some (.slice none 0 0) := HR2.out.cell 1
    have hf0 := HR2.out.frozen 0
    have hf1 := HR2.out.frozen 1
    have hz0 := ((HR2.out.set_ 0 (.slice AW ws.length cW)).set_ 1 (.slice A4 (1 + ns.length) c4)).cell 0
    have hz1 := ((HR2.out.set_ 0 (.slice AW ws.length cW)).set_ 1 (.slice A4 (1 + ns.length) c4)).cell 1
    have ho1 := Lib.hid (own_set (i := 1) (own_set (i := 0) HW2.out (HR2.out.ne_own HW2.out (by decide)) (.slice AW ws.length cW)) (HR2.out.ne_own HW2.out (by decide)) (.slice A4 (1 + ns.length) c4))
    have ho2 := Lib.hid (own_set (i := 1) (own_set (i := 0) HN2.out (HR2.out.ne_own HN2.out (by decide)) (.slice AW ws.length cW)) (HR2.out.ne_own HN2.out (by decide)) (.slice A4 (1 + ns.length) c4))
    have hbf := Lib.hid ((HB2.out.setCell (p := ⟨w.heap.size + 1, 0, none⟩) (by show w.heap.size ≤ w.heap.size + 1; omega) (.slice AW ws.length cW)).setCell (p := ⟨w.heap.size + 1, 1, none⟩) (by show w.heap.size ≤ w.heap.size + 1; omega) (.slice A4 (1 + ns.length) c4))
    go_wp2_with fail
    refine bodyPost_ret (v := .agg #[.slice AW ws.length cW, .slice A4 (1 + ns.length) c4]) (by simp [results, Try.results40, go_sem, hz0, hz1]) rfl ?_
    exact ⟨AW, cW, A4, c4, ws, ((k : Int), r, 1) :: ns, by rw [Hlen.out], own_si ho1.out, SL.of_own ho2.out, by omega, by simp; omega, hbf.out⟩
  · have hc1 : W3.cell? ⟨w.heap.size + 1 + 1, 1, none⟩ = some (.slice AN ns.length cN) := HO.out.cell 1
    by_cases hn0 : ns.length = 0
    · have hn1 : ns.length ≤ 0 := by omega
      clear hn0
      go_upto_region 23 with fail
      have hfc0 : W3.cell? ⟨w.heap.size + 1 + 1, 0, none⟩ = some (.slice AW ws.length cW) := HO.out.cell 0
      have hfc1 : W3.cell? ⟨w.heap.size + 1 + 1, 1, none⟩ = some (.slice AN ns.length cN) := HO.out.cell 1
      have hr0 : W3.cell? ⟨w.heap.size + 1, 0, none⟩ = some (.slice none 0 0) := HR.out.cell 0
      have hr1 : W3.cell? ⟨w.heap.size + 1, 1, none⟩ = some (.slice none 0 0) := HR.out.cell 1
      have hf0 := HR.out.frozen 0
      have hf1 := HR.out.frozen 1
      have hz0 := ((HR.out.set_ 0 (.slice AW ws.length cW)).set_ 1 (.slice AN ns.length cN)).cell 0
      have hz1 := ((HR.out.set_ 0 (.slice AW ws.length cW)).set_ 1 (.slice AN ns.length cN)).cell 1
      have ho1 := Lib.hid (own_set (i := 1) (own_set (i := 0) HW.out (HR.out.ne_own HW.out (by decide)) (.slice AW ws.length cW)) (HR.out.ne_own HW.out (by decide)) (.slice AN ns.length cN))
      have ho2 := Lib.hid (own_set (i := 1) (own_set (i := 0) HN.out (HR.out.ne_own HN.out (by decide)) (.slice AW ws.length cW)) (HR.out.ne_own HN.out (by decide)) (.slice AN ns.length cN))
      have hbf := Lib.hid ((HB.out.setCell (p := ⟨w.heap.size + 1, 0, none⟩) (by show w.heap.size ≤ w.heap.size + 1; omega) (.slice AW ws.length cW)).setCell (p := ⟨w.heap.size + 1, 1, none⟩) (by show w.heap.size ≤ w.heap.size + 1; omega) (.slice AN ns.length cN))
      go_wp2_with fail
      refine bodyPost_ret (v := .agg #[.slice AW ws.length cW, .slice AN ns.length cN]) (by simp [results, Try.results40, go_sem, hz0, hz1]) rfl ?_
      exact ⟨AW, cW, AN, cN, ws, ns, rfl, own_si ho1.out, SL.of_own ho2.out, by omega, by omega, hbf.out⟩
    · have hn1 : 0 < ns.length := by omega
      have Ha4 := Lib.hid (around_any at_ ns.length W3 h1.1 h1.2 (by omega) (by omega))
      obtain ⟨hk1, hk2⟩ := around_bd at_ ns.length (by omega)
      obtain ⟨i4, hk⟩ := Int.eq_ofNat_of_zero_le hk1
      rw [hk] at Ha4 hk2
      clear hk1 hk hn0
      have hil : i4 < ns.length := by omega
      obtain ⟨gN, o, ta, tb, tz, rfl, hd0, hd1, hd2, ht⟩ := ST.get (SL.of_own HN.out : ST W3 AN ns) hil
      have j0 : (0 : Int) ≤ (i4 : Int) := by omega
      go_upto_region 22 with (go_at_call 18; refine Ha4.out.mono ?_; rintro e w' ⟨rfl, rfl⟩)
      have hw3 := HB.out.size
      have hrow := HO.out.ne_own HN.out (by decide)
      refine wp_region_noPanic ?_
      refine region_T (s := 10) (S := fun W => W.cell? ⟨w.heap.size + 1 + 1, 1, none⟩ = some (.slice (some ⟨gN, o, none⟩) ns.length cN)) (by kernel_rfl) ?_
      change wpT _ _ _ _ _ 11 _ _ W3.drew
      have HS0 := Lib.hid (show W3.drew.cell? ⟨w.heap.size + 1 + 1, 1, none⟩ = some (.slice (some ⟨gN, o, none⟩) ns.length cN) from hc1)
      have hSa : (W3.alloc (.cells #[.int .i64 ta, .int .i64 tb, .int .i64 tz] 52)).cell? ⟨w.heap.size + 1 + 1, 1, none⟩ = some (.slice (some ⟨gN, o, none⟩) ns.length cN) := (HO.out.alloc _).cell 1
      have hown2 : ((W3.alloc (.cells #[.int .i64 ta, .int .i64 tb, .int .i64 tz] 52)).drew).ownsRow w.heap.size 52 3 (.slice (some ⟨gN, o, none⟩) ns.length cN) ns.length (triC ns) := HN.out.alloc _
      have hk2 : Bk ((W3.alloc (.cells #[.int .i64 ta, .int .i64 tb, .int .i64 tz] 52)).drew) W3.heap.size 52 #[.int .i64 ta, .int .i64 tb, .int .i64 tz] := Bk.new _ _ _
      have hO3 : Bk ((W3.alloc (.cells #[.int .i64 ta, .int .i64 tb, .int .i64 tz] 52)).drew) (w.heap.size + 1 + 1) 33 #[.slice AW ws.length cW, .slice (some ⟨gN, o, none⟩) ns.length cN] := HO.out.alloc _
      have hR3 : Bk ((W3.alloc (.cells #[.int .i64 ta, .int .i64 tb, .int .i64 tz] 52)).drew) (w.heap.size + 1) 33 #[.slice none 0 0, .slice none 0 0] := HR.out.alloc _
      have hW3 : ((W3.alloc (.cells #[.int .i64 ta, .int .i64 tb, .int .i64 tz] 52)).drew).ownsRow w.heap.size 3 1 (.slice AW ws.length cW) ws.length (ws.map (Value.int .i64)) := HW.out.alloc _
      have hB3 : Below w.heap.size w ((W3.alloc (.cells #[.int .i64 ta, .int .i64 tb, .int .i64 tz] 52)).drew) := (HB.out.alloc hw3 _).drew
      have hbb : w.heap.size ≤ ((W3.alloc (.cells #[.int .i64 ta, .int .i64 tb, .int .i64 tz] 52)).drew).heap.size := hB3.size
      have Hall := Lib.hid (And.intro hown2 (And.intro hk2 (And.intro hO3 (And.intro hR3 (And.intro hW3 hB3)))))
      clear hown2 hk2 hO3 hR3 hW3 hB3
      refine T_take (k := 0) (v := .pointer (some ⟨w.heap.size + 1 + 1, 1, none⟩)) rfl (by decide +kernel) (fun _ _ _ h => h) (Or.inl ⟨by rfl, fun W hW => by go_simp⟩) HS0.out ?_
      try simp only [Act.put, List.setIfInBounds_toArray, List.set_cons_zero, List.set_cons_succ]
      refine T_take (k := 1) (v := .slice (some ⟨gN, o, none⟩) ns.length cN) rfl (by decide +kernel) (fun _ _ _ h => h) (Or.inl ⟨by rfl, fun W hW => by go_simp⟩) HS0.out ?_
      try simp only [Act.put, List.setIfInBounds_toArray, List.set_cons_zero, List.set_cons_succ]
      refine T_take (k := 2) (v := .pointer (some ⟨w.heap.size + 1 + 1, 1, none⟩)) rfl (by decide +kernel) (fun _ _ _ h => h) (Or.inl ⟨by rfl, fun W hW => by go_simp⟩) HS0.out ?_
      try simp only [Act.put, List.setIfInBounds_toArray, List.set_cons_zero, List.set_cons_succ]
      refine T_take (k := 3) (v := .slice (some ⟨gN, o, none⟩) ns.length cN) rfl (by decide +kernel) (fun _ _ _ h => h) (Or.inl ⟨by rfl, fun W hW => by go_simp⟩) HS0.out ?_
      try simp only [Act.put, List.setIfInBounds_toArray, List.set_cons_zero, List.set_cons_succ]
      refine T_take (k := 4) (v := .int .i64 i4) rfl (by decide +kernel) (fun _ _ _ h => h) (Or.inl ⟨by rfl, fun W hW => by go_simp⟩) HS0.out ?_
      try simp only [Act.put, List.setIfInBounds_toArray, List.set_cons_zero, List.set_cons_succ]
      refine T_take (k := 5) (v := .pointer (some ⟨gN, o + i4 * 3, none⟩)) rfl (by decide +kernel) (fun _ _ _ h => h) (Or.inl ⟨by rfl, fun W hW => by go_simp⟩) HS0.out ?_
      try simp only [Act.put, List.setIfInBounds_toArray, List.set_cons_zero, List.set_cons_succ]
      refine T_one (i := 6) (by decide +kernel) rfl rfl (fun K0 hK0 => ?_)
      have hK0 := Lib.hid hK0
      go_simp
      refine hK0.out _ _ HS0.out ?_
      try simp only [Act.put, List.setIfInBounds_toArray, List.set_cons_zero, List.set_cons_succ]
      refine T_one (i := 7) (by decide +kernel) rfl rfl (fun K hK => ?_)
      have hK := Lib.hid hK
      go_simp
      refine hK.out _ _ hSa ?_
      try simp only [Act.put, List.setIfInBounds_toArray, List.set_cons_zero, List.set_cons_succ]
      refine T_one (i := 8) (by decide +kernel) rfl rfl (fun K2 hK2 => ?_)
      have hK2 := Lib.hid hK2
      refine app_wp (us := [.int .i64 ta, .int .i64 tb, .int .i64 tz]) (c := 1) (H := W3.heap.size) (v := .slice (some ⟨gN, o, none⟩) ns.length cN) (.tmp 121) (.tmp 127) rfl elt_tri (by simp [Act.eval]) (by simp [Act.eval]) Hall.out.1 Hall.out.2.1 rfl rfl (by omega) hbb ?_
      intro v4 W4 hown4 hg4
      obtain ⟨A4, c4, rfl⟩ := own_slice hown4
      have hrow3 := Hall.out.2.2.1.ne_own Hall.out.1 (by decide)
      have hO4 := Hall.out.2.2.1.grown hg4 hrow3
      have hS4 : W4.cell? ⟨w.heap.size + 1 + 1, 1, none⟩ = some (.slice (some ⟨gN, o, none⟩) ns.length cN) := hO4.cell 1
      have hq0 := hS4
      have hq1 := hO4.frozen 1
      refine hK2.out _ _ hS4 ?_
      try simp only [Act.put, List.setIfInBounds_toArray, List.set_cons_zero, List.set_cons_succ]
      refine T_take (k := 9) (v := .pointer (some ⟨w.heap.size + 1 + 1, 1, none⟩)) rfl (by decide +kernel) (fun _ _ _ h => h) (Or.inl ⟨by rfl, fun W hW => by go_simp⟩) hS4 ?_
      try simp only [Act.put, List.setIfInBounds_toArray, List.set_cons_zero, List.set_cons_succ]
      clear hS4 hK2 hK HS0 hSa
      refine T_last (by decide +kernel) (by decide +kernel) (by decide +kernel) rfl rfl (fun K3 hK3 => ?_)
      have hK3 := Lib.hid hK3
      go_simp
      refine hK3.out _ _ (NoPanic.normal ?_)
      try simp only [Act.put, List.setIfInBounds_toArray, List.set_cons_zero, List.set_cons_succ]
      clear hK3
      have hR4 := Hall.out.2.2.2.1.grown hg4 (Hall.out.2.2.2.1.ne_own Hall.out.1 (by decide))
      have hB4 := Hall.out.2.2.2.2.2.grown hg4 hbb (fun k hk => (Hall.out.1.lt k hk).1)
      have hW4 := own_grown Hall.out.2.2.2.2.1 hg4 (own_ne Hall.out.2.2.2.2.1 Hall.out.1 (by decide))
      have hN4 := hown4
      have HO2 := Lib.hid (hO4.set_ 1 (.slice A4 (ns.length + 1) c4))
      have HR2 := Lib.hid (hR4.far (p := ⟨w.heap.size + 1 + 1, 1, none⟩) (by show w.heap.size + 1 ≠ w.heap.size + 1 + 1; omega) (.slice A4 (ns.length + 1) c4))
      have HB2 := Lib.hid (hB4.setCell (p := ⟨w.heap.size + 1 + 1, 1, none⟩) (by show w.heap.size ≤ w.heap.size + 1 + 1; omega) (.slice A4 (ns.length + 1) c4))
      have HW2 := Lib.hid (own_set (i := 1) hW4 (hO4.ne_own hW4 (by decide)) (.slice A4 (ns.length + 1) c4))
      have HN2 := Lib.hid (own_set (i := 1) hN4 (hO4.ne_own hN4 (by decide)) (.slice A4 (ns.length + 1) c4))
      have Hlen : Hid ((ns ++ [(ta, tb, tz)]).length = ns.length + 1) := by show _ = _; simp
      clear hO4 hR4 hB4 hW4 hN4 hown4 hg4 hq0 hq1 hrow hrow3 hc1 hd0 hd1 hd2 Hall
      generalize W4.setCell ⟨w.heap.size + 1 + 1, 1, none⟩ (.slice A4 (ns.length + 1) c4) = WF at *
      go_upto_region 23 with fail
      have hfc0 : WF.cell? ⟨w.heap.size + 1 + 1, 0, none⟩ = some (.slice AW ws.length cW) := HO2.out.cell 0
      have hfc1 : WF.cell? ⟨w.heap.size + 1 + 1, 1, none⟩ = some (.slice A4 (ns.length + 1) c4) := HO2.out.cell 1
      have hr0 : WF.cell? ⟨w.heap.size + 1, 0, none⟩ = some (.slice none 0 0) := HR2.out.cell 0
      have hr1 : WF.cell? ⟨w.heap.size + 1, 1, none⟩ = some (.slice none 0 0) := HR2.out.cell 1
      have hf0 := HR2.out.frozen 0
      have hf1 := HR2.out.frozen 1
      have hz0 := ((HR2.out.set_ 0 (.slice AW ws.length cW)).set_ 1 (.slice A4 (ns.length + 1) c4)).cell 0
      have hz1 := ((HR2.out.set_ 0 (.slice AW ws.length cW)).set_ 1 (.slice A4 (ns.length + 1) c4)).cell 1
      have ho1 := Lib.hid (own_set (i := 1) (own_set (i := 0) HW2.out (HR2.out.ne_own HW2.out (by decide)) (.slice AW ws.length cW)) (HR2.out.ne_own HW2.out (by decide)) (.slice A4 (ns.length + 1) c4))
      have ho2 := Lib.hid (own_set (i := 1) (own_set (i := 0) HN2.out (HR2.out.ne_own HN2.out (by decide)) (.slice AW ws.length cW)) (HR2.out.ne_own HN2.out (by decide)) (.slice A4 (ns.length + 1) c4))
      have hbf := Lib.hid ((HB2.out.setCell (p := ⟨w.heap.size + 1, 0, none⟩) (by show w.heap.size ≤ w.heap.size + 1; omega) (.slice AW ws.length cW)).setCell (p := ⟨w.heap.size + 1, 1, none⟩) (by show w.heap.size ≤ w.heap.size + 1; omega) (.slice A4 (ns.length + 1) c4))
      go_wp2_with fail
      refine bodyPost_ret (v := .agg #[.slice AW ws.length cW, .slice A4 (ns.length + 1) c4]) (by simp [results, Try.results40, go_sem, hz0, hz1]) rfl ?_
      exact ⟨AW, cW, A4, c4, ws, ns ++ [(ta, tb, tz)], by rw [Hlen.out], own_si ho1.out, by show SL _ _ _; rw [triC_append]; exact SL.of_own ho2.out, by omega, by simp; omega, hbf.out⟩
  · have hc0 : W3.cell? ⟨w.heap.size + 1 + 1, 0, none⟩ = some (.slice AW ws.length cW) := HO.out.cell 0
    have hof := HO.out.frozen 0
    have hcap := own_cap HW.out
    have i0 : (0 : Int) ≤ (k : Int) := by omega
    have i1 : (k : Int) ≤ cW := by omega
    have i2 : k ≤ cW := by omega
    obtain ⟨gW, cW', hv, _, _⟩ := HW.out.form (by omega)
    injection hv with hv1 hv2 hv3
    subst hv1 hv3
    have hrr := (Bk.ne_own HO.out HW.out (by decide))
    have HO2 := Lib.hid (HO.out.set_ 0 (.slice (some ⟨gW, 0, none⟩) k cW))
    have HR2 := Lib.hid (HR.out.far (p := ⟨w.heap.size + 1 + 1, 0, none⟩) (by show w.heap.size + 1 ≠ w.heap.size + 1 + 1; omega) (.slice (some ⟨gW, 0, none⟩) k cW))
    have HB2 := Lib.hid (HB.out.setCell (p := ⟨w.heap.size + 1 + 1, 0, none⟩) (by show w.heap.size ≤ w.heap.size + 1 + 1; omega) (.slice (some ⟨gW, 0, none⟩) k cW))
    have HW2 := Lib.hid (own_set (i := 0) HW.out hrr (.slice (some ⟨gW, 0, none⟩) k cW))
    have HN2 := Lib.hid (own_set (i := 0) HN.out (HO.out.ne_own HN.out (by decide)) (.slice (some ⟨gW, 0, none⟩) k cW))
    go_upto_region 23 with fail
    generalize W3.setCell ⟨w.heap.size + 1 + 1, 0, none⟩ (.slice (some ⟨gW, 0, none⟩) k cW) = WF at *
    have hfc0 : WF.cell? ⟨w.heap.size + 1 + 1, 0, none⟩ = some (.slice (some ⟨gW, 0, none⟩) k cW) := HO2.out.cell 0
    have hfc1 : WF.cell? ⟨w.heap.size + 1 + 1, 1, none⟩ = some (.slice AN ns.length cN) := HO2.out.cell 1
    have hr0 : WF.cell? ⟨w.heap.size + 1, 0, none⟩ = some (.slice none 0 0) := HR2.out.cell 0
    have hr1 : WF.cell? ⟨w.heap.size + 1, 1, none⟩ = some (.slice none 0 0) := HR2.out.cell 1
    have hf0 := HR2.out.frozen 0
    have hf1 := HR2.out.frozen 1
    have hz0 := ((HR2.out.set_ 0 (.slice (some ⟨gW, 0, none⟩) k cW)).set_ 1 (.slice AN ns.length cN)).cell 0
    have hz1 := ((HR2.out.set_ 0 (.slice (some ⟨gW, 0, none⟩) k cW)).set_ 1 (.slice AN ns.length cN)).cell 1
    have ho1 := Lib.hid (own_set (i := 1) (own_set (i := 0) HW2.out (HR2.out.ne_own HW2.out (by decide)) (.slice (some ⟨gW, 0, none⟩) k cW)) (HR2.out.ne_own HW2.out (by decide)) (.slice AN ns.length cN))
    have ho2 := Lib.hid (own_set (i := 1) (own_set (i := 0) HN2.out (HR2.out.ne_own HN2.out (by decide)) (.slice (some ⟨gW, 0, none⟩) k cW)) (HR2.out.ne_own HN2.out (by decide)) (.slice AN ns.length cN))
    have hbf := Lib.hid ((HB2.out.setCell (p := ⟨w.heap.size + 1, 0, none⟩) (by show w.heap.size ≤ w.heap.size + 1; omega) (.slice (some ⟨gW, 0, none⟩) k cW)).setCell (p := ⟨w.heap.size + 1, 1, none⟩) (by show w.heap.size ≤ w.heap.size + 1; omega) (.slice AN ns.length cN))
    go_wp2_with fail
    refine bodyPost_ret (v := .agg #[.slice (some ⟨gW, 0, none⟩) k cW, .slice AN ns.length cN]) (by simp [results, Try.results40, go_sem, hz0, hz1]) rfl ?_
    exact ⟨some ⟨gW, 0, none⟩, cW, AN, cN, ws.take k, ns, by rw [List.length_take, Nat.min_eq_left (by omega)], SI.take (own_si ho1.out) k, SL.of_own ho2.out, by simp; omega, by omega, hbf.out⟩
end Go.Proofs.Ytaegfljpodhnhaa

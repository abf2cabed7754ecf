import Derived.Test.YtaegfljpodhnhaaT1
import Derived.Deep.RegionHeld3
import Derived.Deep.RegionLaw
namespace Go.Proofs.Ytaegfljpodhnhaa
open Go.RowKit Go.Maps

theorem wsX_len (x : Int) (ws : List Int) : (wsX x ws).length = ws.length := by simp [wsX]
theorem nsY_len (y : Int) (ns : List (Int × Int × Int)) : (nsY y ns).length = ns.length := by simp [nsY]
theorem wsX_take (x : Int) {ws : List Int} {k : Nat} {v : Int} (h : ws[k]? = some v) : wsX x (ws.take (k + 1)) = wsX x (ws.take k) ++ [x * v] := by
  rw [take_snoc' h]; simp [wsX]
theorem nsY_take (y : Int) {ns : List (Int × Int × Int)} {k : Nat} {a b z : Int} (h : ns[k]? = some (a, b, z)) : nsY y (ns.take (k + 1)) = nsY y (ns.take k) ++ [(a, b, y * z)] := by
  rw [take_snoc' h]; simp [nsY]

theorem GoodG.scaled {ws : List Int} {ns : List (Int × Int × Int)} {a b x y : Int} (h : GoodG ws ns a b) (hx : 0 < x) (hy : 0 < y) : GoodG (wsX x ws) (nsY y ns) (x * a) (y * b) := by
  refine ⟨by rw [wsX_len]; exact h.n1, by rw [wsX_len]; exact h.n2, by rw [nsY_len]; exact h.n3, ?_, ?_, ?_⟩
  · intro z hz
    obtain ⟨v, hv, rfl⟩ := List.mem_map.1 hz
    have := h.w v hv
    exact ⟨Int.mul_nonneg (by omega) this.1, (mul_le' hx).2 this.2⟩
  · intro u hu
    obtain ⟨t, ht, rfl⟩ := List.mem_map.1 hu
    have := h.t t ht
    rw [wsX_len]
    have h1 : y * 1 ≤ y * t.2.2 := (mul_le' hy).2 this.2.2.2.1
    exact ⟨this.1, this.2.1, this.2.2.1, by dsimp only; omega, (mul_le' hy).2 this.2.2.2.2⟩
  · intro i h0 hi
    rw [nsY_len] at hi
    have := h.s i h0 hi
    rw [nsY_getD, nsY_getD]
    exact this

theorem GoodT.scaled {ls : List Int} {m x : Int} (h : GoodT ls m) (hx : 0 < x) : GoodT (wsX x ls) (x * m) := by
  refine ⟨by rw [wsX_len]; exact h.n1, by rw [wsX_len]; exact h.n2, ?_, ?_⟩
  · intro z hz
    obtain ⟨v, hv, rfl⟩ := List.mem_map.1 hz
    have := h.b v hv
    exact ⟨Int.mul_nonneg (by omega) this.1, (mul_le' hx).2 this.2⟩
  · intro j hj
    rw [wsX_len] at hj
    rw [wsX_getD, wsX_getD]
    exact (mul_le' hx).2 (h.s j hj)

/-- Both graphs have the same groups and merges. -/
theorem scaled_same {ws : List Int} {ns : List (Int × Int × Int)} {ls : List Int} {x y : Int} (hG : GoodG ws ns 11 6) (hT : GoodT ls 45) (hx : 0 < x) (hx2 : x ≤ 1073741824) (hy : 0 < y) (hy2 : y ≤ 1073741824) :
    ofE ws ns ls = 0 ∧ ofE (wsX x ws) (nsY y ns) (wsX x ls) = 0 ∧ ofL (wsX x ws) (nsY y ns) (wsX x ls) = ofL ws ns ls ∧ ∀ s : Int, 0 ≤ s → s < ls.length → stE ws ns ls s = 0 ∧ stE (wsX x ws) (nsY y ns) (wsX x ls) s = 0 ∧ stL (wsX x ws) (nsY y ns) (wsX x ls) s = stL ws ns ls s := by
  have e1 : ofE ws ns ls = 0 := orI_two.2 ⟨hG.ok (by omega) (by omega), hT.ok (by omega)⟩
  have e2 : ofE (wsX x ws) (nsY y ns) (wsX x ls) = 0 := orI_two.2 ⟨(hG.scaled hx hy).ok (by omega) (by omega), (hT.scaled hx).ok (by omega)⟩
  have e3 : chain (wsX x ws) (nsY y ns) (alone (wsX x ws).length) (wsX x ls) = chain ws ns (alone ws.length) ls := by rw [wsX_len]; exact chain_XY ws ns hx hy ls _
  refine ⟨e1, e2, ?_, fun s h0 h1 => ?_⟩
  · rw [ofL, ofL, if_pos e1, if_pos e2, lists, lists, e3]
  · have e4 : stE ws ns ls s = 0 := by rw [stE, if_neg (by simp [e1]), if_neg (by omega)]
    have e5 : stE (wsX x ws) (nsY y ns) (wsX x ls) s = 0 := by rw [stE, if_neg (by simp [e2]), if_neg (by rw [wsX_len]; omega)]
    exact ⟨e4, e5, by rw [stL, stL, if_pos e4, if_pos e5, steps, steps, e3]⟩

theorem own_si {w : World} {base n c : Nat} {A : Option Addr} {l : List Int} (h : w.ownsRow base 3 1 (.slice A n c) n (l.map (Value.int .i64))) : SI w A l := SL.of_own h

theorem chain_lens {ws : List Int} {ns : List (Int × Int × Int)} : ∀ (ls of : List Int), CN of → ∀ p ∈ chain ws ns of ls, p.1.length = of.length
  | [], _, _, p, hp => by simp [chain] at hp
  | n :: ls, of, h, p, hp => by
    have h1 := CN.scaleF (ws := ws) (ns := ns) (least := n) of.length of h
    rcases List.mem_cons.1 hp with rfl | hp
    · exact h1.2
    · exact (chain_lens ls _ h1.1 p hp).trans h1.2

theorem ofL_lens {ws : List Int} {ns : List (Int × Int × Int)} {ls : List Int} : ∀ l ∈ ofL ws ns ls, l.length = ws.length := fun l hl => by
  unfold ofL at hl
  split at hl
  · obtain ⟨p, hp, rfl⟩ := List.mem_map.1 hl
    rw [ix_len, chain_lens ls _ (alone_cn _) p hp, alone_len]
  · simp at hl

theorem scaleF_steps {ws : List Int} {ns : List (Int × Int × Int)} {n : Int} : ∀ (f : Nat) (of : List Int), (scaleF ws ns n f of).2.length ≤ f
  | 0, _ => by simp [scaleF]
  | f + 1, of => by
    rw [scaleF]
    split
    · have := scaleF_steps (ws := ws) (ns := ns) (n := n) f (merged of ((next ws ns of n).1, (next ws ns of n).2.1))
      simp only [List.length_cons]
      omega
    · simp

theorem chain_steps {ws : List Int} {ns : List (Int × Int × Int)} : ∀ (ls of : List Int), CN of → ∀ p ∈ chain ws ns of ls, p.2.length ≤ of.length
  | [], _, _, p, hp => by simp [chain] at hp
  | n :: ls, of, h, p, hp => by
    have h1 := CN.scaleF (ws := ws) (ns := ns) (least := n) of.length of h
    rcases List.mem_cons.1 hp with rfl | hp
    · exact scaleF_steps _ _
    · have := chain_steps ls _ h1.1 p hp
      have h2 := h1.2
      unfold scale at this
      omega

theorem stL_len (ws : List Int) (ns : List (Int × Int × Int)) (ls : List Int) (s : Int) : (stL ws ns ls s).length ≤ ws.length := by
  unfold stL
  split
  · unfold steps
    rcases Nat.lt_or_ge s.toNat (chain ws ns (alone ws.length) ls).length with h | h
    · have := chain_steps (ws := ws) (ns := ns) ls _ (alone_cn ws.length) _ (List.getElem_mem h)
      rw [alone_len] at this
      simpa [List.getD, h] using this
    · simp [List.getD, List.getElem?_eq_none h]
  · simp

theorem of_ok (A B C : Option Addr) (c d f : Nat) (ws : List Int) (ns : List (Int × Int × Int)) (ls : List Int) (L : List (List Int)) (w : World) (hA : SI w A ws) (hB : ST w B ns) (hC : SI w C ls) (hE : ofE ws ns ls = 0) (hL : ofL ws ns ls = L) :
    Calls Try.prog 15 #[.agg #[.slice A ws.length c, .slice B ns.length d], .slice C ls.length f] w fun e w' => ∃ D m, e = .returned (.tuple #[.agg #[.slice D L.length m], .int .i64 0]) ∧ SLL w' D L ∧ Below w.heap.size w w' := by
  have hg := validE_good (orI_two.1 hE).1
  have ht := thrE_good (orI_two.1 hE).2
  refine (of_any A B C c d f ws ns ls w hA hB hC (by omega) (by omega) (by omega)).mono ?_
  rintro e w' ⟨D, m, vs, rfl, hown, hLL, hb⟩
  rw [hL] at hown hLL ⊢
  rw [hE]
  exact ⟨D, m, rfl, SLL.of_rows hown hLL (fun l hl => by have := ofL_lens (ws := ws) (ns := ns) (ls := ls) l (hL ▸ hl); omega), hb⟩

theorem steps_ok (A B C : Option Addr) (c d f : Nat) (ws : List Int) (ns : List (Int × Int × Int)) (ls : List Int) (s : Int) (L : List (Int × Int)) (w : World) (hA : SI w A ws) (hB : ST w B ns) (hC : SI w C ls) (hf : ls.length ≤ f) (hE : ofE ws ns ls = 0) (hE2 : stE ws ns ls s = 0) (hL : stL ws ns ls s = L) :
    Calls Try.prog 19 #[.agg #[.slice A ws.length c, .slice B ns.length d], .slice C ls.length f, .int .i64 s] w fun e w' => ∃ D m, e = .returned (.tuple #[.slice D L.length m, .int .i64 0]) ∧ SL w' D (pairC L) ∧ Below w.heap.size w w' := by
  have hg := validE_good (orI_two.1 hE).1
  have ht := thrE_good (orI_two.1 hE).2
  refine (steps_any A B C c d f ws ns ls s w hA hB hC (by omega) (by omega) (by omega) hf).mono ?_
  rintro e w' ⟨D, m, rfl, hown, hb⟩
  rw [hL] at hown ⊢
  rw [hE2]
  exact ⟨D, m, rfl, SL.of_own hown, hb⟩

theorem own_cap {w : World} {base n c : Nat} {e : TypeId} {A : Option Addr} {xs : List Value} {size : Nat} (h : w.ownsRow base e size (.slice A n c) n xs) : n ≤ c := by
  rcases h.2 with ⟨he, h0⟩ | ⟨g, cap, cur, he, _, _, hc, _⟩
  · omega
  · injection he with _ _ e3
    omega

set_option linter.unusedSimpArgs false in
set_option maxHeartbeats 4000000 in
set_option maxRecDepth 100000 in
theorem scaled_walk (A B : Option Addr) (c d : Nat) (l k : List Int) (one two at_ : Int) (w : World) (hA : SI w A l) (hB : SI w B k) (hwl : W64 l) (hwk : W64 k) (h1 : -9223372036854775808 ≤ one ∧ one ≤ 9223372036854775807) (h2 : -9223372036854775808 ≤ two ∧ two ≤ 9223372036854775807) (h3 : -9223372036854775808 ≤ at_ ∧ at_ ≤ 9223372036854775807) :
    Calls Try.prog 4 #[.slice A l.length c, .slice B k.length d, .int .i64 one, .int .i64 two, .int .i64 at_] w fun e w' => e = .returned (.bool true) ∧ Below w.heap.size w w' := by
  go_enter Try.func4, Try.ntmps4
  go_wp2_with fail
  refine (some_any A c l 14 w hA hwl (by omega) (by omega)).mono ?_
  rintro e w1 ⟨v1, v2, ws, ns, rfl, hown1, hown2, hG, hb1⟩
  obtain ⟨A1, c1, rfl⟩ := own_slice hown1
  obtain ⟨A2, c2, rfl⟩ := own_slice hown2
  have Hb1 := Lib.hid hb1
  have Hown1 := Lib.hid hown1
  have Hown2 := Lib.hid hown2
  clear hb1 hown1 hown2
  go_wp2_with fail
  refine (own_any A1 A2 c1 c2 ws.length ns.length w1).mono ?_
  rintro e w2 ⟨rfl, hb2⟩
  have Hown1 := Lib.hid ((own_below Hown1.out hb2).alloc (.cells #[.slice A1 ws.length c1, .slice A2 ns.length c2] 31))
  have Hown2 := Lib.hid ((own_below Hown2.out hb2).alloc (.cells #[.slice A1 ws.length c1, .slice A2 ns.length c2] 31))
  have hb12 := Hb1.out.trans (hb2.mono Hb1.out.size)
  have Hb2 := Lib.hid (hb12.alloc hb12.size (.cells #[.slice A1 ws.length c1, .slice A2 ns.length c2] 31))
  have Hg := Lib.hid (Bk.new w2 31 #[.slice A1 ws.length c1, .slice A2 ns.length c2])
  clear hb2 hb12 Hb1
  go_wp2_with fail
  generalize w2.alloc (.cells #[.slice A1 ws.length c1, .slice A2 ns.length c2] 31) = W2 at *
  generalize w2.heap.size = tg at *
  refine (least_any B d k W2 (hB.below Hb2.out) hwk).mono ?_
  rintro e w3 ⟨v3, ls, rfl, hown3, hT, hb3⟩
  obtain ⟨A3, c3, rfl⟩ := own_slice hown3
  have Hown3 := Lib.hid hown3
  have Hown1 := Lib.hid (own_below Hown1.out hb3)
  have Hown2 := Lib.hid (own_below Hown2.out hb3)
  have Hg := Lib.hid (Hg.out.below hb3 Hg.out.lt)
  have Hb3 := Lib.hid (Hb2.out.trans (hb3.mono Hb2.out.size))
  clear hown3 hb3 Hb2
  obtain ⟨hx1, hx2⟩ := around_bd one 1073741824 (by omega)
  obtain ⟨hy1, hy2⟩ := around_bd two 1073741824 (by omega)
  have Ha1 := Lib.hid (around_any one 1073741824 w3 h1.1 h1.2 (by omega) (by omega))
  have Ha2 := Lib.hid (around_any two 1073741824 w3 h2.1 h2.2 (by omega) (by omega))
  generalize around one 1073741824 = x0 at *
  generalize around two 1073741824 = y0 at *
  go_wp2_with fail
  refine Ha1.out.mono ?_
  rintro e w' ⟨rfl, rfl⟩
  go_wp2_with fail
  refine Ha2.out.mono ?_
  rintro e w' ⟨rfl, rfl⟩
  obtain ⟨x, hx⟩ : ∃ x, Hid (1 + x0 = x) := ⟨_, rfl⟩
  obtain ⟨y, hy⟩ : ∃ y, Hid (1 + y0 = y) := ⟨_, rfl⟩
  have hxb : 1 ≤ x ∧ x ≤ 1073741824 := by have := hx.out; omega
  have hyb : 1 ≤ y ∧ y ≤ 1073741824 := by have := hy.out; omega
  clear Ha1 Ha2
  have hbx := (Below.refl w3.heap.size w3).alloc (Nat.le_refl _) (.cells #[.slice none 0 0, .slice none 0 0] 31)
  have Hh := Lib.hid (Bk.new w3 31 #[.slice none 0 0, .slice none 0 0])
  have Hbx := Lib.hid hbx
  have hgl := Hg.out.lt
  clear hbx
  obtain ⟨hxb1, hxb2⟩ := hxb
  obtain ⟨hyb1, hyb2⟩ := hyb
  go_wp2_with fail
  rw [hx.out, hy.out]
  clear hx hy hx1 hx2 hy1 hy2
  go_loopw [16] (fun i wr => ∃ (k : Nat) (v : Value), k ≤ ws.length ∧ i = .int .i64 k ∧ Bk wr w3.heap.size 31 #[v, .slice none 0 0] ∧ wr.ownsRow w3.heap.size 3 1 v k ((wsX x (ws.take k)).map (Value.int .i64)) ∧ Below w3.heap.size w3 wr) (fun i _ => ws.length - (intOf i).toNat)
  case atStart => exact ⟨0, _, by omega, rfl, Hh.out, World.ownsRow_nil _ _ _ _, Hbx.out⟩
  case round =>
    clear Hh Hbx
    obtain ⟨j, v, hj, rfl, hh, hown, hb⟩ := hrel
    have hbs := hb.size
    have hgw := Hg.out.below hb hgl
    by_cases hlt : j < ws.length
    · obtain ⟨b1, o1, z, rfl, hcz, hz⟩ := (own_si (own_below Hown1.out hb) : SI wr A1 ws).get hlt
      have hzb := hG.w z (List.mem_of_getElem? hz.out)
      have hm0 : 0 ≤ x * z := Int.mul_nonneg (by omega) hzb.1
      have hm1 : x * z ≤ x * 11 := (mul_le' (by omega)).2 hzb.2
      have hm2 : x * z ≤ 11811160064 := by omega
      have hwrap : IntKind.i64.wrap (x * z) = x * z := IntWalk.i64_in _ (by omega)
      have htk := Lib.hid (wsX_take x hz.out)
      have hch0 : wr.cell? ⟨w3.heap.size, 0, none⟩ = some v := hh.cell 0
      have hcg0 : wr.cell? ⟨tg, 0, none⟩ = some (.slice (some ⟨b1, o1, none⟩) ws.length c1) := hgw.cell 0
      have hch0a : (wr.alloc (.cells #[.int .i64 (x * z)] 3)).cell? ⟨w3.heap.size, 0, none⟩ = some v := (hh.alloc _).cell 0
      have hown2 : ((wr.alloc (.cells #[.int .i64 (x * z)] 3)).drew).ownsRow w3.heap.size 3 1 v j ((wsX x (ws.take j)).map (Value.int .i64)) := hown.alloc _
      have hk2 : Bk ((wr.alloc (.cells #[.int .i64 (x * z)] 3)).drew) wr.heap.size 3 #[.int .i64 (x * z)] := Bk.new _ _ _
      have hgg : Bk ((wr.alloc (.cells #[.int .i64 (x * z)] 3)).drew) w3.heap.size 31 #[v, .slice none 0 0] := hh.alloc _
      have hbl : Below w3.heap.size w3 ((wr.alloc (.cells #[.int .i64 (x * z)] 3)).drew) := (hb.alloc hbs _).drew
      have Hown2a := Lib.hid hown2
      have Hk2 := Lib.hid hk2
      have Hgg := Lib.hid hgg
      have Hbl := Lib.hid hbl
      have hbb : w3.heap.size ≤ ((wr.alloc (.cells #[.int .i64 (x * z)] 3)).drew).heap.size := by simp; omega
      have hnn : j < 1099511627776 := by have := hG.n2; omega
      have hrow := Hgg.out.ne_own Hown2a.out (by decide)
      have hj0 : (0 : Int) ≤ (j : Int) := by omega
      clear hown2 hk2 hgg hbl hown hh hb hgw hm1
      go_wp2_with fail
      go_region_law (refine step_app (w := (wr.alloc (.cells #[.int .i64 (x * z)] 3)).drew) (us := [.int .i64 (x * z)]) (c := 1) (H := wr.heap.size) (v := v) rfl (.tmp 50) (.tmp 58) rfl elt_int ?_ ?_ Hown2a.out Hk2.out rfl rfl hnn hbb ?_; (next => simp [Act.eval, Act.put]); (next => simp [Act.eval, Act.put]); intro v2 w4 hown4 hg4; obtain ⟨A4, c4, rfl⟩ := own_slice hown4; have hg5 := Hgg.out.grown hg4 hrow; have hq0 : w4.cell? ⟨w3.heap.size, 0, none⟩ = some v := hg5.cell 0; have hq1 := hg5.frozen 0; have Hg5 := Lib.hid hg5; clear hg5)
      all_goals
        have Hb4 := Lib.hid ((Hbl.out.grown hg4 hbb (fun k hk => (Hown2a.out.lt k hk).1)).setCell (p := ⟨w3.heap.size, 0, none⟩) (Nat.le_refl _) (.slice A4 (j + 1) c4))
        have Hown4 := Lib.hid (own_set (i := 0) hown4 (Hg5.out.ne_own hown4 (by decide)) (.slice A4 (j + 1) c4))
        have Hg4 := Lib.hid (Hg5.out.set_ 0 (.slice A4 (j + 1) c4))
        clear hown4 hg4 hq0 hq1 hch0 hcg0 hch0a hcz
        go_wp2_with fail
        go_roundw
        case rel => exact ⟨j + 1, _, by omega, by go_num, Hg4.out, by rw [htk.out, List.map_append]; exact Hown4.out, Hb4.out⟩
        case measure => simp [intOf]; omega
    · obtain rfl : j = ws.length := by omega
      rw [List.take_length] at hown
      obtain ⟨AW, cW, rfl⟩ := own_slice hown
      have hcg0 : wr.cell? ⟨tg, 0, none⟩ = some (.slice A1 ws.length c1) := hgw.cell 0
      have Hh := Lib.hid hh
      have HownW := Lib.hid hown
      have Hb := Lib.hid hb
      clear hh hown hb hgw
      go_wp2_with fail
      clear hcg0
      go_loopw [17] (fun i wr => ∃ (k : Nat) (v : Value), k ≤ ns.length ∧ i = .int .i64 k ∧ Bk wr w3.heap.size 31 #[.slice AW ws.length cW, v] ∧ wr.ownsRow w3.heap.size 52 3 v k (triC (nsY y (ns.take k))) ∧ wr.ownsRow w3.heap.size 3 1 (.slice AW ws.length cW) ws.length ((wsX x ws).map (Value.int .i64)) ∧ Below w3.heap.size w3 wr) (fun i _ => ns.length - (intOf i).toNat)
      case atStart => exact ⟨0, _, by omega, rfl, Hh.out, World.ownsRow_nil _ _ _ _, HownW.out, Hb.out⟩
      case round =>
        clear Hh HownW Hb
        obtain ⟨j, v, hj, rfl, hh, hown, hownW, hb⟩ := hrel
        have hbs := hb.size
        have hgw := Hg.out.below hb hgl
        by_cases hlt : j < ns.length
        · obtain ⟨b2, o2, ta, tb, z, rfl, hc0, hc1, hc2, hz⟩ := ST.get (SL.of_own (own_below Hown2.out hb) : ST wr A2 ns) hlt
          have hzb := hG.t _ (List.mem_of_getElem? hz.out)
          dsimp only at hzb
          obtain ⟨_, _, _, hzb1, hzb2⟩ := hzb
          have hm0 : 0 ≤ y * z := Int.mul_nonneg (by omega) (by omega)
          have hm1 : y * z ≤ y * 6 := (mul_le' (by omega)).2 hzb2
          have hm2 : y * z ≤ 6442450944 := by omega
          have hwrap : IntKind.i64.wrap (y * z) = y * z := IntWalk.i64_in _ (by omega)
          have htk := Lib.hid (nsY_take y hz.out)
          have hch0 : wr.cell? ⟨w3.heap.size, 1, none⟩ = some v := hh.cell 1
          have hcg0 : wr.cell? ⟨tg, 1, none⟩ = some (.slice (some ⟨b2, o2, none⟩) ns.length c2) := hgw.cell 1
          have hch0a : (wr.alloc (.cells #[.int .i64 ta, .int .i64 tb, .int .i64 (y * z)] 52)).cell? ⟨w3.heap.size, 1, none⟩ = some v := (hh.alloc _).cell 1
          have hown2 : ((wr.alloc (.cells #[.int .i64 ta, .int .i64 tb, .int .i64 (y * z)] 52)).drew).ownsRow w3.heap.size 52 3 v j (triC (nsY y (ns.take j))) := hown.alloc _
          have hk2 : Bk ((wr.alloc (.cells #[.int .i64 ta, .int .i64 tb, .int .i64 (y * z)] 52)).drew) wr.heap.size 52 #[.int .i64 ta, .int .i64 tb, .int .i64 (y * z)] := Bk.new _ _ _
          have hgg : Bk ((wr.alloc (.cells #[.int .i64 ta, .int .i64 tb, .int .i64 (y * z)] 52)).drew) w3.heap.size 31 #[.slice AW ws.length cW, v] := hh.alloc _
          have hbl : Below w3.heap.size w3 ((wr.alloc (.cells #[.int .i64 ta, .int .i64 tb, .int .i64 (y * z)] 52)).drew) := (hb.alloc hbs _).drew
          have hoW : ((wr.alloc (.cells #[.int .i64 ta, .int .i64 tb, .int .i64 (y * z)] 52)).drew).ownsRow w3.heap.size 3 1 (.slice AW ws.length cW) ws.length ((wsX x ws).map (Value.int .i64)) := hownW.alloc _
          have Hown2a := Lib.hid hown2
          have Hk2 := Lib.hid hk2
          have Hgg := Lib.hid hgg
          have Hbl := Lib.hid hbl
          have HoW := Lib.hid hoW
          have hbb : w3.heap.size ≤ ((wr.alloc (.cells #[.int .i64 ta, .int .i64 tb, .int .i64 (y * z)] 52)).drew).heap.size := by simp; omega
          have hnn : j < 1099511627776 := by have := hG.n3; omega
          have hrow := Hgg.out.ne_own Hown2a.out (by decide)
          have hj0 : (0 : Int) ≤ (j : Int) := by omega
          clear hown2 hk2 hgg hbl hown hh hb hgw hm1 hoW hownW
          go_wp2_with fail
          have hS : ∀ W : World, Below w3.heap.size w3 W → (W.cell? ⟨tg, 1, none⟩ = some (.slice (some ⟨b2, o2, none⟩) ns.length c2) ∧ W.cell? ⟨b2, o2 + j * 3, none⟩ = some (.int .i64 ta) ∧ W.cell? ⟨b2, o2 + j * 3 + 1, none⟩ = some (.int .i64 tb) ∧ W.cell? ⟨b2, o2 + j * 3 + 2, none⟩ = some (.int .i64 z)) := fun W hW => by
            obtain ⟨b3, o3, ta', tb', z', he, h0, h1, h2, hz'⟩ := ST.get (SL.of_own (own_below Hown2.out hW) : ST W (some ⟨b2, o2, none⟩) ns) hlt
            injection he with he
            injection he with he1 he2
            subst he1 he2
            have := hz'.out.symm.trans hz.out
            injection this with this
            injection this with e1 e2
            injection e2 with e2 e3
            subst e1 e2 e3
            exact ⟨(Hg.out.below hW hgl).cell 1, h0, h1, h2⟩
          have HS := Lib.hid hS
          clear hS
          have hSa := HS.out _ Hbl.out
          refine wp_region_noPanic ?_
          refine region_T (s := 26) (S := fun W => W.cell? ⟨w3.heap.size, 1, none⟩ = some v ∧ W.cell? ⟨tg, 1, none⟩ = some (.slice (some ⟨b2, o2, none⟩) ns.length c2) ∧ W.cell? ⟨b2, o2 + j * 3, none⟩ = some (.int .i64 ta) ∧ W.cell? ⟨b2, o2 + j * 3 + 1, none⟩ = some (.int .i64 tb) ∧ W.cell? ⟨b2, o2 + j * 3 + 2, none⟩ = some (.int .i64 z)) (by kernel_rfl) ?_
          change wpT _ _ _ _ _ 27 _ _ wr.drew
          have hS0 := And.intro (show wr.drew.cell? ⟨w3.heap.size, 1, none⟩ = some v from hch0) (And.intro (show wr.drew.cell? ⟨tg, 1, none⟩ = some (.slice (some ⟨b2, o2, none⟩) ns.length c2) from hcg0) (And.intro (show wr.drew.cell? ⟨b2, o2 + j * 3, none⟩ = some (.int .i64 ta) from hc0) (And.intro (show wr.drew.cell? ⟨b2, o2 + j * 3 + 1, none⟩ = some (.int .i64 tb) from hc1) (show wr.drew.cell? ⟨b2, o2 + j * 3 + 2, none⟩ = some (.int .i64 z) from hc2))))
          have HS0 := Lib.hid hS0
          clear hS0
          refine T_take (k := 0) (v := .pointer (some ⟨w3.heap.size, 1, none⟩)) rfl (by decide +kernel) (fun _ _ _ h => h) (Or.inl ⟨by rfl, fun W hW => by obtain ⟨s0, s1, s2, s3, s4⟩ := hW; go_simp⟩) HS0.out ?_
          simp only [Act.put, List.setIfInBounds_toArray, List.set_cons_zero, List.set_cons_succ]
          refine T_take (k := 1) (v := v) rfl (by decide +kernel) (fun _ _ _ h => h) (Or.inl ⟨by rfl, fun W hW => by obtain ⟨s0, s1, s2, s3, s4⟩ := hW; go_simp⟩) HS0.out ?_
          simp only [Act.put, List.setIfInBounds_toArray, List.set_cons_zero, List.set_cons_succ]
          refine T_take (k := 2) (v := .pointer (some ⟨tg, 1, none⟩)) rfl (by decide +kernel) (fun _ _ _ h => h) (Or.inl ⟨by rfl, fun W hW => by obtain ⟨s0, s1, s2, s3, s4⟩ := hW; go_simp⟩) HS0.out ?_
          simp only [Act.put, List.setIfInBounds_toArray, List.set_cons_zero, List.set_cons_succ]
          refine T_take (k := 3) (v := .slice (some ⟨b2, o2, none⟩) ns.length c2) rfl (by decide +kernel) (fun _ _ _ h => h) (Or.inl ⟨by rfl, fun W hW => by obtain ⟨s0, s1, s2, s3, s4⟩ := hW; go_simp⟩) HS0.out ?_
          simp only [Act.put, List.setIfInBounds_toArray, List.set_cons_zero, List.set_cons_succ]
          refine T_take (k := 4) (v := .int .i64 j) rfl (by decide +kernel) (fun _ _ _ h => h) (Or.inl ⟨by rfl, fun W hW => by obtain ⟨s0, s1, s2, s3, s4⟩ := hW; go_simp⟩) HS0.out ?_
          simp only [Act.put, List.setIfInBounds_toArray, List.set_cons_zero, List.set_cons_succ]
          refine T_take (k := 5) (v := .pointer (some ⟨b2, o2 + j * 3, none⟩)) rfl (by decide +kernel) (fun _ _ _ h => h) (Or.inl ⟨by rfl, fun W hW => by obtain ⟨s0, s1, s2, s3, s4⟩ := hW; go_simp⟩) HS0.out ?_
          simp only [Act.put, List.setIfInBounds_toArray, List.set_cons_zero, List.set_cons_succ]
          refine T_take (k := 6) (v := .pointer (some ⟨b2, o2 + j * 3, none⟩)) rfl (by decide +kernel) (fun _ _ _ h => h) (Or.inl ⟨by rfl, fun W hW => by obtain ⟨s0, s1, s2, s3, s4⟩ := hW; go_simp⟩) HS0.out ?_
          simp only [Act.put, List.setIfInBounds_toArray, List.set_cons_zero, List.set_cons_succ]
          refine T_take (k := 7) (v := .int .i64 ta) rfl (by decide +kernel) (fun _ _ _ h => h) (Or.inl ⟨by rfl, fun W hW => by obtain ⟨s0, s1, s2, s3, s4⟩ := hW; go_simp⟩) HS0.out ?_
          simp only [Act.put, List.setIfInBounds_toArray, List.set_cons_zero, List.set_cons_succ]
          refine T_take (k := 8) (v := .pointer (some ⟨tg, 1, none⟩)) rfl (by decide +kernel) (fun _ _ _ h => h) (Or.inl ⟨by rfl, fun W hW => by obtain ⟨s0, s1, s2, s3, s4⟩ := hW; go_simp⟩) HS0.out ?_
          simp only [Act.put, List.setIfInBounds_toArray, List.set_cons_zero, List.set_cons_succ]
          refine T_take (k := 9) (v := .slice (some ⟨b2, o2, none⟩) ns.length c2) rfl (by decide +kernel) (fun _ _ _ h => h) (Or.inl ⟨by rfl, fun W hW => by obtain ⟨s0, s1, s2, s3, s4⟩ := hW; go_simp⟩) HS0.out ?_
          simp only [Act.put, List.setIfInBounds_toArray, List.set_cons_zero, List.set_cons_succ]
          refine T_take (k := 10) (v := .int .i64 j) rfl (by decide +kernel) (fun _ _ _ h => h) (Or.inl ⟨by rfl, fun W hW => by obtain ⟨s0, s1, s2, s3, s4⟩ := hW; go_simp⟩) HS0.out ?_
          simp only [Act.put, List.setIfInBounds_toArray, List.set_cons_zero, List.set_cons_succ]
          refine T_take (k := 11) (v := .pointer (some ⟨b2, o2 + j * 3, none⟩)) rfl (by decide +kernel) (fun _ _ _ h => h) (Or.inl ⟨by rfl, fun W hW => by obtain ⟨s0, s1, s2, s3, s4⟩ := hW; go_simp⟩) HS0.out ?_
          simp only [Act.put, List.setIfInBounds_toArray, List.set_cons_zero, List.set_cons_succ]
          refine T_take (k := 12) (v := .pointer (some ⟨b2, o2 + j * 3 + 1, none⟩)) rfl (by decide +kernel) (fun _ _ _ h => h) (Or.inl ⟨by rfl, fun W hW => by obtain ⟨s0, s1, s2, s3, s4⟩ := hW; go_simp⟩) HS0.out ?_
          simp only [Act.put, List.setIfInBounds_toArray, List.set_cons_zero, List.set_cons_succ]
          refine T_take (k := 13) (v := .int .i64 tb) rfl (by decide +kernel) (fun _ _ _ h => h) (Or.inl ⟨by rfl, fun W hW => by obtain ⟨s0, s1, s2, s3, s4⟩ := hW; go_simp⟩) HS0.out ?_
          simp only [Act.put, List.setIfInBounds_toArray, List.set_cons_zero, List.set_cons_succ]
          refine T_take (k := 14) (v := .int .i64 y) rfl (by decide +kernel) (fun _ _ _ h => h) (Or.inl ⟨by rfl, fun W hW => by obtain ⟨s0, s1, s2, s3, s4⟩ := hW; go_simp⟩) HS0.out ?_
          simp only [Act.put, List.setIfInBounds_toArray, List.set_cons_zero, List.set_cons_succ]
          refine T_take (k := 15) (v := .pointer (some ⟨tg, 1, none⟩)) rfl (by decide +kernel) (fun _ _ _ h => h) (Or.inl ⟨by rfl, fun W hW => by obtain ⟨s0, s1, s2, s3, s4⟩ := hW; go_simp⟩) HS0.out ?_
          simp only [Act.put, List.setIfInBounds_toArray, List.set_cons_zero, List.set_cons_succ]
          refine T_take (k := 16) (v := .slice (some ⟨b2, o2, none⟩) ns.length c2) rfl (by decide +kernel) (fun _ _ _ h => h) (Or.inl ⟨by rfl, fun W hW => by obtain ⟨s0, s1, s2, s3, s4⟩ := hW; go_simp⟩) HS0.out ?_
          simp only [Act.put, List.setIfInBounds_toArray, List.set_cons_zero, List.set_cons_succ]
          refine T_take (k := 17) (v := .int .i64 j) rfl (by decide +kernel) (fun _ _ _ h => h) (Or.inl ⟨by rfl, fun W hW => by obtain ⟨s0, s1, s2, s3, s4⟩ := hW; go_simp⟩) HS0.out ?_
          simp only [Act.put, List.setIfInBounds_toArray, List.set_cons_zero, List.set_cons_succ]
          refine T_take (k := 18) (v := .pointer (some ⟨b2, o2 + j * 3, none⟩)) rfl (by decide +kernel) (fun _ _ _ h => h) (Or.inl ⟨by rfl, fun W hW => by obtain ⟨s0, s1, s2, s3, s4⟩ := hW; go_simp⟩) HS0.out ?_
          simp only [Act.put, List.setIfInBounds_toArray, List.set_cons_zero, List.set_cons_succ]
          refine T_take (k := 19) (v := .pointer (some ⟨b2, o2 + j * 3 + 2, none⟩)) rfl (by decide +kernel) (fun _ _ _ h => h) (Or.inl ⟨by rfl, fun W hW => by obtain ⟨s0, s1, s2, s3, s4⟩ := hW; go_simp⟩) HS0.out ?_
          simp only [Act.put, List.setIfInBounds_toArray, List.set_cons_zero, List.set_cons_succ]
          refine T_take (k := 20) (v := .int .i64 z) rfl (by decide +kernel) (fun _ _ _ h => h) (Or.inl ⟨by rfl, fun W hW => by obtain ⟨s0, s1, s2, s3, s4⟩ := hW; go_simp⟩) HS0.out ?_
          simp only [Act.put, List.setIfInBounds_toArray, List.set_cons_zero, List.set_cons_succ]
          refine T_take (k := 21) (v := .int .i64 (y * z)) rfl (by decide +kernel) (fun _ _ _ h => h) (Or.inl ⟨by rfl, fun W hW => by obtain ⟨s0, s1, s2, s3, s4⟩ := hW; go_simp⟩) HS0.out ?_
          simp only [Act.put, List.setIfInBounds_toArray, List.set_cons_zero, List.set_cons_succ]
          refine T_take (k := 22) (v := .agg #[.int .i64 ta, .int .i64 tb, .int .i64 (y * z)]) rfl (by decide +kernel) (fun _ _ _ h => h) (Or.inl ⟨by rfl, fun W hW => by obtain ⟨s0, s1, s2, s3, s4⟩ := hW; go_simp⟩) HS0.out ?_
          simp only [Act.put, List.setIfInBounds_toArray, List.set_cons_zero, List.set_cons_succ]
          refine T_one (i := 23) (by decide +kernel) rfl rfl (fun K hK => ?_)
          have hK := Lib.hid hK
          go_simp
          refine hK.out _ _ ⟨hch0a, hSa⟩ ?_
          try simp only [Act.put, List.setIfInBounds_toArray, List.set_cons_zero, List.set_cons_succ]
          refine T_one (i := 24) (by decide +kernel) rfl rfl (fun K2 hK2 => ?_)
          have hK2 := Lib.hid hK2
          refine app_wp (us := [.int .i64 ta, .int .i64 tb, .int .i64 (y * z)]) (c := 1) (H := wr.heap.size) (v := v) (.tmp 69) (.tmp 91) rfl elt_tri (by simp [Act.eval]) (by simp [Act.eval]) Hown2a.out Hk2.out rfl rfl hnn hbb ?_
          intro v2 w4 hown4 hg4
          obtain ⟨A4, c4, rfl⟩ := own_slice hown4
          have hg5 := Hgg.out.grown hg4 hrow
          have hq0 : w4.cell? ⟨w3.heap.size, 1, none⟩ = some v := hg5.cell 1
          have hq1 := hg5.frozen 1
          have Hg5 := Lib.hid hg5
          have hS4 := HS.out _ (Hbl.out.grown hg4 hbb (fun k hk => (Hown2a.out.lt k hk).1))
          clear hg5
          refine hK2.out _ _ ⟨hq0, hS4⟩ ?_
          try simp only [Act.put, List.setIfInBounds_toArray, List.set_cons_zero, List.set_cons_succ]
          refine T_take (k := 25) (v := .pointer (some ⟨w3.heap.size, 1, none⟩)) rfl (by decide +kernel) (fun _ _ _ h => h) (Or.inl ⟨by rfl, fun W hW => by obtain ⟨s0, s1, s2, s3, s4⟩ := hW; go_simp⟩) ⟨hq0, hS4⟩ ?_
          try simp only [Act.put, List.setIfInBounds_toArray, List.set_cons_zero, List.set_cons_succ]
          clear hS4 hK2 hK HS0 HS hSa
          refine T_last (by decide +kernel) (by decide +kernel) (by decide +kernel) rfl rfl (fun K3 hK3 => ?_)
          have hK3 := Lib.hid hK3
          go_simp
          refine hK3.out _ _ (NoPanic.normal ?_)
          try simp only [Act.put, List.setIfInBounds_toArray, List.set_cons_zero, List.set_cons_succ]
          clear hK3
          all_goals
            have Hb4 := Lib.hid ((Hbl.out.grown hg4 hbb (fun k hk => (Hown2a.out.lt k hk).1)).setCell (p := ⟨w3.heap.size, 1, none⟩) (Nat.le_refl _) (.slice A4 (j + 1) c4))
            have Hown4 := Lib.hid (own_set (i := 1) hown4 (Hg5.out.ne_own hown4 (by decide)) (.slice A4 (j + 1) c4))
            have hoW4 := own_grown HoW.out hg4 (own_ne HoW.out Hown2a.out (by decide))
            have HoW4 := Lib.hid (own_set (i := 1) hoW4 (Hg5.out.ne_own hoW4 (by decide)) (.slice A4 (j + 1) c4))
            have Hg4 := Lib.hid (Hg5.out.set_ 1 (.slice A4 (j + 1) c4))
            clear hown4 hg4 hq0 hq1 hch0 hcg0 hch0a hc0 hc1 hc2 hoW4
            go_wp2_with fail
            go_roundw
            case rel => exact ⟨j + 1, _, by omega, by go_num, Hg4.out, by rw [htk.out, triC_append]; exact Hown4.out, HoW4.out, Hb4.out⟩
            case measure => simp [intOf]; omega
        · obtain rfl : j = ns.length := by omega
          rw [List.take_length] at hown
          obtain ⟨AN, cN, rfl⟩ := own_slice hown
          have hcg1 : wr.cell? ⟨tg, 1, none⟩ = some (.slice A2 ns.length c2) := hgw.cell 1
          go_wp2_with fail
          clear hcg1
          obtain ⟨w6, rfl⟩ : ∃ w6, w6 = wr := ⟨wr, rfl⟩
          have Hown1 := Lib.hid (own_below Hown1.out hb)
          have Hown2 := Lib.hid (own_below Hown2.out hb)
          have Hown3 := Lib.hid (own_below Hown3.out hb)
          have HownN := Lib.hid hown
          have HownW := Lib.hid hownW
          have Hh := Lib.hid hh
          have Hg := Lib.hid hgw
          have Hb6 := Lib.hid (Hb3.out.trans (hb.mono Hb3.out.size))
          clear hb hown hownW hh hgw Hb3 hbs
          have hT1 := hT.n1
          have hT2 := hT.n2
          go_loopw [18, 19] (fun v i wr => ∃ (k : Nat), k ≤ ls.length ∧ i = .int .i64 k ∧ wr.ownsRow w6.heap.size 3 1 v k ((wsX x (ls.take k)).map (Value.int .i64)) ∧ Below w6.heap.size w6 wr) (fun _ i _ => ls.length - (intOf i).toNat)
          case atStart => exact ⟨0, by omega, rfl, World.ownsRow_nil _ _ _ _, Below.refl _ _⟩
          case round =>
            obtain ⟨j, hj, rfl, hown, hb⟩ := hrel
            have hbs := hb.size
            by_cases hlt : j < ls.length
            · obtain ⟨b1, o1, z, rfl, hcz, hz⟩ := (own_si (own_below Hown3.out hb) : SI wr A3 ls).get hlt
              have hzb := hT.b z (List.mem_of_getElem? hz.out)
              have hm0 : 0 ≤ x * z := Int.mul_nonneg (by omega) hzb.1
              have hm1 : x * z ≤ x * 45 := (mul_le' (by omega)).2 hzb.2
              have hm2 : x * z ≤ 48318382080 := by omega
              have htk := Lib.hid (wsX_take x hz.out)
              clear hm1
              go_wp2_with (at_builtin; refine wpList_app2 (w := wr) rfl _ _ rfl elt_int hown hbs rfl rfl (by simp) rfl rfl (by omega) ?_; intro v1 w7 hown7 hg7 hz7)
              go_roundw
              case rel => exact ⟨j + 1, by omega, by go_num, by rw [htk.out, List.map_append]; exact hown7, hb.grown hg7 hbs (fun k hk => (hown.lt k hk).1)⟩
              case measure => simp [intOf]; omega
            · obtain rfl : j = ls.length := by omega
              rw [List.take_length] at hown
              obtain ⟨AM, cM, rfl⟩ := own_slice hown
              have Hown1 := Lib.hid (own_below Hown1.out hb)
              have Hown2 := Lib.hid (own_below Hown2.out hb)
              have Hown3 := Lib.hid (own_below Hown3.out hb)
              have HownN := Lib.hid (own_below HownN.out hb)
              have HownW := Lib.hid (own_below HownW.out hb)
              have HownM := Lib.hid hown
              have Hh := Lib.hid (Hh.out.below hb Hh.out.lt)
              have Hg := Lib.hid (Hg.out.below hb Hg.out.lt)
              have Hb7 := Lib.hid (Hb6.out.trans (hb.mono Hb6.out.size))
              clear hb hown Hb6
              obtain ⟨hs1, hs2⟩ := around_bd at_ ls.length (by omega)
              have Ha := Lib.hid (around_any at_ ls.length wr h3.1 h3.2 (by omega) (by omega))
              have hsame := scaled_same hG hT (x := x) (y := y) (by omega) hxb2 (by omega) hyb2
              obtain ⟨e1, e2, e3, e4⟩ := hsame
              obtain ⟨e5, e6, e7⟩ := e4 _ hs1 hs2
              generalize around at_ ls.length = sc at *
              have He := Lib.hid (And.intro e1 (And.intro e2 (And.intro e3 (And.intro e5 (And.intro e6 e7)))))
              clear e1 e2 e3 e4 e5 e6 e7
              go_wp2_with fail
              refine Ha.out.mono ?_
              rintro e w' ⟨rfl, rfl⟩
              have hc0 : wr.cell? ⟨tg, 0, none⟩ = some (.slice A1 ws.length c1) := Hg.out.cell 0
              have hc1 : wr.cell? ⟨tg, 1, none⟩ = some (.slice A2 ns.length c2) := Hg.out.cell 1
              go_wp2_with fail
              obtain ⟨L, hL⟩ : ∃ L, Hid (ofL ws ns ls = L) := ⟨_, rfl⟩
              obtain ⟨S, hS⟩ : ∃ S, Hid (stL ws ns ls sc = S) := ⟨_, rfl⟩
              refine (of_ok A1 A2 A3 c1 c2 c3 ws ns ls L wr (own_si Hown1.out) (SL.of_own Hown2.out) (own_si Hown3.out) He.out.1 hL.out).mono ?_
              rintro e w8 ⟨D1, m1, rfl, hS1, hb8⟩
              have Bl9 := Lib.hid (hb8.alloc hb8.size (.cells #[.slice D1 L.length m1] 36))
              have Hc1 := Lib.hid (Bk.new w8 36 #[.slice D1 L.length m1])
              have HS1 := Lib.hid (hS1.below ((Below.refl _ _).alloc (Nat.le_refl _) (.cells #[.slice D1 L.length m1] 36)))
              have hh9 := Hh.out.below Bl9.out Hh.out.lt
              have hd0 : (w8.alloc (.cells #[.slice D1 L.length m1] 36)).cell? ⟨w3.heap.size, 0, none⟩ = some (.slice AW ws.length cW) := hh9.cell 0
              have hd1 : (w8.alloc (.cells #[.slice D1 L.length m1] 36)).cell? ⟨w3.heap.size, 1, none⟩ = some (.slice AN ns.length cN) := hh9.cell 1
              have hof2 := of_ok AW AN AM cW cN cM (wsX x ws) (nsY y ns) (wsX x ls) L (w8.alloc (.cells #[.slice D1 L.length m1] 36)) (SI.below (own_si HownW.out) Bl9.out) (ST.below (SL.of_own HownN.out) Bl9.out) (SI.below (own_si HownM.out) Bl9.out) He.out.2.1 (He.out.2.2.1.trans hL.out)
              rw [wsX_len, nsY_len, wsX_len] at hof2
              have Hof2 := Lib.hid hof2
              clear hb8 hS1 hh9 hof2 hc0 hc1
              go_wp2_with fail
              clear hd0 hd1
              generalize w8.alloc (.cells #[.slice D1 L.length m1] 36) = W9 at *
              generalize w8.heap.size = t9 at *
              refine Hof2.out.mono ?_
              rintro e w10 ⟨D2, m2, rfl, hS2, hb10⟩
              have hx := (Below.refl w10.heap.size w10).alloc (Nat.le_refl _) (.cells #[.slice D2 L.length m2] 36)
              have Bl11 := Lib.hid (Bl9.out.trans ((hb10.trans (hx.mono hb10.size)).mono Bl9.out.size))
              have Hc2 := Lib.hid (Bk.new w10 36 #[.slice D2 L.length m2])
              have Hc1 := Lib.hid ((Hc1.out.below hb10 Hc1.out.lt).alloc (.cells #[.slice D2 L.length m2] 36))
              have HS1 := Lib.hid ((HS1.out.below hb10).below hx)
              have HS2 := Lib.hid (hS2.below hx)
              have hg11 := Hg.out.below Bl11.out Hg.out.lt
              have hd0 : (w10.alloc (.cells #[.slice D2 L.length m2] 36)).cell? ⟨tg, 0, none⟩ = some (.slice A1 ws.length c1) := hg11.cell 0
              have hd1 : (w10.alloc (.cells #[.slice D2 L.length m2] 36)).cell? ⟨tg, 1, none⟩ = some (.slice A2 ns.length c2) := hg11.cell 1
              have Hst1 := Lib.hid (steps_ok A1 A2 A3 c1 c2 c3 ws ns ls sc S (w10.alloc (.cells #[.slice D2 L.length m2] 36)) (SI.below (own_si Hown1.out) Bl11.out) (ST.below (SL.of_own Hown2.out) Bl11.out) (SI.below (own_si Hown3.out) Bl11.out) (own_cap Hown3.out) He.out.1 He.out.2.2.2.1 hS.out)
              clear hb10 hS2 hx hg11 Hof2 Bl9
              go_wp2_with fail
              clear hd0 hd1
              generalize w10.alloc (.cells #[.slice D2 L.length m2] 36) = W11 at *
              generalize w10.heap.size = t11 at *
              refine Hst1.out.mono ?_
              rintro e w12 ⟨D3, m3, rfl, hP3, hb12⟩
              have Bl12 := Lib.hid (Bl11.out.trans (hb12.mono Bl11.out.size))
              have Hc1 := Lib.hid (Hc1.out.below hb12 Hc1.out.lt)
              have Hc2 := Lib.hid (Hc2.out.below hb12 Hc2.out.lt)
              have HS1 := Lib.hid (HS1.out.below hb12)
              have HS2 := Lib.hid (HS2.out.below hb12)
              have HP3 := Lib.hid hP3
              have hh12 := Hh.out.below Bl12.out Hh.out.lt
              have hd0 : w12.cell? ⟨w3.heap.size, 0, none⟩ = some (.slice AW ws.length cW) := hh12.cell 0
              have hd1 : w12.cell? ⟨w3.heap.size, 1, none⟩ = some (.slice AN ns.length cN) := hh12.cell 1
              have hst2 := steps_ok AW AN AM cW cN cM (wsX x ws) (nsY y ns) (wsX x ls) sc S w12 (SI.below (own_si HownW.out) Bl12.out) (ST.below (SL.of_own HownN.out) Bl12.out) (SI.below (own_si HownM.out) Bl12.out) (by rw [wsX_len]; exact own_cap HownM.out) He.out.2.1 He.out.2.2.2.2.1 (He.out.2.2.2.2.2.trans hS.out)
              rw [wsX_len, nsY_len, wsX_len] at hst2
              have Hst2 := Lib.hid hst2
              clear hb12 hP3 hh12 hst2 Bl11 Hst1
              go_wp2_with fail
              clear hd0 hd1
              refine Hst2.out.mono ?_
              rintro e w13 ⟨D4, m4, rfl, hP4, hb13⟩
              have Bl13 := Lib.hid (Bl12.out.trans (hb13.mono Bl12.out.size))
              have hc1 := Hc1.out.below hb13 Hc1.out.lt
              have hc2 := Hc2.out.below hb13 Hc2.out.lt
              have hd0 : w13.cell? ⟨t9, 0, none⟩ = some (.slice D1 L.length m1) := hc1.cell 0
              have hd1 : w13.cell? ⟨t11, 0, none⟩ = some (.slice D2 L.length m2) := hc2.cell 0
              have HP3 := Lib.hid (HP3.out.below hb13)
              have HP4 := Lib.hid hP4
              have hLl : ∀ l ∈ L, l.length ≤ 4611686018427387904 := fun l hl => by
                have := ofL_lens (ws := ws) (ns := ns) (ls := ls) l (by rw [hL.out]; exact hl)
                have := hG.n2
                omega
              have hLn : L.length ≤ 4611686018427387904 := by
                have : L.length = ls.length := by rw [← hL.out, ofL, if_pos He.out.1, lists_len]
                omega
              have hsl := sameLists_any D1 D2 m1 m2 L L w13 (HS1.out.below hb13) (HS2.out.below hb13) hLn hLl hLl
              rw [show decide (L = L) = true from by simp] at hsl
              have Hsl := Lib.hid hsl
              clear hb13 hP4 hc1 hc2 hsl Hst2 Bl12 HS1 HS2 Hc1 Hc2 hLl hLn
              have hSn : S.length ≤ 16 := by
                have h1 := stL_len ws ns ls sc
                rw [hS.out] at h1
                have h2 := hG.n2
                omega
              go_wp2_with fail
              refine Hsl.out.mono ?_
              rintro e w14 ⟨rfl, hq14⟩
              clear Hsl hd0 hd1
              go_wp2_with fail
              go_loopw [29] (fun i wr => ∃ k : Nat, k ≤ S.length ∧ i = .int .i64 k ∧ Qt w13 wr) (fun i _ => S.length - (intOf i).toNat)
              case atStart => exact ⟨0, by omega, rfl, hq14⟩
              case round =>
                clear hq14
                obtain ⟨j, hj, rfl, hq⟩ := hrel
                by_cases hlt : j < S.length
                · obtain ⟨b1, o1, p1, p2, rfl, hd0, hd1, hz1⟩ := (HP3.out.qt hq).pair hlt
                  obtain ⟨b2, o2, q1, q2, rfl, hd2, hd3, hz2⟩ := (HP4.out.qt hq).pair hlt
                  have he := hz1.out.symm.trans hz2.out
                  injection he with he
                  injection he with he1 he2
                  subst he1 he2
                  have hj0 : (0 : Int) ≤ (j : Int) := by omega
                  have Hq := Lib.hid hq
                  clear hq
                  go_wp2_with fail
                  go_quiet (fail)
                  have Hq2 := Lib.hid (Hq.out.drewN nq)
                  go_wp2_with fail
                  go_roundw
                  case rel => exact ⟨j + 1, by omega, by go_num, Hq2.out⟩
                  case measure => simp [intOf]; omega
                · obtain rfl : j = S.length := by omega
                  have Hbq := Lib.hid (hq.bl (Hb7.out.trans (Bl13.out.mono Hb7.out.size)))
                  clear hq
                  go_wp2_with fail
                  refine (lives_any wr).mono ?_
                  rintro e w15 ⟨rfl, hb15⟩
                  go_wp2_with fail
                  go_ret
                  exact ⟨rfl, Hbq.out.trans (hb15.mono Hbq.out.size)⟩
end Go.Proofs.Ytaegfljpodhnhaa

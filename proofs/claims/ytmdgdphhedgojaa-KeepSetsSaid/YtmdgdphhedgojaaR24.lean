import Derived.Test.YtmdgdphhedgojaaR23
import Derived.Deep.AppendLies
import Derived.Deep.RegionHeld3
import Derived.Deep.RegionLaw
namespace Go.Proofs.Ytmdgdphhedgojaa
open Go.RowKit Go.Maps

/-- The borders come in order. -/
def sortedT (ns : List (Int × Int × Int)) : Prop := ∀ i, 0 < i → i < ns.length → (ns.getD (i - 1) (0, 0, 0)).1 < (ns.getD i (0, 0, 0)).1 ∨ (ns.getD (i - 1) (0, 0, 0)).1 = (ns.getD i (0, 0, 0)).1 ∧ (ns.getD (i - 1) (0, 0, 0)).2.1 < (ns.getD i (0, 0, 0)).2.1

theorem sortedT_snoc {ns : List (Int × Int × Int)} {t : Int × Int × Int} (h : sortedT ns) (ht : ∀ u ∈ ns, u.1 < t.1 ∨ u.1 = t.1 ∧ u.2.1 < t.2.1) : sortedT (ns ++ [t]) := fun i h0 hi => by
  simp at hi
  by_cases h1 : i < ns.length
  · have := h i h0 h1
    simp only [List.getD] at this ⊢
    rw [List.getElem?_append_left (by omega), List.getElem?_append_left h1]
    exact this
  · obtain rfl : i = ns.length := by omega
    simp only [List.getD]
    rw [List.getElem?_append_left (by omega), List.getElem?_append_right (by omega), Nat.sub_self, List.getElem?_eq_getElem (by omega)]
    exact ht _ (List.getElem_mem _)

/-- A graph that was made. -/
structure GoodG (ws : List Int) (ns : List (Int × Int × Int)) (a b : Int) : Prop where
  n1 : 1 ≤ ws.length
  n2 : ws.length ≤ 20
  n3 : ns.length ≤ 400
  w : ∀ z ∈ ws, 0 ≤ z ∧ z ≤ a
  t : ∀ u ∈ ns, 0 ≤ u.1 ∧ u.1 < u.2.1 ∧ u.2.1 < ws.length ∧ 1 ≤ u.2.2 ∧ u.2.2 ≤ b
  s : sortedT ns

theorem GoodG.ok {ws : List Int} {ns : List (Int × Int × Int)} {a b : Int} (h : GoodG ws ns a b) (ha : a ≤ 1099511627776) (hb : b ≤ 1099511627776) : validE ws ns = 0 := by
  have n2 := h.n2
  have n3 := h.n3
  refine validE_ok (by omega) ?_ fun k hk => ?_
  · rw [List.any_eq_false]
    intro z hz
    have := h.w z hz
    simp [badW]
    omega
  · have ht := h.t ns[k] (List.getElem_mem hk)
    have e : ns.getD k (0, 0, 0) = ns[k] := by simp [List.getD, hk]
    have hs := h.s k
    simp only [badAt, decide_eq_false_iff_not]
    rw [e] at hs ⊢
    intro hc
    by_cases h0 : 0 < k
    · have := hs h0 hk
      omega
    · omega

/-- append of one element at a step of a region that draws its order. -/
theorem step_app {P : Program} {ops : Array Oper} {o : Oper} {a : Act} {w : World} {K : Act → World → Prop} {Q : Exit → Act → World → Prop} {E : Prop} {base : Nat} {us xs : List Value} {e t : TypeId} {z : Value} {size bytes n H c : Nat} {v : Value} (hgd : o.guard = none) (s x : Operand)
    (ho : o.op = .call { callee := .builtin .append, args := #[s, x], argTypes := #[t, t] }) (hE : Elt P t e z size bytes) (hs : a.eval s = v) (hx : a.eval x = .slice (some ⟨H, 0, none⟩) 1 c)
    (hown : w.ownsRow base e size v n xs) (hB : Bk w H e us.toArray) (hl : us.length = size) (h1 : us.all (·.oneCell') = true) (hn : n < 1099511627776) (hbs : base ≤ w.heap.size)
    (h : ∀ v' w1, w1.ownsRow base e size v' (n + 1) (xs ++ us) → w.grownBy w1 v.ownBlock → K (a.put o.dst v') w1) :
    if Region.wanted o (yielded ops a.tmps) = true then Oper.wp P o a w K Q else E := by
  obtain ⟨ht, hsz, hby, hzs, i, hi, hz, hs1, hb1⟩ := hE
  have hmul : (n + 1) * bytes ≤ 140737488355328 := by
    have := Nat.mul_le_mul (show n + 1 ≤ 1099511627776 from hn) hby
    omega
  exact step_append_lies w hgd s x t ho base e i z size bytes ht hi hz hs1 hb1 hzs hsz v n xs hs hown ⟨H, 0, none⟩ 1 c us hx (by simpa using hl) (World.news_of_block hB) (all_one h1) (by omega) (by unfold maxLen; omega) hmul hbs _ rfl
    (fun g cap w1 k1 k2 _ _ => h _ w1 k1 k2)

set_option linter.unusedSimpArgs false in
set_option maxHeartbeats 4000000 in
set_option maxRecDepth 100000 in
theorem some_any (A : Option Addr) (c : Nat) (l : List Int) (most : Int) (w : World) (hA : SI w A l) (hw : W64 l) (hm : 1 ≤ most) (hm2 : most ≤ 20) :
    Calls Try.prog 11 #[.slice A l.length c, .int .i64 most] w fun e w' => ∃ v1 v2 ws ns, e = .returned (.agg #[v1, v2]) ∧ w'.ownsRow w.heap.size 3 1 v1 ws.length (ws.map (Value.int .i64)) ∧ w'.ownsRow w.heap.size 52 3 v2 ns.length (triC ns) ∧ GoodG ws ns 11 6 ∧ Below w.heap.size w w' := by
  have hpick : ∀ (i m : Int) (W : World), Below w.heap.size w W → 1 ≤ m → m ≤ 9223372036854775807 → Calls Try.prog 31 #[.slice A l.length c, .int .i64 i, .int .i64 m] W fun e w' => e = .returned (.int .i64 (pick l i m)) ∧ W = w' := fun i m W hb h1 h2 => pick_any A c l i m W (hA.below hb) hw h1 h2
  have Hpick := Lib.hid hpick
  clear hpick
  have hp := pick_bd l 0 most hm
  obtain ⟨hp1, hp2⟩ := hp
  go_enter Try.func11, Try.ntmps11
  go_wp2_with fail
  have hb0 := ((Below.refl w.heap.size w).alloc (Nat.le_refl _) (.cells #[.slice none 0 0, .slice none 0 0] 30)).alloc (by simp) (.cells #[.slice none 0 0, .slice none 0 0] 30)
  have hr0 := (Bk.new w 30 #[.slice none 0 0, .slice none 0 0]).alloc (.cells #[.slice none 0 0, .slice none 0 0] 30)
  have hg0 := Bk.new' (w.alloc (.cells #[.slice none 0 0, .slice none 0 0] 30)) 30 #[.slice none 0 0, .slice none 0 0] (g := w.heap.size + 1) (by simp)
  generalize (w.alloc (.cells #[.slice none 0 0, .slice none 0 0] 30)).alloc (.cells #[.slice none 0 0, .slice none 0 0] 30) = W0 at *
  have Hb0 := Lib.hid hb0
  have Hr0 := Lib.hid hr0
  have Hg0 := Lib.hid hg0
  clear hb0 hr0 hg0
  refine (Hpick.out _ _ _ Hb0.out hm (by omega)).mono ?_
  rintro e w' ⟨rfl, rfl⟩
  obtain ⟨n, hn⟩ : ∃ n : Nat, 1 + pick l 0 most = n := ⟨(1 + pick l 0 most).toNat, by omega⟩
  have hn1 : 1 ≤ n := by omega
  have hn2 : n ≤ 20 := by omega
  go_wp2_with fail
  clear hn hp1 hp2
  go_loopw [7] (fun i wr => ∃ (v1 : Value) (ws : List Int), ws.length ≤ n ∧ i = .int .i64 ws.length ∧ Bk wr (w.heap.size + 1) 30 #[v1, .slice none 0 0] ∧ wr.ownsRow w.heap.size 3 1 v1 ws.length (ws.map (Value.int .i64)) ∧ Hid (∀ z ∈ ws, 0 ≤ z ∧ z ≤ 11) ∧ Bk wr w.heap.size 30 #[.slice none 0 0, .slice none 0 0] ∧ Below w.heap.size w wr) (fun i _ => n - (intOf i).toNat)
  case atStart => exact ⟨_, [], by simp, rfl, Hg0.out, World.ownsRow_nil _ _ _ _, (fun z hz => by simp at hz), Hr0.out, Hb0.out⟩
  case round =>
    clear Hg0 Hr0 Hb0
    obtain ⟨v1, ws, hk, rfl, hg, hown, hwb, hr, hb⟩ := hrel
    have hbs := hb.size
    by_cases hlt : ws.length < n
    · have Hg := Lib.hid hg
      have Hown := Lib.hid hown
      have Hb := Lib.hid hb
      have Hr := Lib.hid hr
      clear hg hown hb hr
      go_wp2_with fail
      have hc0 : wr.cell? ⟨w.heap.size + 1, 0, none⟩ = some v1 := Hg.out.cell 0
      have hp2 := pick_bd l (1 + (ws.length : Int)) 12 (by omega)
      have hwrap : IntKind.i64.wrap (1 + (ws.length : Int)) = 1 + (ws.length : Int) := IntWalk.i64_in _ (by omega)
      have hcall := Hpick.out (1 + (ws.length : Int)) 12 wr.drew Hb.out.drew (by omega) (by omega)
      generalize pick l (1 + (ws.length : Int)) 12 = q at *
      have Hcall := Lib.hid hcall
      clear hcall
      have hown2 : ((wr.alloc (.cells #[.int .i64 q] 3)).drew).ownsRow w.heap.size 3 1 v1 ws.length (ws.map (Value.int .i64)) := Hown.out.alloc _
      have hk2 : Bk ((wr.alloc (.cells #[.int .i64 q] 3)).drew) wr.heap.size 3 #[.int .i64 q] := Bk.new _ _ _
      have hgg : Bk ((wr.alloc (.cells #[.int .i64 q] 3)).drew) (w.heap.size + 1) 30 #[v1, .slice none 0 0] := Hg.out.alloc _
      have Hown2 := Lib.hid hown2
      have Hk2 := Lib.hid hk2
      have Hgg := Lib.hid hgg
      have hbb : w.heap.size ≤ ((wr.alloc (.cells #[.int .i64 q] 3)).drew).heap.size := by simp; omega
      clear hown2 hk2 hgg
      have hnn : ws.length < 1099511627776 := by omega
      have hc0a : (wr.alloc (.cells #[.int .i64 q] 3)).cell? ⟨w.heap.size + 1, 0, none⟩ = some v1 := (Hg.out.alloc _).cell 0
      have hrow := Hgg.out.ne_own Hown2.out (by decide)
      go_region_law (first
        | (go_simp; go_at_call 31; refine Hcall.out.mono ?_; rintro e w' ⟨rfl, rfl⟩)
        | (refine step_app (w := (wr.alloc (.cells #[.int .i64 q] 3)).drew) (us := [.int .i64 q]) (c := 1) (H := wr.heap.size) (v := v1) rfl (.tmp 22) (.tmp 27) rfl elt_int ?_ ?_ Hown2.out Hk2.out rfl rfl hnn hbb ?_; (next => simp [Act.eval, Act.put]); (next => simp [Act.eval, Act.put]); intro v2 w4 hown4 hg4; obtain ⟨A2, c2, rfl⟩ := own_slice hown4; have hg5 := Hgg.out.grown hg4 hrow; have hq0 : w4.cell? ⟨w.heap.size + 1, 0, none⟩ = some v1 := hg5.cell 0; have hq1 := hg5.frozen 0; have Hg5 := Lib.hid hg5; clear hg5))
      all_goals
        have hrr : Bk ((wr.alloc (.cells #[.int .i64 q] 3)).drew) w.heap.size 30 #[.slice none 0 0, .slice none 0 0] := Hr.out.alloc _
        have hbl : Below w.heap.size w ((wr.alloc (.cells #[.int .i64 q] 3)).drew) := (Hb.out.alloc hbs _).drew
        have Hr4 := Lib.hid ((hrr.grown hg4 (hrr.ne_own Hown2.out (by decide))).far (p := ⟨w.heap.size + 1, 0, none⟩) (by show w.heap.size ≠ w.heap.size + 1; omega) (.slice A2 (ws.length + 1) c2))
        have Hb4 := Lib.hid ((hbl.grown hg4 hbb (fun k hk => (Hown2.out.lt k hk).1)).setCell (p := ⟨w.heap.size + 1, 0, none⟩) (by show w.heap.size ≤ w.heap.size + 1; omega) (.slice A2 (ws.length + 1) c2))
        have Hown4 := Lib.hid (own_set (i := 0) hown4 (Hg5.out.ne_own hown4 (by decide)) (.slice A2 (ws.length + 1) c2))
        have Hg4 := Lib.hid (Hg5.out.set_ 0 (.slice A2 (ws.length + 1) c2))
        clear hrr hbl hown4 hg4 hq0 hq1 hc0 hc0a
        go_wp2_with fail
        go_roundw
        case rel =>
          refine ⟨_, ws ++ [q], by simp; omega, by simp, Hg4.out, by simpa using Hown4.out, ?_, Hr4.out, Hb4.out⟩
          intro z hz
          rcases List.mem_append.1 hz with hz | hz
          · exact hwb.out z hz
          · have : z = q := by simpa using hz
            omega
        case measure => simp [intOf]; omega
    · obtain rfl : ws.length = n := by omega
      obtain ⟨A1, c1, rfl⟩ := own_slice hown
      have Hown := Lib.hid hown
      have Hg := Lib.hid hg
      have Hr := Lib.hid hr
      have Hb := Lib.hid hb
      clear hown hg hr hb
      go_wp2_with fail
      go_loopw [8] (fun i wr => ∃ (a : Int) (v2 : Value) (ns : List (Int × Int × Int)), 0 ≤ a ∧ a ≤ ws.length ∧ i = .int .i64 a ∧ Bk wr (w.heap.size + 1) 30 #[.slice A1 ws.length c1, v2] ∧ wr.ownsRow w.heap.size 52 3 v2 ns.length (triC ns) ∧ wr.ownsRow w.heap.size 3 1 (.slice A1 ws.length c1) ws.length (ws.map (Value.int .i64)) ∧ ns.length ≤ 20 * a ∧
        Hid (∀ t ∈ ns, t.1 < a ∧ 0 ≤ t.1 ∧ t.1 < t.2.1 ∧ t.2.1 < ws.length ∧ 1 ≤ t.2.2 ∧ t.2.2 ≤ 6) ∧ Hid (sortedT ns) ∧ Bk wr w.heap.size 30 #[.slice none 0 0, .slice none 0 0] ∧ Below w.heap.size w wr) (fun i _ => ws.length - (intOf i).toNat)
      case atStart => exact ⟨0, _, [], by omega, by omega, rfl, Hg.out, World.ownsRow_nil _ _ _ _, Hown.out, by simp, (fun t ht => by simp at ht), (fun i _ hi => by simp at hi), Hr.out, Hb.out⟩
      case round =>
        clear Hown Hg Hr Hb
        obtain ⟨a, v2, ns, ha0, ha, rfl, hg, hown2, hown1, hnl, hnt, hns, hr, hb⟩ := hrel
        have Hg := Lib.hid hg
        have Hown2 := Lib.hid hown2
        have Hown1 := Lib.hid hown1
        have Hr := Lib.hid hr
        have Hb := Lib.hid hb
        clear hg hown2 hown1 hr hb
        by_cases hla : a < ws.length
        · go_wp2_with fail
          go_loopw [9] (fun i wr => ∃ (b : Int) (v2 : Value) (ns : List (Int × Int × Int)), a + 1 ≤ b ∧ b ≤ ws.length ∧ i = .int .i64 b ∧ Bk wr (w.heap.size + 1) 30 #[.slice A1 ws.length c1, v2] ∧ wr.ownsRow w.heap.size 52 3 v2 ns.length (triC ns) ∧ wr.ownsRow w.heap.size 3 1 (.slice A1 ws.length c1) ws.length (ws.map (Value.int .i64)) ∧ ns.length ≤ 20 * a + b ∧
            Hid (∀ t ∈ ns, (t.1 < a ∨ t.1 = a ∧ t.2.1 < b) ∧ 0 ≤ t.1 ∧ t.1 < t.2.1 ∧ t.2.1 < ws.length ∧ 1 ≤ t.2.2 ∧ t.2.2 ≤ 6) ∧ Hid (sortedT ns) ∧ Bk wr w.heap.size 30 #[.slice none 0 0, .slice none 0 0] ∧ Below w.heap.size w wr) (fun i _ => ws.length - (intOf i).toNat)
          case atStart => exact ⟨a + 1, v2, ns, by omega, by omega, by go_num, Hg.out, Hown2.out, Hown1.out, by omega, (fun t ht => by have := hnt.out t ht; omega), hns, Hr.out, Hb.out⟩
          case round =>
            clear Hown1 Hown2 Hg Hr Hb
            obtain ⟨b, v2, ns, hb1, hb2, rfl, hg, hown2, hown1, hnl, hnt, hns, hr, hb⟩ := hrel
            have hbs := hb.size
            have Hg := Lib.hid hg
            have Hown2 := Lib.hid hown2
            have Hown1 := Lib.hid hown1
            have Hr := Lib.hid hr
            have Hb := Lib.hid hb
            clear hg hown2 hown1 hr hb
            by_cases hlb : b < ws.length
            · have hpk := pick_bd l (3 + 7 * a + b) 1048576 (by omega)
              have hcall := Hpick.out (3 + 7 * a + b) 1048576 wr Hb.out (by omega) (by omega)
              generalize pick l (3 + 7 * a + b) 1048576 = q at *
              obtain ⟨hq1, hq2⟩ := hpk
              have Hcall := Lib.hid hcall
              clear hcall
              go_upto_region 14 with (go_at_call 31; refine Hcall.out.mono ?_; rintro e w' ⟨rfl, rfl⟩)
              go_cut [71] from 49 to 71 (fun v wx => ∃ t : Bool, v = .bool t ∧ wx = wr)
              case first =>
                go_wp2_with fail
                all_goals (go_meet; first | exact ⟨true, rfl, rfl⟩ | exact ⟨false, rfl, rfl⟩ | exact ⟨_, rfl, rfl⟩)
              case rest =>
              obtain ⟨t, rfl, rfl⟩ := hcut
              cases t
              · go_wp2_with fail
                go_roundw
                case rel => exact ⟨b + 1, v2, ns, by omega, by omega, by go_num, Hg.out, Hown2.out, Hown1.out, by omega, (fun t ht => by have := hnt.out t ht; omega), hns, Hr.out, Hb.out⟩
                case measure => simp [intOf]; omega
              · have hc1 : wc.cell? ⟨w.heap.size + 1, 1, none⟩ = some v2 := Hg.out.cell 1
                have hqd : q.tdiv 21 = q / 21 := by rw [Int.tdiv_eq_ediv_of_nonneg hq1]
                have hqm : (q / 21).tmod 6 = q / 21 % 6 := by rw [Int.tmod_eq_emod_of_nonneg (by omega)]
                have hqb1 : 1 ≤ 1 + q / 21 % 6 := by omega
                have hqb2 : 1 + q / 21 % 6 ≤ 6 := by omega
                have hrow := Hg.out.ne_own Hown2.out (by decide)
                go_wp2_with (at_builtin; refine wpList_app2 (w := wc) rfl _ _ rfl elt_tri Hown2.out hbs rfl rfl (by simp) rfl rfl (by omega) ?_; intro v3 w4 hown4 hg4 hz4; obtain ⟨A2, c2, rfl⟩ := own_slice hown4; have hg5 := Hg.out.grown hg4 hrow; have hq0 : w4.cell? ⟨w.heap.size + 1, 1, none⟩ = some v2 := hg5.cell 1; have hq3 := hg5.frozen 1; have Hg5 := Lib.hid hg5; clear hg5)
                have hr4 := (Hr.out.grown hg4 (Hr.out.ne_own Hown2.out (by decide))).far (p := ⟨w.heap.size + 1, 1, none⟩) (by show w.heap.size ≠ w.heap.size + 1; omega) (.slice A2 (ns.length + 1) c2)
                have hb4 := (Hb.out.grown hg4 hbs (fun k hk => (Hown2.out.lt k hk).1)).setCell (p := ⟨w.heap.size + 1, 1, none⟩) (by show w.heap.size ≤ w.heap.size + 1; omega) (.slice A2 (ns.length + 1) c2)
                have ho4 := own_set (i := 1) hown4 (Hg5.out.ne_own hown4 (by decide)) (.slice A2 (ns.length + 1) c2)
                have ho1 := own_grown Hown1.out hg4 (own_ne Hown1.out Hown2.out (by decide))
                have ho5 := own_set (i := 1) ho1 (Hg5.out.ne_own ho1 (by decide)) (.slice A2 (ns.length + 1) c2)
                go_roundw
                case rel =>
                  refine ⟨b + 1, _, ns ++ [(a, b, 1 + q / 21 % 6)], by omega, by omega, by go_num, Hg5.out.set_ 1 (.slice A2 (ns.length + 1) c2), by rw [triC_append, List.length_append]; exact ho4, ho5, by simp; omega, ?_, sortedT_snoc hns.out (fun u hu => by have := hnt.out u hu; dsimp only; omega), hr4, hb4⟩
                  intro t ht
                  rcases List.mem_append.1 ht with ht | ht
                  · have := hnt.out t ht; omega
                  · have : t = (a, b, 1 + q / 21 % 6) := by simpa using ht
                    subst this
                    dsimp only
                    omega
                case measure => simp [intOf]; omega
            · obtain rfl : b = ws.length := by omega
              go_wp2_with fail
              go_roundw
              case rel => exact ⟨a + 1, v2, ns, by omega, by omega, by go_num, Hg.out, Hown2.out, Hown1.out, by omega, (fun t ht => by have := hnt.out t ht; omega), hns, Hr.out, Hb.out⟩
              case measure => simp [intOf]; omega
        · obtain rfl : a = ws.length := by omega
          obtain ⟨A2, c2, rfl⟩ := own_slice Hown2.out
          have hc0 : wr.cell? ⟨w.heap.size + 1, 0, none⟩ = some (.slice A1 ws.length c1) := Hg.out.cell 0
          have hc1 : wr.cell? ⟨w.heap.size + 1, 1, none⟩ = some (.slice A2 ns.length c2) := Hg.out.cell 1
          have hr0 : wr.cell? ⟨w.heap.size, 0, none⟩ = some (.slice none 0 0) := Hr.out.cell 0
          have hr1 : wr.cell? ⟨w.heap.size, 1, none⟩ = some (.slice none 0 0) := Hr.out.cell 1
          have hf0 := Hr.out.frozen 0
          have hf1 := Hr.out.frozen 1
          have hz0 := ((Hr.out.set_ 0 (.slice A1 ws.length c1)).set_ 1 (.slice A2 ns.length c2)).cell 0
          have hz1 := ((Hr.out.set_ 0 (.slice A1 ws.length c1)).set_ 1 (.slice A2 ns.length c2)).cell 1
          have ho1 := Lib.hid (own_set (i := 1) (own_set (i := 0) Hown1.out (Hr.out.ne_own Hown1.out (by decide)) (.slice A1 ws.length c1)) (Hr.out.ne_own Hown1.out (by decide)) (.slice A2 ns.length c2))
          have ho2 := Lib.hid (own_set (i := 1) (own_set (i := 0) Hown2.out (Hr.out.ne_own Hown2.out (by decide)) (.slice A1 ws.length c1)) (Hr.out.ne_own Hown2.out (by decide)) (.slice A2 ns.length c2))
          have hb2 := Lib.hid ((Hb.out.setCell (p := ⟨w.heap.size, 0, none⟩) (Nat.le_refl _) (.slice A1 ws.length c1)).setCell (p := ⟨w.heap.size, 1, none⟩) (Nat.le_refl _) (.slice A2 ns.length c2))
          go_wp2_with fail
          refine bodyPost_ret (v := .agg #[.slice A1 ws.length c1, .slice A2 ns.length c2]) (by simp [results, Try.results11, go_sem, hz0, hz1]) rfl ⟨_, _, rfl, ws, ho1.out, ns, ho2.out, ⟨hn1, hn2, by omega, hwb.out, fun u hu => by have := hnt.out u hu; omega, hns.out⟩, hb2.out⟩
end Go.Proofs.Ytmdgdphhedgojaa

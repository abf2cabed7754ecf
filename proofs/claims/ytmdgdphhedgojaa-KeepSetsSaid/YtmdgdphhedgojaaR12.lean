import Derived.Test.YtmdgdphhedgojaaR11
import Derived.StillTailTactics
import Derived.Deep.RegionHeld3
namespace Go.Proofs.Ytmdgdphhedgojaa
open Go.RowKit Go.Maps

/-- For each face the least face with the same number. -/
def named (l : List Int) : List Int := l.map fun x => (l.idxOf x : Int)

theorem named_len (l : List Int) : (named l).length = l.length := by simp [named]
theorem named_get {l : List Int} {k : Nat} {x : Int} (h : l[k]? = some x) : (named l).getD k 0 = (l.idxOf x : Int) := by simp [named, h]
theorem idx_le {l : List Int} {k : Nat} {x : Int} (h : l[k]? = some x) : l.idxOf x ≤ k := by
  obtain ⟨hk, e⟩ := List.getElem?_eq_some_iff.1 h
  by_cases hle : l.idxOf x ≤ k
  · exact hle
  · exfalso
    have hlt : k < l.idxOf x := by omega
    have := List.not_of_lt_findIdx (p := (· == x)) (xs := l) (i := k) hlt
    simp [e] at this

/-- The map of the least faces after k faces. -/
def leastTo (l : List Int) (k : Nat) : Int → Option Int := fun x => if (l.take k).contains x then some (l.idxOf x : Int) else none

theorem leastTo_some {l : List Int} {k : Nat} {x : Int} (h : (leastTo l k x).isSome = true) : leastTo l k x = some (l.idxOf x : Int) := by
  unfold leastTo at h ⊢
  split at h
  · rw [if_pos ‹_›]
  · simp at h

theorem leastTo_step {l : List Int} {k : Nat} {x : Int} (hx : l[k]? = some x) :
    leastTo l (k + 1) = if (leastTo l k x).isSome then leastTo l k else setF (leastTo l k) x k := by
  have ht := take_snoc' hx
  cases hs : (leastTo l k x).isSome
  · simp only [Bool.false_eq_true, if_false]
    have hn : ¬ (l.take k).contains x = true := by
      intro h
      unfold leastTo at hs
      rw [if_pos h] at hs
      simp at hs
    have hi : l.idxOf x = k := by
      have h1 := idx_le hx
      by_cases hlt : l.idxOf x < k
      · exfalso
        apply hn
        obtain ⟨hk, e⟩ := List.getElem?_eq_some_iff.1 hx
        have hm : x ∈ l := List.mem_of_getElem? hx
        have hil : l.idxOf x < l.length := List.idxOf_lt_length_of_mem hm
        have hge : l[l.idxOf x] = x := List.getElem_idxOf hil
        have : x ∈ l.take k := List.mem_take_iff_getElem.2 ⟨l.idxOf x, by omega, hge⟩
        simpa using this
      · omega
    funext y
    unfold setF leastTo
    rw [ht]
    by_cases hy : y = x
    · subst hy; simp [hi]
    · rw [if_neg hy]
      have : ((l.take k ++ [x]).contains y) = (l.take k).contains y := by simp [hy]
      rw [this]
  · simp only [if_true]
    funext y
    unfold leastTo
    rw [ht]
    by_cases hy : y = x
    · subst hy
      have h := hs
      unfold leastTo at h
      split at h
      · rename_i hc
        rw [if_pos hc, if_pos (by simp)]
      · simp at h
    · have : ((l.take k ++ [x]).contains y) = (l.take k).contains y := by simp [hy]
      rw [this]

/-- The common lengths, both ways, of the first borders. -/
def nearF (ns : List (Int × Int × Int)) (of : List Int) (i : Nat) : Int × Int → Option Int := fun p =>
  if p.1 ≠ p.2 ∧ 0 < commonTo ns of p.1 p.2 i then some (commonTo ns of p.1 p.2 i) else none

theorem nearF_getD {n : Nat} {ns : List (Int × Int × Int)} {of : List Int} (h : NOK n ns) (i : Nat) {p : Int × Int} (hp : p.1 ≠ p.2) : (nearF ns of i p).getD 0 = commonTo ns of p.1 p.2 i := by
  have := commonTo_bd (of := of) (a := p.1) (b := p.2) h i
  unfold nearF
  split
  · rfl
  · rename_i hc
    have h0 : ¬ 0 < commonTo ns of p.1 p.2 i := fun h => hc ⟨hp, h⟩
    show (0 : Int) = _
    omega

theorem commonTo_step {ns : List (Int × Int × Int)} {of : List Int} {i : Nat} {x y : Nat} {z a b : Int} (ht : ns[i]? = some ((x : Int), (y : Int), z)) (ha : of.getD x 0 = a) (hb : of.getD y 0 = b) (c d : Int) :
    commonTo ns of c d (i + 1) = commonTo ns of c d i + if (a == c && b == d || a == d && b == c) then z else 0 := by
  rw [commonTo, tri_getD ht]
  simp only [Int.toNat_natCast, ha, hb]

theorem nearF_same {ns : List (Int × Int × Int)} {of : List Int} {i : Nat} {x y : Nat} {z a : Int} (ht : ns[i]? = some ((x : Int), (y : Int), z)) (ha : of.getD x 0 = a) (hb : of.getD y 0 = a) :
    nearF ns of (i + 1) = nearF ns of i := by
  funext p
  unfold nearF
  by_cases hp : p.1 = p.2
  · simp [hp]
  · have hs := commonTo_step ht ha hb p.1 p.2
    rw [if_neg (by simp; omega), Int.add_zero] at hs
    rw [hs]

theorem nearF_step {n : Nat} {ns : List (Int × Int × Int)} {of : List Int} {i : Nat} {x y : Nat} {z a b : Int} (h : NOK n ns) (ht : ns[i]? = some ((x : Int), (y : Int), z)) (ha : of.getD x 0 = a) (hb : of.getD y 0 = b) (hab : a ≠ b) :
    nearF ns of (i + 1) = setF (setF (nearF ns of i) (a, b) (commonTo ns of a b i + z)) (b, a) (commonTo ns of b a i + z) := by
  have hz := h.at ht
  funext p
  obtain ⟨c, d⟩ := p
  have hs := commonTo_step ht ha hb c d
  have hc1 := commonTo_bd (of := of) (a := c) (b := d) h i
  unfold setF
  by_cases e1 : (c, d) = (b, a)
  · rw [if_pos e1]
    injection e1 with e1 e2
    subst e1 e2
    unfold nearF
    rw [if_pos (by simp at hs; rw [hs]; simp only at hz ⊢; exact ⟨Ne.symm hab, by omega⟩)]
    simp at hs
    rw [hs]
  · rw [if_neg e1]
    by_cases e2 : (c, d) = (a, b)
    · rw [if_pos e2]
      injection e2 with e2 e3
      subst e2 e3
      unfold nearF
      rw [if_pos (by simp at hs; rw [hs]; simp only at hz ⊢; exact ⟨hab, by omega⟩)]
      simp at hs
      rw [hs]
    · rw [if_neg e2]
      unfold nearF
      have hne : ¬ ((a == c && b == d || a == d && b == c) = true) := by
        simp only [Bool.or_eq_true, Bool.and_eq_true, beq_iff_eq, not_or]
        exact ⟨fun hh => e2 (by rw [hh.1, hh.2]), fun hh => e1 (by rw [hh.1, hh.2])⟩
      rw [if_neg hne, Int.add_zero] at hs
      simp only [hs]

theorem named_bd {l : List Int} {k : Nat} {a : Int} (h : (named l)[k]? = some a) : 0 ≤ a ∧ a ≤ k := by
  obtain ⟨x, hx, rfl⟩ : ∃ x, l[k]? = some x ∧ a = (l.idxOf x : Int) := by
    simp only [named, List.getElem?_map] at h
    cases hl : l[k]? with
    | none => rw [hl] at h; simp at h
    | some x => rw [hl] at h; simp at h; exact ⟨x, rfl, h.symm⟩
  have := idx_le hx
  omega

/-- The groups behind a pointer. -/
structure GS (w : World) (base p g rw rn c : Nat) (ws : List Int) (ns : List (Int × Int × Int)) (of : List Int) : Prop where
  hp : Bk w p 130 #[.slice (some ⟨g, 0, none⟩) of.length c, .map (some rw), .map (some rn)]
  hg : Bk w g 3 (rowI of)
  hw : ∃ fw n, MapF iV iV Try.prog 3 w rw fw n ∧ ∀ y, (fw y).getD 0 = weight ws of y
  hn : ∃ n, MapF pV iV Try.prog 114 w rn (nearF ns of ns.length) n
  ne : rw ≠ rn
  bp : base ≤ p
  bg : base ≤ g
  bw : base ≤ rw
  bn : base ≤ rn

theorem start_init (w W : World) (cs : Array Value) (n : Nat) (hW : W = (((((w.alloc (.cells cs 36)).alloc (.cells (rowI (List.replicate n 0)) 3)).alloc (.map #[] 0)).alloc (.map #[] 0)).alloc
    (.cells #[.slice (some ⟨w.heap.size + 1, 0, none⟩) n n, .map (some (w.heap.size + 1 + 1)), .map (some (w.heap.size + 1 + 1 + 1))] 130)).alloc (.map #[] 0)) :
    Bk W (w.heap.size + 1 + 1 + 1 + 1) 130 #[.slice (some ⟨w.heap.size + 1, 0, none⟩) n n, .map (some (w.heap.size + 1 + 1)), .map (some (w.heap.size + 1 + 1 + 1))] ∧ Bk W (w.heap.size + 1) 3 (rowI (List.replicate n 0)) ∧
    MapF iV iV Try.prog 3 W (w.heap.size + 1 + 1) (fun _ => none) 0 ∧ MapF pV iV Try.prog 114 W (w.heap.size + 1 + 1 + 1) (fun _ => none) 0 ∧ MapF iV iV Try.prog 3 W (w.heap.size + 1 + 1 + 1 + 1 + 1) (fun _ => none) 0 ∧ Bk W w.heap.size 36 cs ∧ Below w.heap.size w W ∧
    w.heap.size ≤ w.heap.size + 1 + 1 + 1 + 1 ∧ w.heap.size ≤ w.heap.size + 1 ∧ w.heap.size ≤ w.heap.size + 1 + 1 ∧ w.heap.size ≤ w.heap.size + 1 + 1 + 1 ∧ w.heap.size ≤ w.heap.size + 1 + 1 + 1 + 1 + 1 ∧
    Hid (w.heap.size + 1 + 1 ≠ w.heap.size + 1 + 1 + 1 ∧ w.heap.size + 1 + 1 ≠ w.heap.size + 1 + 1 + 1 + 1 + 1 ∧ w.heap.size + 1 + 1 + 1 ≠ w.heap.size + 1 + 1 + 1 + 1 + 1) := by
  subst hW
  have m0 : ∀ {κ α : Type} (ek : κ → Value) (ev : α → Value) (kt : TypeId) (a : World) (r : Nat), a.heap.size = r → MapF ek ev Try.prog kt (a.alloc (.map #[] 0)) r (fun _ => none) 0 := fun ek ev kt a r h => h ▸ MapF.new ek ev Try.prog kt a
  refine ⟨(Bk.new' _ _ _ (by simp)).alloc _, ((((Bk.new' _ _ _ (by simp)).alloc _).alloc _).alloc _).alloc _, (((m0 iV iV _ _ _ (by simp)).alloc _).alloc _).alloc _, ((m0 pV iV _ _ _ (by simp)).alloc _).alloc _, m0 iV iV _ _ _ (by simp), (((((Bk.new _ _ _).alloc _).alloc _).alloc _).alloc _).alloc _, ?_, by omega, by omega, by omega, by omega, by omega, ?_⟩
  · refine Below.alloc (Below.alloc (Below.alloc (Below.alloc (Below.alloc (Below.alloc (Below.refl _ _) (Nat.le_refl _) _) ?_ _) ?_ _) ?_ _) ?_ _) ?_ _ <;> simp <;> omega
  · show _ ∧ _ ∧ _; omega

set_option maxHeartbeats 2000000 in
set_option maxRecDepth 100000 in
theorem start_any (A B C : Option Addr) (c d f : Nat) (ws : List Int) (ns : List (Int × Int × Int)) (l : List Int) (w : World) (hA : SI w A ws) (hB : ST w B ns) (hC : SI w C l) (hw : W40 ws) (hl : l.length = ws.length) (hl2 : ws.length ≤ 4096) (hn : NOK l.length ns) (hl3 : ns.length ≤ 16384) (h64 : W64 l) :
    Calls Try.prog 58 #[.agg #[.slice A ws.length c, .slice B ns.length d], .slice C l.length f] w fun e w' => ∃ p g rw rn c, e = .returned (.pointer (some ⟨p, 0, none⟩)) ∧ GS w' w.heap.size p g rw rn c ws ns (named l) ∧ Below w.heap.size w w' := by
  have hmk := make_int ws.length (by omega)
  have hmm := @run_makeMap Try.prog
  have Hl := Lib.hid hl
  have hle1 : l.length ≤ ws.length := by omega
  have hle2 : ws.length ≤ l.length := by omega
  have hN : NOK ws.length ns := hn.len hl
  clear hl hn
  go_enter Try.func58, Try.ntmps58
  go_wp2
  clear hmk hmm
  have h0 := start_init w _ #[.slice A ws.length c, .slice B ns.length d] ws.length rfl
  generalize w.heap.size + 1 + 1 + 1 + 1 + 1 = rl at h0 ⊢
  generalize w.heap.size + 1 + 1 + 1 + 1 = p at h0 ⊢
  generalize w.heap.size + 1 + 1 + 1 = rn at h0 ⊢
  generalize w.heap.size + 1 + 1 = rw at h0 ⊢
  generalize w.heap.size + 1 = g at h0 ⊢
  obtain ⟨hp0, hg0, hm0, hn0, hl0, hk0, hb0, hbp, hbg, hbw, hbn, hbl, hne⟩ := h0
  have e0 : nearF ns (named l) 0 = fun _ => none := by funext q; simp [nearF, commonTo]
  have E0 := Lib.hid e0
  have Hp0 := Lib.hid hp0
  have Hg0 := Lib.hid hg0
  have Hm0 := Lib.hid hm0
  have Hn0 := Lib.hid hn0
  have Hl0 := Lib.hid hl0
  have Hk0 := Lib.hid hk0
  have Hb0 := Lib.hid hb0
  clear e0 hp0 hg0 hm0 hn0 hl0 hk0 hb0
  go_loopw [26] (fun i wr => ∃ (k nw nl : Nat) (fw : Int → Option Int), k ≤ l.length ∧ i = .int .i64 k ∧
     Bk wr p 130 #[.slice (some ⟨g, 0, none⟩) ws.length ws.length, .map (some rw), .map (some rn)] ∧ Bk wr g 3 (rowI ((named l).take k ++ List.replicate (l.length - k) 0)) ∧ MapF iV iV Try.prog 3 wr rw fw nw ∧ Hid (∀ y, (fw y).getD 0 = weightTo ws (named l) y k) ∧ MapF pV iV Try.prog 114 wr rn (nearF ns (named l) 0) 0 ∧ MapF iV iV Try.prog 3 wr rl (leastTo l k) nl ∧
     Bk wr w.heap.size 36 #[.slice A ws.length c, .slice B ns.length d] ∧ Below w.heap.size w wr) (fun i _ => l.length - (intOf i).toNat)
  case atStart =>
    refine ⟨0, 0, 0, fun _ => none, by omega, rfl, Hp0.out, ?_, Hm0.out, (fun y => by simp [weightTo]), by rw [E0.out]; exact Hn0.out, ?_, Hk0.out, Hb0.out⟩
    · rw [List.take_zero, List.nil_append, Nat.sub_zero, Hl.out]; exact Hg0.out
    · have : leastTo l 0 = fun _ => none := by funext q; simp [leastTo]
      rw [this]; exact Hl0.out
  case round =>
    clear Hp0 Hg0 Hm0 Hn0 Hl0 Hk0 Hb0
    obtain ⟨k, nw, nl, fw, hk, rfl, hp, hg, hmw, hfw, hmn, hml, hbk, hb⟩ := hrel
    by_cases hlt : k < l.length
    · obtain ⟨b1, o1, x, rfl, hc1, hx⟩ := (hC.below hb).get (k := k) hlt
      obtain ⟨b2, o2, y, rfl, hc2, hy⟩ := (hA.below hb).get (k := k) (by omega)
      have hgx := good_int (h64 x (List.mem_of_getElem? hx.out))
      have hst := Lib.hid (leastTo_step hx.out)
      have hlk : (Instr.lookup 88 (.map (some rl)) (.int .i64 x) true).run Try.prog wr = .ok (.tuple #[.int .i64 ((leastTo l k x).getD 0), .bool (leastTo l k x).isSome]) wr := hml.lookup_ok inj_iV keyed_int Try.underlying88 (zero_int wr) hgx
      have hY : leastTo l (k + 1) x = some (l.idxOf x : Int) := leastTo_some (by
        rw [hst.out]
        cases hs : (leastTo l k x).isSome
        · simp [setF]
        · simp [hs])
      have hjk := idx_le hx.out
      have hnj := Lib.hid (named_get hx.out)
      have hwb := weightTo_bd (of := named l) (g := ((l.idxOf x : Nat) : Int)) hw k
      have hyb := hw y (List.mem_of_getElem? hy.out)
      obtain ⟨m', hm'⟩ : ∃ m', l.length - k = m' + 1 := ⟨l.length - k - 1, by omega⟩
      have hNl : ((named l).take k).length = k := by rw [List.length_take, named_len]; omega
      have hrow0 : Hid (((named l).take k ++ List.replicate (l.length - k) 0)[k]? = some 0) := by
        show _ = _
        rw [hm', List.getElem?_append_right (by omega), hNl]; simp
      have hrow1 : Hid ((rowI ((named l).take k ++ List.replicate (l.length - k) 0)).setIfInBounds k (.int .i64 (l.idxOf x : Nat)) = rowI ((named l).take (k + 1) ++ List.replicate (l.length - (k + 1)) 0)) := by
        show _ = _
        have e := rowI_set ((named l).take k) m' ((l.idxOf x : Nat) : Int)
        rw [hNl] at e
        have hgk : (named l)[k]? = some ((l.idxOf x : Nat) : Int) := by simp [named, hx.out]
        rw [hm', e, take_snoc' hgk, show m' = l.length - (k + 1) from by omega]
      have HY := Lib.hid hY
      clear hY hm' hNl
      generalize l.idxOf x = j at *
      obtain ⟨hwb1, hwb2⟩ := hwb
      obtain ⟨hyb1, hyb2⟩ := hyb
      have hkw : k < ws.length := by omega
      have i0 : (0 : Int) ≤ (k : Int) := by omega
      have hread : Hid (∀ W : World, Below w.heap.size w W → W.cell? ⟨b2, o2 + k, none⟩ = some (.int .i64 y)) := fun W hW => by
        obtain ⟨b3, o3, y', e, hc, hy'⟩ := (hA.below hW).get (k := k) hkw
        injection e with e
        injection e with e1 e2
        subst e1 e2
        have := hy'.out
        rw [hy.out] at this
        injection this with this
        subst this
        exact hc
      have hpg : Hid (p ≠ g) := Bk.ne_ hp hg (by decide)
      have hbg2 : Hid (w.heap.size ≠ g) := Bk.ne_ hbk hg (by decide)
      cases hs : (leastTo l k x).isSome
      · obtain ⟨w1, hup, hm1, ht1⟩ := hml.update inj_iV keyed_int Try.underlying88 hgx (k : Int)
        have hup' : (Instr.mapUpdate 88 (.map (some rl)) (.int .i64 x) (.int .i64 k)).run Try.prog wr = .ok () w1 := hup
        clear hup
        have hp1 := ht1.bk hp (by have := MapF.bk_ne hml hp; omega)
        have hg1 := ht1.bk hg (MapF.bk_ne hml hg)
        have hbk1 := ht1.bk hbk (MapF.bk_ne hml hbk)
        have hmw1 := hmw.turn ht1 hne.out.2.1
        have hmn1 := hmn.turn ht1 hne.out.2.2
        have hb1 := ht1.below hb hbl
        have hst1 : leastTo l (k + 1) = setF (leastTo l k) x k := by rw [hst.out, hs]; rfl
        rw [← hst1] at hm1
        generalize cnt (leastTo l k) x nl = nl1 at hm1
        clear hst1 ht1 hp hg hbk hmw hmn hml hb
        clear hst
        have Hlk2 := Lib.hid (fun (W : World) (hW : MapF iV iV Try.prog 3 W rl (leastTo l (k + 1)) nl1) => show (Instr.lookup 88 (.map (some rl)) (.int .i64 x) false).run Try.prog W = .ok (.int .i64 (j : Nat)) W from by
          have := hW.lookup inj_iV keyed_int Try.underlying88 (zero_int W) hgx
          rw [HY.out] at this
          exact this)
        go_wp2
        clear hlk
        refine region_tail 9 (by kernel_rfl) (by kernel_rfl) (fun W hq => ?_)
        have hcp : W.cell? ⟨p, 0, none⟩ = some (.slice (some ⟨g, 0, none⟩) ws.length ws.length) := (hp1.qt hq).cell 0
        have hl2' := Hlk2.out W (hm1.qt hq)
        have hcg : W.cell? ⟨g, k, none⟩ = some (.int .i64 0) := ((hg1.qt hq).cell k).trans (rowI_get (hrow0.out))
        have hfg := (hg1.qt hq).frozen k
        have hp2 := (hp1.qt hq).far (p := ⟨g, k, none⟩) hpg.out (.int .i64 (j : Nat))
        have hg2 := (hg1.qt hq).set_ k (.int .i64 (j : Nat))
        rw [hrow1.out] at hg2
        have hbk2 := (hbk1.qt hq).far (p := ⟨g, k, none⟩) hbg2.out (.int .i64 (j : Nat))
        have hmw2 := (hmw1.qt hq).setCell (p := ⟨g, k, none⟩) (Ne.symm (hmw1.bk_ne hg1)) (.int .i64 (j : Nat))
        have hmn2 := (hmn1.qt hq).setCell (p := ⟨g, k, none⟩) (Ne.symm (hmn1.bk_ne hg1)) (.int .i64 (j : Nat))
        have hm2 := (hm1.qt hq).setCell (p := ⟨g, k, none⟩) (Ne.symm (hm1.bk_ne hg1)) (.int .i64 (j : Nat))
        have hb2 := (hq.bl hb1).setCell (p := ⟨g, k, none⟩) hbg (.int .i64 (j : Nat))
        have Hp2 := Lib.hid hp2
        have Hg2 := Lib.hid hg2
        have Hbk2 := Lib.hid hbk2
        have Hb2 := Lib.hid hb2
        clear hp2 hg2 hbk2 hb2
        simp only [List.take_succ_cons, List.take_zero, List.drop_succ_cons, List.drop_zero]
        repeat still_step
        refine wpStill_nil ?_
        go_wp2_with fail
        clear hcg hfg hcp hl2' hc1 hc2
        generalize W.setCell ⟨g, k, none⟩ (.int .i64 (j : Nat)) = W2 at Hp2 Hg2 Hbk2 hmw2 hmn2 hm2 Hb2 ⊢
        refine region_tail 14 (by kernel_rfl) (by kernel_rfl) (fun W3 hq3 => ?_)
        have hgj : Good Try.prog 3 (iV (j : Nat)) := good_int ⟨by omega, by omega⟩
        have hcp : W3.cell? ⟨p, 1, none⟩ = some (.map (some rw)) := (Hp2.out.qt hq3).cell 1
        have hl3' := Hlk2.out W3 (hm2.qt hq3)
        have hl4' : (Instr.lookup 88 (.map (some rw)) (.int .i64 (j : Nat)) false).run Try.prog W3 = .ok (.int .i64 (weightTo ws (named l) j k)) W3 := by
          have := (hmw2.qt hq3).lookup inj_iV keyed_int Try.underlying88 (zero_int W3) hgj
          rw [hfw.out] at this
          exact this
        have hck : W3.cell? ⟨w.heap.size, 0, none⟩ = some (.slice (some ⟨b2, o2, none⟩) ws.length c) := (Hbk2.out.qt hq3).cell 0
        have hcy : W3.cell? ⟨b2, o2 + k, none⟩ = some (.int .i64 y) := hread.out W3 (hq3.bl Hb2.out)
        obtain ⟨w4, hup, hm4, ht4⟩ := (hmw2.qt hq3).update inj_iV keyed_int Try.underlying88 hgj (weightTo ws (named l) j k + y)
        have hup' : (Instr.mapUpdate 88 (.map (some rw)) (.int .i64 (j : Nat)) (.int .i64 (weightTo ws (named l) j k + y))).run Try.prog W3 = .ok () w4 := hup
        have Hm4 := Lib.hid hm4
        have Ht4 := Lib.hid ht4
        clear hup hm4 ht4
        have hwrap : IntKind.i64.wrap (weightTo ws (named l) j k + y) = weightTo ws (named l) j k + y := IntWalk.i64_in _ (by omega)
        simp only [List.take_succ_cons, List.take_zero, List.drop_succ_cons, List.drop_zero]
        repeat still_step
        refine wpStill_nil ?_
        clear hwrap
        go_wp2_with fail
        go_roundw
        case rel =>
          refine ⟨k + 1, _, _, _, by omega, by go_num, Ht4.out.bk (Hp2.out.qt hq3) (by have := hmw2.bk_ne Hp2.out; omega), Ht4.out.bk (Hg2.out.qt hq3) (hmw2.bk_ne Hg2.out), Hm4.out, ?_, (hmn2.qt hq3).turn Ht4.out (Ne.symm hne.out.1), (hm2.qt hq3).turn Ht4.out (Ne.symm hne.out.2.1), Ht4.out.bk (Hbk2.out.qt hq3) (hmw2.bk_ne Hbk2.out), Ht4.out.below (hq3.bl Hb2.out) hbw⟩
          intro z
          show (setF fw ((j : Nat) : Int) _ z).getD 0 = _
          unfold setF
          rw [weightTo, getD_of hy.out, hnj.out]
          by_cases hz : z = ((j : Nat) : Int)
          · rw [if_pos hz, if_pos hz.symm, hz]; rfl
          · rw [if_neg hz, if_neg (Ne.symm hz), Int.add_zero]; exact hfw.out z
        case measure => simp [intOf]; omega
      · obtain ⟨nl1, hm1⟩ : ∃ n, MapF iV iV Try.prog 3 wr rl (leastTo l (k + 1)) n := ⟨nl, by rw [hst.out, hs]; exact hml⟩
        have hp1 := hp
        have hg1 := hg
        have hbk1 := hbk
        have hmw1 := hmw
        have hmn1 := hmn
        have hb1 := hb
        clear hp hg hbk hmw hmn hml hb
        clear hst
        have Hlk2 := Lib.hid (fun (W : World) (hW : MapF iV iV Try.prog 3 W rl (leastTo l (k + 1)) nl1) => show (Instr.lookup 88 (.map (some rl)) (.int .i64 x) false).run Try.prog W = .ok (.int .i64 (j : Nat)) W from by
          have := hW.lookup inj_iV keyed_int Try.underlying88 (zero_int W) hgx
          rw [HY.out] at this
          exact this)
        go_wp2
        clear hlk
        refine region_tail 9 (by kernel_rfl) (by kernel_rfl) (fun W hq => ?_)
        have hcp : W.cell? ⟨p, 0, none⟩ = some (.slice (some ⟨g, 0, none⟩) ws.length ws.length) := (hp1.qt hq).cell 0
        have hl2' := Hlk2.out W (hm1.qt hq)
        have hcg : W.cell? ⟨g, k, none⟩ = some (.int .i64 0) := ((hg1.qt hq).cell k).trans (rowI_get (hrow0.out))
        have hfg := (hg1.qt hq).frozen k
        have hp2 := (hp1.qt hq).far (p := ⟨g, k, none⟩) hpg.out (.int .i64 (j : Nat))
        have hg2 := (hg1.qt hq).set_ k (.int .i64 (j : Nat))
        rw [hrow1.out] at hg2
        have hbk2 := (hbk1.qt hq).far (p := ⟨g, k, none⟩) hbg2.out (.int .i64 (j : Nat))
        have hmw2 := (hmw1.qt hq).setCell (p := ⟨g, k, none⟩) (Ne.symm (hmw1.bk_ne hg1)) (.int .i64 (j : Nat))
        have hmn2 := (hmn1.qt hq).setCell (p := ⟨g, k, none⟩) (Ne.symm (hmn1.bk_ne hg1)) (.int .i64 (j : Nat))
        have hm2 := (hm1.qt hq).setCell (p := ⟨g, k, none⟩) (Ne.symm (hm1.bk_ne hg1)) (.int .i64 (j : Nat))
        have hb2 := (hq.bl hb1).setCell (p := ⟨g, k, none⟩) hbg (.int .i64 (j : Nat))
        have Hp2 := Lib.hid hp2
        have Hg2 := Lib.hid hg2
        have Hbk2 := Lib.hid hbk2
        have Hb2 := Lib.hid hb2
        clear hp2 hg2 hbk2 hb2
        simp only [List.take_succ_cons, List.take_zero, List.drop_succ_cons, List.drop_zero]
        repeat still_step
        refine wpStill_nil ?_
        go_wp2_with fail
        clear hcg hfg hcp hl2' hc1 hc2
        generalize W.setCell ⟨g, k, none⟩ (.int .i64 (j : Nat)) = W2 at Hp2 Hg2 Hbk2 hmw2 hmn2 hm2 Hb2 ⊢
        refine region_tail 14 (by kernel_rfl) (by kernel_rfl) (fun W3 hq3 => ?_)
        have hgj : Good Try.prog 3 (iV (j : Nat)) := good_int ⟨by omega, by omega⟩
        have hcp : W3.cell? ⟨p, 1, none⟩ = some (.map (some rw)) := (Hp2.out.qt hq3).cell 1
        have hl3' := Hlk2.out W3 (hm2.qt hq3)
        have hl4' : (Instr.lookup 88 (.map (some rw)) (.int .i64 (j : Nat)) false).run Try.prog W3 = .ok (.int .i64 (weightTo ws (named l) j k)) W3 := by
          have := (hmw2.qt hq3).lookup inj_iV keyed_int Try.underlying88 (zero_int W3) hgj
          rw [hfw.out] at this
          exact this
        have hck : W3.cell? ⟨w.heap.size, 0, none⟩ = some (.slice (some ⟨b2, o2, none⟩) ws.length c) := (Hbk2.out.qt hq3).cell 0
        have hcy : W3.cell? ⟨b2, o2 + k, none⟩ = some (.int .i64 y) := hread.out W3 (hq3.bl Hb2.out)
        obtain ⟨w4, hup, hm4, ht4⟩ := (hmw2.qt hq3).update inj_iV keyed_int Try.underlying88 hgj (weightTo ws (named l) j k + y)
        have hup' : (Instr.mapUpdate 88 (.map (some rw)) (.int .i64 (j : Nat)) (.int .i64 (weightTo ws (named l) j k + y))).run Try.prog W3 = .ok () w4 := hup
        have Hm4 := Lib.hid hm4
        have Ht4 := Lib.hid ht4
        clear hup hm4 ht4
        have hwrap : IntKind.i64.wrap (weightTo ws (named l) j k + y) = weightTo ws (named l) j k + y := IntWalk.i64_in _ (by omega)
        simp only [List.take_succ_cons, List.take_zero, List.drop_succ_cons, List.drop_zero]
        repeat still_step
        refine wpStill_nil ?_
        clear hwrap
        go_wp2_with fail
        go_roundw
        case rel =>
          refine ⟨k + 1, _, _, _, by omega, by go_num, Ht4.out.bk (Hp2.out.qt hq3) (by have := hmw2.bk_ne Hp2.out; omega), Ht4.out.bk (Hg2.out.qt hq3) (hmw2.bk_ne Hg2.out), Hm4.out, ?_, (hmn2.qt hq3).turn Ht4.out (Ne.symm hne.out.1), (hm2.qt hq3).turn Ht4.out (Ne.symm hne.out.2.1), Ht4.out.bk (Hbk2.out.qt hq3) (hmw2.bk_ne Hbk2.out), Ht4.out.below (hq3.bl Hb2.out) hbw⟩
          intro z
          show (setF fw ((j : Nat) : Int) _ z).getD 0 = _
          unfold setF
          rw [weightTo, getD_of hy.out, hnj.out]
          by_cases hz : z = ((j : Nat) : Int)
          · rw [if_pos hz, if_pos hz.symm, hz]; rfl
          · rw [if_neg hz, if_neg (Ne.symm hz), Int.add_zero]; exact hfw.out z
        case measure => simp [intOf]; omega
    · obtain rfl : k = l.length := by omega
      rw [Nat.sub_self, List.replicate_zero, List.append_nil, List.take_of_length_le (by rw [named_len]; omega)] at hg
      have hcn : wr.cell? ⟨w.heap.size, 1, none⟩ = some (.slice B ns.length d) := hbk.cell 1
      have Hp := Lib.hid hp
      have Hg := Lib.hid hg
      have Hb := Lib.hid hb
      have Hmw := Lib.hid hmw
      have Hmn := Lib.hid hmn
      clear hp hg hb hmw hmn hml hbk
      go_wp2
      clear hcn
      go_loopw [69] (fun i wr => ∃ (i' nn : Nat), i' ≤ ns.length ∧ i = .int .i64 i' ∧ Bk wr p 130 #[.slice (some ⟨g, 0, none⟩) ws.length ws.length, .map (some rw), .map (some rn)] ∧ Bk wr g 3 (rowI (named l)) ∧ MapF iV iV Try.prog 3 wr rw fw nw ∧ MapF pV iV Try.prog 114 wr rn (nearF ns (named l) i') nn ∧ Below w.heap.size w wr) (fun i _ => ns.length - (intOf i).toNat)
      case atStart => exact ⟨0, 0, by omega, rfl, Hp.out, Hg.out, Hmw.out, Hmn.out, Hb.out⟩
      case round =>
        clear Hp Hg Hb Hmw Hmn
        rename_i wo _
        obtain ⟨i, nn, hi, rfl, hp, hg, hmw, hmn, hb⟩ := hrel
        by_cases hlt2 : i < ns.length
        · obtain ⟨b1, o1, x, y, z, rfl, hc0, hc1, hc2, ht⟩ := (hB.below hb).get hlt2
          obtain ⟨hx1, hx2, hy1, hy2, hz1, hz2⟩ := hN.at ht.out
          dsimp only at hx1 hx2 hy1 hy2 hz1 hz2
          obtain ⟨x, rfl⟩ := Int.eq_ofNat_of_zero_le hx1
          obtain ⟨y, rfl⟩ := Int.eq_ofNat_of_zero_le hy1
          have hNn : NOK ws.length ns := hN
          obtain ⟨a, ha⟩ : ∃ a, (named l)[x]? = some a := ⟨_, List.getElem?_eq_getElem (by rw [named_len]; omega)⟩
          obtain ⟨b, hb'⟩ : ∃ b, (named l)[y]? = some b := ⟨_, List.getElem?_eq_getElem (by rw [named_len]; omega)⟩
          have hba := named_bd ha
          have hbb := named_bd hb'
          have hai : i64 a := ⟨by omega, by omega⟩
          have hbi : i64 b := ⟨by omega, by omega⟩
          have hga := Lib.hid (getD_of ha)
          have hgb := Lib.hid (getD_of hb')
          have Ha := Lib.hid ha
          have Hb' := Lib.hid hb'
          clear ha hb'
          have hcb1 := commonTo_bd (of := named l) (a := a) (b := b) hNn i
          have hcb2 := commonTo_bd (of := named l) (a := b) (b := a) hNn i
          obtain ⟨hcb11, hcb12⟩ := hcb1
          obtain ⟨hcb21, hcb22⟩ := hcb2
          obtain ⟨hba1, hba2⟩ := hba
          obtain ⟨hbb1, hbb2⟩ := hbb
          have j0 : (0 : Int) ≤ (x : Int) := by omega
          have j1 : (0 : Int) ≤ (y : Int) := by omega
          have j2 : x < ws.length := by omega
          have j3 : y < ws.length := by omega
          go_wp2
          clear hc0 hc1 hc2
          have hat := Bk.new wr 52 #[.int .i64 (x : Nat), .int .i64 (y : Nat), .int .i64 z]
          have Hp1 := Lib.hid (hp.alloc (.cells #[.int .i64 (x : Nat), .int .i64 (y : Nat), .int .i64 z] 52))
          have Hg1 := Lib.hid (hg.alloc (.cells #[.int .i64 (x : Nat), .int .i64 (y : Nat), .int .i64 z] 52))
          have hmw1 := hmw.alloc (.cells #[.int .i64 (x : Nat), .int .i64 (y : Nat), .int .i64 z] 52)
          have hmn1 := hmn.alloc (.cells #[.int .i64 (x : Nat), .int .i64 (y : Nat), .int .i64 z] 52)
          have Hb1 := Lib.hid (hb.alloc hb.size (.cells #[.int .i64 (x : Nat), .int .i64 (y : Nat), .int .i64 z] 52))
          clear hp hg hmw hmn hb
          generalize wr.alloc (.cells #[.int .i64 (x : Nat), .int .i64 (y : Nat), .int .i64 z] 52) = W1 at hat Hp1 Hg1 hmw1 hmn1 Hb1 ⊢
          generalize wr.heap.size = t at hat ⊢
          have hq0 : W1.cell? ⟨p, 0, none⟩ = some (.slice (some ⟨g, 0, none⟩) ws.length ws.length) := Hp1.out.cell 0
          have hq1 : W1.cell? ⟨t, 0, none⟩ = some (.int .i64 (x : Nat)) := hat.cell 0
          have hq2 : W1.cell? ⟨t, 1, none⟩ = some (.int .i64 (y : Nat)) := hat.cell 1
          have hq3 : W1.cell? ⟨g, x, none⟩ = some (.int .i64 a) := (Hg1.out.cell x).trans (rowI_get Ha.out)
          have hq4 : W1.cell? ⟨g, y, none⟩ = some (.int .i64 b) := (Hg1.out.cell y).trans (rowI_get Hb'.out)
          have Hat := Lib.hid hat
          clear hat
          go_quiet (fail)
          clear hq0 hq1 hq2 hq3 hq4
          have hqn : Qt W1 (W1.drewN nq) := ⟨nq, rfl⟩
          generalize W1.drewN nq = W2 at hqn ⊢
          have Hp2 := Lib.hid (Hp1.out.qt hqn)
          have Hg2 := Lib.hid (Hg1.out.qt hqn)
          have Ht2 := Lib.hid (Hat.out.qt hqn)
          have hmw2 := hmw1.qt hqn
          have hmn2 := hmn1.qt hqn
          have Hb2 := Lib.hid (hqn.bl Hb1.out)
          clear Hp1 Hg1 Hat hmw1 hmn1 Hb1 hqn
          by_cases hab : a = b
          · have hbeq : (a != b) = false := by simpa using hab
            have hsame := Lib.hid (nearF_same ht.out hga.out (hab ▸ hgb.out))
            clear hab
            go_wp2_with fail
            go_roundw
            case rel => exact ⟨i + 1, nn, by omega, by go_num, Hp2.out, Hg2.out, hmw2, by rw [hsame.out]; exact hmn2, Hb2.out⟩
            case measure => simp [intOf]; omega
          · have hbeq : (a != b) = true := by simpa using hab
            have hab := Lib.hid hab
            go_wp2_with fail
            have hgkw4 := good_pair (p := (a, b)) hai hbi
            have hcpw4 : W2.cell? ⟨p, 2, none⟩ = some (.map (some rn)) := Hp2.out.cell 2
            have hczw4 : W2.cell? ⟨t, 2, none⟩ = some (.int .i64 z) := Ht2.out.cell 2
            have hvalw4 : ((nearF ns (named l) i) (a, b)).getD 0 = commonTo ns (named l) a b i := nearF_getD hNn i (p := (a, b)) hab.out
            have hlw4 : (Instr.lookup 128 (.map (some rn)) (.agg #[.int .i64 a, .int .i64 b]) false).run Try.prog W2.drew = .ok (.int .i64 (commonTo ns (named l) a b i)) W2.drew := by
              have := hmn2.drew.lookup inj_pV keyed_pair Try.underlying128 (zero_int W2.drew) hgkw4
              rw [hvalw4] at this
              exact this
            obtain ⟨w4, st, hmew4, ht4, hm4, hst4⟩ := hmn2.drew.entry_ inj_pV keyed_pair Try.underlying128 (zero_int W2.drew) hgkw4
            rw [hvalw4] at hmew4 hm4
            have hlw5 : (Instr.lookup 128 (.map (some rn)) (.agg #[.int .i64 a, .int .i64 b]) false).run Try.prog w4 = .ok (.int .i64 (commonTo ns (named l) a b i)) w4 := by
              have := hm4.lookup inj_pV keyed_pair Try.underlying128 (zero_int w4) hgkw4
              rw [show setF _ (a, b) _ (a, b) = some _ from if_pos rfl] at this
              exact this
            obtain ⟨w5, hesw5, hm5, ht5⟩ := hst4 128 w4 (commonTo ns (named l) a b i + z) rfl
            have hme' : (Instr.mapEntry 128 (.map (some rn)) (.agg #[.int .i64 a, .int .i64 b])).run Try.prog W2.drew = .ok (.tuple #[.int .i64 (commonTo ns (named l) a b i), .int .i64 st]) w4 := hmew4
            have hes' : (Instr.entryStore 128 (.map (some rn)) (.int .i64 st) (.int .i64 (commonTo ns (named l) a b i + z))).run Try.prog w4 = .ok () w5 := hesw5
            have ht45 := ht4.trans ht5
            have hnp := hmn2.bk_ne Hp2.out
            have hnt := hmn2.bk_ne Ht2.out
            have hk4 : w4.cell? ⟨p, 2, none⟩ = some (.map (some rn)) := (ht4.cell (p := ⟨p, 2, none⟩) hnp).trans hcpw4
            have hk4' : w4.cell? ⟨t, 2, none⟩ = some (.int .i64 z) := (ht4.cell (p := ⟨t, 2, none⟩) hnt).trans hczw4
            have hk5 : w5.cell? ⟨p, 2, none⟩ = some (.map (some rn)) := (ht45.cell (p := ⟨p, 2, none⟩) hnp).trans hcpw4
            have hk5' : w5.cell? ⟨t, 2, none⟩ = some (.int .i64 z) := (ht45.cell (p := ⟨t, 2, none⟩) hnt).trans hczw4
            have Hp5 := Lib.hid (ht45.bk (w := W2.drew) Hp2.out hnp)
            have Hg5 := Lib.hid (ht45.bk (w := W2.drew) Hg2.out (hmn2.bk_ne Hg2.out))
            have Ht5 := Lib.hid (ht45.bk (w := W2.drew) Ht2.out hnt)
            have hmw5 := hmw2.drew.turn ht45 hne.out.1
            have Hb5 := Lib.hid (ht45.below Hb2.out.drew hbn)
            have hmn5 := hm5
            clear hmew4 hesw5 hst4 hm5 ht4 ht5 ht45 hm4 hnp hnt hvalw4 hgkw4
            have hwrap : IntKind.i64.wrap (commonTo ns (named l) a b i + z) = commonTo ns (named l) a b i + z := IntWalk.i64_in _ (by omega)
            go_region_held3 (fun w' => w'.cell? ⟨p, 2, none⟩ = some (.map (some rn)) ∧ w'.cell? ⟨t, 2, none⟩ = some (.int .i64 z)) (go_keep) (fail)
            all_goals
              clear hwrap hme' hes' hk4 hk4' hk5 hk5' hcpw4 hczw4 hlw4 hlw5
              go_wp2_with fail
              have hgkw7 := good_pair (p := (b, a)) hbi hai
              have hcpw7 : w5.cell? ⟨p, 2, none⟩ = some (.map (some rn)) := Hp5.out.cell 2
              have hczw7 : w5.cell? ⟨t, 2, none⟩ = some (.int .i64 z) := Ht5.out.cell 2
              have hvalw7 : ((setF (nearF ns (named l) i) (a, b) (commonTo ns (named l) a b i + z)) (b, a)).getD 0 = commonTo ns (named l) b a i := (congrArg (Option.getD · 0) (if_neg (fun h => hab.out (by injection h with h1 h2)))).trans (nearF_getD hNn i (p := (b, a)) (Ne.symm hab.out))
              have hlw7 : (Instr.lookup 128 (.map (some rn)) (.agg #[.int .i64 b, .int .i64 a]) false).run Try.prog w5.drew = .ok (.int .i64 (commonTo ns (named l) b a i)) w5.drew := by
                have := hmn5.drew.lookup inj_pV keyed_pair Try.underlying128 (zero_int w5.drew) hgkw7
                rw [hvalw7] at this
                exact this
              obtain ⟨w7, st2, hmew7, ht4, hm4, hst4⟩ := hmn5.drew.entry_ inj_pV keyed_pair Try.underlying128 (zero_int w5.drew) hgkw7
              rw [hvalw7] at hmew7 hm4
              have hlw8 : (Instr.lookup 128 (.map (some rn)) (.agg #[.int .i64 b, .int .i64 a]) false).run Try.prog w7 = .ok (.int .i64 (commonTo ns (named l) b a i)) w7 := by
                have := hm4.lookup inj_pV keyed_pair Try.underlying128 (zero_int w7) hgkw7
                rw [show setF _ (b, a) _ (b, a) = some _ from if_pos rfl] at this
                exact this
              obtain ⟨w8, hesw8, hm5, ht5⟩ := hst4 128 w7 (commonTo ns (named l) b a i + z) rfl
              have hme' : (Instr.mapEntry 128 (.map (some rn)) (.agg #[.int .i64 b, .int .i64 a])).run Try.prog w5.drew = .ok (.tuple #[.int .i64 (commonTo ns (named l) b a i), .int .i64 st2]) w7 := hmew7
              have hes' : (Instr.entryStore 128 (.map (some rn)) (.int .i64 st2) (.int .i64 (commonTo ns (named l) b a i + z))).run Try.prog w7 = .ok () w8 := hesw8
              have ht45 := ht4.trans ht5
              have hnp := hmn5.bk_ne Hp5.out
              have hnt := hmn5.bk_ne Ht5.out
              have hk4 : w7.cell? ⟨p, 2, none⟩ = some (.map (some rn)) := (ht4.cell (p := ⟨p, 2, none⟩) hnp).trans hcpw7
              have hk4' : w7.cell? ⟨t, 2, none⟩ = some (.int .i64 z) := (ht4.cell (p := ⟨t, 2, none⟩) hnt).trans hczw7
              have hk5 : w8.cell? ⟨p, 2, none⟩ = some (.map (some rn)) := (ht45.cell (p := ⟨p, 2, none⟩) hnp).trans hcpw7
              have hk5' : w8.cell? ⟨t, 2, none⟩ = some (.int .i64 z) := (ht45.cell (p := ⟨t, 2, none⟩) hnt).trans hczw7
              have Hp8 := Lib.hid (ht45.bk (w := w5.drew) Hp5.out hnp)
              have Hg8 := Lib.hid (ht45.bk (w := w5.drew) Hg5.out (hmn5.bk_ne Hg5.out))
              have Ht8 := Lib.hid (ht45.bk (w := w5.drew) Ht5.out hnt)
              have hmw8 := hmw5.drew.turn ht45 hne.out.1
              have Hb8 := Lib.hid (ht45.below Hb5.out.drew hbn)
              have hmn8 := hm5
              clear hmew7 hesw8 hst4 hm5 ht4 ht5 ht45 hm4 hnp hnt hvalw7 hgkw7
              have hwrap : IntKind.i64.wrap (commonTo ns (named l) b a i + z) = commonTo ns (named l) b a i + z := IntWalk.i64_in _ (by omega)
              go_region_held3 (fun w' => w'.cell? ⟨p, 2, none⟩ = some (.map (some rn)) ∧ w'.cell? ⟨t, 2, none⟩ = some (.int .i64 z)) (go_keep) (fail)
              all_goals
                clear hwrap hme' hes' hk4 hk4' hk5 hk5' hcpw7 hczw7 hlw7 hlw8
                go_wp2_with fail
                go_roundw
                case rel => exact ⟨i + 1, _, by omega, by go_num, Hp8.out, Hg8.out, hmw8, by rw [nearF_step hNn ht.out hga.out hgb.out hab.out]; exact hmn8, Hb8.out⟩
                case measure => simp [intOf]; omega
        · obtain rfl : i = ns.length := by omega
          go_wp2
          go_ret
          exact ⟨p, g, rw, rn, ws.length, rfl, ⟨by rw [named_len, Hl.out]; exact hp, hg, ⟨fw, nw, hmw, fun y => by rw [hfw.out y, weight, named_len]⟩, ⟨nn, hmn⟩, hne.out.1, hbp, hbg, hbw, hbn⟩, hb⟩
end Go.Proofs.Ytmdgdphhedgojaa

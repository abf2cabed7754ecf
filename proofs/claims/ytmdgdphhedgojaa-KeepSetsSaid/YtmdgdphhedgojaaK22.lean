import Derived.Test.YtmdgdphhedgojaaK21
import Derived.Test.YtmdgdphhedgojaaK24
import Derived.Deep.DeepCutAuto
namespace Go.Proofs.Ytmdgdphhedgojaa
open Go.RowKit Go.Maps

/-- From block z on only block p, and rows of parts, have turned. -/
structure Ch (z p : Nat) (w W : World) : Prop where
  size : w.heap.size ≤ W.heap.size
  block : ∀ k, z ≤ k → k < w.heap.size → k ≠ p → (∀ cs fr, w.heap[k]? ≠ some (.cells cs 76 fr)) → W.heap[k]? = w.heap[k]?
theorem Ch.trans {z p : Nat} {u v w : World} (h : Ch z p u v) (k : Ch z p v w) : Ch z p u w := ⟨Nat.le_trans h.size k.size, fun i hz hi hp hn => by
  have e := h.block i hz hi hp hn
  rw [← e]
  exact k.block i hz (Nat.lt_of_lt_of_le hi h.size) hp (fun cs fr hc => hn cs fr (e ▸ hc))⟩
theorem Ch.of_grown {z p : Nat} {w W : World} (h : w.grownBy W (some p)) : Ch z p w W := ⟨h.size, fun k _ hk hp _ => h.block k hk (fun e => hp (by injection e))⟩
theorem Ch.of_row {z p base size n : Nat} {w W : World} {v : Value} {xs : List Value} (ho : w.ownsRow base 76 size v n xs) (h : w.grownBy W v.ownBlock) : Ch z p w W := ⟨h.size, fun k _ hk _ hn => h.block k hk (fun e => by
  rcases ho.2 with ⟨rfl, _⟩ | ⟨g, cap, cur, rfl, _, hg, _⟩
  · simp [Value.ownBlock] at e
  · obtain rfl : k = g := by simpa [Value.ownBlock] using e
    exact hn _ _ hg)⟩
theorem own_ch {w W : World} {z p base size n : Nat} {e : TypeId} {v : Value} {xs : List Value} {cs : Array Value} (h : w.ownsRow base e size v n xs) (hz : z ≤ base) (hp : Bk w p 70 cs) (he : e ≠ 70) (he2 : e ≠ 76) (hW : Ch z p w W) : W.ownsRow base e size v n xs := by
  have hne := hp.ne_own h he
  refine ⟨h.1, ?_⟩
  rcases h.2 with hn | ⟨g, cap, cur, hv, h1, hgg, rest⟩
  · exact .inl hn
  · refine .inr ⟨g, cap, cur, hv, h1, (hW.block g (Nat.le_trans hz h1) (Array.getElem?_eq_some_iff.1 hgg).1 ?_ ?_).trans hgg, rest⟩
    · rintro rfl
      rw [hv] at hne
      simp [Value.ownBlock] at hne
    · intro cs fr hc
      rw [hgg] at hc
      injection hc with hc
      injection hc with _ ht
      exact he2 ht
theorem LLB.ch {w W : World} {z p b : Nat} {cs : Array Value} {vs : List Value} {ls : List (List Int)} (h : LLB w b vs ls) (hz : z ≤ b) (hp : Bk w p 70 cs) (hW : Ch z p w W) : LLB W b vs ls := ⟨h.len, fun j v l hv hl => by
  obtain ⟨g, e, hg, hb⟩ := h.el j v l hv hl
  refine ⟨g, e, (hW.block g (Nat.le_trans hz hb) hg.lt (Bk.ne_ hg hp (by decide)) (fun cs fr hc => ?_)).trans hg, hb⟩
  unfold Bk at hg
  rw [hg] at hc
  injection hc with hc
  injection hc with _ ht
  exact absurd ht (by decide)⟩
/-- The worlds in which what was laid stands. -/
def Rc (F : Nat → Prop) (w w7 : World) (b7 p : Nat) (wr W : World) : Prop := Kf F w W ∧ Up b7 w7 W ∧ Ch w.heap.size p wr W
theorem Rc.imp {F : Nat → Prop} {w w7 wr wx W : World} {b7 p : Nat} (h : Rc F w w7 b7 p wx W) (k : Ch w.heap.size p wr wx) : Rc F w w7 b7 p wr W := ⟨h.1, h.2.1, k.trans h.2.2⟩
/-- The parts with their groups, by the values of a row. -/
def VR (Φ : World → Prop) (vs : List Value) (ds : List (List Int × List Int × List (Int × Int × Int))) (ls : List Int) : Prop :=
  vs.length = ds.length * 4 ∧ ∀ j d, ds[j]? = some d → ∃ F f U u N n G g, vs[j * 4]? = some (Value.slice F d.1.length f) ∧ vs[j * 4 + 1]? = some (Value.slice U d.2.1.length u) ∧ vs[j * 4 + 2]? = some (Value.slice N d.2.2.length n) ∧ vs[j * 4 + 3]? = some (Value.slice G ls.length g) ∧
    ∀ W, Φ W → SI W F d.1 ∧ SI W U d.2.1 ∧ ST W N d.2.2 ∧ SLL W G (PD ls d)
theorem VR.imp {Φ Φ' : World → Prop} {vs : List Value} {ds : List (List Int × List Int × List (Int × Int × Int))} {ls : List Int} (h : VR Φ vs ds ls) (hb : ∀ W, Φ' W → Φ W) : VR Φ' vs ds ls := by
  obtain ⟨h2, h3⟩ := h
  refine ⟨h2, fun j d hd => ?_⟩
  obtain ⟨F, f, U, u, N, n, G, g, c1, c2, c3, c4, s1⟩ := h3 j d hd
  exact ⟨F, f, U, u, N, n, G, g, c1, c2, c3, c4, fun W hW => s1 W (hb W hW)⟩
theorem VR.snoc {Φ : World → Prop} {vs : List Value} {ds : List (List Int × List Int × List (Int × Int × Int))} {ls : List Int} (h : VR Φ vs ds ls) {d : List Int × List Int × List (Int × Int × Int)} {F U N G : Option Addr} {f u n g : Nat}
    (hs : ∀ W, Φ W → SI W F d.1 ∧ SI W U d.2.1 ∧ ST W N d.2.2 ∧ SLL W G (PD ls d)) : VR Φ (vs ++ [.slice F d.1.length f, .slice U d.2.1.length u, .slice N d.2.2.length n, .slice G ls.length g]) (ds ++ [d]) ls := by
  obtain ⟨h2, h3⟩ := h
  refine ⟨by simp; omega, fun j e he => ?_⟩
  rcases snoc_get he with ⟨he, hj⟩ | ⟨hj, rfl⟩
  · obtain ⟨F, f, U, u, N, n, G, g, c1, c2, c3, c4, s1⟩ := h3 j e he
    refine ⟨F, f, U, u, N, n, G, g, ?_, ?_, ?_, ?_, s1⟩ <;> rw [List.getElem?_append_left (by omega)] <;> assumption
  · subst hj
    refine ⟨F, f, U, u, N, n, G, g, ?_, ?_, ?_, ?_, hs⟩ <;> rw [List.getElem?_append_right (by omega), h2]
    · simp
    · rw [show ds.length * 4 + 1 - ds.length * 4 = 1 by omega]; rfl
    · rw [show ds.length * 4 + 2 - ds.length * 4 = 2 by omega]; rfl
    · rw [show ds.length * 4 + 3 - ds.length * 4 = 3 by omega]; rfl
theorem VR.nil (Φ : World → Prop) (ls : List Int) : VR Φ [] [] ls := ⟨rfl, fun j d h => by simp at h⟩
theorem PR.get2 {w X : World} {b' : Nat} {A : Option Addr} {ds : List (List Int × List Int × List (Int × Int × Int))} {k : Nat} (h : PR w b' A ds) (hX : Up b' w X) (hk : k < ds.length) :
    ∃ b o F f U u N n Fl Wl Nl, A = some ⟨b, o, none⟩ ∧ X.cell? ⟨b, o + k * 3, none⟩ = some (Value.slice F (Fl : List Int).length f) ∧ X.cell? ⟨b, o + k * 3 + 1, none⟩ = some (Value.slice U (Wl : List Int).length u) ∧ X.cell? ⟨b, o + k * 3 + 2, none⟩ = some (Value.slice N (Nl : List (Int × Int × Int)).length n) ∧
      (∀ W, Up b' w W → SI W F Fl ∧ SI W U Wl ∧ ST W N Nl) ∧ Hid (ds[k]? = some (Fl, Wl, Nl)) := by
  obtain ⟨vs, h1, h2, h3⟩ := h
  have hn : ds[k]? = some ds[k] := List.getElem?_eq_getElem hk
  obtain ⟨F, f, U, u, N, n, c1, c2, c3, s1⟩ := h3 k _ hn
  have h1 := h1 X hX
  obtain ⟨b, o, e0, hbl, k1⟩ := h1 _ _ c1
  subst e0
  have k2 := SL.two h1 c1 c2
  have k3 := SL.two h1 c1 c3
  rw [← Nat.add_assoc] at k2 k3
  exact ⟨b, o, F, f, U, u, N, n, _, _, _, rfl, k1, k2, k3, s1, hn⟩
theorem grown_set (w : World) (p i : Nat) (u : Value) : w.grownBy (w.setCell ⟨p, i, none⟩ u) (some p) := ⟨rfl, rfl, rfl, by simp [World.setCell], fun k _ hne => Below.heap_setCell w _ u k (fun e => hne (by rw [e]))⟩
/-- What stands while the parts are laid. -/
structure LB (F : Nat → Prop) (w W w7 : World) (p M b7 : Nat) (cC cA cB v : Value) (vs : List Value) (ls : List Int) (ds ds' : List (List Int × List Int × List (Int × Int × Int))) (k : Nat) (work : Int) (f : ByteArray → Option Value) (kn : Nat) : Prop where
  bp : Bk W p 70 #[cC, cA, cB, v, .int .i64 (work + incD (newsD ds (ds'.take k)))]
  o : W.ownsRow w7.heap.size 76 4 v k vs
  vr : VR (Rc F w w7 b7 p W) vs (ds'.take k) ls
  m : MapF sV id Try.prog 9 W M f kn
  g : w7.grownBy W (some p)
theorem newsD_len (ds l : List (List Int × List Int × List (Int × Int × Int))) : (newsD ds l).length ≤ l.length := List.length_filter_le _ _
theorem incD_bd {l : List (List Int × List Int × List (Int × Int × Int))} (h : ∀ d ∈ l, d.1.length ≤ 4096) : 0 ≤ incD l ∧ incD l ≤ 4096 * l.length := by
  induction l with
  | nil => simp [incD]
  | cons d l ih =>
    have h1 := ih (fun e he => h e (by simp [he]))
    have h2 := h d (by simp)
    have e : incD (d :: l) = d.1.length + incD l := by simp [incD]
    rw [e, List.length_cons]
    omega

/-- What stands while the map is made. -/
def LA (w W : World) (F : Nat → Prop) (M : Nat) (ls : List Int) (ds : List (List Int × List Int × List (Int × Int × Int))) (k : Nat) : Prop := ∃ (f : ByteArray → Option Value) (kn : Nat), OM w F ls ds k f ∧ MapF sV id Try.prog 9 W M f kn

set_option linter.unusedSimpArgs false in
set_option maxHeartbeats 8000000 in
set_option maxRecDepth 100000 in
theorem set_any (p : Nat) (Ft : Nat → Prop) (A B : Option Addr) (a b : Nat) (ls ws ws' : List Int) (ns ns' : List (Int × Int × Int)) (work : Int) (w : World) (h : KP w p Ft ls ws ns work) (hA : ∀ W, w.grownBy W (some p) → SI W A ws') (hB : ∀ W, w.grownBy W (some p) → ST W B ns')
   (hl1 : ws'.length ≤ 4611686018427387904) (hl2 : ns'.length ≤ 4611686018427387904) (hw : 0 ≤ work ∧ work ≤ 1000000000000) :
    Calls Try.prog 13 #[.pointer (some ⟨p, 0, none⟩), .agg #[.slice A ws'.length a, .slice B ns'.length b]] w fun e w' =>
      (validE ws' ns' ≠ 0 → e = .returned (.tuple #[.int .i64 0, .int .i64 (validE ws' ns')]) ∧ KP w' p Ft ls ws ns work ∧ Below w.heap.size w w') ∧
      (validE ws' ns' = 0 → e = .returned (.tuple #[.int .i64 (newsD (partsD ws ns) (partsD ws' ns')).length, .int .i64 0]) ∧ w.grownBy w' (some p) ∧ ∃ F', KP w' p F' ls ws' ns' (work + incD (newsD (partsD ws ns) (partsD ws' ns'))) ∧ ∀ k, F' k → Ft k ∨ w.heap.size ≤ k) := by
  have HKP := Lib.hid h
  have HA := Lib.hid hA
  have HB := Lib.hid hB
  clear h hA hB
  have hb0 := (Below.refl w.heap.size w).alloc (Nat.le_refl _) (.cells #[.slice A ws'.length a, .slice B ns'.length b] 36)
  have hbk0 := Bk.new w 36 #[.slice A ws'.length a, .slice B ns'.length b]
  have hq0 : (w.alloc (.cells #[.slice A ws'.length a, .slice B ns'.length b] 36)).cell? ⟨w.heap.size, 0, none⟩ = some (.slice A ws'.length a) := hbk0.cell 0
  have hq1 : (w.alloc (.cells #[.slice A ws'.length a, .slice B ns'.length b] 36)).cell? ⟨w.heap.size, 1, none⟩ = some (.slice B ns'.length b) := hbk0.cell 1
  have Hb0 := Lib.hid hb0
  have Hbk0 := Lib.hid hbk0
  clear hb0 hbk0
  go_enter Try.func13, Try.ntmps13
  go_wp2_with fail
  clear hq0 hq1
  refine (valid_any A B a b ws' ns' _ (HA.out _ (grown_of_below Hb0.out _)) (HB.out _ (grown_of_below Hb0.out _)) hl1 hl2).mono ?_
  rintro e w1 ⟨rfl, hb1⟩
  have Hbk1 := Lib.hid (Hbk0.out.below hb1 Hbk0.out.lt)
  have Hb1 := Lib.hid (Hb0.out.trans (hb1.mono Hb0.out.size))
  clear hb1 Hb0 Hbk0
  by_cases hv : validE ws' ns' = 0
  · rw [hv]
    have Hv := Lib.hid hv
    have hG := validE_good hv
    obtain ⟨hok, hth, hnp, hfl, C, c, A0, a0, B0, b0, D, d, h3, h4', h5⟩ := HKP.out
    have h4 : ∀ W, w.grownBy W (some p) → SI W C ls ∧ SI W A0 ws ∧ ST W B0 ns := fun W hW => h4' W (Kf.of_grown hnp hW)
    have H4' := Lib.hid h4'
    have Hnp := Lib.hid (And.intro hnp hfl)
    have hls := thrE_good hth
    have hpl := h3.lt
    have hIB : Hid (∀ (j : Nat) e, (partsD ws ns)[j]? = some e → IB e) := fun j e he => partsD_ib hok he
    have hIB' : Hid (∀ (j : Nat) e, (partsD ws' ns')[j]? = some e → IB e) := fun j e he => partsD_ib hv he
    have hVD' : Hid (∀ (j : Nat) e, (partsD ws' ns')[j]? = some e → validE e.2.1 e.2.2 = 0) := fun j e he => partsD_valid hv he
    have hdl : (partsD ws ns).length ≤ 4096 := by rw [partsD, partsO, List.length_map]; have := rts_len (comp ns ws.length) ws.length; have := (validE_good hok).1; omega
    have hdl' : (partsD ws' ns').length ≤ 4096 := by rw [partsD, partsO, List.length_map]; have := rts_len (comp ns' ws'.length) ws'.length; omega
    obtain ⟨ds, hds⟩ : ∃ ds, Hid (partsD ws ns = ds) := ⟨_, Lib.hid rfl⟩
    obtain ⟨ds', hds'⟩ : ∃ ds', Hid (partsD ws' ns' = ds') := ⟨_, Lib.hid rfl⟩
    rw [hds.out] at h3 h5 hIB hdl
    rw [hds'.out] at hIB' hVD' hdl'
    have H3 := Lib.hid h3
    have H4 := Lib.hid h4
    have H5 := Lib.hid h5
    have Hth := Lib.hid (And.intro hok hth)
    have hq3 : (w1.alloc (.map #[] 0)).cell? ⟨p, 3, none⟩ = some (.slice D ds.length d) := ((h3.below Hb1.out hpl).alloc _).cell 3
    have hmm := @run_makeMap Try.prog
    clear hv h3 h4 h4' h5 hok hth HKP hnp hfl
    go_wp2_with fail
    have Hm0 := Lib.hid (MapF.new sV id Try.prog 9 w1)
    have Hbk2 := Lib.hid (Hbk1.out.alloc (.map #[] 0))
    have Hb2 := Lib.hid (Hb1.out.alloc Hb1.out.size (.map #[] 0))
    have hMs : w.heap.size < w1.heap.size := Hbk1.out.lt
    clear hq3 hmm Hbk1 Hb1
    generalize w1.alloc (.map #[] 0) = W1 at *
    generalize w1.heap.size = M at *
    obtain ⟨S, hS⟩ : ∃ S, w.heap.size = S := ⟨_, rfl⟩
    rw [hS] at Hbk2 Hb2 hMs hpl
    go_loopw [28] (fun i wr => ∃ (k : Nat), k ≤ ds.length ∧ i = .int .i64 k ∧ LA w wr Ft M ls ds k ∧ Bk wr S 36 #[.slice A ws'.length a, .slice B ns'.length b] ∧ Below S w wr) (fun i _ => ds.length - (intOf i).toNat)
    case atStart => exact ⟨0, by omega, by rfl, ⟨_, _, OM.nil _ _ _ _, Hm0.out⟩, Hbk2.out, Hb2.out⟩
    case round =>
      clear Hm0 Hbk2 Hb2
      obtain ⟨k, hk, rfl, ⟨f, kn, hOM, hm⟩, hbk, hb⟩ := hrel
      have HOM := Lib.hid hOM
      have Hm := Lib.hid hm
      have Hbk := Lib.hid hbk
      have Hb := Lib.hid hb
      clear hOM hm hbk
      by_cases hlt : k < ds.length
      · obtain ⟨bb, o, F, f1, U, u1, N, n1, G, g1, Fl, Wl, Nl, rfl, k1, k2, k3, k4, s1, hd, hbl⟩ := H5.out.get hlt
        have k1 := (hb.cell (p := ⟨bb, o + k * 4, none⟩) (hS ▸ hbl)).trans k1
        have k2 := (hb.cell (p := ⟨bb, o + k * 4 + 1, none⟩) (hS ▸ hbl)).trans k2
        have k3 := (hb.cell (p := ⟨bb, o + k * 4 + 2, none⟩) (hS ▸ hbl)).trans k3
        have k4 := (hb.cell (p := ⟨bb, o + k * 4 + 3, none⟩) (hS ▸ hbl)).trans k4
        have hI := hIB.out k _ hd.out
        have HI := Lib.hid hI
        have Hs1f := Lib.hid s1
        have Hs1 := Lib.hid (fun (W : World) (hW : w.grownBy W (some p)) => s1 W (Kf.of_grown Hnp.out.1 hW))
        have hTz : S < wr.heap.size := Hbk.out.lt
        have hTM : M ≠ wr.heap.size := by have := Hm.out.lt; omega
        clear hb s1 hI
        go_wp2_with fail
        clear k1 k2 k3 k4
        have Hb1 := Lib.hid (Hb.out.alloc (by omega) (.cells #[.slice F Fl.length f1, .slice U Wl.length u1, .slice N Nl.length n1, .slice G ls.length g1] 76))
        have Hm1 := Lib.hid (Hm.out.alloc (.cells #[.slice F Fl.length f1, .slice U Wl.length u1, .slice N Nl.length n1, .slice G ls.length g1] 76))
        have Hbk1 := Lib.hid (Hbk.out.alloc (.cells #[.slice F Fl.length f1, .slice U Wl.length u1, .slice N Nl.length n1, .slice G ls.length g1] 76))
        have HT1 := Lib.hid (Bk.new wr 76 #[.slice F Fl.length f1, .slice U Wl.length u1, .slice N Nl.length n1, .slice G ls.length g1])
        have hgw : w.grownBy (wr.alloc (.cells #[.slice F Fl.length f1, .slice U Wl.length u1, .slice N Nl.length n1, .slice G ls.length g1] 76)).drew (some p) := grown_of_below (by rw [hS]; exact Hb1.out.drew) _
        have hI1 : Wl.length ≤ 5000 := HI.out.2.2.1
        have hI2 : Nl.length ≤ 16384 := HI.out.2.2.2.1
        clear Hb Hm Hbk
        generalize hW2 : wr.alloc (.cells #[.slice F Fl.length f1, .slice U Wl.length u1, .slice N Nl.length n1, .slice G ls.length g1] 76) = W2 at *
        clear hW2
        generalize wr.heap.size = T at *
        have HS0 := Lib.hid (And.intro (show W2.drew.cell? ⟨T, 0, none⟩ = some (.slice F Fl.length f1) from HT1.out.cell 0) (And.intro (show W2.drew.cell? ⟨T, 1, none⟩ = some (.slice U Wl.length u1) from HT1.out.cell 1) (And.intro (show W2.drew.cell? ⟨T, 2, none⟩ = some (.slice N Nl.length n1) from HT1.out.cell 2) (show W2.drew.cell? ⟨T, 3, none⟩ = some (.slice G ls.length g1) from HT1.out.cell 3))))
        obtain ⟨KB, hKB⟩ : ∃ KB, Hid (keyB Wl Nl = KB) := ⟨_, Lib.hid rfl⟩
        have hgK : Good Try.prog 9 (sV KB) := by rw [← hKB.out]; exact good_str (key_size (d := (Fl, Wl, Nl)) HI.out)
        refine wp_region_noPanic ?_
        refine region_H (S := fun W => W.cell? ⟨T, 0, none⟩ = some (.slice F Fl.length f1) ∧ W.cell? ⟨T, 1, none⟩ = some (.slice U Wl.length u1) ∧ W.cell? ⟨T, 2, none⟩ = some (.slice N Nl.length n1) ∧ W.cell? ⟨T, 3, none⟩ = some (.slice G ls.length g1)) (by kernel_rfl) ?_
        change wpH _ _ _ _ 7 _ _ W2.drew
        refine H_takeD (k := 0) (v := .map (some M)) (d := some 32) rfl rfl (by decide +kernel) (fun _ _ _ h => h) (Or.inl ⟨by rfl, fun W hW => by obtain ⟨s0, s1, s2, s3⟩ := hW; go_simp⟩) HS0.out ?_
        try simp only [Act.put, List.setIfInBounds_toArray, List.set_cons_zero, List.set_cons_succ]
        refine H_takeD (k := 1) (v := .pointer (some ⟨T, 0, none⟩)) (d := some 33) rfl rfl (by decide +kernel) (fun _ _ _ h => h) (Or.inl ⟨by rfl, fun W hW => by obtain ⟨s0, s1, s2, s3⟩ := hW; go_simp⟩) HS0.out ?_
        try simp only [Act.put, List.setIfInBounds_toArray, List.set_cons_zero, List.set_cons_succ]
        refine H_takeD (k := 2) (v := .agg #[.slice F Fl.length f1, .slice U Wl.length u1, .slice N Nl.length n1]) (d := some 34) rfl rfl (by decide +kernel) (fun _ _ _ h => h) (Or.inl ⟨by rfl, fun W hW => by obtain ⟨s0, s1, s2, s3⟩ := hW; go_simp⟩) HS0.out ?_
        try simp only [Act.put, List.setIfInBounds_toArray, List.set_cons_zero, List.set_cons_succ]
        refine H_takeD (k := 4) (v := .pointer (some ⟨T, 3, none⟩)) (d := some 36) rfl rfl (by decide +kernel) (fun _ _ _ h => h) (Or.inl ⟨by rfl, fun W hW => by obtain ⟨s0, s1, s2, s3⟩ := hW; go_simp⟩) HS0.out ?_
        try simp only [Act.put, List.setIfInBounds_toArray, List.set_cons_zero, List.set_cons_succ]
        refine H_takeD (k := 5) (v := .slice G ls.length g1) (d := some 37) rfl rfl (by decide +kernel) (fun _ _ _ h => h) (Or.inl ⟨by rfl, fun W hW => by obtain ⟨s0, s1, s2, s3⟩ := hW; go_simp⟩) HS0.out ?_
        try simp only [Act.put, List.setIfInBounds_toArray, List.set_cons_zero, List.set_cons_succ]
        refine H_one (i := 3) (by decide +kernel) (H_step rfl rfl (fun K hK5 => ?_))
        have hK5 := Lib.hid hK5
        go_simp
        go_at_call 34
        refine (key_any F U N Fl.length f1 u1 n1 Wl Nl W2.drew (Hs1.out _ hgw).2.1 (Hs1.out _ hgw).2.2.1 HI.out.1 HI.out.2.1 (by omega) (by omega)).mono ?_
        rintro e w2 ⟨he, hb2⟩
        rw [hKB.out] at he
        subst he
        have Hb2 := Lib.hid ((show Below S w W2.drew from Hb1.out.drew).trans (hb2.mono (show S ≤ W2.heap.size by have := Hbk1.out.lt; omega)))
        have Hm2 := Lib.hid ((show MapF sV id Try.prog 9 W2.drew M f kn from Hm1.out).below hb2 Hm1.out.lt)
        have Hbk2 := Lib.hid ((show Bk W2.drew S _ _ from Hbk1.out).below hb2 Hbk1.out.lt)
        have HT2 := Lib.hid ((show Bk W2.drew T _ _ from HT1.out).below hb2 HT1.out.lt)
        have HS1 := Lib.hid (And.intro (show w2.cell? ⟨T, 0, none⟩ = some (.slice F Fl.length f1) from HT2.out.cell 0) (And.intro (show w2.cell? ⟨T, 1, none⟩ = some (.slice U Wl.length u1) from HT2.out.cell 1) (And.intro (show w2.cell? ⟨T, 2, none⟩ = some (.slice N Nl.length n1) from HT2.out.cell 2) (show w2.cell? ⟨T, 3, none⟩ = some (.slice G ls.length g1) from HT2.out.cell 3))))
        obtain ⟨w3, hup, hm3, ht3⟩ := Hm2.out.update inj_sV keyed_str Try.underlying72 hgK (.slice G ls.length g1)
        have hup' : (Instr.mapUpdate 72 (.map (some M)) (.string KB) (.slice G ls.length g1)).run Try.prog w2 = .ok () w3 := hup
        have Hm3 := Lib.hid hm3
        have Ht3 := Lib.hid ht3
        have HT3 := Lib.hid (ht3.bk HT2.out (Ne.symm hTM))
        have HS2 := Lib.hid (And.intro (show w3.cell? ⟨T, 0, none⟩ = some (.slice F Fl.length f1) from HT3.out.cell 0) (And.intro (show w3.cell? ⟨T, 1, none⟩ = some (.slice U Wl.length u1) from HT3.out.cell 1) (And.intro (show w3.cell? ⟨T, 2, none⟩ = some (.slice N Nl.length n1) from HT3.out.cell 2) (show w3.cell? ⟨T, 3, none⟩ = some (.slice G ls.length g1) from HT3.out.cell 3))))
        clear hb2 hup hm3 ht3
        refine hK5.out _ _ HS1.out ?_
        try simp only [Act.put, List.setIfInBounds_toArray, List.set_cons_zero, List.set_cons_succ]
        refine H_one (i := 6) (by decide +kernel) (H_step rfl rfl (fun K hK6 => ?_))
        have hK6 := Lib.hid hK6
        go_simp
        refine hK6.out _ _ HS2.out ?_
        try simp only [Act.put, List.setIfInBounds_toArray, List.set_cons_zero, List.set_cons_succ]
        refine H_end (by decide +kernel) (NoPanic.normal ?_)
        try simp only [Act.put, List.setIfInBounds_toArray, List.set_cons_zero, List.set_cons_succ]
        clear hK5 hK6 HS0 HS1 HS2
        have hOM2 := HOM.out.put hd.out (G := G) (g := g1) (fun W hW => (Hs1f.out W hW).2.2.2)
        have HOM2 := Lib.hid hOM2
        have Hm4 := Lib.hid (show MapF sV id Try.prog 9 w3 M (setF f (keyB Wl Nl) (.slice G ls.length g1)) _ from hKB.out.symm ▸ Hm3.out)
        have Hbk4 := Lib.hid (Ht3.out.bk Hbk2.out (by omega))
        have Hb4 := Lib.hid (Ht3.out.below Hb2.out (by omega))
        clear hOM2 HOM Hm2 Hbk2 Hb2 HT2 HT3 HT1 Hm1 Hbk1 Hb1 hup' hgw Hm3
        go_wp2_with fail
        go_roundw
        case rel => exact ⟨k + 1, by omega, by go_num, ⟨_, _, HOM2.out, Hm4.out⟩, Hbk4.out, Hb4.out⟩
        case measure => simp [intOf]; omega
      · obtain rfl : k = ds.length := by omega
        have hp1 := (H3.out.below (hS.symm ▸ hb) (by omega))
        have Hp1 := Lib.hid hp1
        have hgw := grown_of_below (show Below w.heap.size w wr from hS.symm ▸ hb) (some p)
        have Hgw := Lib.hid hgw
        have hpS : p ≠ S := by omega
        have hpM : p ≠ M := by omega
        clear hp1 hgw hb
        go_wp2_with fail
        have HS0 := Lib.hid (And.intro (show wr.drew.cell? ⟨S, 0, none⟩ = some (.slice A ws'.length a) from Hbk.out.cell 0) (show wr.drew.cell? ⟨S, 1, none⟩ = some (.slice B ns'.length b) from Hbk.out.cell 1))
        have hdr : w.grownBy wr.drew (some p) := Hgw.out.trans (grown_of_below ((Below.refl _ _).drew) _)
        have Hdr := Lib.hid hdr
        clear hdr
        rw [hS]
        have HSz := Lib.hid hS
        clear hS
        refine wp_region_noPanic ?_
        refine region_H (S := fun W => W.cell? ⟨S, 0, none⟩ = some (.slice A ws'.length a) ∧ W.cell? ⟨S, 1, none⟩ = some (.slice B ns'.length b)) (by kernel_rfl) ?_
        change wpH _ _ _ _ 11 _ _ wr.drew
        refine H_takeD (k := 0) (v := .pointer (some ⟨p, 0, none⟩)) (d := some 39) rfl rfl (by decide +kernel) (fun _ _ _ h => h) (Or.inl ⟨by rfl, fun W hW => by obtain ⟨s0, s1⟩ := hW; go_simp⟩) HS0.out ?_
        try simp only [Act.put, List.setIfInBounds_toArray, List.set_cons_zero, List.set_cons_succ]
        refine H_takeD (k := 1) (v := .pointer (some ⟨S, 0, none⟩)) (d := some 40) rfl rfl (by decide +kernel) (fun _ _ _ h => h) (Or.inl ⟨by rfl, fun W hW => by obtain ⟨s0, s1⟩ := hW; go_simp⟩) HS0.out ?_
        try simp only [Act.put, List.setIfInBounds_toArray, List.set_cons_zero, List.set_cons_succ]
        refine H_takeD (k := 2) (v := .slice A ws'.length a) (d := some 41) rfl rfl (by decide +kernel) (fun _ _ _ h => h) (Or.inl ⟨by rfl, fun W hW => by obtain ⟨s0, s1⟩ := hW; go_simp⟩) HS0.out ?_
        try simp only [Act.put, List.setIfInBounds_toArray, List.set_cons_zero, List.set_cons_succ]
        refine H_takeD (k := 4) (v := .pointer (some ⟨S, 1, none⟩)) (d := some 43) rfl rfl (by decide +kernel) (fun _ _ _ h => h) (Or.inl ⟨by rfl, fun W hW => by obtain ⟨s0, s1⟩ := hW; go_simp⟩) HS0.out ?_
        try simp only [Act.put, List.setIfInBounds_toArray, List.set_cons_zero, List.set_cons_succ]
        refine H_takeD (k := 5) (v := .slice B ns'.length b) (d := some 44) rfl rfl (by decide +kernel) (fun _ _ _ h => h) (Or.inl ⟨by rfl, fun W hW => by obtain ⟨s0, s1⟩ := hW; go_simp⟩) HS0.out ?_
        try simp only [Act.put, List.setIfInBounds_toArray, List.set_cons_zero, List.set_cons_succ]
        refine H_one (i := 3) (by decide +kernel) (H_step rfl rfl (fun K hK5 => ?_))
        have hK5 := Lib.hid hK5
        go_simp
        go_at_call 32
        refine (cloneI_any A a ws' wr.drew (HA.out _ Hdr.out) (by omega)).mono ?_
        rintro e w3 ⟨v, rfl, hown3, hb3⟩
        obtain ⟨A1, a1, rfl⟩ := own_slice hown3
        have Hown3 := Lib.hid hown3
        have Hb3 := Lib.hid hb3
        have HS1 := Lib.hid (And.intro (show w3.cell? ⟨S, 0, none⟩ = some (.slice A ws'.length a) from (hb3.cell (p := ⟨S, 0, none⟩) Hbk.out.lt).trans HS0.out.1) (show w3.cell? ⟨S, 1, none⟩ = some (.slice B ns'.length b) from (hb3.cell (p := ⟨S, 1, none⟩) Hbk.out.lt).trans HS0.out.2))
        clear hown3 hb3
        refine hK5.out _ _ HS1.out ?_
        try simp only [Act.put, List.setIfInBounds_toArray, List.set_cons_zero, List.set_cons_succ]
        refine H_one (i := 6) (by decide +kernel) (H_step rfl rfl (fun K hK6 => ?_))
        have hK6 := Lib.hid hK6
        go_simp
        go_at_call 35
        refine (cloneT_any B b ns' w3 (HB.out _ (Hdr.out.trans (grown_of_below Hb3.out _))) (by omega)).mono ?_
        rintro e w4 ⟨v, rfl, hown4, hb4⟩
        obtain ⟨B1, b1, rfl⟩ := own_slice hown4
        have Hb4 := Lib.hid (Hb3.out.trans (hb4.mono Hb3.out.size))
        have Hown4 := Lib.hid (own_mono hown4 Hb3.out.size)
        have Hown3b := Lib.hid (own_below Hown3.out hb4)
        have HbkS := Lib.hid ((show Bk wr.drew S _ _ from Hbk.out).below Hb4.out Hbk.out.lt)
        have Hp4 := Lib.hid ((show Bk wr.drew p _ _ from Hp1.out).below Hb4.out Hp1.out.lt)
        have HS2 := Lib.hid (And.intro (show w4.cell? ⟨S, 0, none⟩ = some (.slice A ws'.length a) from HbkS.out.cell 0) (show w4.cell? ⟨S, 1, none⟩ = some (.slice B ns'.length b) from HbkS.out.cell 1))
        have q1 : w4.cell? ⟨p, 1, none⟩ = some (.slice A0 ws.length a0) := Hp4.out.cell 1
        have q2 : w4.cell? ⟨p, 2, none⟩ = some (.slice B0 ns.length b0) := Hp4.out.cell 2
        have q3 := Hp4.out.frozen 1
        have q4 := Hp4.out.frozen 2
        clear hown4 hb4
        refine hK6.out _ _ HS2.out ?_
        try simp only [Act.put, List.setIfInBounds_toArray, List.set_cons_zero, List.set_cons_succ]
        refine H_takeD (k := 7) (v := .agg #[.slice A1 ws'.length a1, .slice B1 ns'.length b1]) (d := some 46) rfl rfl (by decide +kernel) (fun _ _ _ h => h) (Or.inl ⟨by rfl, fun W hW => by obtain ⟨s0, s1⟩ := hW; go_simp⟩) HS2.out ?_
        try simp only [Act.put, List.setIfInBounds_toArray, List.set_cons_zero, List.set_cons_succ]
        refine H_takeD (k := 8) (v := .pointer (some ⟨p, 0, none⟩)) (d := some 47) rfl rfl (by decide +kernel) (fun _ _ _ h => h) (Or.inl ⟨by rfl, fun W hW => by obtain ⟨s0, s1⟩ := hW; go_simp⟩) HS2.out ?_
        try simp only [Act.put, List.setIfInBounds_toArray, List.set_cons_zero, List.set_cons_succ]
        refine H_takeD (k := 9) (v := .pointer (some ⟨p, 1, none⟩)) (d := some 48) rfl rfl (by decide +kernel) (fun _ _ _ h => h) (Or.inl ⟨by rfl, fun W hW => by obtain ⟨s0, s1⟩ := hW; go_simp⟩) HS2.out ?_
        try simp only [Act.put, List.setIfInBounds_toArray, List.set_cons_zero, List.set_cons_succ]
        refine H_one (i := 10) (by decide +kernel) (H_step rfl rfl (fun K hK10 => ?_))
        have hK10 := Lib.hid hK10
        go_simp
        have Hp5 := Lib.hid ((Hp4.out.set_ 1 (.slice A1 ws'.length a1)).set_ 2 (.slice B1 ns'.length b1))
        have HbS5 := Lib.hid ((HbkS.out.far (p := ⟨p, 1, none⟩) (Ne.symm hpS) (.slice A1 ws'.length a1)).far (p := ⟨p, 2, none⟩) (Ne.symm hpS) (.slice B1 ns'.length b1))
        have HS3 := Lib.hid (And.intro (show ((w4.setCell ⟨p, 1, none⟩ (.slice A1 ws'.length a1)).setCell ⟨p, 2, none⟩ (.slice B1 ns'.length b1)).cell? ⟨S, 0, none⟩ = some (.slice A ws'.length a) from HbS5.out.cell 0) (show ((w4.setCell ⟨p, 1, none⟩ (.slice A1 ws'.length a1)).setCell ⟨p, 2, none⟩ (.slice B1 ns'.length b1)).cell? ⟨S, 1, none⟩ = some (.slice B ns'.length b) from HbS5.out.cell 1))
        refine hK10.out _ _ HS3.out ?_
        try simp only [Act.put, List.setIfInBounds_toArray, List.set_cons_zero, List.set_cons_succ]
        refine H_end (by decide +kernel) (NoPanic.normal ?_)
        try simp only [Act.put, List.setIfInBounds_toArray, List.set_cons_zero, List.set_cons_succ]
        clear hK5 hK6 hK10 HS0 HS1 HS2 HS3 q1 q2 q3 q4
        have Hg5 := Lib.hid (((Hdr.out.trans (grown_of_below Hb4.out _)).trans (grown_set w4 p 1 (.slice A1 ws'.length a1))).trans (grown_set _ p 2 (.slice B1 ns'.length b1)))
        have hSw : S ≤ wr.drew.heap.size := Nat.le_of_lt Hbk.out.lt
        have HoA5 := Lib.hid (own_mono (own_set (i := 2) (own_set (i := 1) Hown3b.out (Hp4.out.ne_own Hown3b.out (by decide)) (.slice A1 ws'.length a1)) (Hp4.out.ne_own Hown3b.out (by decide)) (.slice B1 ns'.length b1)) hSw)
        have HoB5 := Lib.hid (own_mono (own_set (i := 2) (own_set (i := 1) Hown4.out (Hp4.out.ne_own Hown4.out (by decide)) (.slice A1 ws'.length a1)) (Hp4.out.ne_own Hown4.out (by decide)) (.slice B1 ns'.length b1)) hSw)
        have Hm5 := Lib.hid ((((show MapF sV id Try.prog 9 wr.drew M f kn from Hm.out).below Hb4.out Hm.out.lt).setCell (p := ⟨p, 1, none⟩) (Ne.symm hpM) (.slice A1 ws'.length a1)).setCell (p := ⟨p, 2, none⟩) (Ne.symm hpM) (.slice B1 ns'.length b1))
        clear Hm Hbk Hp1 Hgw Hdr Hown3 Hown3b Hb3 Hb4 Hown4 HbkS Hp4
        generalize hW5 : (w4.setCell ⟨p, 1, none⟩ (.slice A1 ws'.length a1)).setCell ⟨p, 2, none⟩ (.slice B1 ns'.length b1) = W5 at *
        clear hW5
        have r3 : W5.cell? ⟨p, 3, none⟩ = some (.slice D ds.length d) := Hp5.out.cell 3
        have r3f := Hp5.out.frozen 3
        have Hp6 := Lib.hid (Hp5.out.set_ 3 (.slice none 0 0))
        have HbS6 := Lib.hid (HbS5.out.far (p := ⟨p, 3, none⟩) (Ne.symm hpS) (.slice none 0 0))
        have Hg6 := Lib.hid (Hg5.out.trans (grown_set W5 p 3 (.slice none 0 0)))
        have HoA6 := Lib.hid (own_set (i := 3) HoA5.out (Hp5.out.ne_own HoA5.out (by decide)) (.slice none 0 0))
        have HoB6 := Lib.hid (own_set (i := 3) HoB5.out (Hp5.out.ne_own HoB5.out (by decide)) (.slice none 0 0))
        have Hm6 := Lib.hid (Hm5.out.setCell (p := ⟨p, 3, none⟩) (Ne.symm hpM) (.slice none 0 0))
        have s0' : (W5.setCell ⟨p, 3, none⟩ (.slice none 0 0)).cell? ⟨S, 0, none⟩ = some (.slice A ws'.length a) := HbS6.out.cell 0
        have s1' : (W5.setCell ⟨p, 3, none⟩ (.slice none 0 0)).cell? ⟨S, 1, none⟩ = some (.slice B ns'.length b) := HbS6.out.cell 1
        clear Hg5 HoA5 HoB5 Hm5 Hp5 HbS5
        go_wp2_with fail
        clear r3 r3f s0' s1'
        generalize hW6 : W5.setCell ⟨p, 3, none⟩ (.slice none 0 0) = W6 at *
        clear hW6
        refine (parts_any A B a b ws' ns' W6 (HA.out _ Hg6.out) (HB.out _ Hg6.out) hG.1 hG.2.1 (validE_eok Hv.out)).mono ?_
        rintro e w7 ⟨DP, mP, he, hpr, hb7⟩
        rw [hds'.out] at he hpr
        subst he
        have hpb7 : p < W6.heap.size := Hp6.out.lt
        have Hb7 := Lib.hid (Hg6.out.trans (grown_of_below hb7 _))
        have HPR := Lib.hid hpr
        have HoA7 := Lib.hid (own_below HoA6.out hb7)
        have HoB7 := Lib.hid (own_below HoB6.out hb7)
        have Hm7 := Lib.hid (Hm6.out.below hb7 Hm6.out.lt)
        have Hp7 := Lib.hid (show Bk w7 p 70 #[.slice C ls.length c, .slice A1 ws'.length a1, .slice B1 ns'.length b1, .slice none 0 0, .int .i64 (work + incD (newsD ds (ds'.take 0)))] from (by rw [show work + incD (newsD ds (ds'.take 0)) = work by simp [incD, newsD]]; exact Hp6.out.below hb7 hpb7))
        have hz7 := hb7.size
        have hb7s := Hg6.out.size
        clear hpr hb7 HoA6 HoB6 Hm6 Hp6 Hg6 HbS6
        have Hb7z := Lib.hid (show w.heap.size ≤ W6.heap.size from hb7s)
        have Hb7w := Lib.hid (show w.heap.size ≤ w7.heap.size from Hb7.out.size)
        clear hb7s
        generalize W6.heap.size = b7 at *
        go_wp2_with fail
        go_loopw [10, 55] (fun x i wr => ∃ (k : Nat) (v : Value) (vs : List Value), k ≤ ds'.length ∧ x = .int .i64 (newsD ds (ds'.take k)).length ∧ i = .int .i64 k ∧ LB Ft w wr w7 p M b7 (.slice C ls.length c) (.slice A1 ws'.length a1) (.slice B1 ns'.length b1) v vs ls ds ds' k work f kn) (fun _ i _ => ds'.length - (intOf i).toNat)
        case atStart => exact ⟨0, _, [], by omega, rfl, rfl, Hp7.out, World.ownsRow_nil _ _ _ _, VR.nil _ _, Hm7.out, World.grownBy.refl _ _⟩
        case round =>
          clear Hp7 Hm7
          obtain ⟨k, v, vs, hk, rfl, rfl, hLB⟩ := hrel
          have HLB := Lib.hid hLB
          have hnl := newsD_len ds (ds'.take k)
          have hbW7 := hLB.g.size
          have hbW : b7 ≤ wr.heap.size := by omega
          rw [List.length_take] at hnl
          clear hLB
          by_cases hlk : k < ds'.length
          · obtain ⟨bb, o, F, f1, U, u1, N, n1, Fl, Wl, Nl, rfl, k1, k2, k3, s1, hd⟩ := HPR.out.get2 (Up.of_grown HLB.out.g hpb7) hlk
            have hI := hIB'.out k _ hd.out
            have HI := Lib.hid hI
            have hI1 : Wl.length ≤ 5000 := hI.2.2.1
            have hI2 : Nl.length ≤ 16384 := hI.2.2.2.1
            have hI3 : Fl.length ≤ 4096 := hI.2.2.2.2
            have Hs1 := Lib.hid s1
            have hTz : b7 ≤ wr.heap.size := hbW
            have q0 : (wr.alloc (.cells #[.slice F Fl.length f1, .slice U Wl.length u1, .slice N Nl.length n1] 74)).cell? ⟨wr.heap.size, 0, none⟩ = some (.slice F Fl.length f1) := (Bk.new wr 74 #[.slice F Fl.length f1, .slice U Wl.length u1, .slice N Nl.length n1]).cell 0
            have q1 : (wr.alloc (.cells #[.slice F Fl.length f1, .slice U Wl.length u1, .slice N Nl.length n1] 74)).cell? ⟨wr.heap.size, 1, none⟩ = some (.slice U Wl.length u1) := (Bk.new wr 74 #[.slice F Fl.length f1, .slice U Wl.length u1, .slice N Nl.length n1]).cell 1
            have q2 : (wr.alloc (.cells #[.slice F Fl.length f1, .slice U Wl.length u1, .slice N Nl.length n1] 74)).cell? ⟨wr.heap.size, 2, none⟩ = some (.slice N Nl.length n1) := (Bk.new wr 74 #[.slice F Fl.length f1, .slice U Wl.length u1, .slice N Nl.length n1]).cell 2
            clear hI s1
            go_wp2_with fail
            clear q0 q1 q2 k1 k2 k3
            have hT1 := Bk.new wr 74 #[.slice F Fl.length f1, .slice U Wl.length u1, .slice N Nl.length n1]
            have hbt := (Below.refl wr.heap.size wr).alloc (Nat.le_refl _) (.cells #[.slice F Fl.length f1, .slice U Wl.length u1, .slice N Nl.length n1] 74)
            have Hbt := Lib.hid hbt
            have hst := Hs1.out _ ((Up.of_grown HLB.out.g hpb7).trans (Up.of_below hbt))
            obtain ⟨KB, hKB⟩ : ∃ KB, Hid (keyB Wl Nl = KB) := ⟨_, Lib.hid rfl⟩
            have hgK : Good Try.prog 9 (sV KB) := by rw [← hKB.out]; exact good_str (key_size (d := (Fl, Wl, Nl)) HI.out)
            have hTzz : wr.heap.size < (wr.alloc (.cells #[.slice F Fl.length f1, .slice U Wl.length u1, .slice N Nl.length n1] 74)).heap.size := hT1.lt
            refine (key_any F U N Fl.length f1 u1 n1 Wl Nl _ hst.2.1 hst.2.2 HI.out.1 HI.out.2.1 (by omega) (by omega)).mono ?_
            rintro e w2 ⟨he, hb2⟩
            rw [hKB.out] at he
            subst he
            have Hb2 := Lib.hid (hbt.trans (hb2.mono (Nat.le_of_lt hTzz)))
            have HT2 := Lib.hid (hT1.below hb2 hT1.lt)
            have hgw2 := grown_of_below Hb2.out (some p)
            have Hup2 := Lib.hid ((Up.of_grown HLB.out.g hpb7).trans (Up.of_below (b := b7) Hb2.out))
            have Hg2 := Lib.hid hgw2
            have Hm2 := Lib.hid (HLB.out.m.below Hb2.out HLB.out.m.lt)
            have Hp2 := Lib.hid (HLB.out.bp.below Hb2.out HLB.out.bp.lt)
            have Ho2 := Lib.hid (own_below HLB.out.o Hb2.out)
            have hT2z : wr.heap.size < w2.heap.size := HT2.out.lt
            have hpT : p ≠ wr.heap.size := by omega
            obtain ⟨vG, ok, hlk2, hcase⟩ : ∃ vG ok, (Instr.lookup 72 (.map (some M)) (.string KB) true).run Try.prog w2 = .ok (.tuple #[vG, .bool ok]) w2 ∧
                ((ok = true ∧ ∃ G g, vG = .slice G ls.length g ∧ (∀ W, Kf Ft w W → SLL W G (lists Wl Nl ls)) ∧ newsD ds (ds'.take (k + 1)) = newsD ds (ds'.take k)) ∨ (ok = false ∧ newsD ds (ds'.take (k + 1)) = newsD ds (ds'.take k) ++ [(Fl, Wl, Nl)])) := by
              have hl := Hm2.out.lookup_ok inj_sV keyed_str Try.underlying72 (z := (Value.slice none 0 0)) (show (zeroValue 38).run Try.prog w2 = .ok (id (Value.slice none 0 0)) w2 from zero_lists w2) hgK
              have hns := newsD_snoc ds (ds'.take k) (Fl, Wl, Nl)
              rw [← take_snoc' hd.out] at hns
              rcases HOM.out.found hIB.out HI.out with ⟨vv, G, g, e1, e2, e3, e4⟩ | ⟨e1, e2⟩
              · have e1' : f KB = some vv := by rw [← hKB.out]; exact e1
                rw [e1'] at hl
                rw [if_pos e4, List.append_nil] at hns
                exact ⟨vv, true, hl, .inl ⟨rfl, G, g, e2, e3, hns⟩⟩
              · have e1' : f KB = none := by rw [← hKB.out]; exact e1
                rw [e1'] at hl
                rw [if_neg e2] at hns
                exact ⟨_, false, hl, .inr ⟨rfl, hns⟩⟩
            have Hcase := Lib.hid hcase
            clear hT1 hbt hst hTzz hb2 hgw2 hcase Hbt
            generalize wr.heap.size = T at *
            go_upto_if 67 with fail
            go_cut [10, 13] (fun x y wx => ∃ G g, x = .int .i64 (newsD ds (ds'.take (k + 1))).length ∧ y = .slice G ls.length g ∧ (∀ W, Rc Ft w w7 b7 p wx W → SLL W G (lists Wl Nl ls)) ∧ Bk wx p 70 #[.slice C ls.length c, .slice A1 ws'.length a1, .slice B1 ns'.length b1, v, .int .i64 (work + incD (newsD ds (ds'.take (k + 1))))] ∧
              wx.ownsRow w7.heap.size 76 4 v k vs ∧ Bk wx T 74 #[.slice F Fl.length f1, .slice U Wl.length u1, .slice N Nl.length n1] ∧ MapF sV id Try.prog 9 wx M f kn ∧ w2.grownBy wx (some p))
            case first =>
              as_aux_lemma =>
              rcases Hcase.out with ⟨rfl, G, g, rfl, hG1, hn1⟩ | ⟨rfl, hn1⟩
              · have HG1 := Lib.hid hG1
                clear hG1
                go_wp2_with fail
                go_meet
                rw [hn1]
                exact ⟨G, g, rfl, rfl, fun W hW => HG1.out W hW.1, Hp2.out, Ho2.out, HT2.out, Hm2.out, World.grownBy.refl _ _⟩
              · have hq0 : w2.cell? ⟨p, 0, none⟩ = some (.slice C ls.length c) := Hp2.out.cell 0
                have hoE : ofE Wl Nl ls = 0 := by rw [ofE_eq, hVD'.out k _ hd.out, Hth.out.2]; rfl
                have hoL : ofL Wl Nl ls = lists Wl Nl ls := by rw [ofL, if_pos hoE]
                have HoE := Lib.hid (And.intro hoE hoL)
                have HSf := Lib.hid (fun (W : World) (hW : Below w2.heap.size w2 W) => show W.cell? ⟨T, 1, none⟩ = some (.slice U Wl.length u1) ∧ W.cell? ⟨T, 2, none⟩ = some (.slice N Nl.length n1) ∧ W.cell? ⟨p, 0, none⟩ = some (.slice C ls.length c) from ⟨(HT2.out.below hW HT2.out.lt).cell 1, (HT2.out.below hW HT2.out.lt).cell 2, (Hp2.out.below hW Hp2.out.lt).cell 0⟩)
                have Hsl := Lib.hid (fun (W : World) (hW : Below w2.heap.size w2 W) => show SI W U Wl ∧ ST W N Nl ∧ SI W C ls from ⟨(Hs1.out W (Hup2.out.trans (Up.of_below hW))).2.1, (Hs1.out W (Hup2.out.trans (Up.of_below hW))).2.2, (H4.out W ((((Hb7.out.trans HLB.out.g).trans Hg2.out)).trans (grown_of_below hW _))).1⟩)
                have HX0 := Lib.hid ((Below.refl w2.heap.size w2).drew)
                clear hoE hoL
                go_wp2_with fail
                refine wp_region_noPanic ?_
                refine region_H (S := fun W => W.cell? ⟨T, 1, none⟩ = some (.slice U Wl.length u1) ∧ W.cell? ⟨T, 2, none⟩ = some (.slice N Nl.length n1) ∧ W.cell? ⟨p, 0, none⟩ = some (.slice C ls.length c)) (by kernel_rfl) ?_
                change wpH _ _ _ _ 13 _ _ w2.drew
                refine H_takeD (k := 0) (v := .pointer (some ⟨T, 1, none⟩)) (d := some 69) rfl rfl (by decide +kernel) (fun _ _ _ h => h) (Or.inl ⟨by rfl, fun W hW => by obtain ⟨s0, s1, s2⟩ := hW; go_simp⟩) (HSf.out _ HX0.out) ?_
                try simp only [Act.put, List.setIfInBounds_toArray, List.set_cons_zero, List.set_cons_succ]
                refine H_takeD (k := 1) (v := .agg #[.slice U Wl.length u1, .slice N Nl.length n1]) (d := some 70) rfl rfl (by decide +kernel) (fun _ _ _ h => h) (Or.inl ⟨by rfl, fun W hW => by obtain ⟨s0, s1, s2⟩ := hW; go_simp⟩) (HSf.out _ HX0.out) ?_
                try simp only [Act.put, List.setIfInBounds_toArray, List.set_cons_zero, List.set_cons_succ]
                refine H_takeD (k := 2) (v := .pointer (some ⟨p, 0, none⟩)) (d := some 71) rfl rfl (by decide +kernel) (fun _ _ _ h => h) (Or.inl ⟨by rfl, fun W hW => by obtain ⟨s0, s1, s2⟩ := hW; go_simp⟩) (HSf.out _ HX0.out) ?_
                try simp only [Act.put, List.setIfInBounds_toArray, List.set_cons_zero, List.set_cons_succ]
                refine H_takeD (k := 3) (v := .pointer (some ⟨p, 0, none⟩)) (d := some 72) rfl rfl (by decide +kernel) (fun _ _ _ h => h) (Or.inl ⟨by rfl, fun W hW => by obtain ⟨s0, s1, s2⟩ := hW; go_simp⟩) (HSf.out _ HX0.out) ?_
                try simp only [Act.put, List.setIfInBounds_toArray, List.set_cons_zero, List.set_cons_succ]
                refine H_takeD (k := 4) (v := .pointer (some ⟨p, 0, none⟩)) (d := some 73) rfl rfl (by decide +kernel) (fun _ _ _ h => h) (Or.inl ⟨by rfl, fun W hW => by obtain ⟨s0, s1, s2⟩ := hW; go_simp⟩) (HSf.out _ HX0.out) ?_
                try simp only [Act.put, List.setIfInBounds_toArray, List.set_cons_zero, List.set_cons_succ]
                refine H_takeD (k := 5) (v := .slice C ls.length c) (d := some 74) rfl rfl (by decide +kernel) (fun _ _ _ h => h) (Or.inl ⟨by rfl, fun W hW => by obtain ⟨s0, s1, s2⟩ := hW; go_simp⟩) (HSf.out _ HX0.out) ?_
                try simp only [Act.put, List.setIfInBounds_toArray, List.set_cons_zero, List.set_cons_succ]
                refine H_two (i := 6) (j := 10) (by decide +kernel) (H_step rfl rfl (fun K hK6 => ?_)) (H_step rfl rfl (fun K hK6 => ?_))
                · have hK6 := Lib.hid hK6
                  go_simp
                  go_at_call 15
                  have hsl := Hsl.out _ HX0.out
                  refine (ofB_any U N C u1 n1 c Wl Nl ls w2.drew hsl.1 hsl.2.1 hsl.2.2 (by omega) (by omega) (by omega)).mono ?_
                  rintro e w3 ⟨D2, m2, vs2, he, hown3, hLL3, hb3⟩
                  rw [HoE.out.1, HoE.out.2, lists_len] at he
                  rw [HoE.out.2, lists_len] at hown3
                  rw [HoE.out.2] at hLL3
                  subst he
                  have Hown3 := Lib.hid hown3
                  have HLL3 := Lib.hid hLL3
                  have HX3 := Lib.hid ((HX0.out).trans (hb3.mono (HX0.out).size))
                  clear hown3 hLL3 hb3 hsl
                  refine hK6.out _ _ (HSf.out _ HX3.out) ?_
                  try simp only [Act.put, List.setIfInBounds_toArray, List.set_cons_zero, List.set_cons_succ]
                  refine H_takeD (k := 7) (v := .tuple #[.agg #[.slice D2 ls.length m2], .int .i64 0]) (d := some 68) rfl rfl (by decide +kernel) (fun _ _ _ h => h) (Or.inl ⟨by rfl, fun W hW => by obtain ⟨s0, s1, s2⟩ := hW; go_simp⟩) (HSf.out _ HX3.out) ?_
                  try simp only [Act.put, List.setIfInBounds_toArray, List.set_cons_zero, List.set_cons_succ]
                  refine H_takeD (k := 8) (v := .agg #[.slice D2 ls.length m2]) (d := some 76) rfl rfl (by decide +kernel) (fun _ _ _ h => h) (Or.inl ⟨by rfl, fun W hW => by obtain ⟨s0, s1, s2⟩ := hW; go_simp⟩) (HSf.out _ HX3.out) ?_
                  try simp only [Act.put, List.setIfInBounds_toArray, List.set_cons_zero, List.set_cons_succ]
                  refine H_takeD (k := 9) (v := .int .i64 0) (d := some 77) rfl rfl (by decide +kernel) (fun _ _ _ h => h) (Or.inl ⟨by rfl, fun W hW => by obtain ⟨s0, s1, s2⟩ := hW; go_simp⟩) (HSf.out _ HX3.out) ?_
                  try simp only [Act.put, List.setIfInBounds_toArray, List.set_cons_zero, List.set_cons_succ]
                  refine H_one (i := 10) (by decide +kernel) (H_step rfl rfl (fun K hK10 => ?_))
                  have hK10 := Lib.hid hK10
                  go_simp
                  have HXa := Lib.hid (HX3.out.alloc HX3.out.size (.cells #[.slice none 0 0] 40))
                  refine hK10.out _ _ (HSf.out _ HXa.out) ?_
                  try simp only [Act.put, List.setIfInBounds_toArray, List.set_cons_zero, List.set_cons_succ]
                  refine H_one (i := 11) (by decide +kernel) (H_step rfl rfl (fun K hK11 => ?_))
                  have hK11 := Lib.hid hK11
                  go_simp
                  have HTF := Lib.hid (Bk.new w3 40 #[.slice D2 ls.length m2])
                  have HXF := Lib.hid (HX3.out.alloc HX3.out.size (.cells #[.slice D2 ls.length m2] 40))
                  have HoF := Lib.hid (Hown3.out.alloc (.cells #[.slice D2 ls.length m2] 40))
                  have HLF := Lib.hid (HLL3.out.below ((Below.refl _ _).alloc (Nat.le_refl _) (.cells #[.slice D2 ls.length m2] 40)))
                  refine hK11.out _ _ (HSf.out _ HXF.out) ?_
                  try simp only [Act.put, List.setIfInBounds_toArray, List.set_cons_zero, List.set_cons_succ]
                  refine H_takeD (k := 12) (v := .int .i64 0) (d := some 16) rfl rfl (by decide +kernel) (fun _ _ _ h => h) (Or.inl ⟨by rfl, fun W hW => by obtain ⟨s0, s1, s2⟩ := hW; go_simp⟩) (HSf.out _ HXF.out) ?_
                  try simp only [Act.put, List.setIfInBounds_toArray, List.set_cons_zero, List.set_cons_succ]
                  refine H_end (by decide +kernel) (NoPanic.normal ?_)
                  try simp only [Act.put, List.setIfInBounds_toArray, List.set_cons_zero, List.set_cons_succ]
                  have zF : (w3.alloc (.cells #[.slice D2 ls.length m2] 40)).cell? ⟨w3.heap.size, 0, none⟩ = some (.slice D2 ls.length m2) := HTF.out.cell 0
                  generalize hWF : (w3.alloc (.cells #[.slice D2 ls.length m2] 40)) = WF at *
                  clear hWF
                  try clear hK6
                  try clear hK7
                  try clear hK10
                  try clear hK11
                  have hnl2 : (newsD ds (ds'.take (k + 1))).length = (newsD ds (ds'.take k)).length + 1 := by rw [hn1]; simp
                  have hinc : incD (newsD ds (ds'.take (k + 1))) = incD (newsD ds (ds'.take k)) + Fl.length := by rw [hn1, incD_snoc]
                  have hib := incD_bd (l := newsD ds (ds'.take k)) (fun d hd => by
                    obtain ⟨j, hj, rfl⟩ := List.getElem_of_mem (List.mem_of_mem_take (List.mem_filter.1 hd).1)
                    exact (hIB'.out j _ (List.getElem?_eq_getElem hj)).2.2.2.2)
                  have hwn : IntKind.i64.wrap (((newsD ds (ds'.take k)).length : Int) + 1) = ((newsD ds (ds'.take (k + 1))).length : Int) := by rw [IntWalk.i64_in _ (by omega), hnl2]; omega
                  have hws : IntKind.i64.wrap (work + incD (newsD ds (ds'.take k)) + Fl.length) = work + incD (newsD ds (ds'.take (k + 1))) := by rw [IntWalk.i64_in _ (by omega), hinc]; omega
                  have Hp3 := Lib.hid (Hp2.out.below HXF.out Hp2.out.lt)
                  have HT3 := Lib.hid (HT2.out.below HXF.out HT2.out.lt)
                  have Ho3 := Lib.hid (own_below Ho2.out HXF.out)
                  have Hm3 := Lib.hid (Hm2.out.below HXF.out Hm2.out.lt)
                  obtain ⟨wk, hwk⟩ : ∃ z, Hid (work + incD (newsD ds (ds'.take k)) = z) := ⟨_, Lib.hid rfl⟩
                  obtain ⟨wk2, hwk2⟩ : ∃ z, Hid (work + incD (newsD ds (ds'.take (k + 1))) = z) := ⟨_, Lib.hid rfl⟩
                  rw [hwk.out, hwk2.out] at hws
                  rw [hwk.out] at Hp3
                  have Hnl2 := Lib.hid hnl2
                  clear hnl2 hinc hib
                  go_wp2_with fail
                  clear zF
                  refine region_tail 8 (by kernel_rfl) (by kernel_rfl) (fun W hq => ?_)
                  have e1 : W.cell? ⟨p, 4, none⟩ = some (.int .i64 wk) := (Hp3.out.qt hq).cell 4
                  have e2 : W.cell? ⟨T, 0, none⟩ = some (.slice F Fl.length f1) := (HT3.out.qt hq).cell 0
                  have e3 := (Hp3.out.qt hq).frozen 4
                  have Hp4 := Lib.hid ((Hp3.out.qt hq).set_ 4 (.int .i64 wk2))
                  have HT4 := Lib.hid ((HT3.out.qt hq).far (p := ⟨p, 4, none⟩) (Ne.symm hpT) (.int .i64 wk2))
                  have Ho4 := Lib.hid (own_set (i := 4) (own_qt Ho3.out hq) ((Hp3.out.qt hq).ne_own (own_qt Ho3.out hq) (by decide)) (.int .i64 wk2))
                  have Hm4 := Lib.hid ((Hm3.out.qt hq).setCell (p := ⟨p, 4, none⟩) (Ne.symm hpM) (.int .i64 wk2))
                  have Hg4 := Lib.hid (((grown_of_below HXF.out (some p)).trans (grown_of_below (hq.below _) _)).trans (grown_set W p 4 (.int .i64 wk2)))
                  have hll : ∀ l ∈ lists Wl Nl ls, l.length ≤ 1099511627776 := fun l hl => by
                    have h1 := ofL_lens (ws := Wl) (ns := Nl) (ls := ls) l (by rw [HoE.out.2]; exact hl)
                    omega
                  have hz2w : w.heap.size ≤ w2.heap.size := by have h1 := Hb7w.out; have h2 := HLB.out.g.size; have h3 := Hg2.out.size; omega
                  have HLs := Lib.hid (fun (X : World) (hX : Rc Ft w w7 b7 p (W.setCell ⟨p, 4, none⟩ (.int .i64 wk2)) X) => (by
                    have hgX : Ch w.heap.size p WF X := (Ch.of_grown ((grown_of_below (hq.below _) _).trans (grown_set W p 4 (.int .i64 wk2)))).trans hX.2.2
                    have ho := own_ch HoF.out (by first | exact hz2w | (simp; exact Nat.le_trans hz2w (Nat.le_succ _))) Hp3.out (by decide) (by decide) hgX
                    have hl := HLF.out.ch (by first | exact hz2w | (simp; exact Nat.le_trans hz2w (Nat.le_succ _))) Hp3.out hgX
                    exact SLL.of_rows ho hl.ll hll : SLL X D2 (lists Wl Nl ls)))
                  clear Hp3 HT3 Ho3 Hm3 HoF HLF HXF hll
                  simp only [List.take_succ_cons, List.take_zero, List.drop_succ_cons, List.drop_zero]
                  repeat still_step
                  refine wpStill_nil ?_
                  go_wp2_with fail
                  go_meet
                  exact ⟨D2, m2, congrArg (Value.int .i64) (by have := Hnl2.out; omega), rfl, HLs.out, hwk2.out ▸ Hp4.out, Ho4.out, HT4.out, Hm4.out, Hg4.out⟩
                · have hK6 := Lib.hid hK6
                  go_simp
                  have HXa := Lib.hid (HX0.out.alloc (Nat.le_refl _) (.cells #[.slice none 0 0] 40))
                  have HT15a := Lib.hid (show Bk (w2.drew.alloc (.cells #[.slice none 0 0] 40)) w2.heap.size 40 #[.slice none 0 0] from Bk.new w2.drew 40 #[.slice none 0 0])
                  refine hK6.out _ _ (HSf.out _ HXa.out) ?_
                  try simp only [Act.put, List.setIfInBounds_toArray, List.set_cons_zero, List.set_cons_succ]
                  refine H_one (i := 6) (by decide +kernel) (H_step rfl rfl (fun K hK7 => ?_))
                  have hK7 := Lib.hid hK7
                  go_simp
                  go_at_call 15
                  have hsl := Hsl.out _ HXa.out
                  refine (ofB_any U N C u1 n1 c Wl Nl ls (w2.drew.alloc (.cells #[.slice none 0 0] 40)) hsl.1 hsl.2.1 hsl.2.2 (by omega) (by omega) (by omega)).mono ?_
                  rintro e w3 ⟨D2, m2, vs2, he, hown3, hLL3, hb3⟩
                  rw [HoE.out.1, HoE.out.2, lists_len] at he
                  rw [HoE.out.2, lists_len] at hown3
                  rw [HoE.out.2] at hLL3
                  subst he
                  have Hown3 := Lib.hid hown3
                  have HLL3 := Lib.hid hLL3
                  have HX3 := Lib.hid ((HXa.out).trans (hb3.mono (HXa.out).size))
                  have HT15 := Lib.hid (HT15a.out.below hb3 HT15a.out.lt)
                  clear hown3 hLL3 hb3 hsl
                  refine hK7.out _ _ (HSf.out _ HX3.out) ?_
                  try simp only [Act.put, List.setIfInBounds_toArray, List.set_cons_zero, List.set_cons_succ]
                  refine H_takeD (k := 7) (v := .tuple #[.agg #[.slice D2 ls.length m2], .int .i64 0]) (d := some 68) rfl rfl (by decide +kernel) (fun _ _ _ h => h) (Or.inl ⟨by rfl, fun W hW => by obtain ⟨s0, s1, s2⟩ := hW; go_simp⟩) (HSf.out _ HX3.out) ?_
                  try simp only [Act.put, List.setIfInBounds_toArray, List.set_cons_zero, List.set_cons_succ]
                  refine H_takeD (k := 8) (v := .agg #[.slice D2 ls.length m2]) (d := some 76) rfl rfl (by decide +kernel) (fun _ _ _ h => h) (Or.inl ⟨by rfl, fun W hW => by obtain ⟨s0, s1, s2⟩ := hW; go_simp⟩) (HSf.out _ HX3.out) ?_
                  try simp only [Act.put, List.setIfInBounds_toArray, List.set_cons_zero, List.set_cons_succ]
                  refine H_takeD (k := 9) (v := .int .i64 0) (d := some 77) rfl rfl (by decide +kernel) (fun _ _ _ h => h) (Or.inl ⟨by rfl, fun W hW => by obtain ⟨s0, s1, s2⟩ := hW; go_simp⟩) (HSf.out _ HX3.out) ?_
                  try simp only [Act.put, List.setIfInBounds_toArray, List.set_cons_zero, List.set_cons_succ]
                  refine H_one (i := 11) (by decide +kernel) (H_step rfl rfl (fun K hK11 => ?_))
                  have hK11 := Lib.hid hK11
                  have z0 : w3.cell? ⟨w2.heap.size, 0, none⟩ = some (.slice none 0 0) := HT15.out.cell 0
                  have z1 : w3.frozen? ⟨w2.heap.size, 0, none⟩ = false := HT15.out.frozen 0
                  go_simp
                  have HTF := Lib.hid (HT15.out.set_ 0 (.slice D2 ls.length m2))
                  have HXF := Lib.hid (HX3.out.setCell (p := ⟨w2.heap.size, 0, none⟩) (Nat.le_refl _) (.slice D2 ls.length m2))
                  have HoF := Lib.hid (own_set (i := 0) Hown3.out (HT15.out.ne_own Hown3.out (by decide)) (.slice D2 ls.length m2))
                  have HLF := Lib.hid (HLL3.out.set_ HT15.out (by decide) 0 (.slice D2 ls.length m2))
                  refine hK11.out _ _ (HSf.out _ HXF.out) ?_
                  try simp only [Act.put, List.setIfInBounds_toArray, List.set_cons_zero, List.set_cons_succ]
                  refine H_takeD (k := 12) (v := .int .i64 0) (d := some 16) rfl rfl (by decide +kernel) (fun _ _ _ h => h) (Or.inl ⟨by rfl, fun W hW => by obtain ⟨s0, s1, s2⟩ := hW; go_simp⟩) (HSf.out _ HXF.out) ?_
                  try simp only [Act.put, List.setIfInBounds_toArray, List.set_cons_zero, List.set_cons_succ]
                  refine H_end (by decide +kernel) (NoPanic.normal ?_)
                  try simp only [Act.put, List.setIfInBounds_toArray, List.set_cons_zero, List.set_cons_succ]
                  have zF : (w3.setCell ⟨w2.heap.size, 0, none⟩ (.slice D2 ls.length m2)).cell? ⟨w2.heap.size, 0, none⟩ = some (.slice D2 ls.length m2) := HTF.out.cell 0
                  generalize hWF : (w3.setCell ⟨w2.heap.size, 0, none⟩ (.slice D2 ls.length m2)) = WF at *
                  clear hWF
                  try clear hK6
                  try clear hK7
                  try clear hK10
                  try clear hK11
                  have hnl2 : (newsD ds (ds'.take (k + 1))).length = (newsD ds (ds'.take k)).length + 1 := by rw [hn1]; simp
                  have hinc : incD (newsD ds (ds'.take (k + 1))) = incD (newsD ds (ds'.take k)) + Fl.length := by rw [hn1, incD_snoc]
                  have hib := incD_bd (l := newsD ds (ds'.take k)) (fun d hd => by
                    obtain ⟨j, hj, rfl⟩ := List.getElem_of_mem (List.mem_of_mem_take (List.mem_filter.1 hd).1)
                    exact (hIB'.out j _ (List.getElem?_eq_getElem hj)).2.2.2.2)
                  have hwn : IntKind.i64.wrap (((newsD ds (ds'.take k)).length : Int) + 1) = ((newsD ds (ds'.take (k + 1))).length : Int) := by rw [IntWalk.i64_in _ (by omega), hnl2]; omega
                  have hws : IntKind.i64.wrap (work + incD (newsD ds (ds'.take k)) + Fl.length) = work + incD (newsD ds (ds'.take (k + 1))) := by rw [IntWalk.i64_in _ (by omega), hinc]; omega
                  have Hp3 := Lib.hid (Hp2.out.below HXF.out Hp2.out.lt)
                  have HT3 := Lib.hid (HT2.out.below HXF.out HT2.out.lt)
                  have Ho3 := Lib.hid (own_below Ho2.out HXF.out)
                  have Hm3 := Lib.hid (Hm2.out.below HXF.out Hm2.out.lt)
                  obtain ⟨wk, hwk⟩ : ∃ z, Hid (work + incD (newsD ds (ds'.take k)) = z) := ⟨_, Lib.hid rfl⟩
                  obtain ⟨wk2, hwk2⟩ : ∃ z, Hid (work + incD (newsD ds (ds'.take (k + 1))) = z) := ⟨_, Lib.hid rfl⟩
                  rw [hwk.out, hwk2.out] at hws
                  rw [hwk.out] at Hp3
                  have Hnl2 := Lib.hid hnl2
                  clear hnl2 hinc hib
                  go_wp2_with fail
                  clear zF
                  refine region_tail 8 (by kernel_rfl) (by kernel_rfl) (fun W hq => ?_)
                  have e1 : W.cell? ⟨p, 4, none⟩ = some (.int .i64 wk) := (Hp3.out.qt hq).cell 4
                  have e2 : W.cell? ⟨T, 0, none⟩ = some (.slice F Fl.length f1) := (HT3.out.qt hq).cell 0
                  have e3 := (Hp3.out.qt hq).frozen 4
                  have Hp4 := Lib.hid ((Hp3.out.qt hq).set_ 4 (.int .i64 wk2))
                  have HT4 := Lib.hid ((HT3.out.qt hq).far (p := ⟨p, 4, none⟩) (Ne.symm hpT) (.int .i64 wk2))
                  have Ho4 := Lib.hid (own_set (i := 4) (own_qt Ho3.out hq) ((Hp3.out.qt hq).ne_own (own_qt Ho3.out hq) (by decide)) (.int .i64 wk2))
                  have Hm4 := Lib.hid ((Hm3.out.qt hq).setCell (p := ⟨p, 4, none⟩) (Ne.symm hpM) (.int .i64 wk2))
                  have Hg4 := Lib.hid (((grown_of_below HXF.out (some p)).trans (grown_of_below (hq.below _) _)).trans (grown_set W p 4 (.int .i64 wk2)))
                  have hll : ∀ l ∈ lists Wl Nl ls, l.length ≤ 1099511627776 := fun l hl => by
                    have h1 := ofL_lens (ws := Wl) (ns := Nl) (ls := ls) l (by rw [HoE.out.2]; exact hl)
                    omega
                  have hz2w : w.heap.size ≤ w2.heap.size := by have h1 := Hb7w.out; have h2 := HLB.out.g.size; have h3 := Hg2.out.size; omega
                  have HLs := Lib.hid (fun (X : World) (hX : Rc Ft w w7 b7 p (W.setCell ⟨p, 4, none⟩ (.int .i64 wk2)) X) => (by
                    have hgX : Ch w.heap.size p WF X := (Ch.of_grown ((grown_of_below (hq.below _) _).trans (grown_set W p 4 (.int .i64 wk2)))).trans hX.2.2
                    have ho := own_ch HoF.out (by first | exact hz2w | (simp; exact Nat.le_trans hz2w (Nat.le_succ _))) Hp3.out (by decide) (by decide) hgX
                    have hl := HLF.out.ch (by first | exact hz2w | (simp; exact Nat.le_trans hz2w (Nat.le_succ _))) Hp3.out hgX
                    exact SLL.of_rows ho hl.ll hll : SLL X D2 (lists Wl Nl ls)))
                  clear Hp3 HT3 Ho3 Hm3 HoF HLF HXF hll
                  simp only [List.take_succ_cons, List.take_zero, List.drop_succ_cons, List.drop_zero]
                  repeat still_step
                  refine wpStill_nil ?_
                  go_wp2_with fail
                  go_meet
                  exact ⟨D2, m2, congrArg (Value.int .i64) (by have := Hnl2.out; omega), rfl, HLs.out, hwk2.out ▸ Hp4.out, Ho4.out, HT4.out, Hm4.out, Hg4.out⟩
            case rest =>
            obtain ⟨G, g, rfl, rfl, hGst, hbp, hbo, hbT, hbm, hbg⟩ := hcut
            obtain ⟨wp, rfl⟩ : ∃ x, x = wc := ⟨wc, rfl⟩
            have Hgall := Lib.hid ((HLB.out.g.trans Hg2.out).trans hbg)
            have HGs := Lib.hid hGst
            have Hup3 := Lib.hid (Hup2.out.trans (Up.of_grown hbg hpb7))
            have HVR := Lib.hid (HLB.out.vr.imp (Φ' := Rc Ft w w7 b7 p wp) (fun W hW => hW.imp (Ch.of_grown (Hg2.out.trans hbg))))
            obtain ⟨AV, cV, hvV⟩ := own_slice hbo
            subst hvV
            have Hp3 := Lib.hid hbp
            have Ho3 := Lib.hid hbo
            have HT3 := Lib.hid hbT
            have Hm3 := Lib.hid hbm
            have hTB := Nat.lt_of_lt_of_le hT2z hbg.size
            have hb7p : w7.heap.size ≤ wp.heap.size := Hgall.out.size
            clear hGst hbp hbo hbT hbm hbg Hp2 Ho2 HT2 Hm2 HLB Hg2 hlk2 hnl Hcase Hup2
            have Hp4 := Lib.hid (Hp3.out.alloc (.cells #[.slice F Fl.length f1, .slice U Wl.length u1, .slice N Nl.length n1, .slice G ls.length g] 76))
            have Ho4 := Lib.hid (Ho3.out.alloc (.cells #[.slice F Fl.length f1, .slice U Wl.length u1, .slice N Nl.length n1, .slice G ls.length g] 76))
            have HT4 := Lib.hid (HT3.out.alloc (.cells #[.slice F Fl.length f1, .slice U Wl.length u1, .slice N Nl.length n1, .slice G ls.length g] 76))
            have Hnew := Lib.hid (show Bk (wp.drew.alloc (.cells #[.slice F Fl.length f1, .slice U Wl.length u1, .slice N Nl.length n1, .slice G ls.length g] 76)) wp.heap.size 76 #[.slice F Fl.length f1, .slice U Wl.length u1, .slice N Nl.length n1, .slice G ls.length g] from Bk.new wp.drew 76 _)
            have HS0 := Lib.hid (show wp.drew.cell? ⟨p, 3, none⟩ = some (.slice AV k cV) ∧ wp.drew.cell? ⟨T, 0, none⟩ = some (.slice F Fl.length f1) ∧ wp.drew.cell? ⟨T, 1, none⟩ = some (.slice U Wl.length u1) ∧ wp.drew.cell? ⟨T, 2, none⟩ = some (.slice N Nl.length n1) from ⟨Hp3.out.cell 3, HT3.out.cell 0, HT3.out.cell 1, HT3.out.cell 2⟩)
            have HS1 := Lib.hid (show (wp.drew.alloc (.cells #[.slice F Fl.length f1, .slice U Wl.length u1, .slice N Nl.length n1, .slice G ls.length g] 76)).cell? ⟨p, 3, none⟩ = some (.slice AV k cV) ∧ (wp.drew.alloc (.cells #[.slice F Fl.length f1, .slice U Wl.length u1, .slice N Nl.length n1, .slice G ls.length g] 76)).cell? ⟨T, 0, none⟩ = some (.slice F Fl.length f1) ∧
              (wp.drew.alloc (.cells #[.slice F Fl.length f1, .slice U Wl.length u1, .slice N Nl.length n1, .slice G ls.length g] 76)).cell? ⟨T, 1, none⟩ = some (.slice U Wl.length u1) ∧ (wp.drew.alloc (.cells #[.slice F Fl.length f1, .slice U Wl.length u1, .slice N Nl.length n1, .slice G ls.length g] 76)).cell? ⟨T, 2, none⟩ = some (.slice N Nl.length n1) from ⟨Hp4.out.cell 3, HT4.out.cell 0, HT4.out.cell 1, HT4.out.cell 2⟩)
            have hb7a : w7.heap.size ≤ (wp.drew.alloc (.cells #[.slice F Fl.length f1, .slice U Wl.length u1, .slice N Nl.length n1, .slice G ls.length g] 76)).heap.size := by simp; exact Nat.le_trans hb7p (Nat.le_succ _)
            go_wp2_with fail
            refine wp_region_noPanic ?_
            refine region_T (s := 12) (S := fun W => W.cell? ⟨p, 3, none⟩ = some (.slice AV k cV) ∧ W.cell? ⟨T, 0, none⟩ = some (.slice F Fl.length f1) ∧ W.cell? ⟨T, 1, none⟩ = some (.slice U Wl.length u1) ∧ W.cell? ⟨T, 2, none⟩ = some (.slice N Nl.length n1)) (by kernel_rfl) ?_
            change wpT _ _ _ _ _ 13 _ _ wp.drew
            refine T_take (k := 0) (v := .pointer (some ⟨p, 0, none⟩)) rfl (by decide +kernel) (fun _ _ _ h => h) (Or.inl ⟨by rfl, fun W hW => by obtain ⟨s0, s1, s2, s3⟩ := hW; go_simp⟩) HS0.out ?_
            try simp only [Act.put, List.setIfInBounds_toArray, List.set_cons_zero, List.set_cons_succ]
            refine T_take (k := 1) (v := .pointer (some ⟨p, 0, none⟩)) rfl (by decide +kernel) (fun _ _ _ h => h) (Or.inl ⟨by rfl, fun W hW => by obtain ⟨s0, s1, s2, s3⟩ := hW; go_simp⟩) HS0.out ?_
            try simp only [Act.put, List.setIfInBounds_toArray, List.set_cons_zero, List.set_cons_succ]
            refine T_take (k := 2) (v := .pointer (some ⟨p, 0, none⟩)) rfl (by decide +kernel) (fun _ _ _ h => h) (Or.inl ⟨by rfl, fun W hW => by obtain ⟨s0, s1, s2, s3⟩ := hW; go_simp⟩) HS0.out ?_
            try simp only [Act.put, List.setIfInBounds_toArray, List.set_cons_zero, List.set_cons_succ]
            refine T_take (k := 3) (v := .pointer (some ⟨p, 3, none⟩)) rfl (by decide +kernel) (fun _ _ _ h => h) (Or.inl ⟨by rfl, fun W hW => by obtain ⟨s0, s1, s2, s3⟩ := hW; go_simp⟩) HS0.out ?_
            try simp only [Act.put, List.setIfInBounds_toArray, List.set_cons_zero, List.set_cons_succ]
            refine T_take (k := 4) (v := .slice AV k cV) rfl (by decide +kernel) (fun _ _ _ h => h) (Or.inl ⟨by rfl, fun W hW => by obtain ⟨s0, s1, s2, s3⟩ := hW; go_simp⟩) HS0.out ?_
            try simp only [Act.put, List.setIfInBounds_toArray, List.set_cons_zero, List.set_cons_succ]
            refine T_take (k := 5) (v := .agg #[.slice F Fl.length f1, .slice U Wl.length u1, .slice N Nl.length n1]) rfl (by decide +kernel) (fun _ _ _ h => h) (Or.inl ⟨by rfl, fun W hW => by obtain ⟨s0, s1, s2, s3⟩ := hW; go_simp⟩) HS0.out ?_
            try simp only [Act.put, List.setIfInBounds_toArray, List.set_cons_zero, List.set_cons_succ]
            refine T_take (k := 6) (v := .slice G ls.length g) rfl (by decide +kernel) (fun _ _ _ h => h) (Or.inl ⟨by rfl, fun W hW => by obtain ⟨s0, s1, s2, s3⟩ := hW; go_simp⟩) HS0.out ?_
            try simp only [Act.put, List.setIfInBounds_toArray, List.set_cons_zero, List.set_cons_succ]
            refine T_take (k := 7) (v := .agg #[.slice F Fl.length f1, .slice U Wl.length u1, .slice N Nl.length n1, .slice G ls.length g]) rfl (by decide +kernel) (fun _ _ _ h => h) (Or.inl ⟨by rfl, fun W hW => by obtain ⟨s0, s1, s2, s3⟩ := hW; go_simp⟩) HS0.out ?_
            try simp only [Act.put, List.setIfInBounds_toArray, List.set_cons_zero, List.set_cons_succ]
            refine T_one (i := 8) (by decide +kernel) rfl rfl (fun K hK8 => ?_)
            have hK8 := Lib.hid hK8
            go_simp
            refine hK8.out _ _ HS1.out ?_
            try simp only [Act.put, List.setIfInBounds_toArray, List.set_cons_zero, List.set_cons_succ]
            refine T_one (i := 9) (by decide +kernel) rfl rfl (fun K hK9 => ?_)
            have hK9 := Lib.hid hK9
            refine app_wp3 (us := [.slice F Fl.length f1, .slice U Wl.length u1, .slice N Nl.length n1, .slice G ls.length g]) (c := 1) (H := wp.heap.size) (v := .slice AV k cV) (.tmp 96) (.tmp 100) rfl elt_built (by simp [Act.eval]) (by simp [Act.eval]) (show (wp.drew.alloc (.cells #[.slice F Fl.length f1, .slice U Wl.length u1, .slice N Nl.length n1, .slice G ls.length g] 76)).ownsRow _ _ _ _ _ _ from Ho4.out) Hnew.out rfl rfl (by omega) hb7a ?_
            intro v8 w8 hown8 hg8 hv8
            obtain ⟨A8, c8, rfl⟩ := own_slice hown8
            have Hp8 := Lib.hid ((show Bk (wp.drew.alloc (.cells #[.slice F Fl.length f1, .slice U Wl.length u1, .slice N Nl.length n1, .slice G ls.length g] 76)) p _ _ from Hp4.out).grown hg8 (Hp4.out.ne_own Ho4.out (by decide)))
            have HT8 := Lib.hid ((show Bk (wp.drew.alloc (.cells #[.slice F Fl.length f1, .slice U Wl.length u1, .slice N Nl.length n1, .slice G ls.length g] 76)) T _ _ from HT4.out).grown hg8 (HT4.out.ne_own Ho4.out (by decide)))
            have d4 := Hp8.out.frozen 3
            have HS2 := Lib.hid (show w8.cell? ⟨p, 3, none⟩ = some (.slice AV k cV) ∧ w8.cell? ⟨T, 0, none⟩ = some (.slice F Fl.length f1) ∧ w8.cell? ⟨T, 1, none⟩ = some (.slice U Wl.length u1) ∧ w8.cell? ⟨T, 2, none⟩ = some (.slice N Nl.length n1) from ⟨Hp8.out.cell 3, HT8.out.cell 0, HT8.out.cell 1, HT8.out.cell 2⟩)
            have d3 := HS2.out.1
            refine hK9.out _ _ HS2.out ?_
            try simp only [Act.put, List.setIfInBounds_toArray, List.set_cons_zero, List.set_cons_succ]
            refine T_one (i := 10) (by decide +kernel) rfl rfl (fun K hK10 => ?_)
            have hK10 := Lib.hid hK10
            go_simp
            refine hK10.out _ _ HS2.out ?_
            try simp only [Act.put, List.setIfInBounds_toArray, List.set_cons_zero, List.set_cons_succ]
            refine T_take (k := 11) (v := .pointer (some ⟨p, 3, none⟩)) rfl (by decide +kernel) (fun _ _ _ h => h) (Or.inl ⟨by rfl, fun W hW => by obtain ⟨s0, s1, s2, s3⟩ := hW; go_simp⟩) HS2.out ?_
            try simp only [Act.put, List.setIfInBounds_toArray, List.set_cons_zero, List.set_cons_succ]
            refine T_last (by decide +kernel) (by decide +kernel) (by decide +kernel) rfl rfl (fun K hKl => ?_)
            have hKl := Lib.hid hKl
            go_simp
            refine hKl.out _ _ (NoPanic.normal ?_)
            try simp only [Act.put, List.setIfInBounds_toArray, List.set_cons_zero, List.set_cons_succ]
            clear hK8 hK9 hK10 hKl HS0 HS1 HS2
            have hch : Ch w.heap.size p wp (w8.setCell ⟨p, 3, none⟩ (.slice A8 (k + 1) c8)) := ((Ch.of_grown (((grown_of_below ((Below.refl _ _).drew) (some p)).trans (World.grownBy_alloc _ _ _)))).trans (Ch.of_row Ho4.out hg8)).trans (Ch.of_grown (grown_set w8 p 3 _))
            have Hp9 := Lib.hid (Hp8.out.set_ 3 (.slice A8 (k + 1) c8))
            have Ho9 := Lib.hid (own_set (i := 3) hown8 (Hp8.out.ne_own hown8 (by decide)) (.slice A8 (k + 1) c8))
            have Hm9 := Lib.hid (((((show MapF sV id Try.prog 9 wp.drew M f kn from Hm3.out).alloc (.cells #[.slice F Fl.length f1, .slice U Wl.length u1, .slice N Nl.length n1, .slice G ls.length g] 76))).grown hg8 (MapF.own_ne (Hm3.out.drew.alloc _) Ho4.out)).setCell (p := ⟨p, 3, none⟩) (Ne.symm hpM) (.slice A8 (k + 1) c8))
            have Hg9 := Lib.hid (((((Hgall.out.trans (grown_of_below ((Below.refl _ _).drew) (some p))).trans (World.grownBy_alloc _ _ _)).andThen hg8 (fun q hq => .inl (Ho4.out.lt q hq).1))).trans (grown_set w8 p 3 (.slice A8 (k + 1) c8)))
            have Hch := Lib.hid hch
            clear hch
            go_wp2_with fail
            go_roundw
            case rel =>
              have hvr := (HVR.out.imp (Φ' := Rc Ft w w7 b7 p (w8.setCell ⟨p, 3, none⟩ (.slice A8 (k + 1) c8))) (fun W hW => hW.imp Hch.out)).snoc (d := (Fl, Wl, Nl)) (F := F) (U := U) (N := N) (G := G) (f := f1) (u := u1) (n := n1) (g := g) (fun W hW => ⟨(Hs1.out W hW.2.1).1, (Hs1.out W hW.2.1).2.1, (Hs1.out W hW.2.1).2.2, HGs.out W (hW.imp Hch.out)⟩)
              rw [← take_snoc' hd.out] at hvr
              exact ⟨k + 1, _, _, by omega, rfl, by go_num, Hp9.out, Ho9.out, hvr, Hm9.out, Hg9.out⟩
            case measure => simp [intOf]; omega
          · obtain rfl : k = ds'.length := by omega
            obtain ⟨q1, q2, q3, q4, q5⟩ := HLB.out
            rw [List.take_length] at q1 q3
            obtain ⟨AV, cV, hvV⟩ := own_slice q2
            subst hvV
            have Hq1 := Lib.hid q1
            have Hq2 := Lib.hid q2
            have Hq3 := Lib.hid q3
            have Hq5 := Lib.hid q5
            clear q1 q2 q3 q4 q5 HLB
            go_wp2_with fail
            go_ret2
            rw [hds.out, hds'.out]
            have hgF : w.grownBy wr (some p) := Hb7.out.trans Hq5.out
            have hUF : Up b7 w7 wr := Up.of_grown Hq5.out hpb7
            have hwz : w.heap.size ≤ b7 := Hb7z.out
            have hFw : ∀ k, (Ft k ∨ (w.heap.size ≤ k ∧ k < wr.heap.size)) → k ≠ p := fun k hk e => by
              subst e
              rcases hk with hk | hk
              · exact Hnp.out.1 hk
              · have := HSz.out; omega
            have hKw : ∀ W, Kf (fun k => Ft k ∨ (w.heap.size ≤ k ∧ k < wr.heap.size)) wr W → Kf Ft w W := fun W hW => ⟨Nat.le_trans hgF.size hW.size, fun k hk hl => (hW.block k (.inl hk) (Nat.lt_of_lt_of_le hl hgF.size)).trans (hgF.block k hl (fun e => hFw k (.inl hk) (by injection e)))⟩
            have hUw : ∀ W, Kf (fun k => Ft k ∨ (w.heap.size ≤ k ∧ k < wr.heap.size)) wr W → Up b7 w7 W := fun W hW => ⟨Nat.le_trans hUF.size hW.size, fun k hk hl => (hW.block k (.inr ⟨by omega, Nat.lt_of_lt_of_le hl hUF.size⟩) (Nat.lt_of_lt_of_le hl hUF.size)).trans (hUF.block k hk hl)⟩
            have hCw : ∀ W, Kf (fun k => Ft k ∨ (w.heap.size ≤ k ∧ k < wr.heap.size)) wr W → Ch w.heap.size p wr W := fun W hW => ⟨hW.size, fun k hz hl _ _ => hW.block k (.inr ⟨hz, hl⟩) hl⟩
            have hoA := own_grown HoA7.out Hq5.out (.inr (Ne.symm (own_far HoA7.out hpl)))
            have hoB := own_grown HoB7.out Hq5.out (.inr (Ne.symm (own_far HoB7.out hpl)))
            have hSe := HSz.out
            refine ⟨fun h => (h Hv.out).elim, fun _ => ⟨by rw [List.take_length]; rfl, hgF, fun k => Ft k ∨ (w.heap.size ≤ k ∧ k < wr.heap.size), ⟨Hv.out, Hth.out.2, fun hk => hFw p hk rfl, fun k hk => ?_, C, c, A1, a1, B1, b1, AV, cV, by rw [hds'.out]; exact Hq1.out, fun W hW => ⟨(H4'.out W (hKw W hW)).1, SL.of_own (own_kf hoA (fun g hg => .inr (by have := hoA.lt g hg; omega)) hW), SL.of_own (own_kf hoB (fun g hg => .inr (by have := hoB.lt g hg; omega)) hW)⟩, ?_⟩, fun k hk => hk.imp id (fun h => h.1)⟩⟩
            · rcases hk with hk | hk
              · exact Nat.lt_of_lt_of_le (Hnp.out.2 k hk) hgF.size
              · exact hk.2
            rw [hds'.out]
            have hvr := Hq3.out.imp (Φ' := fun W => Kf (fun k => Ft k ∨ (w.heap.size ≤ k ∧ k < wr.heap.size)) wr W) (fun W hW => ⟨hKw W hW, hUw W hW, hCw W hW⟩)
            exact ⟨vs, fun W hW => SL.of_own (own_kf Hq2.out (fun g hg => .inr (by have := Hq2.out.lt g hg; have := Hb7w.out; omega)) hW), hvr.1, hvr.2⟩
  · have hne : (validE ws' ns' != 0) = true := by simpa using hv
    have Hv := Lib.hid hv
    obtain ⟨z, hz⟩ : ∃ z, Hid (validE ws' ns' = z) := ⟨_, Lib.hid rfl⟩
    rw [hz.out] at hne ⊢
    clear hv
    go_wp2_with fail
    go_ret2
    exact ⟨fun _ => ⟨by rw [hz.out]; rfl, HKP.out.below Hb1.out, Hb1.out⟩, fun h => (Hv.out h).elim⟩
end Go.Proofs.Ytmdgdphhedgojaa

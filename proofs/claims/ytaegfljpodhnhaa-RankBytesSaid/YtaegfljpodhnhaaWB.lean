import Derived.Test.YtaegfljpodhnhaaWA
import Derived.Test.YtaegfljpodhnhaaR23
import Derived.Lib.MinMax
namespace Go.Proofs.Ytaegfljpodhnhaa
open Go.RowKit Go.Maps

/-- The bytes of lists one after the other. -/
def encTo (gs : List (List Int)) : List Nat := gs.flatMap fun l => vb l.length ++ vbs l
/-- The bytes of a chain. -/
def encB (gs : List (List Int)) : List Nat := vb (zz gs.length) ++ encTo gs
theorem encTo_snoc (gs : List (List Int)) (l : List Int) : encTo (gs ++ [l]) = encTo gs ++ vb l.length ++ vbs l := by simp [encTo]
/-- Lists that are encoded here. -/
def Few (gs : List (List Int)) : Prop := ∀ l ∈ gs, W64 l ∧ l.length ≤ 1000
theorem encTo_len : ∀ gs : List (List Int), Few gs → (encTo gs).length ≤ 10010 * gs.length
  | [], _ => by simp [encTo]
  | l :: gs, h => by
    have h1 := h l (by simp)
    have h2 := encTo_len gs (fun z hz => h z (by simp [hz]))
    have h3 := vbs_len l h1.1
    have h4 := vb_ten (n := l.length) (by omega)
    have e : encTo (l :: gs) = (vb l.length ++ vbs l) ++ encTo gs := rfl
    rw [e, List.length_append, List.length_append, List.length_cons]
    omega

set_option maxHeartbeats 2000000 in
set_option maxRecDepth 100000 in
theorem encode_any (A : Option Addr) (c : Nat) (gs : List (List Int)) (w : World) (hA : SLL w A gs) (hg : Few gs) (hl : gs.length ≤ 100) :
    Calls Try.prog 27 #[.agg #[.slice A gs.length c]] w fun e w' => ∃ v, e = .returned v ∧ w'.ownsRow w.heap.size 5 1 v (encB gs).length (byV (encB gs)) ∧ Below w.heap.size w w' := by
  have hB0 := Lib.hid ((Below.refl w.heap.size w).alloc (Nat.le_refl _) (.cells #[.slice A gs.length c] 36))
  have hS0 := Lib.hid (hA.below hB0.out)
  have hC0 := Lib.hid (Bk.new w 36 #[.slice A gs.length c])
  have hW : Hid (WR ((w.alloc (.cells #[.slice A gs.length c] 36)).alloc (.cells #[.slice none 0 0] 100)) (w.heap.size + 1) (w.heap.size + 1) (.slice none 0 0) []) :=
    Lib.hid ⟨Bk.new' _ _ _ (by simp), World.ownsRow_nil _ _ _ _, Nat.le_refl _⟩
  have hB1 : Hid (Below (w.heap.size + 1) (w.alloc (.cells #[.slice A gs.length c] 36)) ((w.alloc (.cells #[.slice A gs.length c] 36)).alloc (.cells #[.slice none 0 0] 100))) :=
    Lib.hid ((Below.refl _ _).alloc (by simp) _)
  have hz0 : Hid ((w.alloc (.cells #[.slice A gs.length c] 36)).heap.size = w.heap.size + 1) := Lib.hid (by simp)
  clear hA
  go_enter Try.func27, Try.ntmps27
  go_wp2_with fail
  refine (wInt_any (w.heap.size + 1) (w.heap.size + 1) (.slice none 0 0) [] gs.length _ (by omega) hW.out (by simp)).mono ?_
  rintro e w1 ⟨v1, rfl, hW1, hb1⟩
  rw [List.nil_append] at hW1
  have hb1 := hB1.out.trans hb1
  clear hW hB1
  generalize w.alloc (.cells #[.slice A gs.length c] 36) = W0 at *
  have hc1 : w1.cell? ⟨w.heap.size, 0, none⟩ = some (.slice A gs.length c) := (hC0.out.below hb1 (by omega)).cell 0
  have H1 := Lib.hid hW1
  have Hb1 := Lib.hid hb1
  clear hW1 hb1 hC0
  go_wp2_with fail
  go_loopw [13] (fun i wr => ∃ (k : Nat) (v' : Value), k ≤ gs.length ∧ i = .int .i64 k ∧ WR wr (w.heap.size + 1) (w.heap.size + 1) v' (vb (zz gs.length) ++ encTo (gs.take k)) ∧ Below (w.heap.size + 1) W0 wr) (fun i _ => gs.length - (intOf i).toNat)
  case atStart => exact ⟨0, v1, by omega, rfl, by simpa [encTo] using H1.out, Hb1.out⟩
  case round =>
    clear H1 Hb1 hc1
    obtain ⟨k, v', hk, rfl, hW, hb⟩ := hrel
    have HW := Lib.hid hW
    have Hb := Lib.hid hb
    clear hW hb
    have hz10 := vb_ten (n := zz gs.length) (zz_lt (by omega))
    have htk := encTo_len (gs.take k) (fun z hz => hg z (List.mem_of_mem_take hz))
    have htl : (gs.take k).length ≤ k := by simp; omega
    by_cases hlt : k < gs.length
    · obtain ⟨b1, o1, B, cc, l, rfl, hc0, hsi, hx⟩ := hS0.out.get hlt
      have hlt1 := World.block_lt_of_cell? _ _ hc0
      have hc : wr.cell? ⟨b1, o1 + k, none⟩ = some (.slice B l.length cc) := (Hb.out.cell (p := ⟨b1, o1 + k, none⟩) (by have h9 := hz0.out; omega)).trans hc0
      have Hs := Lib.hid hsi
      have hgl := hg l (List.mem_of_getElem? hx.out)
      have Ht := Lib.hid (take_snoc' hx.out)
      clear hc0 hsi hlt1
      go_wp2_with fail
      refine (wInts_any (w.heap.size + 1) (w.heap.size + 1) v' (vb (zz gs.length) ++ encTo (gs.take k)) B cc l W0 wr Hs.out (Nat.le_of_eq hz0.out) Hb.out hgl.1 (by omega) HW.out (by simp only [List.length_append]; omega)).mono ?_
      rintro e w2 ⟨v2, rfl, hW2, hb2⟩
      have HW2 := Lib.hid hW2
      have Hb2 := Lib.hid hb2
      clear hW2 hb2
      go_wp2_with fail
      go_roundw
      case rel => exact ⟨k + 1, v2, by omega, by go_num, by rw [Ht.out, encTo_snoc, ← List.append_assoc, ← List.append_assoc]; exact HW2.out, Hb.out.trans Hb2.out⟩
      case measure => simp [intOf]; omega
    · obtain rfl : k = gs.length := by omega
      rw [List.take_length] at HW htk
      go_wp2_with fail
      refine (wDone_any (w.heap.size + 1) (w.heap.size + 1) v' (encB gs) wr HW.out (by rw [encB, List.length_append]; omega)).mono ?_
      rintro e w2 ⟨v2, rfl, hown, hb2⟩
      have Hown := Lib.hid hown
      have Hb2 := Lib.hid hb2
      clear hown hb2
      go_wp2_with fail
      go_ret
      have h1 := hz0.out
      have h2 := Hb.out.size
      exact ⟨_, rfl, own_mono Hown.out (by omega), (hB0.out.trans (Hb.out.mono (by omega))).trans (Hb2.out.mono (by omega))⟩
end Go.Proofs.Ytaegfljpodhnhaa

namespace Go.Proofs.Ytaegfljpodhnhaa
open Go.RowKit Go.Maps

set_option maxHeartbeats 2000000 in
set_option maxRecDepth 100000 in
theorem refEncode_any (A : Option Addr) (c : Nat) (gs : List (List Int)) (w : World) (hA : SLL w A gs) (hg : Few gs) (hl : gs.length ≤ 100) :
    Calls Try.prog 30 #[.slice A gs.length c] w fun e w' => ∃ v, e = .returned v ∧ w'.ownsRow w.heap.size 5 1 v (encB gs).length (byV (encB gs)) ∧ Below w.heap.size w w' := by
  have hS0 := Lib.hid hA
  clear hA
  go_enter Try.func30, Try.ntmps30
  go_wp2_with fail
  refine (refInt_any gs.length w (by omega)).mono ?_
  rintro e w1 ⟨v1, rfl, hown1, hb1⟩
  have Hown1 := Lib.hid hown1
  have Hb1 := Lib.hid hb1
  clear hown1 hb1
  go_wp2_with fail
  go_loopw [3, 4] (fun v i wr => ∃ (k : Nat), k ≤ gs.length ∧ i = .int .i64 k ∧ wr.ownsRow w.heap.size 5 1 v (vb (zz gs.length) ++ encTo (gs.take k)).length (byV (vb (zz gs.length) ++ encTo (gs.take k))) ∧ Below w.heap.size w wr) (fun _ i _ => gs.length - (intOf i).toNat)
  case atStart => exact ⟨0, by omega, rfl, by simpa [encTo] using Hown1.out, Hb1.out⟩
  case round =>
    clear Hown1 Hb1
    obtain ⟨k, hk, rfl, hown, hb⟩ := hrel
    by_cases hlt : k < gs.length
    · obtain ⟨b1, o1, B, cc, l, rfl, hc, hsi, hx⟩ := (hS0.out.below hb).get hlt
      have Hs := Lib.hid hsi
      have hgl := hg l (List.mem_of_getElem? hx.out)
      have Ht := Lib.hid (take_snoc' hx.out)
      have hz10 := vb_ten (n := zz gs.length) (zz_lt (by omega))
      have htk := encTo_len (gs.take k) (fun z hz => hg z (List.mem_of_mem_take hz))
      have htl : (gs.take k).length ≤ k := by simp; omega
      have hl10 := vb_ten (n := l.length) (by omega)
      have hvl := vbs_len l hgl.1
      have hlen : (vb (zz gs.length) ++ encTo (gs.take k)).length ≤ 2000000 := by rw [List.length_append]; omega
      have hlen2 : (vb l.length ++ vbs l).length ≤ 20000 := by rw [List.length_append]; omega
      clear htk htl hz10 hl10 hvl hsi
      generalize hd : vb (zz gs.length) ++ encTo (gs.take k) = d at *
      have Hd := Lib.hid hd
      have Hown := Lib.hid hown
      have Hb := Lib.hid hb
      clear hown hb hd
      go_wp2_with fail
      refine (refInts_any B cc l wr Hs.out hgl.1 (by omega)).mono ?_
      rintro e w2 ⟨v2, rfl, hown2, hb2⟩
      generalize hq : vb l.length ++ vbs l = q at *
      have Hq := Lib.hid hq
      clear hq
      obtain ⟨A2, c2, rfl⟩ := own_slice hown2
      have hownO := own_below Hown.out hb2
      have hbs2 := (Hb.out.trans (hb2.mono Hb.out.size)).size
      have Hs2 := Lib.hid (SL.of_own hown2)
      have Hb2 := Lib.hid (Hb.out.trans (hb2.mono Hb.out.size))
      clear hown2 hb2
      go_wp2_with (at_builtin; refine wpList_appM' (w := w2) rfl _ _ rfl elt_byte hownO hbs2 rfl rfl Hs2.out (by rw [byV_len]; simp) (byV_all _) (by omega) ?_; intro v3 w3 hown3 hg3)
      go_roundw
      case rel => exact ⟨k + 1, by omega, by go_num, by rw [Ht.out, encTo_snoc, ← List.append_assoc, ← List.append_assoc, Hd.out, List.append_assoc, Hq.out, byV_append, List.length_append]; exact hown3, Hb2.out.grown hg3 hbs2 (fun k hk => (hownO.lt k hk).1)⟩
      case measure => simp [intOf]; omega
    · obtain rfl : k = gs.length := by omega
      rw [List.take_length] at hown
      go_wp2_with fail
      go_ret
      exact ⟨_, rfl, hown, hb⟩
end Go.Proofs.Ytaegfljpodhnhaa

namespace Go.Proofs.Ytaegfljpodhnhaa
open Go.RowKit Go.Maps

theorem SL.takeN' {w : World} {A : Option Addr} {xs : List Value} (h : SL w A xs) (n : Nat) : SL w A (xs.take n) := fun j u hu => by
  rw [List.getElem?_take] at hu
  split at hu
  · exact h j u hu
  · cases hu

set_option maxHeartbeats 1000000 in
set_option maxRecDepth 100000 in
theorem refTake_any (A : Option Addr) (c m : Nat) (l : List Int) (w : World) (hA : SI w A l) (hc : l.length ≤ c) (hm : m ≤ 1000) :
    Calls Try.prog 26 #[.slice A l.length c, .int .i64 m] w fun e w' => ∃ v, e = .returned v ∧ w'.ownsRow w.heap.size 3 1 v (l.take m).length ((l.take m).map (Value.int .i64)) ∧ Below w.heap.size w w' := by
  have hmin : ∀ (W : World) (ts : Array TypeId) (t : TypeId), (Builtin.min_ ts t #[.int .i64 l.length, .int .i64 m]).run Try.prog W = .ok (.int .i64 (min (l.length : Int) m)) W := fun W ts t => Lib.run_min_ints W ts t .i64 .i64 _ _
  have hS := Lib.hid (hA.takeN' m)
  have hlen : Hid ((l.take m).length = min l.length m) := Lib.hid (by simp [Nat.min_comm])
  obtain ⟨n, hn⟩ : ∃ n : Nat, Hid (min l.length m = n) := ⟨_, Lib.hid rfl⟩
  have hmn : min (l.length : Int) m = (n : Int) := by have := hn.out; omega
  simp only [hmn] at hmin
  have hn1 : n ≤ c := by have := hn.out; omega
  have hn2 : n ≤ 1000 := by have := hn.out; omega
  have hS' : Hid (SL w A ((l.take m).map (Value.int .i64))) := by rw [List.map_take]; exact hS
  have hL : Hid ((l.take m).length = n) := Lib.hid (hlen.out.trans hn.out)
  clear hS hlen hn hmn
  generalize l.take m = q at *
  have ho := World.ownsRow_nil w w.heap.size 3 1
  go_enter Try.func26, Try.ntmps26
  go_wp2_with (at_builtin; refine wpList_appM' (w := w) rfl _ _ rfl elt_int ho (Nat.le_refl _) rfl rfl hS'.out (by simp [hL.out]) (ints_all' _) (by omega) ?_; intro v3 w3 hown3 hg3)
  go_ret
  exact ⟨_, rfl, by rw [hL.out]; simpa using hown3, (Below.refl _ _).grown hg3 (Nat.le_refl _) (fun k hk => by simp [Value.ownBlock] at hk)⟩
end Go.Proofs.Ytaegfljpodhnhaa

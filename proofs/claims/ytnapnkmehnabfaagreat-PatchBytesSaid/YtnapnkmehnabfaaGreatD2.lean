import Derived.Test.YtnapnkmehnabfaaGreatD1
set_option maxHeartbeats 4000000
set_option maxRecDepth 100000
namespace Go.Proofs.YtnapnkmehnabfaaGreat
open Go.RowKit Go.Maps
def rawo : Nat × Option (List Nat) → List Nat × Option (List Nat)
 | (_, none) => ([], none)
 | (n, some l) => if n ≤ l.length then (l.take n, some (l.drop n)) else ([], none)
def rawR (s : Option (List Nat)) : List Nat × Option (List Nat) := rawo (uR s)
theorem rawR_vb {b : List Nat} (h : b.length < 18446744073709551616) (t : List Nat) : rawR (some (vb b.length ++ (b ++ t))) = (b, some t) := by
 unfold rawR;rw [uR_vb h];show (if b.length ≤ (b ++ t).length then _ else _) = _;rw [if_pos (by simp)];simp
theorem uR_some {l : List Nat} {n : Nat} {t : List Nat} (h : uR (some l) = (n, some t)) : t.length < l.length := by
 have k : ∀ (l : List Nat) (i acc n : Nat) (t : List Nat), rdU i acc l = some (n, t) → t.length < l.length := by
  intro l;induction l with
  | nil => intro i acc n t h; cases h
  | cons c l ih =>
   intro i acc n t h;unfold rdU at h;split at h
   ·cases h
   split at h
   ·injection h with h; injection h with _ h; subst h; simp
   have := ih _ _ _ _ h; simp; omega
 unfold uR at h;simp only at h;cases e : rdU 0 0 l with
 | none => rw [e] at h; cases h
 | some q =>
  obtain ⟨m, t'⟩ := q;rw [e] at h;injection h with h1 h2;injection h2 with h2;subst h2;exact k _ _ _ _ _ e
theorem uR_none0 {s : Option (List Nat)} (h : (uR s).2 = none) : (uR s).1 = 0 := by
 cases s with
 | none => rfl
 | some l =>
  unfold uR at h ⊢;simp only at h ⊢;cases e : rdU 0 0 l with
  | none => rfl
  | some q => rw [e] at h; cases h
theorem glist_any (r B : Nat) (s : Option (List Nat)) (w : World) (h : RQ w r B s) (hB : B ≤ w.heap.size) (hL : ∀ l, s = some l → l.length ≤ 1000000000) :
  Calls Tryz.prog 152 #[.pointer (some ⟨r, 0, none⟩), .func (.func 150) #[.pointer (some ⟨r, 0, none⟩)] #[]] w fun e w' => ∃ A c, e = .returned (.slice A (rawR s).1.length c) ∧ w'.ownsRow w.heap.size 5 1 (.slice A (rawR s).1.length c) (rawR s).1.length (byV (rawR s).1) ∧ RQ w' r B (rawR s).2 ∧ R2 r r w w' := by
 have hrB := h.lt;have HU := q9 (gUint_any r B s w h);have h0 := @uR_none0 s;have hml : ∀ l, (uR s).2 = some l → l.length ≤ 1000000000 := fun l e => by
  cases s with
  | none => cases e
  | some l0 => have := hL l0 rfl; have := @uR_some l0 (uR (some l0)).1 l (Prod.ext rfl e); omega
 clear hL;have HV := q9 (show rawR s = rawo (uR s) from rfl);have hn : (uR s).1 < 18446744073709551616 := uR_lt h;generalize rawR s = R at *;generalize uR s = U at *;obtain ⟨n, t⟩ := U;obtain ⟨R1, R2'⟩ := R;dsimp only at HU hn h0 hml ⊢;clear h;go_enter Tryz.func152, Tryz.ntmps152
 go_wp2_with fail
 refine HU.out.mono ?_;rintro e w1 ⟨rfl, hR1, hF1⟩;have HF1 := q9 hF1;have HR1 := q9 hR1;clear hR1 hF1 HU;cases t with
 | none =>
  obtain rfl := h0 rfl;have hv := HV.out;injection hv with e1 e2;subst e1 e2;obtain ⟨l, e, he, A, c, hp, _, hlc, hcm, _⟩ := id HR1.out;have hc0 : w1.cell? ⟨r, 0, none⟩ = some (.slice A l.length c) := hp.cell 0;have hc1 : w1.cell? ⟨r, 1, none⟩ = some (.int .i64 e) := hp.cell 1;have he1 : (e == 0) = false := by simp [he]
  have he2 : (e != 0) = true := by simp [he]
  generalize l.length = m at *;have hmw : IntKind.u64.wrap (m : Int) = (m : Int) := by rw [IntKind.wrap_u64]; omega
  clear hp he h0 HV hml;go_wp2_with fail
  go_loopw [6, 7] (fun v i wr => i = .int .u64 0 ∧ v = .slice none 0 0 ∧ wr = w1) (fun _ i _ => 0)
  case atStart => exact ⟨rfl, rfl, rfl⟩
  case round =>
   obtain ⟨rfl, rfl, rfl⟩ := hrel;go_wp2_with fail
   go_ret
   exact ⟨none, 0, rfl, World.ownsRow_nil _ _ _ _, HR1.out, HF1.out⟩
 | some l =>
  clear h0;have hml := hml l rfl;have HR1' := q9 (show RG w1 r B l 0 from HR1.out);clear HR1;have HR1 := HR1';clear HR1';obtain ⟨A, c, hp, _, hlc, hcm, _⟩ := id HR1.out;have hc0 : w1.cell? ⟨r, 0, none⟩ = some (.slice A l.length c) := hp.cell 0;obtain ⟨m, hm⟩ : ∃ m, Hid (l.length = m) := ⟨_, q9 rfl⟩;rw [hm.out] at hc0 hlc hml;have hmw : IntKind.u64.wrap (m : Int) = (m : Int) := by rw [IntKind.wrap_u64]; omega
  clear hp;by_cases hle : n ≤ m
  ·have hv := q9 (show (R1, R2') = (l.take n, some (l.drop n)) from by rw [HV.out]; exact if_pos (by rw [hm.out]; exact hle));have hnm : ¬ (m < n) := by omega
   have hv1 := hv.out;injection hv1 with e1 e2;subst e1 e2;have Hln := q9 (show (l.take n).length = n from by rw [List.length_take, hm.out]; omega);have Hm := hm;clear HV hv hm;go_wp2_with fail
   go_loopw [6, 7] (fun v i wr => ∃ k : Nat, k ≤ n ∧ i = .int .u64 k ∧ wr.ownsRow w.heap.size 5 1 v k (byV (l.take k)) ∧ Hid (RG wr r B (l.drop k) 0) ∧ Hid (R2 r r w wr)) (fun _ i _ => n - (intOf i).toNat)
   case atStart => exact ⟨0, by omega, rfl, World.ownsRow_nil _ _ _ _, HR1, HF1⟩
   case round =>
    clear HR1 HF1 hc0 hcm hmw hlc;obtain ⟨k, hk, rfl, hown, HR, HF⟩ := hrel;obtain ⟨A2, c2, hp2, _⟩ := id HR.out;have hc1 : wr.cell? ⟨r, 1, none⟩ = some (.int .i64 0) := hp2.cell 1;have Hown := q9 hown;clear hp2 hown;by_cases hlt : k < n
    ·have hkl : k < l.length := by rw [Hm.out]; omega
     have hx : Hid (l[k]? = some l[k]) := List.getElem?_eq_getElem hkl;have hd : l.drop k = l[k] :: l.drop (k + 1) := List.drop_eq_getElem_cons hkl;generalize l[k] = x at *;rw [hd] at HR;have Htk := q9 (take_snoc' hx.out);clear hd;go_wp2_with fail
     refine (gnext_any r B x _ wr HR.out).mono ?_;rintro e w2 ⟨rfl, hR2, hF2⟩;have hown2 := own_r2 Hown.out hF2 (by omega) (by omega);have hF02 := HF.out.trans hF2;have hs2 := hF02.size;have HR2 := q9 hR2;have HF02 := q9 hF02;clear hR2 hF2 hF02;go_wp2_with (at_builtin; refine wpList_app2 (w := w2) rfl _ _ rfl elt_byte hown2 hs2 rfl rfl (by simp) rfl rfl (by omega) ?_; intro v3 w3 hown3 hg3 hz3)
     go_roundw
     case rel =>
      have hb3 : Below w.heap.size w2 w3 := (Below.refl _ _).grown hg3 hs2 (fun k hk => (hown2.lt k hk).1);exact ⟨k + 1, by omega, by go_num, by rw [Htk.out, byV_append]; exact hown3, q9 (HR2.out.below (hb3.mono hB)), q9 (HF02.out.grown hg3 (fun k hk => (hown2.lt k hk).1))⟩
     case measure => simp [intOf]; omega
    obtain rfl : k = n := by omega
    obtain ⟨A3, c3, rfl⟩ := own_slice Hown.out;go_wp2_with fail
    go_ret
    exact ⟨A3, c3, congrArg (fun z => Ending.returned (.slice A3 z c3)) Hln.out.symm, by rw [Hln.out]; exact Hown.out, HR.out, HF.out⟩
  have hv := q9 (show (R1, R2') = ([], none) from by rw [HV.out]; exact if_neg (by rw [hm.out]; exact hle));have hv1 := hv.out;injection hv1 with e1 e2;subst e1 e2;have hnm : m < n := by omega
  clear HV hv hle hm;go_wp2_with fail
  refine (fail_any r B l 3 w1 HR1.out).mono ?_;rintro e w2 ⟨rfl, hR2, hF2⟩;obtain ⟨A2, c2, hp2, _⟩ := id hR2;have hc1 : w2.cell? ⟨r, 1, none⟩ = some (.int .i64 3) := hp2.cell 1;have HR2 := q9 hR2;have HF2 := q9 (HF1.out.trans hF2);clear hp2 hR2 hF2 HR1 HF1 hc0;go_wp2_with fail
  go_loopw [6, 7] (fun v i wr => i = .int .u64 0 ∧ v = .slice none 0 0 ∧ wr = w2) (fun _ i _ => 0)
  case atStart => exact ⟨rfl, rfl, rfl⟩
  case round =>
   obtain ⟨rfl, rfl, rfl⟩ := hrel;go_wp2_with fail
   go_ret
   exact ⟨none, 0, rfl, World.ownsRow_nil _ _ _ _, ⟨l, 3, by decide, HR2.out⟩, HF2.out⟩
theorem gRaw_any (r B : Nat) (s : Option (List Nat)) (w : World) (h : RQ w r B s) (hB : B ≤ w.heap.size) (hL : ∀ l, s = some l → l.length ≤ 1000000000) :
  Calls Tryz.prog 89 #[.pointer (some ⟨r, 0, none⟩)] w fun e w' => ∃ A c, e = .returned (.slice A (rawR s).1.length c) ∧ w'.ownsRow w.heap.size 5 1 (.slice A (rawR s).1.length c) (rawR s).1.length (byV (rawR s).1) ∧ RQ w' r B (rawR s).2 ∧ R2 r r w w' := by
 have HL := q9 (glist_any r B s w h hB hL);clear h hL;generalize rawR s = R at *;go_enter Tryz.func89, Tryz.ntmps89
 go_wp2_with fail
 refine HL.out.mono ?_;rintro e w1 ⟨A, c, rfl, hown, hR, hF⟩;have HO := q9 hown;have HR := q9 hR;have HF := q9 hF;clear hown hR hF;go_wp2_with fail
 go_ret
 exact ⟨A, c, rfl, HO.out, HR.out, HF.out⟩
theorem gread_any (A : Option Addr) (c : Nat) (l : List Nat) (w : World) (hA : SL w A (byV l)) (hl : l.length ≤ 1000000000) (hx : ∀ x ∈ l, x < 256) :
  Calls Tryz.prog 30 #[.slice A l.length c] w fun e w' => ∃ r, e = .returned (.pointer (some ⟨r, 0, none⟩)) ∧ w.heap.size ≤ r ∧ RG w' r w'.heap.size l 0 ∧ Below w.heap.size w w' := by
 go_enter Tryz.func30, Tryz.ntmps30
 go_wp2_with fail
 refine (clone_any A c l w hA hl).mono ?_;rintro e w1 ⟨v, rfl, hown, hb⟩;obtain ⟨A1, c1, rfl⟩ := own_slice hown;have Hown := q9 hown;have Hb := q9 hb;clear hown hb;go_wp2_with fail
 go_ret
 have hcap := own_cap' Hown.out;have hrow : ∀ b o, A1 = some ⟨b, o, none⟩ → ∃ cs, Bk w1 b 5 cs := by
  rintro b o rfl;rcases Hown.out.2 with ⟨he, _⟩ | ⟨g, cap, cur, he, _, hg, _⟩
  ·cases he
  injection he with e1;injection e1 with e1;injection e1 with e1;subst e1;exact ⟨_, hg⟩
 have hcx : c1 ≤ 9223372036854775807 := by
  rcases Hown.out.2 with ⟨he, h0⟩ | ⟨g, cap, cur, he, _, hg, hc, hm, _⟩
  ·injection he;omega
  injection he with _ _ e3;unfold maxLen at hm;omega
 have hbx := (Below.refl w1.heap.size w1).alloc (Nat.le_refl _) (.cells #[.slice A1 l.length c1, .int .i64 0] 154);exact ⟨w1.heap.size, rfl, Hb.out.size, ⟨A1, c1, Bk.new _ _ _, (SL.of_own Hown.out).below hbx, hcap, hcx, by simp, fun b o e => by obtain ⟨cs, hb_⟩ := hrow b o e; have := hb_.lt; exact ⟨by omega, by simp; omega, cs, hb_.alloc _⟩, hx⟩, Hb.out.trans (hbx.mono Hb.out.size)⟩
end Go.Proofs.YtnapnkmehnabfaaGreat

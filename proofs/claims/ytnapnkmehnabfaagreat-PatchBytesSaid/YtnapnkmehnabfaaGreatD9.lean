import Derived.Test.YtnapnkmehnabfaaGreatD8
import Derived.Test.YtnapnkmehnabfaaGreatP44
set_option linter.unusedSimpArgs false
set_option maxHeartbeats 4000000
set_option maxRecDepth 100000
namespace Go.Proofs.YtnapnkmehnabfaaGreat
open Go.RowKit Go.Maps
theorem refEncode_any (p : Pa) (a : Pw) (w : World) (h : PT w p a) (hl : PLn p) (hw : PW64 p) (hr : RPn p) :
  Calls Tryz.prog 26 #[.agg (paC p a)] w fun e w' => Below w.heap.size w w' ∧ ((paE p ≠ 0 ∧ e = .returned (.tuple #[.slice none 0 0, .int .i64 (paE p)])) ∨
   (paE p = 0 ∧ ∃ A c, e = .returned (.tuple #[.slice A (paB p).length c, .int .i64 0]) ∧ w'.ownsRow w.heap.size 5 1 (.slice A (paB p).length c) (paB p).length (byV (paB p)))) := by
 have hb0 := (Below.refl w.heap.size w).alloc (Nat.le_refl _) (.cells #[.int .i64 p.office, .int .i64 p.num, .slice a.n p.needs.length a.cn, .slice a.s p.st.length a.cs, .slice a.l p.pl.length a.cl, .slice a.m p.ma.length a.cm, .slice a.e p.er.length a.ce, .slice a.d p.dr.length a.cd, .slice a.r p.rt.length a.cr] 34);have HK := q9 (Bk.new w 34 #[.int .i64 p.office, .int .i64 p.num, .slice a.n p.needs.length a.cn, .slice a.s p.st.length a.cs, .slice a.l p.pl.length a.cl, .slice a.m p.ma.length a.cm, .slice a.e p.er.length a.ce, .slice a.d p.dr.length a.cd, .slice a.r p.rt.length a.cr]);have HV := q9 (fun W (hb : Below w.heap.size w W) => refPatch_any p a W (h.below hb) ⟨hl.n, hl.s, hl.l, hl.m, hl.e, hl.d, hl.r⟩);have HY := q9 (fun W (hb : Below w.heap.size w W) => refBytes_any p a W (h.below hb) hw hr);have Hb0 := q9 hb0;obtain ⟨R, hR⟩ : ∃ z, Hid (paE p = z) := ⟨_, q9 rfl⟩;obtain ⟨L, hL⟩ : ∃ z, Hid (paB p = z) := ⟨_, q9 rfl⟩;rw [hR.out] at HV ⊢;rw [hL.out] at HY ⊢;show Calls Tryz.prog 26 #[.agg #[.int .i64 p.office, .int .i64 p.num, .slice a.n p.needs.length a.cn, .slice a.s p.st.length a.cs, .slice a.l p.pl.length a.cl, .slice a.m p.ma.length a.cm, .slice a.e p.er.length a.ce, .slice a.d p.dr.length a.cd, .slice a.r p.rt.length a.cr]] w _;clear h hb0;go_enter Tryz.func26, Tryz.ntmps26
 go_upto_region 1 with fail
 generalize w.alloc (.cells #[.int .i64 p.office, .int .i64 p.num, .slice a.n p.needs.length a.cn, .slice a.s p.st.length a.cs, .slice a.l p.pl.length a.cl, .slice a.m p.ma.length a.cm, .slice a.e p.er.length a.ce, .slice a.d p.dr.length a.cd, .slice a.r p.rt.length a.cr] 34) = W0 at *;obtain ⟨S, hS⟩ : ∃ z, Hid (w.heap.size = z) := ⟨_, q9 rfl⟩;rw [hS.out] at HK;simp only [hS.out];have c0_ : W0.cell? ⟨S, 0, none⟩ = some (.int .i64 p.office) := HK.out.cell 0;have c1_ : W0.cell? ⟨S, 1, none⟩ = some (.int .i64 p.num) := HK.out.cell 1;have c2_ : W0.cell? ⟨S, 2, none⟩ = some (.slice a.n p.needs.length a.cn) := HK.out.cell 2;have c3_ : W0.cell? ⟨S, 3, none⟩ = some (.slice a.s p.st.length a.cs) := HK.out.cell 3;have c4_ : W0.cell? ⟨S, 4, none⟩ = some (.slice a.l p.pl.length a.cl) := HK.out.cell 4;have c5_ : W0.cell? ⟨S, 5, none⟩ = some (.slice a.m p.ma.length a.cm) := HK.out.cell 5;have c6_ : W0.cell? ⟨S, 6, none⟩ = some (.slice a.e p.er.length a.ce) := HK.out.cell 6;have c7_ : W0.cell? ⟨S, 7, none⟩ = some (.slice a.d p.dr.length a.cd) := HK.out.cell 7;have c8_ : W0.cell? ⟨S, 8, none⟩ = some (.slice a.r p.rt.length a.cr) := HK.out.cell 8;unfold paC at HV HY;go_wp2_with fail
 refine (HV.out W0 Hb0.out).mono ?_;rintro e w1 ⟨rfl, hb_⟩;have HK1 := q9 (HK.out.below hb_ HK.out.lt);have Hb1 := q9 (Hb0.out.trans (hb_.mono Hb0.out.size));clear hb_ HV HK Hb0 c0_ c1_ c2_ c3_ c4_ c5_ c6_ c7_ c8_;by_cases f1 : R = 0
 ·have b1 : (R != 0) = false := by simp [f1]
  have Hf := q9 f1;have c0_ : w1.cell? ⟨S, 0, none⟩ = some (.int .i64 p.office) := HK1.out.cell 0;have c1_ : w1.cell? ⟨S, 1, none⟩ = some (.int .i64 p.num) := HK1.out.cell 1;have c2_ : w1.cell? ⟨S, 2, none⟩ = some (.slice a.n p.needs.length a.cn) := HK1.out.cell 2;have c3_ : w1.cell? ⟨S, 3, none⟩ = some (.slice a.s p.st.length a.cs) := HK1.out.cell 3;have c4_ : w1.cell? ⟨S, 4, none⟩ = some (.slice a.l p.pl.length a.cl) := HK1.out.cell 4;have c5_ : w1.cell? ⟨S, 5, none⟩ = some (.slice a.m p.ma.length a.cm) := HK1.out.cell 5;have c6_ : w1.cell? ⟨S, 6, none⟩ = some (.slice a.e p.er.length a.ce) := HK1.out.cell 6;have c7_ : w1.cell? ⟨S, 7, none⟩ = some (.slice a.d p.dr.length a.cd) := HK1.out.cell 7;have c8_ : w1.cell? ⟨S, 8, none⟩ = some (.slice a.r p.rt.length a.cr) := HK1.out.cell 8;clear f1;go_wp2_with fail
  refine (HY.out w1 Hb1.out).mono ?_;rintro e w2 ⟨v, rfl, hown, hb_⟩;have Hb2 := q9 (Hb1.out.trans (hb_.mono Hb1.out.size));have hO := own_mono hown Hb1.out.size;obtain ⟨A, c, rfl⟩ := own_slice hO;have HO := q9 hO;clear hO hown hb_ HY;go_wp2_with fail
  exact bodyPost_ret (v := .tuple #[.slice A L.length c, .int .i64 0]) (by simp [results, Tryz.results26, go_sem]) rfl ⟨Hb2.out, .inr ⟨Hf.out, A, c, rfl, HO.out⟩⟩
 have b1 : (R != 0) = true := by simp [f1]
 have Hf := q9 f1;clear f1;go_wp2_with fail
 exact bodyPost_ret (v := .tuple #[.slice none 0 0, .int .i64 R]) (by simp [results, Tryz.results26, go_sem]) rfl ⟨Hb1.out, .inl ⟨Hf.out, rfl⟩⟩
theorem SL.takeF {w : World} {A : Option Addr} {xs : List Value} (h : SL w A xs) (n : Nat) : SL w A (xs.take n) := fun j u hu => by
 rw [List.getElem?_take] at hu;split at hu
 ·exact h j u hu
 cases hu
theorem few_any (A : Option Addr) (c m : Nat) (l : List Nat) (w : World) (hA : SL w A (byV l)) (hm : m ≤ 1000000000) (hc : l.length ≤ c) :
  Calls Tryz.prog 32 #[.slice A l.length c, .int .i64 (m : Int)] w fun e w' => ∃ A' c', e = .returned (.slice A' (l.take m).length c') ∧ w'.ownsRow w.heap.size 5 1 (.slice A' (l.take m).length c') (l.take m).length (byV (l.take m)) ∧ Below w.heap.size w w' := by
 have hmin : ∀ (W : World) (ts : Array TypeId) (t : TypeId), (Builtin.min_ ts t #[.int .i64 l.length, .int .i64 m]).run Tryz.prog W = .ok (.int .i64 (min (l.length : Int) m)) W := fun W ts t => Lib.run_min_ints W ts t .i64 .i64 _ _;have hS := q9 (SL.takeF hA m);have hlen : Hid ((l.take m).length = min l.length m) := q9 (by simp [Nat.min_comm]);obtain ⟨n, hn⟩ : ∃ n : Nat, Hid (min l.length m = n) := ⟨_, q9 rfl⟩;have hmn : min (l.length : Int) m = (n : Int) := by have := hn.out; omega
 simp only [hmn] at hmin;have hn1 : n ≤ c := by have := hn.out; omega
 have hn2 : n ≤ 1000000000 := by have := hn.out; omega
 have hS' : Hid (SL w A (byV (l.take m))) := by unfold byV; rw [List.map_take]; exact hS
 have hL : Hid ((l.take m).length = n) := q9 (hlen.out.trans hn.out);clear hS hlen hn hmn hA;generalize l.take m = q at *;have ho := World.ownsRow_nil w w.heap.size 5 1;go_enter Tryz.func32, Tryz.ntmps32
 go_wp2_with (at_builtin; refine wpList_appM' (w := w) rfl _ _ rfl elt_byte ho (Nat.le_refl _) rfl rfl hS'.out (by rw [byV_len, hL.out]; simp) (byV_all _) (by omega) ?_; intro v3 w3 hown3 hg3; obtain ⟨A3, c3, rfl⟩ := own_slice hown3)
 go_ret
 exact ⟨A3, c3, congrArg (fun z => Ending.returned (.slice A3 z c3)) hL.out.symm, by rw [hL.out]; simpa using hown3, (Below.refl _ _).grown hg3 (Nat.le_refl _) (fun k hk => by simp [Value.ownBlock] at hk)⟩
theorem decode_bad {p : Pa} (A : Option Addr) (c : Nat) (w : World) (hA : SL w A (byV (paB p))) (hw : PW64 p) (hl : PLn p) (hr : RPn p) (he : paE p ≠ 0) :
  Calls Tryz.prog 28 #[.slice A (paB p).length c] w fun e w' => e = .returned (.tuple #[.agg (paC paZ pwZ), .int .i64 2]) ∧ Below w.heap.size w w' := by
 refine (decode_any A c (paB p) w hA (paB_len2 hw hr) (paB_lt p)).mono ?_;rintro e w1 ⟨⟨q, a, E, hE, _, rfl, hiff⟩, hb⟩;rcases hE with ⟨_, rfl⟩ | ⟨rfl, _⟩
 ·obtain ⟨h1, h2, _⟩ := hiff.1 rfl;have := dec_back (q := (decR (paB p)).1) hw hl (fun x hx => Nat.le_trans (hr.c x hx) (by decide)) (Prod.ext rfl h1);rw [this] at h2;exact absurd h2 he
 exact ⟨rfl, hb⟩
theorem decode_good {p : Pa} (A : Option Addr) (c : Nat) (w : World) (hA : SL w A (byV (paB p))) (h : PEn p) (hr : RPn p) (he : paE p = 0) :
  Calls Tryz.prog 28 #[.slice A (paB p).length c] w fun e w' => ∃ a, e = .returned (.tuple #[.agg (paC p a), .int .i64 0]) ∧ PB w' p a ∧ Below w.heap.size w w' := by
 refine (decode_any A c (paB p) w hA (paB_len2 h.w hr) (paB_lt p)).mono ?_;rintro e w1 ⟨⟨q, a, E, hE, hp, rfl, hiff⟩, hb⟩;have hd := dec_ok h;rw [hd] at hE hp hiff;rcases hE with ⟨rfl, _⟩ | ⟨_, rfl⟩
 ·exact ⟨a, rfl, hp, hb⟩
 have := hiff.2 ⟨rfl, he, rfl⟩;cases this
theorem decode_try (A : Option Addr) (c : Nat) (l : List Nat) (w : World) (hA : SL w A (byV l)) (hl : l.length ≤ 1000000000) (hx : ∀ x ∈ l, x < 256) :
  Calls Tryz.prog 28 #[.slice A l.length c] w fun e w' => ∃ (p : Pa) (a : Pw) (E : Int), e = .returned (.tuple #[.agg (paC p a), .int .i64 E]) ∧ ((E = 0 ∧ PB w' p a ∧ PEn p ∧ PLn p ∧ paE p = 0 ∧ paB p = l) ∨ E = 2) ∧ Below w.heap.size w w' := by
 refine (decode_any A c l w hA hl hx).mono ?_;rintro e w1 ⟨⟨q, a, E, hE, hp, rfl, hiff⟩, hb⟩;obtain ⟨hpl, hnu⟩ := dec_pln hl hx;rcases hE with ⟨rfl, rfl⟩ | ⟨rfl, rfl⟩
 ·obtain ⟨_, h2, h3⟩ := hiff.1 rfl;exact ⟨_, a, 0, rfl, .inl ⟨rfl, hp, paE_ok hnu h2, hpl, h2, h3⟩, hb⟩
 exact ⟨paZ, pwZ, 2, rfl, .inr rfl, hb⟩
theorem rpn_of {p : Pa} (h : PEn p) : RPn p := ⟨by have := h.nn; omega, by have := h.s; omega, fun x hx => by have := h.c x hx; omega, by have := h.l; omega, h.x, by have := h.m; omega, by have := h.e; omega, by have := h.d; omega, by have := h.r; omega⟩
end Go.Proofs.YtnapnkmehnabfaaGreat

import Derived.Test.YtnapnkmehnabfaaGreatP37
namespace Go.Proofs.YtnapnkmehnabfaaGreat
open Go.RowKit Go.Maps

def ptsX : List (Int × Int) := [(0, 0), (4, 0), (4, 4)]
/-- The patch of the documented example. -/
def lvP : Pa := lineP 3 1 [] ptsX ⟨0, 3, 0, 9, 0⟩
theorem lvP_ok : paE lvP = 0 := by decide
theorem lvP_eq : lvP = ⟨3, 1, [], [⟨0, 0, 4, 0, [⟨0, 3, 0, 9, 0⟩]⟩, ⟨4, 0, 4, 4, [⟨0, 3, 0, 9, 0⟩]⟩], [], [], [], [], []⟩ := rfl
def wrP (x : Int) : Pa := ⟨0, 0, [], [], [], [], [(x, 0)], [], []⟩
def rgP (x : Int) : Pa := ⟨0, 0, [x], [], [], [], [(x, 0)], [], []⟩
theorem wrP_e (x : Int) : paE (wrP x) = 12 := by
 have h : eachE (idE [] [(x, 0)]) 1 = 12 := by
  show orE [idE [] [(x, 0)] 0] = 12
  rw [show idE [] [(x, 0)] 0 = 12 from by unfold idE; rw [if_pos (by simp)]]
  rfl
 show orE [argE (wrP x), limE (wrP x), eachE (ndW []) 0, eachE (skW 0 []) 0, eachE (plW 0 []) 0, eachE (mkW 0 [] []) 0, eachE (idE [] [(x, 0)]) 1, eachE (idE [] []) 0, eachE (rtW []) 0] = 12
 rw [show argE (wrP x) = 0 from rfl, show limE (wrP x) = 0 from rfl, h]
 rfl
theorem rgP_e (x : Int) : paE (rgP x) = 0 := by
 have h : eachE (idE [x] [(x, 0)]) 1 = 0 := by
  show orE [idE [x] [(x, 0)] 0] = 0
  rw [show idE [x] [(x, 0)] 0 = 0 from by unfold idE; simp]
  rfl
 have h2 : eachE (ndW [x]) 1 = 0 := by
  show orE [ndW [x] 0] = 0
  rw [show ndW [x] 0 = 0 from by unfold ndW; simp]
  rfl
 show orE [argE (rgP x), limE (rgP x), eachE (ndW [x]) 1, eachE (skW 0 []) 0, eachE (plW 0 []) 0, eachE (mkW 0 [] []) 0, eachE (idE [x] [(x, 0)]) 1, eachE (idE [x] []) 0, eachE (rtW []) 0] = 0
 rw [show argE (rgP x) = 0 from rfl, show limE (rgP x) = 0 from rfl, h, h2]
 rfl
theorem pln_of {p : Pa} (h1 : p.needs.length ≤ 100) (h2 : p.st.length ≤ 100) (h3 : p.pl = []) (h4 : p.ma = []) (h5 : p.er.length ≤ 100) (h6 : p.dr = []) (h7 : p.rt = []) : PLn p :=
 ⟨by omega, by omega, by simp [h3], by simp [h4], by omega, by simp [h6], by simp [h7], by simp [h3]⟩
set_option linter.unusedSimpArgs false in
set_option maxHeartbeats 8000000 in
set_option maxRecDepth 100000 in
theorem lives_any (w : World) : Calls Tryz.prog 13 #[] w fun e w' => e = .returned (.bool true) ∧ Below w.heap.size w w' := by
 obtain ⟨I, hI⟩ : ∃ z, Hid (idH lvP = z) := ⟨_, Lib.hid rfl⟩
 have hlv : PLn lvP := by rw [lvP_eq]; exact pln_of (by decide) (by decide) rfl rfl (by decide) rfl rfl
 have HLine := Lib.hid (fun (W : World) (g : Nat) (h : Bk W g 58 #[.int .i64 0, .int .i64 0, .int .i64 4, .int .i64 0, .int .i64 4, .int .i64 4]) =>
  (show Calls Tryz.prog 18 #[.int .i64 3, .int .i64 1, .slice none 0 0, .slice (some ⟨g, 0, none⟩) 3 3, .agg #[.int .i64 0, .int .i64 3, .int .i64 0, .int .i64 9, .int .i64 0]] W fun e w' => Below W.heap.size W w' ∧ ∃ a : Pw, PB w' lvP a ∧ e = .returned (.tuple #[.agg #[.int .i64 3, .int .i64 1, .slice a.n 0 a.cn, .slice a.s 2 a.cs, .slice a.l 0 a.cl, .slice a.m 0 a.cm, .slice a.e 0 a.ce, .slice a.d 0 a.cd, .slice a.r 0 a.cr], .int .i64 0]) from by
   have hc := line_any 3 1 [] none 0 ptsX (some ⟨g, 0, none⟩) 3 0 3 0 9 0 W (fun j u hu => by simp at hu) (by decide) (sl_bk h) (by decide) (by decide)
   have e1 : lineE 3 1 [] ptsX ⟨0, 3, 0, 9, 0⟩ = 0 := by decide
   rw [lineV, e1, if_pos rfl] at hc
   exact hc.mono fun e w' ⟨hb, a, hp, he⟩ => ⟨hb, a, hp, he⟩))
 have HStr := Lib.hid (fun (W : World) (a : Pw) (h : PB W lvP a) =>
  (show Calls Tryz.prog 35 #[.agg #[.int .i64 3, .int .i64 1, .slice a.n 0 a.cn, .slice a.s 2 a.cs, .slice a.l 0 a.cl, .slice a.m 0 a.cm, .slice a.e 0 a.ce, .slice a.d 0 a.cd, .slice a.r 0 a.cr]] W fun e w' => Below W.heap.size W w' ∧ ∃ A c, e = .returned (.tuple #[.slice A 2 c, .int .i64 0]) ∧ SD w' A [(I, 0), (I, 1)] from by
   have hc := strokes_any lvP a W h.pt hlv (by intro x hx; rw [lvP_eq] at hx; cases hx)
   rw [nmL, if_pos lvP_ok, hI.out, lvP_ok] at hc
   exact hc.mono fun e w' ⟨hb, A, c, he, hs⟩ => ⟨hb, A, c, he, SL.of_own hs⟩))
 have HId := Lib.hid (fun (W : World) (a : Pw) (h : PB W lvP a) =>
  (show Calls Tryz.prog 23 #[.agg #[.int .i64 3, .int .i64 1, .slice a.n 0 a.cn, .slice a.s 2 a.cs, .slice a.l 0 a.cl, .slice a.m 0 a.cm, .slice a.e 0 a.ce, .slice a.d 0 a.cd, .slice a.r 0 a.cr]] W fun e w' => e = .returned (.tuple #[.int .u64 I, .int .i64 0]) ∧ Below W.heap.size W w' from by
   have hc := id_any lvP a W h.pt hlv (by intro x hx; rw [lvP_eq] at hx; cases hx)
   rw [idV, if_pos lvP_ok, hI.out, lvP_ok] at hc
   exact hc))
 have HSame := Lib.hid (fun (W : World) (A : Option Addr) (c g : Nat) (h : SD W A [(I, 0), (I, 1)]) (h2 : Bk W g 77 #[.int .u64 I, .int .i64 0, .int .u64 I, .int .i64 1]) =>
  (show Calls Tryz.prog 39 #[.slice A 2 c, .slice (some ⟨g, 0, none⟩) 2 2] W fun e w' => e = .returned (.bool true) ∧ Below W.heap.size W w' from by
   have hc := sameIds_any A (some ⟨g, 0, none⟩) c 2 [(I, 0), (I, 1)] [(I, 0), (I, 1)] W h (sl_bk h2) (by simp)
   rw [decide_eq_true rfl] at hc
   exact hc))
 have HWr := Lib.hid (fun (W : World) (g : Nat) (h : Bk W g 77 #[.int .u64 I, .int .i64 0]) =>
  (show Calls Tryz.prog 11 #[.agg #[.int .i64 0, .int .i64 0, .slice none 0 0, .slice none 0 0, .slice none 0 0, .slice none 0 0, .slice (some ⟨g, 0, none⟩) 1 1, .slice none 0 0, .slice none 0 0]] W fun e w' => e = .returned (.int .i64 12) ∧ Below W.heap.size W w' from by
   have hc := patchValid_any (wrP I) ⟨none, none, none, none, some ⟨g, 0, none⟩, none, none, 0, 0, 0, 0, 1, 0, 0⟩ W (PB.pt ⟨.inl rfl, ⟨[], .inl rfl, SV.nil _⟩, .inl rfl, .inl rfl, SB.bk h, .inl rfl, .inl rfl⟩) (pln_of (by simp [wrP]) (by simp [wrP]) rfl rfl (by simp [wrP]) rfl rfl)
   rw [wrP_e] at hc
   exact hc))
 have HRg := Lib.hid (fun (W : World) (g k : Nat) (h : Bk W g 77 #[.int .u64 I, .int .i64 0]) (h2 : Bk W k 53 #[.int .u64 I]) =>
  (show Calls Tryz.prog 11 #[.agg #[.int .i64 0, .int .i64 0, .slice (some ⟨k, 0, none⟩) 1 1, .slice none 0 0, .slice none 0 0, .slice none 0 0, .slice (some ⟨g, 0, none⟩) 1 1, .slice none 0 0, .slice none 0 0]] W fun e w' => e = .returned (.int .i64 0) ∧ Below W.heap.size W w' from by
   have hc := patchValid_any (rgP I) ⟨some ⟨k, 0, none⟩, none, none, none, some ⟨g, 0, none⟩, none, none, 1, 0, 0, 0, 1, 0, 0⟩ W (PB.pt ⟨SB.bk h2, ⟨[], .inl rfl, SV.nil _⟩, .inl rfl, .inl rfl, SB.bk h, .inl rfl, .inl rfl⟩) (pln_of (by simp [rgP]) (by simp [rgP]) rfl rfl (by simp [rgP]) rfl rfl)
   rw [rgP_e] at hc
   exact hc))
 clear hlv hI
 have HB0 := Lib.hid ((Below.refl w.heap.size w).alloc (Nat.le_refl _) (.cells #[.int .i64 0, .int .i64 0, .int .i64 4, .int .i64 0, .int .i64 4, .int .i64 4] 58))
 have HL0 := Lib.hid (HLine.out _ _ (Bk.new w 58 #[.int .i64 0, .int .i64 0, .int .i64 4, .int .i64 0, .int .i64 4, .int .i64 4]))
 clear HLine
 go_enter Tryz.func13, Tryz.ntmps13
 go_wp2_with fail
 refine HL0.out.mono ?_
 rintro e w1 ⟨hb1, a, hp, rfl⟩
 have HB1 := Lib.hid ((HB0.out.trans (hb1.mono HB0.out.size)).alloc (Nat.le_trans HB0.out.size hb1.size) (.cells #[.int .i64 3, .int .i64 1, .slice a.n 0 a.cn, .slice a.s 2 a.cs, .slice a.l 0 a.cl, .slice a.m 0 a.cm, .slice a.e 0 a.ce, .slice a.d 0 a.cd, .slice a.r 0 a.cr] 34))
 have HP1 := Lib.hid (hp.below ((Below.refl _ _).alloc (Nat.le_refl _) (.cells #[.int .i64 3, .int .i64 1, .slice a.n 0 a.cn, .slice a.s 2 a.cs, .slice a.l 0 a.cl, .slice a.m 0 a.cm, .slice a.e 0 a.ce, .slice a.d 0 a.cd, .slice a.r 0 a.cr] 34)))
 have HK1 := Lib.hid (Bk.new w1 34 #[.int .i64 3, .int .i64 1, .slice a.n 0 a.cn, .slice a.s 2 a.cs, .slice a.l 0 a.cl, .slice a.m 0 a.cm, .slice a.e 0 a.ce, .slice a.d 0 a.cd, .slice a.r 0 a.cr])
 have HS1 := Lib.hid (HStr.out _ a HP1.out)
 clear hb1 hp HB0 HL0 HStr
 go_wp2_with fail
 refine HS1.out.mono ?_
 generalize w1.alloc (.cells #[.int .i64 3, .int .i64 1, .slice a.n 0 a.cn, .slice a.s 2 a.cs, .slice a.l 0 a.cl, .slice a.m 0 a.cm, .slice a.e 0 a.ce, .slice a.d 0 a.cd, .slice a.r 0 a.cr] 34) = W1 at *
 generalize w1.heap.size = P at *
 rintro e w2 ⟨hb2, A, c, rfl, hsd⟩
 have HB2 := Lib.hid (HB1.out.trans (hb2.mono HB1.out.size))
 have HP2 := Lib.hid (HP1.out.below hb2)
 have HK2 := Lib.hid (HK1.out.below hb2 HK1.out.lt)
 have HD2 := Lib.hid hsd
 have HI2 := Lib.hid (HId.out _ a HP2.out)
 have k0 : w2.cell? ⟨P, 0, none⟩ = some (.int .i64 3) := HK2.out.cell 0
 have k1 : w2.cell? ⟨P, 1, none⟩ = some (.int .i64 1) := HK2.out.cell 1
 have k2 : w2.cell? ⟨P, 2, none⟩ = some (.slice a.n 0 a.cn) := HK2.out.cell 2
 have k3 : w2.cell? ⟨P, 3, none⟩ = some (.slice a.s 2 a.cs) := HK2.out.cell 3
 have k4 : w2.cell? ⟨P, 4, none⟩ = some (.slice a.l 0 a.cl) := HK2.out.cell 4
 have k5 : w2.cell? ⟨P, 5, none⟩ = some (.slice a.m 0 a.cm) := HK2.out.cell 5
 have k6 : w2.cell? ⟨P, 6, none⟩ = some (.slice a.e 0 a.ce) := HK2.out.cell 6
 have k7 : w2.cell? ⟨P, 7, none⟩ = some (.slice a.d 0 a.cd) := HK2.out.cell 7
 have k8 : w2.cell? ⟨P, 8, none⟩ = some (.slice a.r 0 a.cr) := HK2.out.cell 8
 clear hb2 hsd HB1 HP1 HK1 HS1 HId
 go_wp2_with fail
 refine HI2.out.mono ?_
 rintro e w3 ⟨rfl, hb3⟩
 have HB3 := Lib.hid (HB2.out.trans (hb3.mono HB2.out.size))
 have HD3 := Lib.hid (show SD w3 A [(I, 0), (I, 1)] from HD2.out.below hb3)
 clear hb3 HB2 HP2 HK2 HD2 HI2 k0 k1 k2 k3 k4 k5 k6 k7 k8
 have HB6 := Lib.hid (show Below w.heap.size w ((((((w3.alloc (.cells #[.int .u64 I, .int .i64 0] 77)).alloc (.cells #[.int .i64 0, .int .i64 0, .slice none 0 0, .slice none 0 0, .slice none 0 0, .slice none 0 0, .slice (some ⟨w3.heap.size, 0, none⟩) 1 1, .slice none 0 0, .slice none 0 0] 34)).alloc (.cells #[.int .u64 I] 53)).alloc (.cells #[.int .u64 I, .int .i64 0] 77)).alloc (.cells #[.int .i64 0, .int .i64 0, .slice (some ⟨w3.heap.size + 1 + 1, 0, none⟩) 1 1, .slice none 0 0, .slice none 0 0, .slice none 0 0, .slice (some ⟨w3.heap.size + 1 + 1 + 1, 0, none⟩) 1 1, .slice none 0 0, .slice none 0 0] 34)).alloc (.cells #[.int .u64 I, .int .i64 0, .int .u64 I, .int .i64 1] 77)) from by repeat (first | exact HB3.out | refine Below.alloc ?_ (by have := HB3.out.size; simp; try omega) _))
 have HD6 := Lib.hid (show SD ((((((w3.alloc (.cells #[.int .u64 I, .int .i64 0] 77)).alloc (.cells #[.int .i64 0, .int .i64 0, .slice none 0 0, .slice none 0 0, .slice none 0 0, .slice none 0 0, .slice (some ⟨w3.heap.size, 0, none⟩) 1 1, .slice none 0 0, .slice none 0 0] 34)).alloc (.cells #[.int .u64 I] 53)).alloc (.cells #[.int .u64 I, .int .i64 0] 77)).alloc (.cells #[.int .i64 0, .int .i64 0, .slice (some ⟨w3.heap.size + 1 + 1, 0, none⟩) 1 1, .slice none 0 0, .slice none 0 0, .slice none 0 0, .slice (some ⟨w3.heap.size + 1 + 1 + 1, 0, none⟩) 1 1, .slice none 0 0, .slice none 0 0] 34)).alloc (.cells #[.int .u64 I, .int .i64 0, .int .u64 I, .int .i64 1] 77)) A [(I, 0), (I, 1)] from SD.below (SD.below (SD.below (SD.below (SD.below (SD.below HD3.out ((Below.refl _ _).alloc (Nat.le_refl _) _)) ((Below.refl _ _).alloc (Nat.le_refl _) _)) ((Below.refl _ _).alloc (Nat.le_refl _) _)) ((Below.refl _ _).alloc (Nat.le_refl _) _)) ((Below.refl _ _).alloc (Nat.le_refl _) _)) ((Below.refl _ _).alloc (Nat.le_refl _) _))
 have HA0 := Lib.hid (show Bk ((((((w3.alloc (.cells #[.int .u64 I, .int .i64 0] 77)).alloc (.cells #[.int .i64 0, .int .i64 0, .slice none 0 0, .slice none 0 0, .slice none 0 0, .slice none 0 0, .slice (some ⟨w3.heap.size, 0, none⟩) 1 1, .slice none 0 0, .slice none 0 0] 34)).alloc (.cells #[.int .u64 I] 53)).alloc (.cells #[.int .u64 I, .int .i64 0] 77)).alloc (.cells #[.int .i64 0, .int .i64 0, .slice (some ⟨w3.heap.size + 1 + 1, 0, none⟩) 1 1, .slice none 0 0, .slice none 0 0, .slice none 0 0, .slice (some ⟨w3.heap.size + 1 + 1 + 1, 0, none⟩) 1 1, .slice none 0 0, .slice none 0 0] 34)).alloc (.cells #[.int .u64 I, .int .i64 0, .int .u64 I, .int .i64 1] 77)) (w3.heap.size) 77 #[.int .u64 I, .int .i64 0] from Bk.alloc (Bk.alloc (Bk.alloc (Bk.alloc (Bk.alloc (Bk.new' _ _ _ (by simp)) _) _) _) _) _)
 have HA1 := Lib.hid (show Bk ((((((w3.alloc (.cells #[.int .u64 I, .int .i64 0] 77)).alloc (.cells #[.int .i64 0, .int .i64 0, .slice none 0 0, .slice none 0 0, .slice none 0 0, .slice none 0 0, .slice (some ⟨w3.heap.size, 0, none⟩) 1 1, .slice none 0 0, .slice none 0 0] 34)).alloc (.cells #[.int .u64 I] 53)).alloc (.cells #[.int .u64 I, .int .i64 0] 77)).alloc (.cells #[.int .i64 0, .int .i64 0, .slice (some ⟨w3.heap.size + 1 + 1, 0, none⟩) 1 1, .slice none 0 0, .slice none 0 0, .slice none 0 0, .slice (some ⟨w3.heap.size + 1 + 1 + 1, 0, none⟩) 1 1, .slice none 0 0, .slice none 0 0] 34)).alloc (.cells #[.int .u64 I, .int .i64 0, .int .u64 I, .int .i64 1] 77)) (w3.heap.size + 1) 34 #[.int .i64 0, .int .i64 0, .slice none 0 0, .slice none 0 0, .slice none 0 0, .slice none 0 0, .slice (some ⟨w3.heap.size, 0, none⟩) 1 1, .slice none 0 0, .slice none 0 0] from Bk.alloc (Bk.alloc (Bk.alloc (Bk.alloc (Bk.new' _ _ _ (by simp)) _) _) _) _)
 have HA2 := Lib.hid (show Bk ((((((w3.alloc (.cells #[.int .u64 I, .int .i64 0] 77)).alloc (.cells #[.int .i64 0, .int .i64 0, .slice none 0 0, .slice none 0 0, .slice none 0 0, .slice none 0 0, .slice (some ⟨w3.heap.size, 0, none⟩) 1 1, .slice none 0 0, .slice none 0 0] 34)).alloc (.cells #[.int .u64 I] 53)).alloc (.cells #[.int .u64 I, .int .i64 0] 77)).alloc (.cells #[.int .i64 0, .int .i64 0, .slice (some ⟨w3.heap.size + 1 + 1, 0, none⟩) 1 1, .slice none 0 0, .slice none 0 0, .slice none 0 0, .slice (some ⟨w3.heap.size + 1 + 1 + 1, 0, none⟩) 1 1, .slice none 0 0, .slice none 0 0] 34)).alloc (.cells #[.int .u64 I, .int .i64 0, .int .u64 I, .int .i64 1] 77)) (w3.heap.size + 1 + 1) 53 #[.int .u64 I] from Bk.alloc (Bk.alloc (Bk.alloc (Bk.new' _ _ _ (by simp)) _) _) _)
 have HA3 := Lib.hid (show Bk ((((((w3.alloc (.cells #[.int .u64 I, .int .i64 0] 77)).alloc (.cells #[.int .i64 0, .int .i64 0, .slice none 0 0, .slice none 0 0, .slice none 0 0, .slice none 0 0, .slice (some ⟨w3.heap.size, 0, none⟩) 1 1, .slice none 0 0, .slice none 0 0] 34)).alloc (.cells #[.int .u64 I] 53)).alloc (.cells #[.int .u64 I, .int .i64 0] 77)).alloc (.cells #[.int .i64 0, .int .i64 0, .slice (some ⟨w3.heap.size + 1 + 1, 0, none⟩) 1 1, .slice none 0 0, .slice none 0 0, .slice none 0 0, .slice (some ⟨w3.heap.size + 1 + 1 + 1, 0, none⟩) 1 1, .slice none 0 0, .slice none 0 0] 34)).alloc (.cells #[.int .u64 I, .int .i64 0, .int .u64 I, .int .i64 1] 77)) (w3.heap.size + 1 + 1 + 1) 77 #[.int .u64 I, .int .i64 0] from Bk.alloc (Bk.alloc (Bk.new' _ _ _ (by simp)) _) _)
 have HA4 := Lib.hid (show Bk ((((((w3.alloc (.cells #[.int .u64 I, .int .i64 0] 77)).alloc (.cells #[.int .i64 0, .int .i64 0, .slice none 0 0, .slice none 0 0, .slice none 0 0, .slice none 0 0, .slice (some ⟨w3.heap.size, 0, none⟩) 1 1, .slice none 0 0, .slice none 0 0] 34)).alloc (.cells #[.int .u64 I] 53)).alloc (.cells #[.int .u64 I, .int .i64 0] 77)).alloc (.cells #[.int .i64 0, .int .i64 0, .slice (some ⟨w3.heap.size + 1 + 1, 0, none⟩) 1 1, .slice none 0 0, .slice none 0 0, .slice none 0 0, .slice (some ⟨w3.heap.size + 1 + 1 + 1, 0, none⟩) 1 1, .slice none 0 0, .slice none 0 0] 34)).alloc (.cells #[.int .u64 I, .int .i64 0, .int .u64 I, .int .i64 1] 77)) (w3.heap.size + 1 + 1 + 1 + 1) 34 #[.int .i64 0, .int .i64 0, .slice (some ⟨w3.heap.size + 1 + 1, 0, none⟩) 1 1, .slice none 0 0, .slice none 0 0, .slice none 0 0, .slice (some ⟨w3.heap.size + 1 + 1 + 1, 0, none⟩) 1 1, .slice none 0 0, .slice none 0 0] from Bk.alloc (Bk.new' _ _ _ (by simp)) _)
 have HA5 := Lib.hid (show Bk ((((((w3.alloc (.cells #[.int .u64 I, .int .i64 0] 77)).alloc (.cells #[.int .i64 0, .int .i64 0, .slice none 0 0, .slice none 0 0, .slice none 0 0, .slice none 0 0, .slice (some ⟨w3.heap.size, 0, none⟩) 1 1, .slice none 0 0, .slice none 0 0] 34)).alloc (.cells #[.int .u64 I] 53)).alloc (.cells #[.int .u64 I, .int .i64 0] 77)).alloc (.cells #[.int .i64 0, .int .i64 0, .slice (some ⟨w3.heap.size + 1 + 1, 0, none⟩) 1 1, .slice none 0 0, .slice none 0 0, .slice none 0 0, .slice (some ⟨w3.heap.size + 1 + 1 + 1, 0, none⟩) 1 1, .slice none 0 0, .slice none 0 0] 34)).alloc (.cells #[.int .u64 I, .int .i64 0, .int .u64 I, .int .i64 1] 77)) (w3.heap.size + 1 + 1 + 1 + 1 + 1) 77 #[.int .u64 I, .int .i64 0, .int .u64 I, .int .i64 1] from Bk.new' _ _ _ (by simp))
 clear HB3 HD3
 go_wp2_with fail
 generalize ((((((w3.alloc (.cells #[.int .u64 I, .int .i64 0] 77)).alloc (.cells #[.int .i64 0, .int .i64 0, .slice none 0 0, .slice none 0 0, .slice none 0 0, .slice none 0 0, .slice (some ⟨w3.heap.size, 0, none⟩) 1 1, .slice none 0 0, .slice none 0 0] 34)).alloc (.cells #[.int .u64 I] 53)).alloc (.cells #[.int .u64 I, .int .i64 0] 77)).alloc (.cells #[.int .i64 0, .int .i64 0, .slice (some ⟨w3.heap.size + 1 + 1, 0, none⟩) 1 1, .slice none 0 0, .slice none 0 0, .slice none 0 0, .slice (some ⟨w3.heap.size + 1 + 1 + 1, 0, none⟩) 1 1, .slice none 0 0, .slice none 0 0] 34)).alloc (.cells #[.int .u64 I, .int .i64 0, .int .u64 I, .int .i64 1] 77)) = W6 at *
 generalize w3.heap.size = q at *
 refine (HSame.out W6 A c _ HD6.out HA5.out).mono ?_
 rintro e w4 ⟨rfl, hb4⟩
 have HB4 := Lib.hid (HB6.out.trans (hb4.mono HB6.out.size))
 have HC0 := Lib.hid (HA0.out.below hb4 HA0.out.lt)
 have HC1 := Lib.hid (HA1.out.below hb4 HA1.out.lt)
 have HC2 := Lib.hid (HA2.out.below hb4 HA2.out.lt)
 have HC3 := Lib.hid (HA3.out.below hb4 HA3.out.lt)
 have HC4 := Lib.hid (HA4.out.below hb4 HA4.out.lt)
 have k0 : w4.cell? ⟨q + 1, 0, none⟩ = some (.int .i64 0) := HC1.out.cell 0
 have k1 : w4.cell? ⟨q + 1, 1, none⟩ = some (.int .i64 0) := HC1.out.cell 1
 have k2 : w4.cell? ⟨q + 1, 2, none⟩ = some (.slice none 0 0) := HC1.out.cell 2
 have k3 : w4.cell? ⟨q + 1, 3, none⟩ = some (.slice none 0 0) := HC1.out.cell 3
 have k4 : w4.cell? ⟨q + 1, 4, none⟩ = some (.slice none 0 0) := HC1.out.cell 4
 have k5 : w4.cell? ⟨q + 1, 5, none⟩ = some (.slice none 0 0) := HC1.out.cell 5
 have k6 : w4.cell? ⟨q + 1, 6, none⟩ = some (.slice (some ⟨q, 0, none⟩) 1 1) := HC1.out.cell 6
 have k7 : w4.cell? ⟨q + 1, 7, none⟩ = some (.slice none 0 0) := HC1.out.cell 7
 have k8 : w4.cell? ⟨q + 1, 8, none⟩ = some (.slice none 0 0) := HC1.out.cell 8
 clear hb4 HB6 HD6 HA0 HA1 HA2 HA3 HA4 HA5 HSame
 have HV4 := Lib.hid (HWr.out w4 q HC0.out)
 clear HWr
 go_wp2_with fail
 refine HV4.out.mono ?_
 rintro e w5 ⟨rfl, hb5⟩
 have HB5 := Lib.hid (HB4.out.trans (hb5.mono HB4.out.size))
 have HE2 := Lib.hid (HC2.out.below hb5 HC2.out.lt)
 have HE3 := Lib.hid (HC3.out.below hb5 HC3.out.lt)
 have HE4 := Lib.hid (HC4.out.below hb5 HC4.out.lt)
 clear hb5 HB4 HC0 HC1 HC2 HC3 HC4 HV4 k0 k1 k2 k3 k4 k5 k6 k7 k8
 have k0 : w5.cell? ⟨q + 1 + 1 + 1 + 1, 0, none⟩ = some (.int .i64 0) := HE4.out.cell 0
 have k1 : w5.cell? ⟨q + 1 + 1 + 1 + 1, 1, none⟩ = some (.int .i64 0) := HE4.out.cell 1
 have k2 : w5.cell? ⟨q + 1 + 1 + 1 + 1, 2, none⟩ = some (.slice (some ⟨q + 1 + 1, 0, none⟩) 1 1) := HE4.out.cell 2
 have k3 : w5.cell? ⟨q + 1 + 1 + 1 + 1, 3, none⟩ = some (.slice none 0 0) := HE4.out.cell 3
 have k4 : w5.cell? ⟨q + 1 + 1 + 1 + 1, 4, none⟩ = some (.slice none 0 0) := HE4.out.cell 4
 have k5 : w5.cell? ⟨q + 1 + 1 + 1 + 1, 5, none⟩ = some (.slice none 0 0) := HE4.out.cell 5
 have k6 : w5.cell? ⟨q + 1 + 1 + 1 + 1, 6, none⟩ = some (.slice (some ⟨q + 1 + 1 + 1, 0, none⟩) 1 1) := HE4.out.cell 6
 have k7 : w5.cell? ⟨q + 1 + 1 + 1 + 1, 7, none⟩ = some (.slice none 0 0) := HE4.out.cell 7
 have k8 : w5.cell? ⟨q + 1 + 1 + 1 + 1, 8, none⟩ = some (.slice none 0 0) := HE4.out.cell 8
 have HV5 := Lib.hid (HRg.out w5 _ _ HE3.out HE2.out)
 clear HRg
 go_wp2_with fail
 refine HV5.out.mono ?_
 rintro e w6 ⟨rfl, hb6⟩
 have HB7 := Lib.hid (HB5.out.trans (hb6.mono HB5.out.size))
 clear hb6 HV5 HE2 HE3 HE4 HB5 k0 k1 k2 k3 k4 k5 k6 k7 k8
 go_wp2_with fail
 go_ret
 exact ⟨rfl, HB7.out⟩
end Go.Proofs.YtnapnkmehnabfaaGreat

import Derived.Test.YtmdgdphhedgojaaK18
import Derived.Test.YtmdgdphhedgojaaK24
namespace Go.Proofs.Ytmdgdphhedgojaa
open Go.RowKit Go.Maps

theorem Bk.bk_ne_map {w : World} {g r n : Nat} {cs : Array Value} {t kt : TypeId} {κ α : Type} {ek : κ → Value} {ev : α → Value} {P : Program} {f : κ → Option α} (hk : Bk w g t cs) (h : MapF ek ev P kt w r f n) : g ≠ r := h.bk_ne hk

set_option linter.unusedSimpArgs false in
set_option maxHeartbeats 8000000 in
set_option maxRecDepth 100000 in
theorem chain_any (p : Nat) (Ft : Nat → Prop) (ls ws : List Int) (ns : List (Int × Int × Int)) (work : Int) (w : World) (h : KP w p Ft ls ws ns work) :
    Calls Try.prog 17 #[.pointer (some ⟨p, 0, none⟩)] w fun e w' => ∃ D m vs, e = .returned (.agg #[.slice D ls.length m]) ∧ w'.ownsRow w.heap.size 22 1 (.slice D ls.length m) ls.length vs ∧ LLB w' w.heap.size vs (lists ws ns ls) ∧ Below w.heap.size w w' := by
  obtain ⟨h1, h2, _, _, C, c, A, a, B, b, D, d, h3, hAB, hD⟩ := h
  obtain ⟨g1, g2, g3, g4⟩ := validE_good h1
  have hth := thrE_good h2
  have hpl := h3.lt
  have hdl : (partsD ws ns).length ≤ 4096 := by rw [partsD, partsO, List.length_map]; have := rts_len (comp ns ws.length) ws.length; omega
  obtain ⟨S, hS⟩ : ∃ S, w.heap.size = S := ⟨_, rfl⟩
  have H3 := Lib.hid (fun (W : World) (hW : Below S w W) => (h3.below (hS.symm ▸ hW) hpl : Bk W p 70 _))
  have HD := Lib.hid (fun (W : World) (hW : Below S w W) => (hD.below (hS.symm ▸ hW) : BR W Ft D _ ls))
  have Hbz := Lib.hid (fun (W : World) (hW : Below S w W) => (show S ≤ W.heap.size by have := hW.size; omega))
  have HE := Lib.hid (validE_eok h1)
  have HN := Lib.hid (And.intro g3 g4)
  have hp0 : ((w.alloc (.cells #[.slice none 0 0] 40)).alloc (.cells #[.slice none 0 0] 40)).cell? ⟨p, 0, none⟩ = some (.slice C ls.length c) := ((h3.alloc _).alloc _).cell 0
  have hb0 : Below S w ((w.alloc (.cells #[.slice none 0 0] 40)).alloc (.cells #[.slice none 0 0] 40)) := hS ▸ (((Below.refl _ _).alloc (Nat.le_refl _) _).alloc (by simp) _)
  have hbR : Bk ((w.alloc (.cells #[.slice none 0 0] 40)).alloc (.cells #[.slice none 0 0] 40)) S 40 #[.slice none 0 0] := (Bk.new' _ _ _ hS).alloc _
  have hbO : Bk ((w.alloc (.cells #[.slice none 0 0] 40)).alloc (.cells #[.slice none 0 0] 40)) (S + 1) 40 #[.slice none 0 0] := Bk.new' _ _ _ (by simp [hS])
  clear h3 hAB hD h1 h2 g3 g4
  go_enter Try.func17, Try.ntmps17
  go_wp2_with fail
  have Hb0 := Lib.hid hb0
  have HbR := Lib.hid hbR
  have HbO := Lib.hid hbO
  have HS := Lib.hid hS
  clear hp0 hb0 hbR hbO hS
  obtain ⟨ds, hds⟩ : ∃ ds, Hid (partsD ws ns = ds) := ⟨_, Lib.hid rfl⟩
  rw [hds.out] at H3 HD hdl
  generalize (w.alloc (.cells #[.slice none 0 0] 40)).alloc (.cells #[.slice none 0 0] 40) = W0 at *
  go_loopw [25] (fun i wr => ∃ (s : Nat) (v : Value) (vs : List Value), s ≤ ls.length ∧ i = .int .i64 s ∧ Bk wr (S + 1) 40 #[v] ∧ Bk wr S 40 #[.slice none 0 0] ∧ wr.ownsRow S 22 1 v s vs ∧ LLB wr S vs ((lists ws ns ls).take s) ∧ Below S w wr) (fun i _ => ls.length - (intOf i).toNat)
  case atStart => exact ⟨0, _, [], by omega, rfl, HbO.out, HbR.out, World.ownsRow_nil _ _ _ _, LLB.nil _ _, Hb0.out⟩
  case round =>
    clear HbO HbR Hb0
    obtain ⟨s, v, vs, hs, rfl, hbO, hbR, hown, hLL, hb⟩ := hrel
    have HbO := Lib.hid hbO
    have HbR := Lib.hid hbR
    have Hown := Lib.hid hown
    have HLL := Lib.hid hLL
    have Hb := Lib.hid hb
    clear hbO hbR hown hLL hb
    by_cases hlt : s < ls.length
    · obtain ⟨wo, rfl⟩ : ∃ x, x = wr := ⟨wr, rfl⟩
      have hzo := Hbz.out _ Hb.out
      have hmk := make_int ws.length (by omega)
      have hq1 : wo.cell? ⟨p, 1, none⟩ = some (.slice A ws.length a) := (H3.out _ Hb.out).cell 1
      have hq3 : (wo.alloc (.cells (rowI (List.replicate ws.length 0)) 3)).cell? ⟨p, 3, none⟩ = some (.slice D ds.length d) := (H3.out _ (Hb.out.alloc hzo _)).cell 3
      go_wp2_with fail
      clear hq1 hq3
      obtain ⟨of, hof⟩ : ∃ of, Hid (ofAt ws ns ls s = of) := ⟨_, Lib.hid rfl⟩
      have hofl : of.length = ws.length := by rw [← hof.out]; exact (ofAt_cn ws ns ls s).2
      have hCN : Hid (CN of) := by show CN of; rw [← hof.out]; exact (ofAt_cn ws ns ls s).1
      have hLb0 := Bk.new wo 3 (rowI (List.replicate ws.length 0))
      have hbo0 := (Below.refl wo.heap.size wo).alloc (Nat.le_refl _) (.cells (rowI (List.replicate ws.length 0)) 3)
      have HLb0 := Lib.hid hLb0
      have Hbo0 := Lib.hid hbo0
      clear hLb0 hbo0
      go_loopw [40] (fun i wr => ∃ (k : Nat) (l : List Int), k ≤ ds.length ∧ i = .int .i64 k ∧ LI of ds k 0 l ∧ Bk wr wo.heap.size 3 (rowI l) ∧ Below wo.heap.size wo wr) (fun i _ => ds.length - (intOf i).toNat)
      case atStart => exact ⟨0, _, by omega, rfl, LI.start hofl, HLb0.out, Hbo0.out⟩
      case round =>
        clear HLb0 Hbo0
        obtain ⟨k, l, hk, rfl, hLI, hLb, hbo⟩ := hrel
        have HLI := Lib.hid hLI
        have HLb := Lib.hid hLb
        have Hbo := Lib.hid hbo
        clear hLI hLb
        by_cases hlk : k < ds.length
        · obtain ⟨b', o', F, f, U, u, N, n, G, g, Fl, Wl, Nl, rfl, k1, k2, k3, k4, s1, hd, hbl⟩ := (HD.out _ Hb.out).get hlk
          obtain ⟨s1, s2, s3, s4⟩ := s1 wo (Kf.refl _ _)
          have k1 := (hbo.cell (p := ⟨b', o' + k * 4, none⟩) hbl).trans k1
          have k2 := (hbo.cell (p := ⟨b', o' + k * 4 + 1, none⟩) hbl).trans k2
          have k3 := (hbo.cell (p := ⟨b', o' + k * 4 + 2, none⟩) hbl).trans k3
          have k4 := (hbo.cell (p := ⟨b', o' + k * 4 + 3, none⟩) hbl).trans k4
          have hzw := hbo.size
          have HF := Lib.hid s1
          have HG := Lib.hid s4
          have hP : POK of Fl (ix (ofAt Wl Nl ls s)) := by rw [← hof.out]; exact pok_part HE.out (by rw [hds.out]; exact hd.out)
          have hgl : (lists Wl Nl ls)[s]? = some (ix (ofAt Wl Nl ls s)) := lists_at hlt
          have hfl : Fl.length ≤ 4096 := by
            obtain ⟨r, hr, e1, e2, e3⟩ := partsD_at (show (partsD ws ns)[k]? = some (Fl, Wl, Nl) by rw [hds.out]; exact hd.out)
            rw [e1, List.length_map]
            have := fcs_le (inP (comp ns ws.length) r) ws.length
            omega
          have hgb : W64 (ix (ofAt Wl Nl ls s)) := fun v hv => by
            have h1 := ix_mem _ v hv
            have h2 := hP.len
            rw [ix_len] at h2
            omega
          obtain ⟨gl, hgle⟩ : ∃ gl, Hid (ix (ofAt Wl Nl ls s) = gl) := ⟨_, Lib.hid rfl⟩
          rw [hgle.out] at hP hgl hgb
          have HP := Lib.hid hP
          have Hgl := Lib.hid (And.intro hgl hgb)
          have hn0 : ((wr.alloc (.cells #[.slice F Fl.length f, .slice U Wl.length u, .slice N Nl.length n, .slice G ls.length g] 76)).alloc (.map #[] 0)).cell? ⟨wr.heap.size, 0, none⟩ = some (.slice F Fl.length f) := ((Bk.new wr 76 #[.slice F Fl.length f, .slice U Wl.length u, .slice N Nl.length n, .slice G ls.length g]).alloc _).cell 0
          have hmm := @run_makeMap Try.prog
          clear hbo s1 s2 s3 s4 hP hgl hgb
          go_wp2_with fail
          clear hn0 hmm k1 k2 k3 k4
          have hT0 := (Bk.new wr 76 #[.slice F Fl.length f, .slice U Wl.length u, .slice N Nl.length n, .slice G ls.length g]).alloc (.map #[] 0)
          have HT0 := Lib.hid hT0
          have Hm0 := Lib.hid (MapF.new iV iV Try.prog 3 (wr.alloc (.cells #[.slice F Fl.length f, .slice U Wl.length u, .slice N Nl.length n, .slice G ls.length g] 76)))
          have HLb0 := Lib.hid ((HLb.out.alloc (.cells #[.slice F Fl.length f, .slice U Wl.length u, .slice N Nl.length n, .slice G ls.length g] 76)).alloc (.map #[] 0))
          have Hbo0 := Lib.hid ((Hbo.out.alloc hzw (.cells #[.slice F Fl.length f, .slice U Wl.length u, .slice N Nl.length n, .slice G ls.length g] 76)).alloc (by simp; omega) (.map #[] 0))
          have hLM : wo.heap.size < wr.heap.size := HLb.out.lt
          clear hT0 HLb Hbo
          have hms : (wr.alloc (.cells #[.slice F Fl.length f, .slice U Wl.length u, .slice N Nl.length n, .slice G ls.length g] 76)).heap.size = wr.heap.size + 1 := by simp
          rw [hms] at Hm0
          clear hms
          generalize (wr.alloc (.cells #[.slice F Fl.length f, .slice U Wl.length u, .slice N Nl.length n, .slice G ls.length g] 76)).alloc (.map #[] 0) = W2 at *
          generalize wr.heap.size = T at *
          go_loopw [49] (fun v wr => ∃ (i : Nat) (l : List Int) (fm : Int → Option Int) (kn : Nat), i ≤ Fl.length ∧ v = .int .i64 i ∧ LI of ds k i l ∧ FI of Fl gl i fm ∧ Bk wr wo.heap.size 3 (rowI l) ∧ MapF iV iV Try.prog 3 wr (T + 1) fm kn ∧ Bk wr T 76 #[.slice F Fl.length f, .slice U Wl.length u, .slice N Nl.length n, .slice G ls.length g] ∧ Below wo.heap.size wo wr) (fun v _ => Fl.length - (intOf v).toNat)
          case atStart => exact ⟨0, l, _, 0, by omega, rfl, HLI.out, FI.nil _ _ _, HLb0.out, Hm0.out, HT0.out, Hbo0.out⟩
          case round =>
            clear HLI HLb0 Hm0 HT0 Hbo0
            obtain ⟨i, l, fm, kn, hi, rfl, hLI, hFI, hLb, hm, hT, hbo⟩ := hrel
            by_cases hli : i < Fl.length
            · obtain ⟨bF, oF, x, rfl, hcx, hx⟩ := (HF.out.below hbo).get (k := i) hli
              obtain ⟨bG, oG, R, r, row, rfl, hcr, hsr, hrow⟩ := (HG.out.below hbo).get (k := s) (by rw [lists_len]; exact hlt)
              obtain rfl : row = gl := by
                have := hrow.out.symm.trans Hgl.out.1
                exact Option.some.inj this
              obtain ⟨bR, oR, z, rfl, hcz, hz⟩ := hsr.get (k := i + 1) (by rw [HP.out.len]; omega)
              have hxd : Fl.getD i 0 = x := by simp [List.getD, hx.out]
              have hzd : row.getD (i + 1) 0 = z := by simp [List.getD, hz.out]
              have hP1 := (HP.out.at_ i hli)
              rw [hxd] at hP1
              have hx1 : 0 < x := hP1.1
              have hx2 : x < ws.length := by have := hP1.2.1; omega
              clear hP1
              obtain ⟨xn, rfl⟩ : ∃ xn : Nat, x = (xn : Int) := ⟨x.toNat, by omega⟩
              have hgz := good_int (Hgl.out.2 z (List.mem_of_getElem? hz.out))
              have hc3 : wr.cell? ⟨T, 3, none⟩ = some (.slice (some ⟨bG, oG, none⟩) ls.length g) := hT.cell 3
              have hlx : ∃ y, l[xn]? = some y := ⟨l[xn]'(by have := hLI.len; omega), List.getElem?_eq_getElem _⟩
              obtain ⟨y, hy⟩ := hlx
              have hlk : (Instr.lookup 88 (.map (some (T + 1))) (.int .i64 z) true).run Try.prog wr = .ok (.tuple #[.int .i64 ((fm z).getD 0), .bool (fm z).isSome]) wr := hm.lookup_ok inj_iV keyed_int Try.underlying88 (zero_int wr) hgz
              have hrl : i + 1 < row.length := by rw [HP.out.len]; omega
              have hrl2 : row.length ≤ 4097 := by rw [HP.out.len]; omega
              obtain ⟨i1, hi1⟩ : ∃ i1, i1 = i + 1 := ⟨_, rfl⟩
              rw [← hi1] at hcz hrl
              have hwi : IntKind.i64.wrap ((i : Int) + 1) = (i1 : Int) := by rw [IntWalk.i64_in _ (by omega)]; omega
              have j1 : (0 : Int) ≤ (i1 : Int) := by omega
              have j2 : (i1 : Int) < row.length := by omega
              have Hi1 := Lib.hid hi1
              have Hxz := Lib.hid (And.intro hxd hzd)
              have hT2 := hLb.bk_ne_map hm
              cases hfz : (fm z).isSome
              · rw [hfz] at hlk
                obtain ⟨q1, q2⟩ := hFI.new HP.out hCN.out hli (by rw [hzd]; exact hfz)
                rw [hxd, Int.toNat_natCast] at q1
                rw [hxd, hzd] at q2
                obtain ⟨w3, hup, hm3, ht3⟩ := hm.update inj_iV keyed_int Try.underlying88 hgz (xn : Int)
                have hup' : (Instr.mapUpdate 88 (.map (some (T + 1))) (.int .i64 z) (.int .i64 xn)).run Try.prog wr = .ok () w3 := hup
                have hlk2 : (Instr.lookup 88 (.map (some (T + 1))) (.int .i64 z) false).run Try.prog w3 = .ok (.int .i64 xn) w3 := by
                  have := hm3.lookup inj_iV keyed_int Try.underlying88 (zero_int w3) hgz
                  simpa [setF, iV] using this
                have hLb3 := ht3.bk hLb hT2
                have hcl : w3.cell? ⟨wo.heap.size, xn, none⟩ = some (.int .i64 y) := (hLb3.cell xn).trans (rowI_get hy)
                have hfl3 := hLb3.frozen xn
                have hput := hLI.put hd.out hli (by show 0 < Fl.getD i 0 ∧ Fl.getD i 0 < of.length; rw [hxd]; omega)
                have hput : LI of ds k (i + 1) (l.set xn xn) := by
                  have e : (Fl, Wl, Nl).1.getD i 0 = (xn : Int) := hxd
                  rw [e, Int.toNat_natCast, q1] at hput
                  exact hput
                have hset : Bk (w3.setCell ⟨wo.heap.size, xn, none⟩ (.int .i64 xn)) wo.heap.size 3 (rowI (l.set xn xn)) := by
                  have := hLb3.set_ xn (.int .i64 xn)
                  rwa [rowI_put] at this
                have Hres := Lib.hid (And.intro hput (And.intro q2 (And.intro hset (And.intro (hm3.setCell (p := ⟨wo.heap.size, xn, none⟩) (by show T + 1 ≠ wo.heap.size; omega) (.int .i64 xn)) (And.intro ((ht3.bk hT (by omega)).far (p := ⟨wo.heap.size, xn, none⟩) (by show T ≠ wo.heap.size; omega) (.int .i64 xn)) ((ht3.below hbo (by omega)).setCell (p := ⟨wo.heap.size, xn, none⟩) (Nat.le_refl _) (.int .i64 xn)))))))
                clear hLI hFI hLb hm hT hbo hup hm3 ht3 hLb3 hput hset q1 q2 hfz hxd hzd hi1
                go_wp2_with fail
                go_roundw
                case rel => exact ⟨i + 1, _, _, _, by omega, by rw [Hi1.out], Hres.out.1, Hres.out.2.1, Hres.out.2.2.1, Hres.out.2.2.2.1, Hres.out.2.2.2.2.1, Hres.out.2.2.2.2.2⟩
                case measure => have := Hi1.out; simp [intOf]; omega
              · rw [hfz] at hlk
                obtain ⟨q1, q2⟩ := hFI.old HP.out hli (by rw [hzd]; exact hfz)
                rw [hxd, hzd, Int.toNat_natCast] at q1
                have hlk2 : (Instr.lookup 88 (.map (some (T + 1))) (.int .i64 z) false).run Try.prog wr = .ok (.int .i64 (of.getD xn 0)) wr := by
                  have := hm.lookup inj_iV keyed_int Try.underlying88 (zero_int wr) hgz
                  rw [q1] at this
                  exact this
                obtain ⟨v2, hv2⟩ : ∃ v2, Hid (of.getD xn 0 = v2) := ⟨_, Lib.hid rfl⟩
                rw [hv2.out] at hlk2
                have hcl : wr.cell? ⟨wo.heap.size, xn, none⟩ = some (.int .i64 y) := (hLb.cell xn).trans (rowI_get hy)
                have hfl3 := hLb.frozen xn
                have hput := hLI.put hd.out hli (by show 0 < Fl.getD i 0 ∧ Fl.getD i 0 < of.length; rw [hxd]; omega)
                have hput : LI of ds k (i + 1) (l.set xn v2) := by
                  have e : (Fl, Wl, Nl).1.getD i 0 = (xn : Int) := hxd
                  rw [e, Int.toNat_natCast, hv2.out] at hput
                  exact hput
                have hset : Bk (wr.setCell ⟨wo.heap.size, xn, none⟩ (.int .i64 v2)) wo.heap.size 3 (rowI (l.set xn v2)) := by
                  have := hLb.set_ xn (.int .i64 v2)
                  rwa [rowI_put] at this
                have Hres := Lib.hid (And.intro hput (And.intro q2 (And.intro hset (And.intro (hm.setCell (p := ⟨wo.heap.size, xn, none⟩) (by show T + 1 ≠ wo.heap.size; omega) (.int .i64 v2)) (And.intro (hT.far (p := ⟨wo.heap.size, xn, none⟩) (by show T ≠ wo.heap.size; omega) (.int .i64 v2)) (hbo.setCell (p := ⟨wo.heap.size, xn, none⟩) (Nat.le_refl _) (.int .i64 v2)))))))
                clear hLI hFI hLb hm hT hbo hput hset q1 q2 hfz hxd hzd hi1
                go_wp2_with fail
                go_roundw
                case rel => exact ⟨i + 1, _, _, _, by omega, by rw [Hi1.out], Hres.out.1, Hres.out.2.1, Hres.out.2.2.1, Hres.out.2.2.2.1, Hres.out.2.2.2.2.1, Hres.out.2.2.2.2.2⟩
                case measure => have := Hi1.out; simp [intOf]; omega
            · obtain rfl : i = Fl.length := by omega
              have hnx := hLI.next (fun e he => by rw [hd.out] at he; obtain rfl := Option.some.inj he; exact Nat.le_refl _)
              have Hnx := Lib.hid hnx
              have HLb := Lib.hid hLb
              have Hbo := Lib.hid hbo
              clear hLI hFI hm hT hnx hLb hbo
              go_wp2_with fail
              go_roundw
              case rel => exact ⟨k + 1, l, by omega, by go_num, Hnx.out, HLb.out, Hbo.out⟩
              case measure => simp [intOf]; omega
        · obtain rfl : k = ds.length := by omega
          have hal : l = of := by
            rw [← hof.out] at HLI ⊢
            rw [← hds.out] at HLI
            exact HLI.out.all HE.out
          subst hal
          clear HLI hbo
          have hzw := Hbo.out.size
          have hmm := @run_makeMap Try.prog
          go_wp2_with fail
          have hM0 := (MapF.new iV iV Try.prog 3 wr).alloc (.cells (rowI (List.replicate ws.length 0)) 3)
          have hO0 : Bk ((wr.alloc (.map #[] 0)).alloc (.cells (rowI (List.replicate ws.length 0)) 3)) (wr.heap.size + 1) 3 (rowI (List.replicate ws.length 0)) := Bk.new' _ _ _ (by simp)
          have HM0 := Lib.hid hM0
          have HO0 := Lib.hid hO0
          have HL0 := Lib.hid ((HLb.out.alloc (.map #[] 0)).alloc (.cells (rowI (List.replicate ws.length 0)) 3))
          have Hb2 := Lib.hid ((Hbo.out.alloc hzw (.map #[] 0)).alloc (by simp; omega) (.cells (rowI (List.replicate ws.length 0)) 3))
          have hLM : l.length = ws.length := hofl
          have hlO : wo.heap.size < wr.heap.size := HLb.out.lt
          clear hM0 hO0 HLb Hbo hmm hmk
          generalize (wr.alloc (.map #[] 0)).alloc (.cells (rowI (List.replicate ws.length 0)) 3) = W2 at *
          generalize wr.heap.size = M at *
          have hwl : W64 l := w64_of hCN.out.fok (by omega)
          go_loopw [88] (fun i wr => ∃ k : Nat, k ≤ ws.length ∧ i = .int .i64 k ∧ Bk wr (M + 1) 3 (rowI ((ixSt l k).2.2 ++ List.replicate (ws.length - k) 0)) ∧ MapF iV iV Try.prog 3 wr M (ixSt l k).1 (ixSt l k).2.1 ∧ Bk wr wo.heap.size 3 (rowI l) ∧ Below wo.heap.size wo wr) (fun i _ => ws.length - (intOf i).toNat)
          case atStart => exact ⟨0, by omega, rfl, HO0.out, HM0.out, HL0.out, Hb2.out⟩
          case round =>
            clear HO0 HM0 HL0 Hb2
            obtain ⟨k, hk, rfl, hbo, hm, hL, hb⟩ := hrel
            obtain ⟨hL1, hL2⟩ := ixSt_len l k
            by_cases hlt : k < ws.length
            · obtain ⟨m', hm'⟩ : ∃ m', ws.length - k = m' + 1 := ⟨ws.length - k - 1, by omega⟩
              have Hm := Lib.hid hm'
              clear hm'
              obtain ⟨x, hx⟩ : ∃ x, l[k]? = some x := ⟨_, List.getElem?_eq_getElem (by omega)⟩
              have Hx := Lib.hid hx
              have hcx : wr.cell? ⟨wo.heap.size, k, none⟩ = some (.int .i64 x) := (hL.cell k).trans (rowI_get hx)
              have hgx := good_int (hwl x (List.mem_of_getElem? hx))
              clear hx
              have hLL1 := Lib.hid hL1
              clear hL1
              have hbo' : Bk wr (M + 1) 3 (rowI ((ixSt l k).2.2 ++ List.replicate (m' + 1) 0)) := Hm.out ▸ hbo
              have hco : wr.cell? ⟨M + 1, k, none⟩ = some (.int .i64 0) := (hbo'.cell k).trans (rowI_get (by rw [List.getElem?_append_right (by rw [hLL1.out]; omega), hLL1.out]; simp))
              have hfo := hbo'.frozen k
              have Hbo := Lib.hid hbo'
              have HLw := Lib.hid hL
              have Hbw := Lib.hid hb
              clear hbo hbo' hL hb
              have hlk : (Instr.lookup 88 (.map (some M)) (.int .i64 x) true).run Try.prog wr = .ok (.tuple #[.int .i64 (((ixSt l k).1 x).getD 0), .bool ((ixSt l k).1 x).isSome]) wr := hm.lookup_ok inj_iV keyed_int Try.underlying88 (zero_int wr) hgx
              have hlk2 : (Instr.lookup 88 (.map (some M)) (.int .i64 x) false).run Try.prog wr = .ok (.int .i64 (((ixSt l k).1 x).getD 0)) wr := hm.lookup inj_iV keyed_int Try.underlying88 (zero_int wr) hgx
              have hln : ∀ ty, (Builtin.len_ #[88] ty #[.map (some M)]).run Try.prog wr = .ok (.int .i64 (ixSt l k).2.1) wr := fun ty => hm.len Try.underlying88 ty
              have Hm2 := Lib.hid hm
              clear hm
              have hst : Hid (ixSt l (k + 1) = if ((ixSt l k).1 x).isSome then ((ixSt l k).1, (ixSt l k).2.1, (ixSt l k).2.2 ++ [((ixSt l k).1 x).getD 0])
                 else (setF (ixSt l k).1 x (ixSt l k).2.1, (ixSt l k).2.1 + 1, (ixSt l k).2.2 ++ [((ixSt l k).2.1 : Int)])) := by
                show _ = _; rw [ixSt, getD_of Hx.out]
              cases hsx : ((ixSt l k).1 x).isSome
              · obtain ⟨w1, hup, hm1, ht1⟩ := Hm2.out.update inj_iV keyed_int Try.underlying88 hgx ((ixSt l k).2.1 : Int)
                have hup' : (Instr.mapUpdate 88 (.map (some M)) (.int .i64 x) (.int .i64 (ixSt l k).2.1)).run Try.prog wr = .ok () w1 := hup
                clear hup
                have hco1 : w1.cell? ⟨M + 1, k, none⟩ = some (.int .i64 0) := by rw [ht1.cell (by simp)]; exact hco
                have hfo1 : w1.frozen? ⟨M + 1, k, none⟩ = false := by rw [ht1.frozen (by simp)]; exact hfo
                have hlk3 : (Instr.lookup 88 (.map (some M)) (.int .i64 x) false).run Try.prog w1 = .ok (.int .i64 (ixSt l k).2.1) w1 := by
                  have := hm1.lookup inj_iV keyed_int Try.underlying88 (zero_int w1) hgx
                  simpa [setF, iV] using this
                have Hm1 := Lib.hid hm1
                have Ht1 := Lib.hid ht1
                clear hm1 ht1
                go_wp2_with fail
                go_roundw
                case rel =>
                  refine ⟨k + 1, by omega, by go_num, ?_, ?_, (Ht1.out.bk HLw.out (by omega)).far (p := ⟨M + 1, k, none⟩) (by show wo.heap.size ≠ M + 1; omega) _, (Ht1.out.below Hbw.out (by omega)).setCell (p := ⟨M + 1, k, none⟩) (by show wo.heap.size ≤ M + 1; omega) _⟩
                  · have h := (Ht1.out.bk Hbo.out (by omega)).set_ k (.int .i64 (ixSt l k).2.1)
                    have e := rowI_set (ixSt l k).2.2 m' (ixSt l k).2.1
                    rw [hLL1.out] at e
                    rw [e, show m' = ws.length - (k + 1) from by have := Hm.out; omega] at h
                    rw [hst.out, hsx]
                    exact h
                  · rw [hst.out, hsx]
                    have h := Hm1.out.setCell (p := ⟨M + 1, k, none⟩) (by simp) (.int .i64 (ixSt l k).2.1)
                    rw [cnt_none hsx] at h
                    exact h
                case measure => simp [intOf]; omega
              · go_wp2_with fail
                go_roundw
                case rel =>
                  refine ⟨k + 1, by omega, by go_num, ?_, ?_, HLw.out.far (p := ⟨M + 1, k, none⟩) (by show wo.heap.size ≠ M + 1; omega) _, Hbw.out.setCell (p := ⟨M + 1, k, none⟩) (by show wo.heap.size ≤ M + 1; omega) _⟩
                  · have h := Hbo.out.set_ k (.int .i64 (((ixSt l k).1 x).getD 0))
                    have e := rowI_set (ixSt l k).2.2 m' (((ixSt l k).1 x).getD 0)
                    rw [hLL1.out] at e
                    rw [e, show m' = ws.length - (k + 1) from by have := Hm.out; omega] at h
                    rw [hst.out, hsx]
                    exact h
                  · rw [hst.out, hsx]
                    exact Hm2.out.setCell (p := ⟨M + 1, k, none⟩) (by simp) _
                case measure => simp [intOf]; omega
            · obtain rfl : k = ws.length := by omega
              rw [Nat.sub_self] at hbo
              simp only [List.replicate_zero, List.append_nil] at hbo
              have hix : (ixSt l ws.length).2.2 = ix l := by rw [ix, hLM]
              rw [hix] at hbo
              have hixl : (ix l).length = ws.length := by rw [ix_len, hLM]
              have HOw := Lib.hid hbo
              have Hb3 := Lib.hid (Hb.out.trans (hb.mono hzo))
              have Hown3 := Lib.hid (own_below Hown.out hb)
              have HLL3 := Lib.hid (HLL.out.below hb)
              have HbO3 := Lib.hid (HbO.out.below hb HbO.out.lt)
              have HbR3 := Lib.hid (HbR.out.below hb HbR.out.lt)
              have hc0 : wr.cell? ⟨S + 1, 0, none⟩ = some v := HbO3.out.cell 0
              have hz3 := Hbz.out _ Hb3.out
              have hSS : S + 1 < wo.heap.size := HbO.out.lt
              clear hm hL hb hbo HbO HbR Hown HLL Hb
              go_wp2_with (at_builtin; refine wpList_app2 (w := wr) rfl _ _ rfl elt_lists Hown3.out hz3 rfl rfl (by simp) rfl rfl (by omega) ?_; intro v1 w6 hown6 hg6 hz6; obtain ⟨A6, c6, rfl⟩ := own_slice hown6; have hbt := HbO3.out.grown hg6 (HbO3.out.ne_own Hown3.out (by decide)); have hq0 : w6.cell? ⟨S + 1, 0, none⟩ = some v := hbt.cell 0; have hqf := hbt.frozen 0; have Hbt := Lib.hid hbt; clear hbt)
              go_roundw
              case rel =>
                have hli : (lists ws ns ls)[s]? = some (ix l) := by rw [lists_at (by assumption), hof.out]
                have hLL := (HLL3.out.grown Hown3.out (by decide) hg6).snoc ((HOw.out.grown hg6 (HOw.out.ne_own Hown3.out (by decide)))) (show S ≤ M + 1 by omega)
                rw [← take_snoc' hli, hixl] at hLL
                have hbR := HbR3.out.grown hg6 (HbR3.out.ne_own Hown3.out (by decide))
                refine ⟨s + 1, _, _, by omega, by go_num, Hbt.out.set_ 0 _, hbR.far (p := ⟨S + 1, 0, none⟩) (by show S ≠ S + 1; omega) _, own_set (i := 0) hown6 (Hbt.out.ne_own hown6 (by decide)) _, hLL.set_ Hbt.out (by decide) 0 _, (Hb3.out.grown hg6 hz3 (fun q hq => (Hown3.out.lt q hq).1)).setCell (p := ⟨S + 1, 0, none⟩) (by show S ≤ S + 1; omega) _⟩
              case measure => simp [intOf]; omega
    · obtain rfl : s = ls.length := by omega
      rw [List.take_of_length_le (by rw [lists_len]; exact Nat.le_refl _)] at HLL
      obtain ⟨AO, cO, hvO⟩ := own_slice Hown.out
      subst hvO
      have hc0 : wr.cell? ⟨S + 1, 0, none⟩ = some (.slice AO ls.length cO) := HbO.out.cell 0
      have hr0 : wr.cell? ⟨S, 0, none⟩ = some (.slice none 0 0) := HbR.out.cell 0
      have hf0 := HbR.out.frozen 0
      have hz0 : (wr.setCell ⟨S, 0, none⟩ (.slice AO ls.length cO)).cell? ⟨S, 0, none⟩ = some (.slice AO ls.length cO) := (HbR.out.set_ 0 (.slice AO ls.length cO)).cell 0
      go_wp2_with fail
      refine bodyPost_ret (v := .agg #[.slice AO ls.length cO]) (by simp [results, Try.results17, go_sem, hz0]) rfl ⟨AO, cO, vs, rfl, ?_, ?_, ?_⟩
      · rw [HS.out]; exact own_set (i := 0) Hown.out (HbR.out.ne_own Hown.out (by decide)) _
      · rw [HS.out]; exact HLL.out.set_ HbR.out (by decide) 0 _
      · rw [HS.out]; exact Hb.out.setCell (p := ⟨S, 0, none⟩) (Nat.le_refl _) _
end Go.Proofs.Ytmdgdphhedgojaa

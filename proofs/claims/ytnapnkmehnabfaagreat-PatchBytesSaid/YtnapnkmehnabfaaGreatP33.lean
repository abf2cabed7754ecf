import Derived.Test.YtnapnkmehnabfaaGreatP32
import Derived.Test.YtnapnkmehnabfaaGreatHB
namespace Go.Proofs.YtnapnkmehnabfaaGreat
open Go.RowKit Go.Maps
theorem vbs_lt (l : List Int) : ∀ c ∈ vbs l, c < 256 := by
 intro c hc;obtain ⟨n, _, hn⟩ := List.mem_flatMap.1 hc;exact vb_bytes _ c hn
theorem lsB_lt {α : Type} {f : α → List Nat} (h : ∀ x, ∀ c ∈ f x, c < 256) (l : List α) : ∀ c ∈ lsB f l, c < 256 := by
 intro c hc;rcases List.mem_append.1 hc with hc | hc
 ·exact vb_bytes _ c hc
 obtain ⟨x, _, hx⟩ := List.mem_flatMap.1 hc;exact h x c hx
theorem app_lt {a b : List Nat} (ha : ∀ c ∈ a, c < 256) (hb : ∀ c ∈ b, c < 256) : ∀ c ∈ a ++ b, c < 256 := fun c hc => (List.mem_append.1 hc).elim (ha c) (hb c)
theorem clB_lt (x : Cl) : ∀ c ∈ clB x, c < 256 := vbs_lt _
theorem idB_lt (x : Int × Int) : ∀ c ∈ idB x, c < 256 := app_lt (vb_bytes _) (vb_bytes _)
theorem paB_lt (p : Pa) : ∀ c ∈ paB p, c < 256 :=
 app_lt (app_lt (app_lt (app_lt (app_lt (app_lt (app_lt (vbs_lt _) (lsB_lt (fun _ => vb_bytes _) _)) (lsB_lt (fun _ => app_lt (vbs_lt _) (lsB_lt clB_lt _)) _))
  (lsB_lt (fun _ => app_lt (app_lt (vbs_lt _) (app_lt (vb_bytes _) (bl_lt _))) (vbs_lt _)) _)) (lsB_lt (fun _ => app_lt (idB_lt _) (clB_lt _)) _)) (lsB_lt idB_lt _)) (lsB_lt idB_lt _)) (lsB_lt (fun _ => vbs_lt _) _)
noncomputable def idH (p : Pa) : Int := ((bytesH (bl ⟨#[112, 97, 116, 99, 104]⟩) (paB p) : Nat) : Int)
noncomputable def idV (p : Pa) : Int := if paE p = 0 then idH p else 0
set_option linter.unusedSimpArgs false in
set_option maxHeartbeats 4000000 in
set_option maxRecDepth 100000 in
theorem id_any (p : Pa) (a : Pw) (w : World) (h : PT w p a) (hl : PLn p) (hn : ∀ x ∈ p.needs, u64 x) :
  Calls Tryz.prog 23 #[.agg (paC p a)] w fun e w' => e = .returned (.tuple #[.int .u64 (idV p), .int .i64 (paE p)]) ∧ Below w.heap.size w w' := by
 have hb0 := (Below.refl w.heap.size w).alloc (Nat.le_refl _) (.cells #[.int .i64 p.office, .int .i64 p.num, .slice a.n p.needs.length a.cn, .slice a.s p.st.length a.cs, .slice a.l p.pl.length a.cl, .slice a.m p.ma.length a.cm, .slice a.e p.er.length a.ce, .slice a.d p.dr.length a.cd, .slice a.r p.rt.length a.cr] 34);have HV := q9 (encode_any p a _ (h.below hb0) hl hn);have Hb0 := q9 hb0;have hsz : w.heap.size < (w.alloc (.cells #[.int .i64 p.office, .int .i64 p.num, .slice a.n p.needs.length a.cn, .slice a.s p.st.length a.cs, .slice a.l p.pl.length a.cl, .slice a.m p.ma.length a.cm, .slice a.e p.er.length a.ce, .slice a.d p.dr.length a.cd, .slice a.r p.rt.length a.cr] 34)).heap.size := by simp
 show Calls Tryz.prog 23 #[.agg #[.int .i64 p.office, .int .i64 p.num, .slice a.n p.needs.length a.cn, .slice a.s p.st.length a.cs, .slice a.l p.pl.length a.cl, .slice a.m p.ma.length a.cm, .slice a.e p.er.length a.ce, .slice a.d p.dr.length a.cd, .slice a.r p.rt.length a.cr]] w _;obtain ⟨I, hI⟩ : ∃ z, Hid (idV p = z) := ⟨_, q9 rfl⟩;obtain ⟨R, hR⟩ : ∃ z, Hid (paE p = z) := ⟨_, q9 rfl⟩;rw [hI.out];rw [hR.out] at HV ⊢;have Hn := q9 hn;clear h hb0 hn;go_enter Tryz.func23, Tryz.ntmps23
 go_wp2_with fail
 refine HV.out.mono ?_;rintro e w1 ⟨hb1, ⟨hne, rfl⟩ | ⟨he, A, c, rfl, hown⟩⟩
 ·have Hb1 := q9 (Hb0.out.trans (hb1.mono (Nat.le_of_lt hsz)));have b1 : (R != 0) = true := by simp [hne]
  have Hi := q9 (show I = 0 from by rw [← hI.out, idV, if_neg (by rw [hR.out]; exact hne)]);clear hb1 hne HV hI Hb0;go_wp2_with fail
  exact bodyPost_ret (v := .tuple #[.int .u64 0, .int .i64 R]) (by simp [results, Tryz.results23, go_sem]) rfl ⟨by rw [Hi.out], Hb1.out⟩
 have Hb1 := q9 (Hb0.out.trans (hb1.mono (Nat.le_of_lt hsz)));have b1 : (R != 0) = false := by simp [he]
 have HE := paE_ok Hn.out (hR.out.trans he);have hlen := paB_len HE;have HC := q9 (bytes_any ⟨#[112, 97, 116, 99, 104]⟩ A c (paB p) w1 (by decide) (SL.of_own hown) (by omega) (paB_lt p));have Hi := q9 (show I = idH p from by rw [← hI.out, idV, if_pos (by rw [hR.out]; exact he)]);have Hr := q9 (show R = 0 from he);obtain ⟨J, hJ⟩ : ∃ z, Hid (((bytesH (bl ⟨#[112, 97, 116, 99, 104]⟩) (paB p) : Nat) : Int) = z) := ⟨_, q9 rfl⟩;obtain ⟨n, hnn⟩ : ∃ z, Hid ((paB p).length = z) := ⟨_, q9 rfl⟩;rw [hJ.out, hnn.out] at HC;rw [hnn.out];clear hb1 he HV hI Hb0 hown HE hR;go_wp2_with fail
 refine HC.out.mono ?_;rintro e w2 ⟨rfl, hb2⟩;have Hb2 := q9 (Hb1.out.trans (hb2.mono Hb1.out.size));clear hb2;go_wp2_with fail
 exact bodyPost_ret (v := .tuple #[.int .u64 J, .int .i64 0]) (by simp [results, Tryz.results23, go_sem]) rfl ⟨by rw [Hi.out, Hr.out, idH, hJ.out], Hb2.out⟩
end Go.Proofs.YtnapnkmehnabfaaGreat

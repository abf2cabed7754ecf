import Derived.Test.YtnapnkmehnabfaaGreatD5
namespace Go.Proofs.YtnapnkmehnabfaaGreat
open Go.RowKit Go.Maps
theorem many_mono {α : Type} {f : Rst → α × Rst} {σ : Rst} (h : σ.1 = true) : (manyR f σ).2.1 = true := by
 unfold manyR;rw [h, Bool.true_or, Bool.true_or, itB_bad]
theorem itB_dec {α : Type} {f : Rst → α × Rst} {enc : α → List Nat} : ∀ (L : List α) (t : List Nat), (∀ x ∈ L, ∀ t, f (false, some (enc x ++ t)) = (x, (false, some t)) ∨ (f (false, some (enc x ++ t))).2.1 = true) →
  itB f L.length (false, some (L.flatMap enc ++ t)) = (L, (false, some t)) ∨ (itB f L.length (false, some (L.flatMap enc ++ t))).2.1 = true
 | [], t, _ => .inl rfl
 | x :: L, t, h => by
  rw [List.flatMap_cons, List.append_assoc, List.length_cons];rcases h x (by simp) (L.flatMap enc ++ t) with e | e
  ·rw [itB_step e];rcases itB_dec L t (fun y hy => h y (List.mem_cons_of_mem _ hy)) with e2 | e2
   ·rw [e2]; exact .inl rfl
   exact .inr e2
  obtain ⟨y, ⟨b, s⟩, hy⟩ : ∃ y σ, f (false, some (enc x ++ (L.flatMap enc ++ t))) = (y, σ) := ⟨_, _, rfl⟩;rw [hy] at e;obtain rfl : b = true := e;rw [itB_step hy, itB_bad];exact .inr rfl
theorem many_dec {α : Type} {f : Rst → α × Rst} {enc : α → List Nat} (L : List α) (t : List Nat) (hl : L.length ≤ 1099511627776) (h : ∀ x ∈ L, ∀ t, f (false, some (enc x ++ t)) = (x, (false, some t)) ∨ (f (false, some (enc x ++ t))).2.1 = true) :
  manyR f (false, some (lsB enc L ++ t)) = (L, (false, some t)) ∨ (manyR f (false, some (lsB enc L ++ t))).2.1 = true := by
 unfold manyR lsB;simp only
 rw [List.append_assoc, iR_vb ⟨by omega, by omega⟩];simp only [Int.toNat_natCast];rw [show decide ((L.length : Int) < 0) = false from decide_eq_false (by omega)];by_cases h1 : L.length ≤ 4096
 ·rw [show decide ((4096 : Int) < (L.length : Int)) = false from decide_eq_false (by omega)];exact itB_dec L t h
 rw [show decide ((4096 : Int) < (L.length : Int)) = true from decide_eq_true (by omega)];simp only [Bool.or_true];rw [itB_bad];exact .inr rfl
theorem fU_dec {x : Int} (h : u64 x) (t : List Nat) : fU (false, some (ndB x ++ t)) = (x, (false, some t)) := by
 have h1 := h.1;have h2 := h.2;unfold fU ndB;simp only
 rw [uR_vb (by omega)];simp only [Int.toNat_of_nonneg h1]
theorem vbs2D (a b : Int) (t : List Nat) : vbs [a, b] ++ t = vb (zz a) ++ (vb (zz b) ++ t) := by simp [vbs]
theorem fR_dec {x : Int × Int} (h : rtW64 x) (t : List Nat) : fR (false, some (rtB x ++ t)) = (x, (false, some t)) := by
 obtain ⟨a, b⟩ := x;simp only [fR, rtB, vbs2D, iR_vb h.1, iR_vb h.2]
theorem fI_dec {x : Int × Int} (h : idW64 x) (t : List Nat) : fI (false, some (idB x ++ t)) = (x, (false, some t)) := by
 obtain ⟨a, b⟩ := x;have h1 := h.1.1;have h2 := h.1.2;simp only at h1 h2;simp only [fI, idB, List.append_assoc];rw [uR_vb (by omega)];simp only [iR_vb h.2, Int.toNat_of_nonneg h1]
theorem fC_dec {x : Cl} (h : clW64 x) (b : Bool) (t : List Nat) : fC (b, some (clB x ++ t)) = (x, (b, some t)) := by
 obtain ⟨k, o, f, ti, d⟩ := x;have e : clB ⟨k, o, f, ti, d⟩ ++ t = vb (zz k) ++ (vb (zz o) ++ (vb (zz f) ++ (vb (zz ti) ++ (vb (zz d) ++ t)))) := by simp [clB, vbs]
 simp only [fC, e, iR_vb h.1, iR_vb h.2.1, iR_vb h.2.2.1, iR_vb h.2.2.2.1, iR_vb h.2.2.2.2]
theorem fM_dec {x : Mk} (h : mkW64 x) (t : List Nat) : fM (false, some (mkB x ++ t)) = (x, (false, some t)) := by
 obtain ⟨p, i, c⟩ := x;have e : mkB ⟨p, i, c⟩ ++ t = idB (p, i) ++ (clB c ++ t) := by simp [mkB]
 rw [e];unfold fM;rw [fI_dec (x := (p, i)) ⟨h.1, h.2.1⟩];simp only
 rw [fC_dec h.2.2]
theorem fP_dec {x : Plc} (h : plW64 x) (hs : x.nm.size ≤ 1099511627776) (t : List Nat) : fP (false, some (plB x ++ t)) = (x, (false, some t)) := by
 obtain ⟨a, b, nm, o, f, ti⟩ := x;have e : plB ⟨a, b, nm, o, f, ti⟩ ++ t = vb (zz a) ++ (vb (zz b) ++ (vb (bl nm).length ++ (bl nm ++ (vb (zz o) ++ (vb (zz f) ++ (vb (zz ti) ++ t)))))) := by simp [plB, vbs, bl_len]
 have hb : (bl nm).length < 18446744073709551616 := by rw [bl_len]; simp only at hs; omega
 simp only [fP, e, iR_vb h.1, iR_vb h.2.1, rawR_vb hb, iR_vb h.2.2.1, iR_vb h.2.2.2.1, iR_vb h.2.2.2.2, nmOf_bl]
theorem fS_dec {x : Sk} (h : skW64 x) (hl : x.cl.length ≤ 1099511627776) (t : List Nat) : fS (false, some (skB x ++ t)) = (x, (false, some t)) ∨ (fS (false, some (skB x ++ t))).2.1 = true := by
 obtain ⟨a, b, c, d, cl⟩ := x;have e : skB ⟨a, b, c, d, cl⟩ ++ t = vb (zz a) ++ (vb (zz b) ++ (vb (zz c) ++ (vb (zz d) ++ (lsB clB cl ++ t)))) := by simp [skB, vbs]
 have hm := many_dec (f := fC) (enc := clB) cl t hl (fun x hx t => .inl (fC_dec (h.2.2.2.2 x hx) false t));simp only [fS, e, iR_vb h.1, iR_vb h.2.1, iR_vb h.2.2.1, iR_vb h.2.2.2.1];rcases hm with hm | hm
 ·rw [hm]; exact .inl rfl
 exact .inr hm
def decR (b : List Nat) : Pa × Rst :=
 let a := iR (some b); let c := iR a.2; let n := manyR fU (false, c.2); let st := manyR fS n.2; let pl := manyR fP st.2; let ma := manyR fM pl.2; let er := manyR fI ma.2; let dr := manyR fI er.2; let rt := manyR fR dr.2
 (⟨a.1, c.1, n.1, st.1, pl.1, ma.1, er.1, dr.1, rt.1⟩, rt.2)
theorem dec_enc {p : Pa} (hw : PW64 p) (hl : PLn p) (hc : ∀ x ∈ p.st, x.cl.length ≤ 1099511627776) : decR (paB p) = (p, (false, some [])) ∨ (decR (paB p)).2.1 = true := by
 have e : paB p = vb (zz p.office) ++ (vb (zz p.num) ++ (lsB ndB p.needs ++ (lsB skB p.st ++ (lsB plB p.pl ++ (lsB mkB p.ma ++ (lsB idB p.er ++ (lsB idB p.dr ++ (lsB rtB p.rt ++ [])))))))) := by simp [paB, vbs]
 have h1 := fun t => many_dec (f := fU) (enc := ndB) p.needs t hl.n (fun x hx t => .inl (fU_dec (hw.n x hx) t));have h2 := fun t => many_dec (f := fS) (enc := skB) p.st t hl.s (fun x hx t => fS_dec (hw.s x hx) (hc x hx) t);have h3 := fun t => many_dec (f := fP) (enc := plB) p.pl t hl.l (fun x hx t => .inl (fP_dec (hw.l x hx) (hl.x x hx) t));have h4 := fun t => many_dec (f := fM) (enc := mkB) p.ma t hl.m (fun x hx t => .inl (fM_dec (hw.m x hx) t));have h5 := fun t => many_dec (f := fI) (enc := idB) p.er t hl.e (fun x hx t => .inl (fI_dec (hw.e x hx) t));have h6 := fun t => many_dec (f := fI) (enc := idB) p.dr t hl.d (fun x hx t => .inl (fI_dec (hw.d x hx) t));have h7 := fun t => many_dec (f := fR) (enc := rtB) p.rt t hl.r (fun x hx t => .inl (fR_dec (hw.r x hx) t));rw [e];simp only [decR, iR_vb hw.o, iR_vb hw.k];rcases h1 (lsB skB p.st ++ (lsB plB p.pl ++ (lsB mkB p.ma ++ (lsB idB p.er ++ (lsB idB p.dr ++ (lsB rtB p.rt ++ [])))))) with h | h;rotate_left
 ·exact .inr (many_mono (many_mono (many_mono (many_mono (many_mono (many_mono h))))))
 rw [h];simp only
 rcases h2 (lsB plB p.pl ++ (lsB mkB p.ma ++ (lsB idB p.er ++ (lsB idB p.dr ++ (lsB rtB p.rt ++ []))))) with h | h;rotate_left
 ·exact .inr (many_mono (many_mono (many_mono (many_mono (many_mono h)))))
 rw [h];simp only
 rcases h3 (lsB mkB p.ma ++ (lsB idB p.er ++ (lsB idB p.dr ++ (lsB rtB p.rt ++ [])))) with h | h;rotate_left
 ·exact .inr (many_mono (many_mono (many_mono (many_mono h))))
 rw [h];simp only
 rcases h4 (lsB idB p.er ++ (lsB idB p.dr ++ (lsB rtB p.rt ++ []))) with h | h;rotate_left
 ·exact .inr (many_mono (many_mono (many_mono h)))
 rw [h];simp only
 rcases h5 (lsB idB p.dr ++ (lsB rtB p.rt ++ [])) with h | h;rotate_left
 ·exact .inr (many_mono (many_mono h))
 rw [h];simp only
 rcases h6 (lsB rtB p.rt ++ []) with h | h;rotate_left
 ·exact .inr (many_mono h)
 rw [h];simp only
 rcases h7 [] with h | h;rotate_left
 ·exact .inr h
 rw [h];exact .inl rfl
theorem dec_back {p q : Pa} (hw : PW64 p) (hl : PLn p) (hc : ∀ x ∈ p.st, x.cl.length ≤ 1099511627776) (h : decR (paB p) = (q, (false, some []))) : q = p := by
 rcases dec_enc hw hl hc with e | e
 ·rw [e] at h; injection h with h _; exact h.symm
 rw [h] at e; cases e
theorem dec_ok {p : Pa} (h : PEn p) : decR (paB p) = (p, (false, some [])) := by
 have k : ∀ (α : Type) (f : Rst → α × Rst) (enc : α → List Nat) (L : List α) (t : List Nat), L.length ≤ 4096 → (∀ x ∈ L, ∀ t, f (false, some (enc x ++ t)) = (x, (false, some t))) → manyR f (false, some (lsB enc L ++ t)) = (L, (false, some t)) := by
  intro α f enc L t hL hf;have hb : ∀ (L : List α) (t : List Nat), (∀ x ∈ L, ∀ t, f (false, some (enc x ++ t)) = (x, (false, some t))) → itB f L.length (false, some (L.flatMap enc ++ t)) = (L, (false, some t)) := by
   intro L;induction L with
   | nil => intro t _; rfl
   | cons x L ih =>
    intro t h;rw [List.flatMap_cons, List.append_assoc, List.length_cons, itB_step (h x (by simp) _), ih t (fun y hy => h y (List.mem_cons_of_mem _ hy))]
  unfold manyR lsB;simp only
  rw [List.append_assoc, iR_vb ⟨by omega, by omega⟩];simp only [Int.toNat_natCast];rw [show decide ((L.length : Int) < 0) = false from decide_eq_false (by omega), show decide ((4096 : Int) < (L.length : Int)) = false from decide_eq_false (by omega)];exact hb L t hf
 have e : paB p = vb (zz p.office) ++ (vb (zz p.num) ++ (lsB ndB p.needs ++ (lsB skB p.st ++ (lsB plB p.pl ++ (lsB mkB p.ma ++ (lsB idB p.er ++ (lsB idB p.dr ++ (lsB rtB p.rt ++ [])))))))) := by simp [paB, vbs]
 have hw := h.w;have hs : ∀ x ∈ p.st, ∀ t, fS (false, some (skB x ++ t)) = (x, (false, some t)) := fun x hx t => by
  have h1 := hw.s x hx;have h2 := h.c x hx;obtain ⟨a, b, c, d, cl⟩ := x;have e : skB ⟨a, b, c, d, cl⟩ ++ t = vb (zz a) ++ (vb (zz b) ++ (vb (zz c) ++ (vb (zz d) ++ (lsB clB cl ++ t)))) := by simp [skB, vbs]
  simp only [fS, e, iR_vb h1.1, iR_vb h1.2.1, iR_vb h1.2.2.1, iR_vb h1.2.2.2.1];rw [k _ fC clB cl t (by simp only at h2; omega) (fun x hx t => fC_dec (h1.2.2.2.2 x hx) false t)]
 rw [e];simp only [decR, iR_vb hw.o, iR_vb hw.k];rw [k _ fU ndB p.needs _ (by have := h.nn; omega) (fun x hx t => fU_dec (hw.n x hx) t)];simp only
 rw [k _ fS skB p.st _ h.s hs];simp only
 rw [k _ fP plB p.pl _ h.l (fun x hx t => fP_dec (hw.l x hx) (by have := h.x x hx; omega) t)];simp only
 rw [k _ fM mkB p.ma _ h.m (fun x hx t => fM_dec (hw.m x hx) t)];simp only
 rw [k _ fI idB p.er _ h.e (fun x hx t => fI_dec (hw.e x hx) t)];simp only
 rw [k _ fI idB p.dr _ h.d (fun x hx t => fI_dec (hw.d x hx) t)];simp only
 rw [k _ fR rtB p.rt _ h.r (fun x hx t => fR_dec (hw.r x hx) t)]
end Go.Proofs.YtnapnkmehnabfaaGreat

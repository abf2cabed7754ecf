import Derived.Test.YtnapnkmehnabfaaGreatD4
set_option maxRecDepth 100000
set_option linter.unusedSimpArgs false
set_option maxHeartbeats 8000000
namespace Go.Proofs.YtnapnkmehnabfaaGreat
open Go.RowKit Go.Maps
def nmOf (l : List Nat) : ByteArray := ⟨(l.map UInt8.ofNat).toArray⟩
theorem bl_nmOf {l : List Nat} (h : ∀ x ∈ l, x < 256) : bl (nmOf l) = l := by
 unfold bl nmOf;simp only [List.map_map];refine (List.map_congr_left (fun x hx => ?_)).trans (List.map_id l);have := h x hx;simp only [Function.comp_apply, UInt8.toNat_ofNat', id_eq];omega
theorem nmOf_bl (s : ByteArray) : nmOf (bl s) = s := by
 obtain ⟨a⟩ := s;unfold bl nmOf;congr 1
 apply Array.toList_inj.1;simp only [List.map_map];refine (List.map_congr_left (fun x hx => ?_)).trans (List.map_id a.toList);simp
theorem nmOf_size (l : List Nat) : (nmOf l).size = l.length := by unfold nmOf; simp [ByteArray.size]
theorem text_own {w : World} {base c : Nat} {A : Option Addr} {b : List Nat} (h : w.ownsRow base 5 1 (.slice A b.length c) b.length (byV b)) (hx : ∀ x ∈ b, x < 256) :
  (convert 50 9 (.slice A b.length c)).run Tryz.prog w = .ok (.string (nmOf b)) w := by
 rcases h.2 with ⟨he, h0⟩ | ⟨g, cap, cur, he, _⟩
 ·injection he with e1 e2 e3;subst e1;obtain rfl : b = [] := List.eq_nil_of_length_eq_zero h0;exact run_convert_bytes_nil w _ 5 Tryz.underlying50 Tryz.underlying5 _ _ _ Tryz.underlying9
 injection he with e1 e2 e3;subst e1;have hs : (nmOf b).size = b.length := nmOf_size b;have := text_of (nmOf b) g c w (fun k hk => by
  rw [hs] at hk;obtain ⟨b', o', e, hc⟩ := (SL.of_own h).byte hk;injection e with e;injection e with e1 e2;subst e1 e2;rw [Nat.zero_add] at hc;rw [hc, byt, bl_nmOf hx, List.getD_eq_getElem?_getD, List.getElem?_eq_getElem hk];rfl)
 rw [hs] at this;exact this
theorem uR_sub {l : List Nat} {n : Nat} {t : List Nat} (h : uR (some l) = (n, some t)) : ∀ x ∈ t, x ∈ l := by
 have k : ∀ (l : List Nat) (i acc n : Nat) (t : List Nat), rdU i acc l = some (n, t) → ∀ x ∈ t, x ∈ l := by
  intro l;induction l with
  | nil => intro i acc n t h; cases h
  | cons c l ih =>
   intro i acc n t h x hx;unfold rdU at h;split at h
   ·cases h
   split at h
   ·injection h with h; injection h with _ h; subst h; exact List.mem_cons_of_mem _ hx
   exact List.mem_cons_of_mem _ (ih _ _ _ _ h x hx)
 unfold uR at h;simp only at h;cases e : rdU 0 0 l with
 | none => rw [e] at h; cases h
 | some q =>
  obtain ⟨m, t'⟩ := q;rw [e] at h;injection h with h1 h2;injection h2 with h2;subst h2;exact k _ _ _ _ _ e
theorem rawR_lt {w : World} {r B : Nat} {s : Option (List Nat)} {b : List Nat} {s' : Option (List Nat)} (hq : RQ w r B s) (h : rawR s = (b, s')) : ∀ x ∈ b, x < 256 := by
 cases s with
 | none => cases h; intro x hx; cases hx
 | some l =>
  obtain ⟨_, _, _, _, _, _, _, _, hx⟩ := hq;unfold rawR at h;cases e : uR (some l) with
  | mk n t =>
   rw [e] at h;cases t with
   | none => cases h; intro x hx; cases hx
   | some t =>
    unfold rawo at h;split at h
    ·rename_i q; cases q
    rename_i q;injection q with q1 q2;injection q2 with q2;subst q1 q2;split at h
    ·injection h with h _;subst h;exact fun x hx' => hx x (uR_sub e x (List.mem_of_mem_take hx'))
    injection h with h _;subst h;intro x hx; cases hx
theorem run_build_placeD (x y : Int) (nm : ByteArray) (w : World) : (Instr.build 114 #[(0, .agg #[.int .i64 x, .int .i64 y]), (1, .string nm)]).run Tryz.prog w = .ok (.agg #[.int .i64 x, .int .i64 y, .string nm, .int .i64 0, .int .i64 0, .int .i64 0]) w := run_build w _ _ _ (by kernel_rfl)
theorem wpList_bs_row {P : Program} {ops : Array Oper} {rest : List Oper} {op : Oper} {a : Act} {w w' : World} {Q : Exit → Act → World → Prop} (hgd : op.guard = none) (ty : TypeId) (n : Nat) (ps : Array (Nat × Operand)) (ho : op.op = .buildSlice ty n ps) (vs : Array (Nat × Value)) (hv : (ps.map fun (i, x) => (i, a.eval x)) = vs) (v : Value) (hb : (Instr.buildSlice ty n vs).run P w = .ok v w')
  (h : wpList P ops Q rest (a.put op.dst v) w') : wpList P ops Q (op :: rest) a w :=
 wpList_plain hgd fun _ hK => wp_bs_row ty n ps ho vs hv v hb (hK _ _ h)
theorem wp_build_rowD {P : Program} {op : Oper} {a : Act} {w : World} {K : Act → World → Prop} {Q : Exit → Act → World → Prop} (d : Option Nat) (hd : op.dst = d) (ty : TypeId) (ps : Array (Nat × Operand)) (ho : op.op = .build ty ps) (vs : Array (Nat × Value)) (hv : (ps.map fun (i, x) => (i, a.eval x)) = vs) (cells : Array Value) (hb : (Instr.build ty vs).run P w = .ok (.agg cells) w)
  (h : K (a.put d (.agg cells)) w) : op.wp P a w K Q := by
 subst hd;exact wp_build_row ty ps ho vs hv cells hb h
def fP (σ : Rst) : Plc × Rst :=
 let a := iR σ.2; let b := iR a.2; let n := rawR b.2; let o := iR n.2; let f := iR o.2; let t := iR f.2
 (⟨a.1, b.1, nmOf n.1, o.1, f.1, t.1⟩, (σ.1, t.2))
def fS (σ : Rst) : Sk × Rst :=
 let a := iR σ.2; let b := iR a.2; let c := iR b.2; let d := iR c.2; let l := manyR fC (σ.1, d.2)
 (⟨a.1, b.1, c.1, d.1, l.1⟩, l.2)
theorem gStroke_any {w : World} {r R K B : Nat} {bad b' : Bool} {s s1 s2 s3 s4 s5 : Option (List Nat)} {x1 x2 x3 x4 : Int} {cl : List Cl} (h : RS w r R K B bad s) (hB : B ≤ w.heap.size) (h1 : iR s = (x1, s1)) (h2 : iR s1 = (x2, s2)) (h3 : iR s2 = (x3, s3)) (h4 : iR s3 = (x4, s4)) (h5 : manyR fC (bad, s4) = (cl, (b', s5))) :
  Calls Tryz.prog 83 #[.pointer (some ⟨K, 0, none⟩)] w fun e w' => ∃ A c, e = .returned (.agg #[.int .i64 x1, .int .i64 x2, .int .i64 x3, .int .i64 x4, .slice A cl.length c]) ∧ SB w' 41 A (cl.flatMap clC) ∧ RS w' r R K B b' s5 ∧ R2 r R w w' := by
 have HS0 := q9 (h.below ((Below.refl B w).alloc hB (.cells #[.int .i64 0, .int .i64 0, .int .i64 0, .int .i64 0, .slice none 0 0] 62)));have HF0 := q9 ((R2.refl r r w).alloc (.cells #[.int .i64 0, .int .i64 0, .int .i64 0, .int .i64 0, .slice none 0 0] 62));have HP0 := q9 (Bk.new w 62 #[.int .i64 0, .int .i64 0, .int .i64 0, .int .i64 0, .slice none 0 0]);have hPr : w.heap.size ≠ r := by have := h.q.lt; omega
 have hPR : w.heap.size ≠ R := by have := h.ltR; omega
 have hrB := h.q.lt;have hRB := h.ltR;clear h;go_enter Tryz.func83, Tryz.ntmps83
 go_upto_region 1 with fail
 generalize w.alloc (.cells #[.int .i64 0, .int .i64 0, .int .i64 0, .int .i64 0, .slice none 0 0] 62) = w1 at *;obtain ⟨P, hP⟩ : ∃ z, Hid (w.heap.size = z) := ⟨_, q9 rfl⟩;rw [hP.out] at HP0 hPr hPR;have hPn : w.heap.size ≤ P := Nat.le_of_eq hP.out;simp only [hP.out];go_cut [2] from 2 to 2 (fun v wx => ∃ X, v = .pointer (some ⟨X, 0, none⟩) ∧ w.heap.size ≤ X ∧ X ≠ r ∧ X ≠ P ∧ Hid (Bk wx X 62 #[.int .i64 x1, .int .i64 x2, .int .i64 x3, .int .i64 x4, .slice none 0 0]) ∧ Hid (Bk wx P 62 #[.int .i64 0, .int .i64 0, .int .i64 0, .int .i64 0, .slice none 0 0]) ∧ Hid (RS wx r R K B bad s4) ∧ Hid (R2 r r w wx))
 case first =>
  have HSd := q9 (show RS w1.drew r R K B bad s from HS0.out.below (Below.refl _ _).drew);have HFd := q9 HF0.out.drew;have HPd := q9 (HP0.out.below (Below.refl _ _).drew HP0.out.lt);clear HS0 HF0 HP0;have HS0 := HSd;have HF0 := HFd;have HP0 := HPd;clear HSd HFd HPd;refine rH 8 (fun W => W.cell? ⟨R, 0, none⟩ = some (.pointer (some ⟨r, 0, none⟩)) ∧ W.cell? ⟨K, 0, none⟩ = some (.pointer (some ⟨R, 0, none⟩))) ?_;generalize w1.drew = wv0 at *;refine Ht 0 (.pointer (some ⟨R, 0, none⟩)) 3 rfl rfl rfl (fun W hW => by obtain ⟨s0, s1⟩ := hW; go_simp) HS0.out.kr ?_;refine Ht 2 (.pointer (some ⟨R, 0, none⟩)) 5 rfl rfl rfl (fun W hW => by obtain ⟨s0, s1⟩ := hW; go_simp) HS0.out.kr ?_;try simp only [Act.put, qz0, qz1, qz2]
  refine H2 1 6 rfl rfl rfl rfl (fun K hK2 => ?_) (fun K hK2 => ?_)
  ·go_simp
   go_at_call 84
   refine (gPoint_any HS0.out (Nat.le_trans hB HF0.out.size) h1 h2).mono ?_;rintro e wv1 ⟨rfl, hs_, hf_⟩;have HS1 := q9 hs_;have HF1 := q9 (HF0.out.trans hf_);have HP1 := q9 (HP0.out.r2 hf_ hPr hPr);clear hs_ hf_ HS0 HF0 HP0;refine hK2.out _ _ HS1.out.kr ?_;try simp only [Act.put, qz0, qz1, qz2]
   refine H2 3 6 rfl rfl rfl rfl (fun K hK3 => ?_) (fun K hK3 => ?_)
   ·go_simp
    go_at_call 84
    refine (gPoint_any HS1.out (Nat.le_trans hB HF1.out.size) h3 h4).mono ?_;rintro e wv2 ⟨rfl, hs_, hf_⟩;have HS2 := q9 hs_;have HF2 := q9 (HF1.out.trans hf_);have HP2 := q9 (HP1.out.r2 hf_ hPr hPr);clear hs_ hf_ HS1 HF1 HP1;refine hK3.out _ _ HS2.out.kr ?_;try simp only [Act.put, qz0, qz1, qz2]
    refine Ht 4 (.agg #[.int .i64 x1, .int .i64 x2, .int .i64 x3, .int .i64 x4]) 7 rfl rfl rfl (fun W hW => by obtain ⟨s0, s1⟩ := hW; go_simp) HS2.out.kr ?_;refine Ht 5 (.agg #[.int .i64 x1, .int .i64 x2, .int .i64 x3, .int .i64 x4, .slice none 0 0]) 8 rfl rfl rfl (fun W hW => by obtain ⟨s0, s1⟩ := hW; go_simp) HS2.out.kr ?_;try simp only [Act.put, qz0, qz1, qz2]
    refine H1 6 rfl rfl (fun K hK6 => ?_);go_simp
    have HS3 := q9 (HS2.out.below ((Below.refl B wv2).alloc (Nat.le_trans hB HF2.out.size) (.cells #[.int .i64 0, .int .i64 0, .int .i64 0, .int .i64 0, .slice none 0 0] 62)));have hXr : wv2.heap.size ≠ r := by have := HS2.out.q.lt; have := HF2.out.size; omega
    have hXn := HF2.out.size;have hXP : wv2.heap.size ≠ P := by have := HP2.out.lt; omega
    have HF3 := q9 (HF2.out.alloc (.cells #[.int .i64 0, .int .i64 0, .int .i64 0, .int .i64 0, .slice none 0 0] 62));have HP3 := q9 (HP2.out.alloc (.cells #[.int .i64 0, .int .i64 0, .int .i64 0, .int .i64 0, .slice none 0 0] 62));have HX3 := q9 (Bk.new wv2 62 #[.int .i64 0, .int .i64 0, .int .i64 0, .int .i64 0, .slice none 0 0]);clear HS2 HF2 HP2;refine hK6.out _ _ HS3.out.kr ?_;try simp only [Act.put, qz0, qz1, qz2]
    obtain ⟨X, hX⟩ : ∃ z, Hid (wv2.heap.size = z) := ⟨_, q9 rfl⟩;rw [hX.out] at HX3 hXr hXn hXP;simp only [hX.out];generalize wv2.alloc (.cells #[.int .i64 0, .int .i64 0, .int .i64 0, .int .i64 0, .slice none 0 0] 62) = wv3 at *;refine H1 7 rfl rfl (fun K hK7 => ?_);refine wp_store_row 62 (.tmp 2) (.tmp 8) rfl X 62 #[.int .i64 0, .int .i64 0, .int .i64 0, .int .i64 0, .slice none 0 0] #[.int .i64 x1, .int .i64 x2, .int .i64 x3, .int .i64 x4, .slice none 0 0] rfl rfl HX3.out (by kernel_rfl) rfl (by simp [Value.oneCell']) ?_;have HXz := q9 (HX3.out.row #[.int .i64 x1, .int .i64 x2, .int .i64 x3, .int .i64 x4, .slice none 0 0]);have hg_ := grown_row9 wv3 X #[.int .i64 x1, .int .i64 x2, .int .i64 x3, .int .i64 x4, .slice none 0 0];have HSz := q9 (HS3.out.below ((Below.refl B wv3).grown hg_ (Nat.le_trans hB HF3.out.size) (fun k e => by cases e; exact Nat.le_trans hB hXn)));have HFz := q9 (HF3.out.grown hg_ (fun k e => by cases e; exact hXn));have HPz := q9 (HP3.out.grown hg_ (fun e => hXP (Option.some.inj e).symm));clear hg_ HS3 HF3 HP3 HX3;generalize World.setRow _ _ _ = wz at *;refine hK7.out _ _ HSz.out.kr ?_;try simp only [Act.put, qz0, qz1, qz2]
    refine H0 ?_;try simp only [Act.put, qz0, qz1, qz2]
    go_wp2_with fail
    go_meet
    exact ⟨X, rfl, hXn, hXr, hXP, HXz, HPz, HSz, HFz⟩
   go_simp
   have HS2 := q9 (HS1.out.below ((Below.refl B wv1).alloc (Nat.le_trans hB HF1.out.size) (.cells #[.int .i64 0, .int .i64 0, .int .i64 0, .int .i64 0, .slice none 0 0] 62)));have hXr : wv1.heap.size ≠ r := by have := HS1.out.q.lt; have := HF1.out.size; omega
   have hXn := HF1.out.size;have hXP : wv1.heap.size ≠ P := by have := HP1.out.lt; omega
   have HF2 := q9 (HF1.out.alloc (.cells #[.int .i64 0, .int .i64 0, .int .i64 0, .int .i64 0, .slice none 0 0] 62));have HP2 := q9 (HP1.out.alloc (.cells #[.int .i64 0, .int .i64 0, .int .i64 0, .int .i64 0, .slice none 0 0] 62));have HX2 := q9 (Bk.new wv1 62 #[.int .i64 0, .int .i64 0, .int .i64 0, .int .i64 0, .slice none 0 0]);clear HS1 HF1 HP1;refine hK3.out _ _ HS2.out.kr ?_;try simp only [Act.put, qz0, qz1, qz2]
   obtain ⟨X, hX⟩ : ∃ z, Hid (wv1.heap.size = z) := ⟨_, q9 rfl⟩;rw [hX.out] at HX2 hXr hXn hXP;simp only [hX.out];generalize wv1.alloc (.cells #[.int .i64 0, .int .i64 0, .int .i64 0, .int .i64 0, .slice none 0 0] 62) = wv2 at *;refine H1 3 rfl rfl (fun K hK4 => ?_);go_simp
   go_at_call 84
   refine (gPoint_any HS2.out (Nat.le_trans hB HF2.out.size) h3 h4).mono ?_;rintro e wv3 ⟨rfl, hs_, hf_⟩;have HS3 := q9 hs_;have HF3 := q9 (HF2.out.trans hf_);have HP3 := q9 (HP2.out.r2 hf_ hPr hPr);have HX3 := q9 (HX2.out.r2 hf_ hXr hXr);clear hs_ hf_ HS2 HF2 HP2 HX2;refine hK4.out _ _ HS3.out.kr ?_;try simp only [Act.put, qz0, qz1, qz2]
   refine Ht 4 (.agg #[.int .i64 x1, .int .i64 x2, .int .i64 x3, .int .i64 x4]) 7 rfl rfl rfl (fun W hW => by obtain ⟨s0, s1⟩ := hW; go_simp) HS3.out.kr ?_;refine Ht 5 (.agg #[.int .i64 x1, .int .i64 x2, .int .i64 x3, .int .i64 x4, .slice none 0 0]) 8 rfl rfl rfl (fun W hW => by obtain ⟨s0, s1⟩ := hW; go_simp) HS3.out.kr ?_;try simp only [Act.put, qz0, qz1, qz2]
   refine H1 7 rfl rfl (fun K hK7 => ?_);refine wp_store_row 62 (.tmp 2) (.tmp 8) rfl X 62 #[.int .i64 0, .int .i64 0, .int .i64 0, .int .i64 0, .slice none 0 0] #[.int .i64 x1, .int .i64 x2, .int .i64 x3, .int .i64 x4, .slice none 0 0] rfl rfl HX3.out (by kernel_rfl) rfl (by simp [Value.oneCell']) ?_;have HXz := q9 (HX3.out.row #[.int .i64 x1, .int .i64 x2, .int .i64 x3, .int .i64 x4, .slice none 0 0]);have hg_ := grown_row9 wv3 X #[.int .i64 x1, .int .i64 x2, .int .i64 x3, .int .i64 x4, .slice none 0 0];have HSz := q9 (HS3.out.below ((Below.refl B wv3).grown hg_ (Nat.le_trans hB HF3.out.size) (fun k e => by cases e; exact Nat.le_trans hB hXn)));have HFz := q9 (HF3.out.grown hg_ (fun k e => by cases e; exact hXn));have HPz := q9 (HP3.out.grown hg_ (fun e => hXP (Option.some.inj e).symm));clear hg_ HS3 HF3 HP3 HX3;generalize World.setRow _ _ _ = wz at *;refine hK7.out _ _ HSz.out.kr ?_;try simp only [Act.put, qz0, qz1, qz2]
   refine H0 ?_;try simp only [Act.put, qz0, qz1, qz2]
   go_wp2_with fail
   go_meet
   exact ⟨X, rfl, hXn, hXr, hXP, HXz, HPz, HSz, HFz⟩
  go_simp
  have HS1 := q9 (HS0.out.below ((Below.refl B wv0).alloc (Nat.le_trans hB HF0.out.size) (.cells #[.int .i64 0, .int .i64 0, .int .i64 0, .int .i64 0, .slice none 0 0] 62)));have hXr : wv0.heap.size ≠ r := by have := HS0.out.q.lt; have := HF0.out.size; omega
  have hXn := HF0.out.size;have hXP : wv0.heap.size ≠ P := by have := HP0.out.lt; omega
  have HF1 := q9 (HF0.out.alloc (.cells #[.int .i64 0, .int .i64 0, .int .i64 0, .int .i64 0, .slice none 0 0] 62));have HP1 := q9 (HP0.out.alloc (.cells #[.int .i64 0, .int .i64 0, .int .i64 0, .int .i64 0, .slice none 0 0] 62));have HX1 := q9 (Bk.new wv0 62 #[.int .i64 0, .int .i64 0, .int .i64 0, .int .i64 0, .slice none 0 0]);clear HS0 HF0 HP0;refine hK2.out _ _ HS1.out.kr ?_;try simp only [Act.put, qz0, qz1, qz2]
  obtain ⟨X, hX⟩ : ∃ z, Hid (wv0.heap.size = z) := ⟨_, q9 rfl⟩;rw [hX.out] at HX1 hXr hXn hXP;simp only [hX.out];generalize wv0.alloc (.cells #[.int .i64 0, .int .i64 0, .int .i64 0, .int .i64 0, .slice none 0 0] 62) = wv1 at *;refine H1 1 rfl rfl (fun K hK3 => ?_);go_simp
  go_at_call 84
  refine (gPoint_any HS1.out (Nat.le_trans hB HF1.out.size) h1 h2).mono ?_;rintro e wv2 ⟨rfl, hs_, hf_⟩;have HS2 := q9 hs_;have HF2 := q9 (HF1.out.trans hf_);have HP2 := q9 (HP1.out.r2 hf_ hPr hPr);have HX2 := q9 (HX1.out.r2 hf_ hXr hXr);clear hs_ hf_ HS1 HF1 HP1 HX1;refine hK3.out _ _ HS2.out.kr ?_;try simp only [Act.put, qz0, qz1, qz2]
  refine H1 3 rfl rfl (fun K hK4 => ?_);go_simp
  go_at_call 84
  refine (gPoint_any HS2.out (Nat.le_trans hB HF2.out.size) h3 h4).mono ?_;rintro e wv3 ⟨rfl, hs_, hf_⟩;have HS3 := q9 hs_;have HF3 := q9 (HF2.out.trans hf_);have HP3 := q9 (HP2.out.r2 hf_ hPr hPr);have HX3 := q9 (HX2.out.r2 hf_ hXr hXr);clear hs_ hf_ HS2 HF2 HP2 HX2;refine hK4.out _ _ HS3.out.kr ?_;try simp only [Act.put, qz0, qz1, qz2]
  refine Ht 4 (.agg #[.int .i64 x1, .int .i64 x2, .int .i64 x3, .int .i64 x4]) 7 rfl rfl rfl (fun W hW => by obtain ⟨s0, s1⟩ := hW; go_simp) HS3.out.kr ?_;refine Ht 5 (.agg #[.int .i64 x1, .int .i64 x2, .int .i64 x3, .int .i64 x4, .slice none 0 0]) 8 rfl rfl rfl (fun W hW => by obtain ⟨s0, s1⟩ := hW; go_simp) HS3.out.kr ?_;try simp only [Act.put, qz0, qz1, qz2]
  refine H1 7 rfl rfl (fun K hK7 => ?_);refine wp_store_row 62 (.tmp 2) (.tmp 8) rfl X 62 #[.int .i64 0, .int .i64 0, .int .i64 0, .int .i64 0, .slice none 0 0] #[.int .i64 x1, .int .i64 x2, .int .i64 x3, .int .i64 x4, .slice none 0 0] rfl rfl HX3.out (by kernel_rfl) rfl (by simp [Value.oneCell']) ?_;have HXz := q9 (HX3.out.row #[.int .i64 x1, .int .i64 x2, .int .i64 x3, .int .i64 x4, .slice none 0 0]);have hg_ := grown_row9 wv3 X #[.int .i64 x1, .int .i64 x2, .int .i64 x3, .int .i64 x4, .slice none 0 0];have HSz := q9 (HS3.out.below ((Below.refl B wv3).grown hg_ (Nat.le_trans hB HF3.out.size) (fun k e => by cases e; exact Nat.le_trans hB hXn)));have HFz := q9 (HF3.out.grown hg_ (fun k e => by cases e; exact hXn));have HPz := q9 (HP3.out.grown hg_ (fun e => hXP (Option.some.inj e).symm));clear hg_ HS3 HF3 HP3 HX3;generalize World.setRow _ _ _ = wz at *;refine hK7.out _ _ HSz.out.kr ?_;try simp only [Act.put, qz0, qz1, qz2]
  refine H0 ?_;try simp only [Act.put, qz0, qz1, qz2]
  go_wp2_with fail
  go_meet
  exact ⟨X, rfl, hXn, hXr, hXP, HXz, HPz, HSz, HFz⟩
 case rest =>
  clear HS0 HF0 HP0;obtain ⟨X, rfl, hXn, hXr, hXP, HX, HP1, HS, HF⟩ := hcut;rename_i wc;have d0 : wc.cell? ⟨K, 0, none⟩ = some (.pointer (some ⟨R, 0, none⟩)) := HS.out.hK.cell 0;have hsz := HF.out.size;have HC := q9 (manyC_any HS.out (Nat.le_trans hB hsz) h5);have hXR : X ≠ R := by omega
  go_wp2_with fail
  refine HC.out.mono ?_;rintro e w2 ⟨A, c, rfl, ho_, hs_, hf_⟩;have HX2 := q9 (HX.out.r2 hf_ hXr hXR);have HP2 := q9 (HP1.out.r2 hf_ hPr hPR);have HS2 := q9 hs_;have HF2 := q9 ((HF.out.wide R).trans hf_);have HO := q9 (SB.own ho_);clear ho_ hs_ hf_ HX HP1 HS HF HC d0;have z4 : w2.cell? ⟨X, 4, none⟩ = some (.slice none 0 0) := HX2.out.cell 4;have zf := HX2.out.frozen 4;go_upto_region 3 with fail
  have hg_ := grown_set w2 X 4 (.slice A cl.length c);have HX3 := q9 (show Bk (w2.setCell ⟨X, 4, none⟩ (.slice A cl.length c)) X 62 #[.int .i64 x1, .int .i64 x2, .int .i64 x3, .int .i64 x4, .slice A cl.length c] from HX2.out.set_ 4 _);have HP3 := q9 (HP2.out.grown hg_ (fun e => hXP (Option.some.inj e).symm));have HS3 := q9 (HS2.out.below ((Below.refl B w2).grown hg_ (Nat.le_trans hB HF2.out.size) (fun k e => by cases e; exact Nat.le_trans hB hXn)));have HF3 := q9 (HF2.out.grown hg_ (fun k e => by cases e; exact hXn));have HO3 := q9 (HO.out.grown hg_ (fun q e => by cases e; exact ⟨_, _, HX2.out, by decide⟩));clear hg_ HX2 HP2 HS2 HF2 HO z4 zf;generalize w2.setCell ⟨X, 4, none⟩ (.slice A cl.length c) = w3 at *;refine wp_region_lit ?_;refine wpList_load_row rfl 62 (.tmp 2) rfl X 62 #[.int .i64 x1, .int .i64 x2, .int .i64 x3, .int .i64 x4, .slice A cl.length c] _ rfl HX3.out Tryz.underlying62 rfl (by kernel_rfl) ?_;refine wpList_store_row rfl 62 (.tmp 1) (.tmp 14) rfl P 62 #[.int .i64 0, .int .i64 0, .int .i64 0, .int .i64 0, .slice none 0 0] #[.int .i64 x1, .int .i64 x2, .int .i64 x3, .int .i64 x4, .slice A cl.length c] rfl (by rfl) HP3.out (by kernel_rfl) rfl (by simp [Value.oneCell']) ?_;have hg_ := grown_row9 w3 P #[.int .i64 x1, .int .i64 x2, .int .i64 x3, .int .i64 x4, .slice A cl.length c];have HPz := HP3.out.row #[.int .i64 x1, .int .i64 x2, .int .i64 x3, .int .i64 x4, .slice A cl.length c]
  have HSz := q9 (HS3.out.below ((Below.refl B w3).grown hg_ (Nat.le_trans hB HF3.out.size) (fun k e => by cases e; exact Nat.le_trans hB hPn)));have HFz := q9 (HF3.out.grown hg_ (fun k e => by cases e; exact hPn));have HOz := q9 (HO3.out.grown hg_ (fun q e => by cases e; exact ⟨_, _, HP3.out, by decide⟩));clear hg_ HX3 HP3 HS3 HF3 HO3;generalize World.setRow _ _ _ = wz at *;have r0_ := HPz.cell 0;have r1_ := HPz.cell 1;have r2_ := HPz.cell 2;have r3_ := HPz.cell 3;have r4_ := HPz.cell 4;clear HPz;go_wp2_with fail
  exact bodyPost_ret (v := .agg #[.int .i64 x1, .int .i64 x2, .int .i64 x3, .int .i64 x4, .slice A cl.length c]) (by simp [results, Tryz.results83, go_sem, r0_, r1_, r2_, r3_, r4_]) rfl ⟨A, c, rfl, HOz.out, HSz.out, HFz.out⟩
theorem gPlace_any {w : World} {r R K B : Nat} {bad : Bool} {s s1 s2 s3 s4 s5 s6 : Option (List Nat)} {x1 x2 x3 x4 x5 : Int} {b : List Nat} (h : RS w r R K B bad s) (hB : B ≤ w.heap.size) (h1 : iR s = (x1, s1)) (h2 : iR s1 = (x2, s2)) (h3 : rawR s2 = (b, s3)) (h4 : iR s3 = (x3, s4)) (h5 : iR s4 = (x4, s5)) (h6 : iR s5 = (x5, s6)) :
  Calls Tryz.prog 88 #[.pointer (some ⟨K, 0, none⟩)] w fun e w' => e = .returned (.agg #[.int .i64 x1, .int .i64 x2, .string (nmOf b), .int .i64 x3, .int .i64 x4, .int .i64 x5]) ∧ RS w' r R K B bad s6 ∧ R2 r R w w' := by
 have HS0 := q9 (h.below ((Below.refl B w).alloc hB (.cells #[.int .i64 0, .int .i64 0, .string ⟨#[]⟩, .int .i64 0, .int .i64 0, .int .i64 0] 114)));have HF0 := q9 ((R2.refl r r w).alloc (.cells #[.int .i64 0, .int .i64 0, .string ⟨#[]⟩, .int .i64 0, .int .i64 0, .int .i64 0] 114));have HP0 := q9 (Bk.new w 114 #[.int .i64 0, .int .i64 0, .string ⟨#[]⟩, .int .i64 0, .int .i64 0, .int .i64 0]);have hPr : w.heap.size ≠ r := by have := h.q.lt; omega
 have hPR : w.heap.size ≠ R := by have := h.ltR; omega
 have hrB := h.q.lt;have hRB := h.ltR;clear h;go_enter Tryz.func88, Tryz.ntmps88
 go_upto_region 1 with fail
 generalize w.alloc (.cells #[.int .i64 0, .int .i64 0, .string ⟨#[]⟩, .int .i64 0, .int .i64 0, .int .i64 0] 114) = w1 at *;obtain ⟨P, hP⟩ : ∃ z, Hid (w.heap.size = z) := ⟨_, q9 rfl⟩;rw [hP.out] at HP0 hPr hPR;have hPn : w.heap.size ≤ P := Nat.le_of_eq hP.out;simp only [hP.out];go_cut [2] from 2 to 2 (fun v wx => ∃ X, v = .pointer (some ⟨X, 0, none⟩) ∧ w.heap.size ≤ X ∧ X ≠ r ∧ X ≠ P ∧ Hid (Bk wx X 114 #[.int .i64 x1, .int .i64 x2, .string (nmOf b), .int .i64 0, .int .i64 0, .int .i64 0]) ∧ Hid (Bk wx P 114 #[.int .i64 0, .int .i64 0, .string ⟨#[]⟩, .int .i64 0, .int .i64 0, .int .i64 0]) ∧ Hid (RS wx r R K B bad s3) ∧ Hid (R2 r r w wx))
 case first =>
  have HSd := q9 (show RS w1.drew r R K B bad s from HS0.out.below (Below.refl _ _).drew);have HFd := q9 HF0.out.drew;have HPd := q9 (HP0.out.below (Below.refl _ _).drew HP0.out.lt);clear HS0 HF0 HP0;have HS0 := HSd;have HF0 := HFd;have HP0 := HPd;clear HSd HFd HPd;refine rH 11 (fun W => W.cell? ⟨R, 0, none⟩ = some (.pointer (some ⟨r, 0, none⟩)) ∧ W.cell? ⟨K, 0, none⟩ = some (.pointer (some ⟨R, 0, none⟩))) ?_;generalize w1.drew = wv0 at *;refine Ht 0 (.pointer (some ⟨R, 0, none⟩)) 3 rfl rfl rfl (fun W hW => by obtain ⟨s0, s1⟩ := hW; go_simp) HS0.out.kr ?_;refine Ht 2 (.pointer (some ⟨R, 0, none⟩)) 5 rfl rfl rfl (fun W hW => by obtain ⟨s0, s1⟩ := hW; go_simp) HS0.out.kr ?_;refine Ht 3 (.pointer (some ⟨R, 0, none⟩)) 6 rfl rfl rfl (fun W hW => by obtain ⟨s0, s1⟩ := hW; go_simp) HS0.out.kr ?_;refine Ht 4 (.pointer (some ⟨R, 0, none⟩)) 7 rfl rfl rfl (fun W hW => by obtain ⟨s0, s1⟩ := hW; go_simp) HS0.out.kr ?_;refine Ht 5 (.pointer (some ⟨r, 0, none⟩)) 8 rfl rfl rfl (fun W hW => by obtain ⟨s0, s1⟩ := hW; go_simp) HS0.out.kr ?_;try simp only [Act.put, qz0, qz1, qz2]
  refine H2 1 9 rfl rfl rfl rfl (fun K hK5 => ?_) (fun K hK5 => ?_)
  ·go_simp
   go_at_call 84
   refine (gPoint_any HS0.out (Nat.le_trans hB HF0.out.size) h1 h2).mono ?_;rintro e wv1 ⟨rfl, hs_, hf_⟩;have HS1 := q9 hs_;have HF1 := q9 (HF0.out.trans hf_);have HP1 := q9 (HP0.out.r2 hf_ hPr hPr);clear hs_ hf_ HS0 HF0 HP0;refine hK5.out _ _ HS1.out.kr ?_;try simp only [Act.put, qz0, qz1, qz2]
   refine H2 6 9 rfl rfl rfl rfl (fun K hK6 => ?_) (fun K hK6 => ?_)
   ·go_simp
    go_at_call 89
    refine (sRaw HS1.out (Nat.le_trans hB HF1.out.size) h3).mono ?_;rintro e wv2 ⟨A, c, rfl, ho_, hs_, hf_⟩;have HOb := q9 HF1.out.size;have HO2 := q9 ho_;have hbx := rawR_lt HS1.out.q h3;have HS2 := q9 hs_;have HF2 := q9 (HF1.out.trans hf_);have HP2 := q9 (HP1.out.r2 hf_ hPr hPr);clear hs_ hf_ HS1 HF1 HP1 ho_;refine hK6.out _ _ HS2.out.kr ?_;try simp only [Act.put, qz0, qz1, qz2]
    refine H2 7 9 rfl rfl rfl rfl (fun K hK7 => ?_) (fun K hK7 => ?_)
    ·have hcv := text_own HO2.out hbx;go_simp
     refine hK7.out _ _ HS2.out.kr ?_;try simp only [Act.put, qz0, qz1, qz2]
     clear hcv;refine H2 8 9 rfl rfl rfl rfl (fun K hK8 => ?_) (fun K hK8 => ?_)
     ·refine wp_build_rowD (some 11) rfl 114 #[(0, .tmp 4), (1, .tmp 10)] rfl #[(0, .agg #[.int .i64 x1, .int .i64 x2]), (1, .string (nmOf b))] (by simp [Act.eval]) _ (run_build_placeD x1 x2 (nmOf b) _) ?_;refine hK8.out _ _ HS2.out.kr ?_;try simp only [Act.put, qz0, qz1, qz2]
      refine H1 9 rfl rfl (fun K hK9 => ?_);go_simp
      have HS3 := q9 (HS2.out.below ((Below.refl B wv2).alloc (Nat.le_trans hB HF2.out.size) (.cells #[.int .i64 0, .int .i64 0, .string ⟨#[]⟩, .int .i64 0, .int .i64 0, .int .i64 0] 114)));have hXr : wv2.heap.size ≠ r := by have := HS2.out.q.lt; have := HF2.out.size; omega
      have hXn := HF2.out.size;have hXP : wv2.heap.size ≠ P := by have := HP2.out.lt; omega
      have HF3 := q9 (HF2.out.alloc (.cells #[.int .i64 0, .int .i64 0, .string ⟨#[]⟩, .int .i64 0, .int .i64 0, .int .i64 0] 114));have HP3 := q9 (HP2.out.alloc (.cells #[.int .i64 0, .int .i64 0, .string ⟨#[]⟩, .int .i64 0, .int .i64 0, .int .i64 0] 114));have HX3 := q9 (Bk.new wv2 114 #[.int .i64 0, .int .i64 0, .string ⟨#[]⟩, .int .i64 0, .int .i64 0, .int .i64 0]);have HO3 := q9 (own_below HO2.out ((Below.refl _ _).alloc (Nat.le_refl _) (.cells #[.int .i64 0, .int .i64 0, .string ⟨#[]⟩, .int .i64 0, .int .i64 0, .int .i64 0] 114)));clear HS2 HF2 HP2 HO2;refine hK9.out _ _ HS3.out.kr ?_;try simp only [Act.put, qz0, qz1, qz2]
      obtain ⟨X, hX⟩ : ∃ z, Hid (wv2.heap.size = z) := ⟨_, q9 rfl⟩;rw [hX.out] at HX3 hXr hXn hXP;simp only [hX.out];generalize wv2.alloc (.cells #[.int .i64 0, .int .i64 0, .string ⟨#[]⟩, .int .i64 0, .int .i64 0, .int .i64 0] 114) = wv3 at *;refine H1 10 rfl rfl (fun K hK10 => ?_);refine wp_store_row 114 (.tmp 2) (.tmp 11) rfl X 114 #[.int .i64 0, .int .i64 0, .string ⟨#[]⟩, .int .i64 0, .int .i64 0, .int .i64 0] #[.int .i64 x1, .int .i64 x2, .string (nmOf b), .int .i64 0, .int .i64 0, .int .i64 0] rfl rfl HX3.out (by kernel_rfl) rfl (by simp [Value.oneCell']) ?_;have HXz := q9 (HX3.out.row #[.int .i64 x1, .int .i64 x2, .string (nmOf b), .int .i64 0, .int .i64 0, .int .i64 0]);have hg_ := grown_row9 wv3 X #[.int .i64 x1, .int .i64 x2, .string (nmOf b), .int .i64 0, .int .i64 0, .int .i64 0];have HSz := q9 (HS3.out.below ((Below.refl B wv3).grown hg_ (Nat.le_trans hB HF3.out.size) (fun k e => by cases e; exact Nat.le_trans hB hXn)));have HFz := q9 (HF3.out.grown hg_ (fun k e => by cases e; exact hXn));have HPz := q9 (HP3.out.grown hg_ (fun e => hXP (Option.some.inj e).symm));clear hg_ HS3 HF3 HP3 HX3 HO3;generalize World.setRow _ _ _ = wz at *;refine hK10.out _ _ HSz.out.kr ?_;try simp only [Act.put, qz0, qz1, qz2]
      refine H0 ?_;try simp only [Act.put, qz0, qz1, qz2]
      go_wp2_with fail
      go_meet
      exact ⟨X, rfl, hXn, hXr, hXP, HXz, HPz, HSz, HFz⟩
     go_simp
     have HS3 := q9 (HS2.out.below ((Below.refl B wv2).alloc (Nat.le_trans hB HF2.out.size) (.cells #[.int .i64 0, .int .i64 0, .string ⟨#[]⟩, .int .i64 0, .int .i64 0, .int .i64 0] 114)));have hXr : wv2.heap.size ≠ r := by have := HS2.out.q.lt; have := HF2.out.size; omega
     have hXn := HF2.out.size;have hXP : wv2.heap.size ≠ P := by have := HP2.out.lt; omega
     have HF3 := q9 (HF2.out.alloc (.cells #[.int .i64 0, .int .i64 0, .string ⟨#[]⟩, .int .i64 0, .int .i64 0, .int .i64 0] 114));have HP3 := q9 (HP2.out.alloc (.cells #[.int .i64 0, .int .i64 0, .string ⟨#[]⟩, .int .i64 0, .int .i64 0, .int .i64 0] 114));have HX3 := q9 (Bk.new wv2 114 #[.int .i64 0, .int .i64 0, .string ⟨#[]⟩, .int .i64 0, .int .i64 0, .int .i64 0]);have HO3 := q9 (own_below HO2.out ((Below.refl _ _).alloc (Nat.le_refl _) (.cells #[.int .i64 0, .int .i64 0, .string ⟨#[]⟩, .int .i64 0, .int .i64 0, .int .i64 0] 114)));clear HS2 HF2 HP2 HO2;refine hK8.out _ _ HS3.out.kr ?_;try simp only [Act.put, qz0, qz1, qz2]
     obtain ⟨X, hX⟩ : ∃ z, Hid (wv2.heap.size = z) := ⟨_, q9 rfl⟩;rw [hX.out] at HX3 hXr hXn hXP;simp only [hX.out];generalize wv2.alloc (.cells #[.int .i64 0, .int .i64 0, .string ⟨#[]⟩, .int .i64 0, .int .i64 0, .int .i64 0] 114) = wv3 at *;refine H1 8 rfl rfl (fun K hK9 => ?_);refine wp_build_rowD (some 11) rfl 114 #[(0, .tmp 4), (1, .tmp 10)] rfl #[(0, .agg #[.int .i64 x1, .int .i64 x2]), (1, .string (nmOf b))] (by simp [Act.eval]) _ (run_build_placeD x1 x2 (nmOf b) _) ?_;refine hK9.out _ _ HS3.out.kr ?_;try simp only [Act.put, qz0, qz1, qz2]
     refine H1 10 rfl rfl (fun K hK10 => ?_);refine wp_store_row 114 (.tmp 2) (.tmp 11) rfl X 114 #[.int .i64 0, .int .i64 0, .string ⟨#[]⟩, .int .i64 0, .int .i64 0, .int .i64 0] #[.int .i64 x1, .int .i64 x2, .string (nmOf b), .int .i64 0, .int .i64 0, .int .i64 0] rfl rfl HX3.out (by kernel_rfl) rfl (by simp [Value.oneCell']) ?_;have HXz := q9 (HX3.out.row #[.int .i64 x1, .int .i64 x2, .string (nmOf b), .int .i64 0, .int .i64 0, .int .i64 0]);have hg_ := grown_row9 wv3 X #[.int .i64 x1, .int .i64 x2, .string (nmOf b), .int .i64 0, .int .i64 0, .int .i64 0];have HSz := q9 (HS3.out.below ((Below.refl B wv3).grown hg_ (Nat.le_trans hB HF3.out.size) (fun k e => by cases e; exact Nat.le_trans hB hXn)));have HFz := q9 (HF3.out.grown hg_ (fun k e => by cases e; exact hXn));have HPz := q9 (HP3.out.grown hg_ (fun e => hXP (Option.some.inj e).symm));clear hg_ HS3 HF3 HP3 HX3 HO3;generalize World.setRow _ _ _ = wz at *;refine hK10.out _ _ HSz.out.kr ?_;try simp only [Act.put, qz0, qz1, qz2]
     refine H0 ?_;try simp only [Act.put, qz0, qz1, qz2]
     go_wp2_with fail
     go_meet
     exact ⟨X, rfl, hXn, hXr, hXP, HXz, HPz, HSz, HFz⟩
    go_simp
    have HS3 := q9 (HS2.out.below ((Below.refl B wv2).alloc (Nat.le_trans hB HF2.out.size) (.cells #[.int .i64 0, .int .i64 0, .string ⟨#[]⟩, .int .i64 0, .int .i64 0, .int .i64 0] 114)));have hXr : wv2.heap.size ≠ r := by have := HS2.out.q.lt; have := HF2.out.size; omega
    have hXn := HF2.out.size;have hXP : wv2.heap.size ≠ P := by have := HP2.out.lt; omega
    have HF3 := q9 (HF2.out.alloc (.cells #[.int .i64 0, .int .i64 0, .string ⟨#[]⟩, .int .i64 0, .int .i64 0, .int .i64 0] 114));have HP3 := q9 (HP2.out.alloc (.cells #[.int .i64 0, .int .i64 0, .string ⟨#[]⟩, .int .i64 0, .int .i64 0, .int .i64 0] 114));have HX3 := q9 (Bk.new wv2 114 #[.int .i64 0, .int .i64 0, .string ⟨#[]⟩, .int .i64 0, .int .i64 0, .int .i64 0]);have HO3 := q9 (own_below HO2.out ((Below.refl _ _).alloc (Nat.le_refl _) (.cells #[.int .i64 0, .int .i64 0, .string ⟨#[]⟩, .int .i64 0, .int .i64 0, .int .i64 0] 114)));clear HS2 HF2 HP2 HO2;refine hK7.out _ _ HS3.out.kr ?_;try simp only [Act.put, qz0, qz1, qz2]
    obtain ⟨X, hX⟩ : ∃ z, Hid (wv2.heap.size = z) := ⟨_, q9 rfl⟩;rw [hX.out] at HX3 hXr hXn hXP;simp only [hX.out];generalize wv2.alloc (.cells #[.int .i64 0, .int .i64 0, .string ⟨#[]⟩, .int .i64 0, .int .i64 0, .int .i64 0] 114) = wv3 at *;refine H1 7 rfl rfl (fun K hK8 => ?_);have hcv := text_own HO3.out hbx;go_simp
    refine hK8.out _ _ HS3.out.kr ?_;try simp only [Act.put, qz0, qz1, qz2]
    clear hcv;refine H1 8 rfl rfl (fun K hK9 => ?_);refine wp_build_rowD (some 11) rfl 114 #[(0, .tmp 4), (1, .tmp 10)] rfl #[(0, .agg #[.int .i64 x1, .int .i64 x2]), (1, .string (nmOf b))] (by simp [Act.eval]) _ (run_build_placeD x1 x2 (nmOf b) _) ?_;refine hK9.out _ _ HS3.out.kr ?_;try simp only [Act.put, qz0, qz1, qz2]
    refine H1 10 rfl rfl (fun K hK10 => ?_);refine wp_store_row 114 (.tmp 2) (.tmp 11) rfl X 114 #[.int .i64 0, .int .i64 0, .string ⟨#[]⟩, .int .i64 0, .int .i64 0, .int .i64 0] #[.int .i64 x1, .int .i64 x2, .string (nmOf b), .int .i64 0, .int .i64 0, .int .i64 0] rfl rfl HX3.out (by kernel_rfl) rfl (by simp [Value.oneCell']) ?_;have HXz := q9 (HX3.out.row #[.int .i64 x1, .int .i64 x2, .string (nmOf b), .int .i64 0, .int .i64 0, .int .i64 0]);have hg_ := grown_row9 wv3 X #[.int .i64 x1, .int .i64 x2, .string (nmOf b), .int .i64 0, .int .i64 0, .int .i64 0];have HSz := q9 (HS3.out.below ((Below.refl B wv3).grown hg_ (Nat.le_trans hB HF3.out.size) (fun k e => by cases e; exact Nat.le_trans hB hXn)));have HFz := q9 (HF3.out.grown hg_ (fun k e => by cases e; exact hXn));have HPz := q9 (HP3.out.grown hg_ (fun e => hXP (Option.some.inj e).symm));clear hg_ HS3 HF3 HP3 HX3 HO3;generalize World.setRow _ _ _ = wz at *;refine hK10.out _ _ HSz.out.kr ?_;try simp only [Act.put, qz0, qz1, qz2]
    refine H0 ?_;try simp only [Act.put, qz0, qz1, qz2]
    go_wp2_with fail
    go_meet
    exact ⟨X, rfl, hXn, hXr, hXP, HXz, HPz, HSz, HFz⟩
   go_simp
   have HS2 := q9 (HS1.out.below ((Below.refl B wv1).alloc (Nat.le_trans hB HF1.out.size) (.cells #[.int .i64 0, .int .i64 0, .string ⟨#[]⟩, .int .i64 0, .int .i64 0, .int .i64 0] 114)));have hXr : wv1.heap.size ≠ r := by have := HS1.out.q.lt; have := HF1.out.size; omega
   have hXn := HF1.out.size;have hXP : wv1.heap.size ≠ P := by have := HP1.out.lt; omega
   have HF2 := q9 (HF1.out.alloc (.cells #[.int .i64 0, .int .i64 0, .string ⟨#[]⟩, .int .i64 0, .int .i64 0, .int .i64 0] 114));have HP2 := q9 (HP1.out.alloc (.cells #[.int .i64 0, .int .i64 0, .string ⟨#[]⟩, .int .i64 0, .int .i64 0, .int .i64 0] 114));have HX2 := q9 (Bk.new wv1 114 #[.int .i64 0, .int .i64 0, .string ⟨#[]⟩, .int .i64 0, .int .i64 0, .int .i64 0]);clear HS1 HF1 HP1;refine hK6.out _ _ HS2.out.kr ?_;try simp only [Act.put, qz0, qz1, qz2]
   obtain ⟨X, hX⟩ : ∃ z, Hid (wv1.heap.size = z) := ⟨_, q9 rfl⟩;rw [hX.out] at HX2 hXr hXn hXP;simp only [hX.out];generalize wv1.alloc (.cells #[.int .i64 0, .int .i64 0, .string ⟨#[]⟩, .int .i64 0, .int .i64 0, .int .i64 0] 114) = wv2 at *;refine H1 6 rfl rfl (fun K hK7 => ?_);go_simp
   go_at_call 89
   refine (sRaw HS2.out (Nat.le_trans hB HF2.out.size) h3).mono ?_;rintro e wv3 ⟨A, c, rfl, ho_, hs_, hf_⟩;have HOb := q9 HF2.out.size;have HO3 := q9 ho_;have hbx := rawR_lt HS2.out.q h3;have HS3 := q9 hs_;have HF3 := q9 (HF2.out.trans hf_);have HP3 := q9 (HP2.out.r2 hf_ hPr hPr);have HX3 := q9 (HX2.out.r2 hf_ hXr hXr);clear hs_ hf_ HS2 HF2 HP2 HX2 ho_;refine hK7.out _ _ HS3.out.kr ?_;try simp only [Act.put, qz0, qz1, qz2]
   refine H1 7 rfl rfl (fun K hK8 => ?_);have hcv := text_own HO3.out hbx;go_simp
   refine hK8.out _ _ HS3.out.kr ?_;try simp only [Act.put, qz0, qz1, qz2]
   clear hcv;refine H1 8 rfl rfl (fun K hK9 => ?_);refine wp_build_rowD (some 11) rfl 114 #[(0, .tmp 4), (1, .tmp 10)] rfl #[(0, .agg #[.int .i64 x1, .int .i64 x2]), (1, .string (nmOf b))] (by simp [Act.eval]) _ (run_build_placeD x1 x2 (nmOf b) _) ?_;refine hK9.out _ _ HS3.out.kr ?_;try simp only [Act.put, qz0, qz1, qz2]
   refine H1 10 rfl rfl (fun K hK10 => ?_);refine wp_store_row 114 (.tmp 2) (.tmp 11) rfl X 114 #[.int .i64 0, .int .i64 0, .string ⟨#[]⟩, .int .i64 0, .int .i64 0, .int .i64 0] #[.int .i64 x1, .int .i64 x2, .string (nmOf b), .int .i64 0, .int .i64 0, .int .i64 0] rfl rfl HX3.out (by kernel_rfl) rfl (by simp [Value.oneCell']) ?_;have HXz := q9 (HX3.out.row #[.int .i64 x1, .int .i64 x2, .string (nmOf b), .int .i64 0, .int .i64 0, .int .i64 0]);have hg_ := grown_row9 wv3 X #[.int .i64 x1, .int .i64 x2, .string (nmOf b), .int .i64 0, .int .i64 0, .int .i64 0];have HSz := q9 (HS3.out.below ((Below.refl B wv3).grown hg_ (Nat.le_trans hB HF3.out.size) (fun k e => by cases e; exact Nat.le_trans hB hXn)));have HFz := q9 (HF3.out.grown hg_ (fun k e => by cases e; exact hXn));have HPz := q9 (HP3.out.grown hg_ (fun e => hXP (Option.some.inj e).symm));clear hg_ HS3 HF3 HP3 HX3 HO3;generalize World.setRow _ _ _ = wz at *;refine hK10.out _ _ HSz.out.kr ?_;try simp only [Act.put, qz0, qz1, qz2]
   refine H0 ?_;try simp only [Act.put, qz0, qz1, qz2]
   go_wp2_with fail
   go_meet
   exact ⟨X, rfl, hXn, hXr, hXP, HXz, HPz, HSz, HFz⟩
  go_simp
  have HS1 := q9 (HS0.out.below ((Below.refl B wv0).alloc (Nat.le_trans hB HF0.out.size) (.cells #[.int .i64 0, .int .i64 0, .string ⟨#[]⟩, .int .i64 0, .int .i64 0, .int .i64 0] 114)));have hXr : wv0.heap.size ≠ r := by have := HS0.out.q.lt; have := HF0.out.size; omega
  have hXn := HF0.out.size;have hXP : wv0.heap.size ≠ P := by have := HP0.out.lt; omega
  have HF1 := q9 (HF0.out.alloc (.cells #[.int .i64 0, .int .i64 0, .string ⟨#[]⟩, .int .i64 0, .int .i64 0, .int .i64 0] 114));have HP1 := q9 (HP0.out.alloc (.cells #[.int .i64 0, .int .i64 0, .string ⟨#[]⟩, .int .i64 0, .int .i64 0, .int .i64 0] 114));have HX1 := q9 (Bk.new wv0 114 #[.int .i64 0, .int .i64 0, .string ⟨#[]⟩, .int .i64 0, .int .i64 0, .int .i64 0]);clear HS0 HF0 HP0;refine hK5.out _ _ HS1.out.kr ?_;try simp only [Act.put, qz0, qz1, qz2]
  obtain ⟨X, hX⟩ : ∃ z, Hid (wv0.heap.size = z) := ⟨_, q9 rfl⟩;rw [hX.out] at HX1 hXr hXn hXP;simp only [hX.out];generalize wv0.alloc (.cells #[.int .i64 0, .int .i64 0, .string ⟨#[]⟩, .int .i64 0, .int .i64 0, .int .i64 0] 114) = wv1 at *;refine H1 1 rfl rfl (fun K hK6 => ?_);go_simp
  go_at_call 84
  refine (gPoint_any HS1.out (Nat.le_trans hB HF1.out.size) h1 h2).mono ?_;rintro e wv2 ⟨rfl, hs_, hf_⟩;have HS2 := q9 hs_;have HF2 := q9 (HF1.out.trans hf_);have HP2 := q9 (HP1.out.r2 hf_ hPr hPr);have HX2 := q9 (HX1.out.r2 hf_ hXr hXr);clear hs_ hf_ HS1 HF1 HP1 HX1;refine hK6.out _ _ HS2.out.kr ?_;try simp only [Act.put, qz0, qz1, qz2]
  refine H1 6 rfl rfl (fun K hK7 => ?_);go_simp
  go_at_call 89
  refine (sRaw HS2.out (Nat.le_trans hB HF2.out.size) h3).mono ?_;rintro e wv3 ⟨A, c, rfl, ho_, hs_, hf_⟩;have HOb := q9 HF2.out.size;have HO3 := q9 ho_;have hbx := rawR_lt HS2.out.q h3;have HS3 := q9 hs_;have HF3 := q9 (HF2.out.trans hf_);have HP3 := q9 (HP2.out.r2 hf_ hPr hPr);have HX3 := q9 (HX2.out.r2 hf_ hXr hXr);clear hs_ hf_ HS2 HF2 HP2 HX2 ho_;refine hK7.out _ _ HS3.out.kr ?_;try simp only [Act.put, qz0, qz1, qz2]
  refine H1 7 rfl rfl (fun K hK8 => ?_);have hcv := text_own HO3.out hbx;go_simp
  refine hK8.out _ _ HS3.out.kr ?_;try simp only [Act.put, qz0, qz1, qz2]
  clear hcv;refine H1 8 rfl rfl (fun K hK9 => ?_);refine wp_build_rowD (some 11) rfl 114 #[(0, .tmp 4), (1, .tmp 10)] rfl #[(0, .agg #[.int .i64 x1, .int .i64 x2]), (1, .string (nmOf b))] (by simp [Act.eval]) _ (run_build_placeD x1 x2 (nmOf b) _) ?_;refine hK9.out _ _ HS3.out.kr ?_;try simp only [Act.put, qz0, qz1, qz2]
  refine H1 10 rfl rfl (fun K hK10 => ?_);refine wp_store_row 114 (.tmp 2) (.tmp 11) rfl X 114 #[.int .i64 0, .int .i64 0, .string ⟨#[]⟩, .int .i64 0, .int .i64 0, .int .i64 0] #[.int .i64 x1, .int .i64 x2, .string (nmOf b), .int .i64 0, .int .i64 0, .int .i64 0] rfl rfl HX3.out (by kernel_rfl) rfl (by simp [Value.oneCell']) ?_;have HXz := q9 (HX3.out.row #[.int .i64 x1, .int .i64 x2, .string (nmOf b), .int .i64 0, .int .i64 0, .int .i64 0]);have hg_ := grown_row9 wv3 X #[.int .i64 x1, .int .i64 x2, .string (nmOf b), .int .i64 0, .int .i64 0, .int .i64 0];have HSz := q9 (HS3.out.below ((Below.refl B wv3).grown hg_ (Nat.le_trans hB HF3.out.size) (fun k e => by cases e; exact Nat.le_trans hB hXn)));have HFz := q9 (HF3.out.grown hg_ (fun k e => by cases e; exact hXn));have HPz := q9 (HP3.out.grown hg_ (fun e => hXP (Option.some.inj e).symm));clear hg_ HS3 HF3 HP3 HX3 HO3;generalize World.setRow _ _ _ = wz at *;refine hK10.out _ _ HSz.out.kr ?_;try simp only [Act.put, qz0, qz1, qz2]
  refine H0 ?_;try simp only [Act.put, qz0, qz1, qz2]
  go_wp2_with fail
  go_meet
  exact ⟨X, rfl, hXn, hXr, hXP, HXz, HPz, HSz, HFz⟩
 case rest =>
  clear HS0 HF0 HP0;obtain ⟨X, rfl, hXn, hXr, hXP, HX, HP1, HS, HF⟩ := hcut;rename_i wc;have hXR : X ≠ R := by omega
  go_upto_region 2 with fail
  have HS0 := q9 (show RS wc.drew r R K B bad s3 from HS.out.below (Below.refl _ _).drew);have HF0 := q9 HF.out.drew;have HP0 := q9 (HP1.out.below (Below.refl _ _).drew HP1.out.lt);have HX0 := q9 (HX.out.below (Below.refl _ _).drew HX.out.lt);clear HS HF HP1 HX;refine rH 21 (fun W => W.cell? ⟨R, 0, none⟩ = some (.pointer (some ⟨r, 0, none⟩)) ∧ W.cell? ⟨K, 0, none⟩ = some (.pointer (some ⟨R, 0, none⟩))) ?_;generalize wc.drew = wv0 at *;refine Ht 0 (.pointer (some ⟨R, 0, none⟩)) 12 rfl rfl rfl (fun W hW => by obtain ⟨s0, s1⟩ := hW; go_simp) HS0.out.kr ?_;refine Ht 1 (.pointer (some ⟨R, 0, none⟩)) 13 rfl rfl rfl (fun W hW => by obtain ⟨s0, s1⟩ := hW; go_simp) HS0.out.kr ?_;refine Ht 2 (.pointer (some ⟨R, 0, none⟩)) 14 rfl rfl rfl (fun W hW => by obtain ⟨s0, s1⟩ := hW; go_simp) HS0.out.kr ?_;refine Ht 3 (.pointer (some ⟨r, 0, none⟩)) 15 rfl rfl rfl (fun W hW => by obtain ⟨s0, s1⟩ := hW; go_simp) HS0.out.kr ?_;refine Ht 5 (.pointer (some ⟨R, 0, none⟩)) 17 rfl rfl rfl (fun W hW => by obtain ⟨s0, s1⟩ := hW; go_simp) HS0.out.kr ?_;refine Ht 6 (.pointer (some ⟨R, 0, none⟩)) 18 rfl rfl rfl (fun W hW => by obtain ⟨s0, s1⟩ := hW; go_simp) HS0.out.kr ?_;refine Ht 7 (.pointer (some ⟨R, 0, none⟩)) 19 rfl rfl rfl (fun W hW => by obtain ⟨s0, s1⟩ := hW; go_simp) HS0.out.kr ?_;refine Ht 8 (.pointer (some ⟨r, 0, none⟩)) 20 rfl rfl rfl (fun W hW => by obtain ⟨s0, s1⟩ := hW; go_simp) HS0.out.kr ?_
  refine Ht 10 (.pointer (some ⟨R, 0, none⟩)) 22 rfl rfl rfl (fun W hW => by obtain ⟨s0, s1⟩ := hW; go_simp) HS0.out.kr ?_;try simp only [Act.put, qz0, qz1, qz2]
  refine Ht 11 (.pointer (some ⟨R, 0, none⟩)) 23 rfl rfl rfl (fun W hW => by obtain ⟨s0, s1⟩ := hW; go_simp) HS0.out.kr ?_;refine Ht 12 (.pointer (some ⟨R, 0, none⟩)) 24 rfl rfl rfl (fun W hW => by obtain ⟨s0, s1⟩ := hW; go_simp) HS0.out.kr ?_;refine Ht 13 (.pointer (some ⟨r, 0, none⟩)) 25 rfl rfl rfl (fun W hW => by obtain ⟨s0, s1⟩ := hW; go_simp) HS0.out.kr ?_;try simp only [Act.put, qz0, qz1, qz2]
  refine H1 4 rfl rfl (fun K hK12 => ?_);go_simp
  go_at_call 31
  refine (sInt HS0.out h4).mono ?_;rintro e wv1 ⟨rfl, hs_, hf_⟩;have HS1 := q9 hs_;have HF1 := q9 (HF0.out.trans hf_);have HP1 := q9 (HP0.out.r2 hf_ hPr hPr);have HX1 := q9 (HX0.out.r2 hf_ hXr hXr);clear hs_ hf_ HS0 HF0 HP0 HX0;refine hK12.out _ _ HS1.out.kr ?_;try simp only [Act.put, qz0, qz1, qz2]
  refine Ht 15 (.pointer (some ⟨X, 3, none⟩)) 27 rfl rfl rfl (fun W hW => by obtain ⟨s0, s1⟩ := hW; go_simp) HS1.out.kr ?_;try simp only [Act.put, qz0, qz1, qz2]
  refine H1 9 rfl rfl (fun K hK14 => ?_);go_simp
  go_at_call 31
  refine (sInt HS1.out h5).mono ?_;rintro e wv2 ⟨rfl, hs_, hf_⟩;have HS2 := q9 hs_;have HF2 := q9 (HF1.out.trans hf_);have HP2 := q9 (HP1.out.r2 hf_ hPr hPr);have HX2 := q9 (HX1.out.r2 hf_ hXr hXr);clear hs_ hf_ HS1 HF1 HP1 HX1;refine hK14.out _ _ HS2.out.kr ?_;try simp only [Act.put, qz0, qz1, qz2]
  refine H1 14 rfl rfl (fun K hK15 => ?_);go_simp
  go_at_call 31
  refine (sInt HS2.out h6).mono ?_;rintro e wv3 ⟨rfl, hs_, hf_⟩;have HS3 := q9 hs_;have HF3 := q9 (HF2.out.trans hf_);have HP3 := q9 (HP2.out.r2 hf_ hPr hPr);have HX3 := q9 (HX2.out.r2 hf_ hXr hXr);clear hs_ hf_ HS2 HF2 HP2 HX2;refine hK15.out _ _ HS3.out.kr ?_;try simp only [Act.put, qz0, qz1, qz2]
  refine H1 16 rfl rfl (fun K hK16 => ?_);have z_ : wv3.cell? ⟨X, 3, none⟩ = some (.int .i64 0) := HX3.out.cell 3;have zf_ := HX3.out.frozen 3;go_simp
  have hg_ := grown_set wv3 X 3 (.int .i64 x3);have HX4 := q9 (show Bk (wv3.setCell ⟨X, 3, none⟩ (.int .i64 x3)) X 114 #[.int .i64 x1, .int .i64 x2, .string (nmOf b), .int .i64 x3, .int .i64 0, .int .i64 0] from HX3.out.set_ 3 _);have HS4 := q9 (HS3.out.below ((Below.refl B wv3).grown hg_ (Nat.le_trans hB HF3.out.size) (fun k e => by cases e; exact Nat.le_trans hB hXn)));have HF4 := q9 (HF3.out.grown hg_ (fun k e => by cases e; exact hXn));have HP4 := q9 (HP3.out.grown hg_ (fun e => hXP (Option.some.inj e).symm));clear hg_ z_ zf_ HS3 HF3 HP3 HX3;refine hK16.out _ _ HS4.out.kr ?_;try simp only [Act.put, qz0, qz1, qz2]
  generalize wv3.setCell ⟨X, 3, none⟩ (.int .i64 x3) = wv4 at *;refine Ht 17 (.pointer (some ⟨X, 4, none⟩)) 28 rfl rfl rfl (fun W hW => by obtain ⟨s0, s1⟩ := hW; go_simp) HS4.out.kr ?_;try simp only [Act.put, qz0, qz1, qz2]
  refine H1 18 rfl rfl (fun K hK18 => ?_);have z_ : wv4.cell? ⟨X, 4, none⟩ = some (.int .i64 0) := HX4.out.cell 4;have zf_ := HX4.out.frozen 4;go_simp
  have hg_ := grown_set wv4 X 4 (.int .i64 x4);have HX5 := q9 (show Bk (wv4.setCell ⟨X, 4, none⟩ (.int .i64 x4)) X 114 #[.int .i64 x1, .int .i64 x2, .string (nmOf b), .int .i64 x3, .int .i64 x4, .int .i64 0] from HX4.out.set_ 4 _);have HS5 := q9 (HS4.out.below ((Below.refl B wv4).grown hg_ (Nat.le_trans hB HF4.out.size) (fun k e => by cases e; exact Nat.le_trans hB hXn)));have HF5 := q9 (HF4.out.grown hg_ (fun k e => by cases e; exact hXn));have HP5 := q9 (HP4.out.grown hg_ (fun e => hXP (Option.some.inj e).symm));clear hg_ z_ zf_ HS4 HF4 HP4 HX4;refine hK18.out _ _ HS5.out.kr ?_;try simp only [Act.put, qz0, qz1, qz2]
  generalize wv4.setCell ⟨X, 4, none⟩ (.int .i64 x4) = wv5 at *;refine Ht 19 (.pointer (some ⟨X, 5, none⟩)) 29 rfl rfl rfl (fun W hW => by obtain ⟨s0, s1⟩ := hW; go_simp) HS5.out.kr ?_;try simp only [Act.put, qz0, qz1, qz2]
  refine H1 20 rfl rfl (fun K hK20 => ?_);have z_ : wv5.cell? ⟨X, 5, none⟩ = some (.int .i64 0) := HX5.out.cell 5;have zf_ := HX5.out.frozen 5;go_simp
  have hg_ := grown_set wv5 X 5 (.int .i64 x5);have HX6 := q9 (show Bk (wv5.setCell ⟨X, 5, none⟩ (.int .i64 x5)) X 114 #[.int .i64 x1, .int .i64 x2, .string (nmOf b), .int .i64 x3, .int .i64 x4, .int .i64 x5] from HX5.out.set_ 5 _);have HS6 := q9 (HS5.out.below ((Below.refl B wv5).grown hg_ (Nat.le_trans hB HF5.out.size) (fun k e => by cases e; exact Nat.le_trans hB hXn)));have HF6 := q9 (HF5.out.grown hg_ (fun k e => by cases e; exact hXn));have HP6 := q9 (HP5.out.grown hg_ (fun e => hXP (Option.some.inj e).symm));clear hg_ z_ zf_ HS5 HF5 HP5 HX5;refine hK20.out _ _ HS6.out.kr ?_;try simp only [Act.put, qz0, qz1, qz2]
  generalize wv5.setCell ⟨X, 5, none⟩ (.int .i64 x5) = wv6 at *;refine H0 ?_;try simp only [Act.put, qz0, qz1, qz2]
  go_upto_region 3 with fail
  refine wp_region_lit ?_;refine wpList_load_row rfl 114 (.tmp 2) rfl X 114 #[.int .i64 x1, .int .i64 x2, .string (nmOf b), .int .i64 x3, .int .i64 x4, .int .i64 x5] _ rfl HX6.out Tryz.underlying114 rfl (by kernel_rfl) ?_;refine wpList_store_row rfl 114 (.tmp 1) (.tmp 30) rfl P 114 #[.int .i64 0, .int .i64 0, .string ⟨#[]⟩, .int .i64 0, .int .i64 0, .int .i64 0] #[.int .i64 x1, .int .i64 x2, .string (nmOf b), .int .i64 x3, .int .i64 x4, .int .i64 x5] rfl (by rfl) HP6.out (by kernel_rfl) rfl (by simp [Value.oneCell']) ?_;have hg_ := grown_row9 wv6 P #[.int .i64 x1, .int .i64 x2, .string (nmOf b), .int .i64 x3, .int .i64 x4, .int .i64 x5];have HPz := HP6.out.row #[.int .i64 x1, .int .i64 x2, .string (nmOf b), .int .i64 x3, .int .i64 x4, .int .i64 x5];have HSz := q9 (HS6.out.below ((Below.refl B wv6).grown hg_ (Nat.le_trans hB HF6.out.size) (fun k e => by cases e; exact Nat.le_trans hB hPn)));have HFz := q9 (HF6.out.grown hg_ (fun k e => by cases e; exact hPn));clear hg_ HX6 HP6 HS6 HF6;generalize World.setRow _ _ _ = wz at *;have r0_ := HPz.cell 0;have r1_ := HPz.cell 1;have r2_ := HPz.cell 2;have r3_ := HPz.cell 3;have r4_ := HPz.cell 4;have r5_ := HPz.cell 5;clear HPz;go_wp2_with fail
  exact bodyPost_ret (v := .agg #[.int .i64 x1, .int .i64 x2, .string (nmOf b), .int .i64 x3, .int .i64 x4, .int .i64 x5]) (by simp [results, Tryz.results88, go_sem, r0_, r1_, r2_, r3_, r4_, r5_]) rfl ⟨rfl, HSz.out, HFz.out.wide R⟩
section
variable {w w' : World} {r R K B : Nat} {bad b' : Bool} {s s' : Option (List Nat)}
theorem eP {x y o f t : Int} {nm : ByteArray} (h : RS w r R K B bad s) (hB : B ≤ w.heap.size) (hi : fP (bad, s) = (⟨x, y, nm, o, f, t⟩, (b', s'))) : Calls Tryz.prog 88 #[.pointer (some ⟨K, 0, none⟩)] w fun e w' => e = .returned (.agg #[.int .i64 x, .int .i64 y, .string nm, .int .i64 o, .int .i64 f, .int .i64 t]) ∧ RS w' r R K B b' s' ∧ R2 r R w w' := by
 injection hi with h1 h2;injection h1 with h1 h4 h5 h6 h7 h8;injection h2 with h2 h3;subst h1 h2 h3 h4 h5 h6 h7 h8;exact gPlace_any h hB rfl rfl rfl rfl rfl rfl
theorem eS {ax ay bx by_ : Int} {cl : List Cl} (h : RS w r R K B bad s) (hB : B ≤ w.heap.size) (hi : fS (bad, s) = (⟨ax, ay, bx, by_, cl⟩, (b', s'))) : Calls Tryz.prog 83 #[.pointer (some ⟨K, 0, none⟩)] w fun e w' => ∃ A c, e = .returned (.agg #[.int .i64 ax, .int .i64 ay, .int .i64 bx, .int .i64 by_, .slice A cl.length c]) ∧ (SB w' 41 A (cl.flatMap clC) ∧ cl.length ≤ 1099511627776) ∧ RS w' r R K B b' s' ∧ R2 r R w w' := by
 injection hi with h1 h2;injection h1 with h1 h4 h5 h6 h7;subst h1 h4 h5 h6 h7;have h5 : manyR fC (bad, (iR (iR (iR (iR s).2).2).2).2) = ((manyR fC (bad, (iR (iR (iR (iR s).2).2).2).2)).1, (b', s')) := Prod.ext rfl h2;have := manyR_len h5;refine (gStroke_any h hB rfl rfl rfl rfl h5).mono ?_;rintro e w1 ⟨A, c, rfl, h8, h9⟩;exact ⟨A, c, rfl, ⟨h8, Nat.le_trans this (by decide)⟩, h9⟩
end
theorem manyP_any {w : World} {r R K B : Nat} {bad b' : Bool} {s s' : Option (List Nat)} {xs : List Plc} (h : RS w r R K B bad s) (hB : B ≤ w.heap.size) (hi : manyR fP (bad, s) = (xs, (b', s'))) :
  Calls Tryz.prog 87 #[.pointer (some ⟨R, 0, none⟩), .func (.func 88) #[] #[.pointer (some ⟨K, 0, none⟩)]] w fun e w' => ∃ A c, e = .returned (.slice A xs.length c) ∧ w'.ownsRow w.heap.size 114 6 (.slice A xs.length c) xs.length (xs.flatMap plC) ∧ RS w' r R K B b' s' ∧ R2 r R w w' := by
 obtain ⟨n, s1, hn⟩ : ∃ n s1, iR s = (n, s1) := ⟨_, _, rfl⟩;have Hi := q9 hi;unfold manyR at Hi;rw [show (iR (bad, s).2) = (n, s1) from hn] at Hi;have hnlo : n ≤ 9223372036854775807 ∧ -9223372036854775808 ≤ n := by have := iR_i64 h.q; rw [hn] at this; exact ⟨this.2, this.1⟩
 have HS := q9 h;have c0 : w.cell? ⟨R, 0, none⟩ = some (.pointer (some ⟨r, 0, none⟩)) := h.hR.cell 0;have hrB := h.q.lt;have hRB := h.ltR;clear hi h;go_enter Tryz.func87, Tryz.ntmps87
 go_upto_region 2 with (refine (sInt HS.out hn).mono ?_; rintro e w1 ⟨rfl, hs_, hf_⟩)
 have HS1 := q9 hs_;have HF1 := q9 (hf_.wide R);clear hs_ hf_ HS c0;obtain ⟨b1, hb1⟩ : ∃ z, Hid ((bad || decide (n < 0) || decide (4096 < n)) = z) := ⟨_, q9 rfl⟩;have Hi2 := q9 (show itB fP n.toNat (b1, s1) = (xs, (b', s')) from by rw [← hb1.out]; exact Hi.out);clear Hi hn;go_cut [] from 13 to 25 (fun wx => Hid (RS wx r R K B b1 s1) ∧ Hid (R2 r R w wx))
 case first =>
  have d0 : w1.cell? ⟨R, 0, none⟩ = some (.pointer (some ⟨r, 0, none⟩)) := HS1.out.hR.cell 0;have d1 : w1.cell? ⟨R, 1, none⟩ = some (.bool bad) := HS1.out.hR.cell 1;have d2 := HS1.out.hR.frozen 1;have HSp := q9 (fun b => HS1.out.put b);have HFp := q9 (fun b => HF1.out.setCell (p := ⟨R, 1, none⟩) (.inr (.inl rfl)) (.bool b));clear HS1 HF1 Hi2;cases bad with
  | true =>
   have e1 := q9 (show true = b1 from by rw [← hb1.out]; simp);clear hb1;go_wp2_with fail
   go_meet
   exact ⟨e1.out ▸ q9 (HSp.out true), q9 (HFp.out true)⟩
  | false =>
   by_cases h1 : n < 0
   ·have e1 := q9 (show true = b1 from by rw [← hb1.out]; simp [h1]);clear hb1;go_wp2_with fail
    go_meet
    exact ⟨e1.out ▸ q9 (HSp.out true), q9 (HFp.out true)⟩
   by_cases h2 : 4096 < n
   ·have e1 := q9 (show true = b1 from by rw [← hb1.out]; simp [h2]);clear hb1;go_wp2_with fail
    go_meet
    exact ⟨e1.out ▸ q9 (HSp.out true), q9 (HFp.out true)⟩
   have e1 := q9 (show false = b1 from by rw [← hb1.out]; simp [h1, h2]);clear hb1;go_wp2_with fail
   go_meet
   exact ⟨e1.out ▸ q9 (HSp.out false), q9 (HFp.out false)⟩
 case rest =>
  clear HS1 HF1;obtain ⟨HS2, HF2⟩ := hcut;have Hn := q9 (show b1 = false → 0 ≤ n ∧ n ≤ 4096 from fun e => by
   have := hb1.out;rw [e] at this;simp at this
   omega)
  clear hb1;go_wp2_with fail
  go_loopw [6, 7] (fun v i wr => ∃ (k : Nat) (b : Bool) (t : Option (List Nat)) (ys : List Plc), i = .int .i64 k ∧ k ≤ 4096 ∧ (k = 0 ∨ (k : Int) ≤ n) ∧ ys.length = k ∧ Hid (wr.ownsRow w.heap.size 114 6 v k (ys.flatMap plC)) ∧ Hid (RS wr r R K B b t) ∧ Hid (R2 r R w wr) ∧ Hid (b = false → b1 = false) ∧ Hid (xs = ys ++ (itB fP (n.toNat - k) (b, t)).1 ∧ (b', s') = (itB fP (n.toNat - k) (b, t)).2)) (fun _ i _ => 4096 - (intOf i).toNat)
  case atStart => exact ⟨0, b1, s1, [], rfl, by omega, .inl rfl, rfl, q9 (World.ownsRow_nil _ _ _ _), HS2, HF2, q9 id, q9 (by rw [Nat.sub_zero, Hi2.out]; exact ⟨rfl, rfl⟩)⟩
  case round =>
   clear HS2 HF2 Hi2;obtain ⟨k, b, t, ys, rfl, hk, hkn, hys, HO, HS, HF, Hb, HX⟩ := hrel;have d0 : wr.cell? ⟨R, 0, none⟩ = some (.pointer (some ⟨r, 0, none⟩)) := HS.out.hR.cell 0;have d1 : wr.cell? ⟨R, 1, none⟩ = some (.bool b) := HS.out.hR.cell 1;by_cases hlt : (k : Int) < n
   ·cases b with
    | true =>
     have hx := q9 (show xs = ys ∧ (b', s') = (true, t) from by have h := HX.out; rw [itB_bad] at h; exact ⟨by rw [h.1, List.append_nil], h.2⟩);clear HX;obtain ⟨A, c, rfl⟩ := own_slice HO.out;go_wp2_with fail
     go_ret
     obtain ⟨e1, e2⟩ := hx.out;injection e2 with e2 e3;subst e1 e2 e3 hys;exact ⟨A, c, rfl, HO.out, HS.out, HF.out⟩
    | false =>
     have Hb0 := q9 (Hb.out rfl);have hn4 := Hn.out Hb0.out;obtain ⟨m, hm⟩ : ∃ m, Hid (n.toNat - k = m + 1) := ⟨n.toNat - k - 1, q9 (by omega)⟩;obtain ⟨⟨q1, q2, q3, q4, q5, q6⟩, ⟨bq, tq⟩, hx⟩ : ∃ x σ', Hid (fP (false, t) = (x, σ')) := ⟨_, _, q9 rfl⟩;have HX2 := q9 (show xs = (ys ++ [⟨q1, q2, q3, q4, q5, q6⟩]) ++ (itB fP m (bq, tq)).1 ∧ (b', s') = (itB fP m (bq, tq)).2 from by
      have h := HX.out;rw [hm.out, itB_step hx.out] at h;exact ⟨by rw [h.1, List.append_assoc]; rfl, h.2⟩)
     have hsz := HF.out.size;have HC := q9 (eP HS.out (Nat.le_trans hB hsz) hx.out);have Hm1 := q9 (show n.toNat - (k + 1) = m from by have := hm.out; omega);clear HX hm hx d0 d1;have d0 : wr.cell? ⟨R, 0, none⟩ = some (.pointer (some ⟨r, 0, none⟩)) := HS.out.hR.cell 0;have d1 : wr.cell? ⟨R, 1, none⟩ = some (.bool false) := HS.out.hR.cell 1;go_wp2_with fail
     refine HC.out.mono ?_;rename_i K4 hK4;rintro e w2 ⟨rfl, hs2_, hf2_⟩;have hown2 := own_r2 HO.out hf2_ (by omega) (by omega);have HS2 := q9 hs2_;have HF2 := q9 (HF.out.trans hf2_);have hs2 := HF2.out.size;clear hs2_ hf2_ HC HS HF HO d0 d1;refine hK4 _ _ ?_;refine wpList_bs_row rfl 29 1 #[(0, .tmp 42)] rfl #[(0, .agg #[.int .i64 q1, .int .i64 q2, .string q3, .int .i64 q4, .int .i64 q5, .int .i64 q6])] (by simp [Act.eval, Act.put]) _ (run_bs_place q1 q2 q3 q4 q5 q6 _) ?_;refine wpList_app2 (w := w2) rfl _ _ rfl elt_place hown2 hs2 rfl rfl (by simp) rfl rfl (by omega) ?_;intro v3 w3 hown3 hg3 hz3;go_wp2_with fail
     go_roundw
     case rel =>
      have hb3 : Below w.heap.size w2 w3 := (Below.refl _ _).grown hg3 hs2 (fun k hk => (hown2.lt k hk).1);exact ⟨k + 1, bq, tq, ys ++ [⟨q1, q2, q3, q4, q5, q6⟩], by go_num, by omega, .inr (by omega), by simp [hys], q9 (by rw [List.flatMap_append]; exact hown3), q9 (HS2.out.below (hb3.mono hB)), q9 (HF2.out.grown hg3 (fun k hk => (hown2.lt k hk).1)), q9 (fun _ => Hb0.out), q9 (by rw [Hm1.out]; exact HX2.out)⟩
     case measure => simp [intOf]; omega
   have h0 : n.toNat - k = 0 := by omega
   have hx := q9 (show xs = ys ∧ (b', s') = (b, t) from by have h := HX.out; rw [h0] at h; exact ⟨by rw [h.1]; exact List.append_nil _, h.2⟩);have hge : n ≤ (k : Int) := by omega
   clear HX h0;obtain ⟨A, c, rfl⟩ := own_slice HO.out;go_wp2_with fail
   go_ret
   obtain ⟨e1, e2⟩ := hx.out;injection e2 with e2 e3;subst e1 e2 e3 hys;exact ⟨A, c, rfl, HO.out, HS.out, HF.out⟩
theorem SV.r2 {w w' : World} {r R K B : Nat} {bad : Bool} {s : Option (List Nat)} {vs : List Value} {l : List Sk} (h : SV w vs l) (hf : R2 r R w w') (hS : RS w r R K B bad s) : SV w' vs l := by
 refine ⟨h.1, fun j x hx => ?_⟩;obtain ⟨C, c, a0, a1, a2, a3, a4, a5, a6⟩ := h.2 j x hx;refine ⟨C, c, a0, a1, a2, a3, a4, ?_, a6⟩;rcases a5 with e | ⟨b, o, cs, e, hb, hc⟩
 ·exact .inl e
 obtain ⟨rs, hr⟩ := hS.q.bk;exact .inr ⟨b, o, cs, e, hb.r2 hf (hb.ne_ hr (by decide)) (hb.ne_ hS.hR (by decide)), hc⟩
theorem own_typed {w : World} {base n size : Nat} {e : TypeId} {v : Value} {xs : List Value} {q : Nat} (h : w.ownsRow base e size v n xs) (hq : v.ownBlock = some q) : ∃ cs, Bk w q e cs := by
 rcases h.2 with ⟨rfl, _⟩ | ⟨g, cap, cur, rfl, _, hg, _⟩
 ·simp [Value.ownBlock] at hq
 simp only [Value.ownBlock, Option.some.injEq] at hq;subst hq;exact ⟨_, hg⟩
theorem manyS_any {w : World} {r R K B : Nat} {bad b' : Bool} {s s' : Option (List Nat)} {xs : List Sk} (h : RS w r R K B bad s) (hB : B ≤ w.heap.size) (hi : manyR fS (bad, s) = (xs, (b', s'))) :
  Calls Tryz.prog 82 #[.pointer (some ⟨R, 0, none⟩), .func (.func 83) #[] #[.pointer (some ⟨K, 0, none⟩)]] w fun e w' => ∃ A c, e = .returned (.slice A xs.length c) ∧ (∃ vs, w'.ownsRow w.heap.size 62 5 (.slice A xs.length c) xs.length vs ∧ SV w' vs xs) ∧ RS w' r R K B b' s' ∧ R2 r R w w' := by
 obtain ⟨n, s1, hn⟩ : ∃ n s1, iR s = (n, s1) := ⟨_, _, rfl⟩;have Hi := q9 hi;unfold manyR at Hi;rw [show (iR (bad, s).2) = (n, s1) from hn] at Hi;have hnlo : n ≤ 9223372036854775807 ∧ -9223372036854775808 ≤ n := by have := iR_i64 h.q; rw [hn] at this; exact ⟨this.2, this.1⟩
 have HS := q9 h;have c0 : w.cell? ⟨R, 0, none⟩ = some (.pointer (some ⟨r, 0, none⟩)) := h.hR.cell 0;have hrB := h.q.lt;have hRB := h.ltR;clear hi h;go_enter Tryz.func82, Tryz.ntmps82
 go_upto_region 2 with (refine (sInt HS.out hn).mono ?_; rintro e w1 ⟨rfl, hs_, hf_⟩)
 have HS1 := q9 hs_;have HF1 := q9 (hf_.wide R);clear hs_ hf_ HS c0;obtain ⟨b1, hb1⟩ : ∃ z, Hid ((bad || decide (n < 0) || decide (4096 < n)) = z) := ⟨_, q9 rfl⟩;have Hi2 := q9 (show itB fS n.toNat (b1, s1) = (xs, (b', s')) from by rw [← hb1.out]; exact Hi.out);clear Hi hn;go_cut [] from 13 to 25 (fun wx => Hid (RS wx r R K B b1 s1) ∧ Hid (R2 r R w wx))
 case first =>
  have d0 : w1.cell? ⟨R, 0, none⟩ = some (.pointer (some ⟨r, 0, none⟩)) := HS1.out.hR.cell 0;have d1 : w1.cell? ⟨R, 1, none⟩ = some (.bool bad) := HS1.out.hR.cell 1;have d2 := HS1.out.hR.frozen 1;have HSp := q9 (fun b => HS1.out.put b);have HFp := q9 (fun b => HF1.out.setCell (p := ⟨R, 1, none⟩) (.inr (.inl rfl)) (.bool b));clear HS1 HF1 Hi2;cases bad with
  | true =>
   have e1 := q9 (show true = b1 from by rw [← hb1.out]; simp);clear hb1;go_wp2_with fail
   go_meet
   exact ⟨e1.out ▸ q9 (HSp.out true), q9 (HFp.out true)⟩
  | false =>
   by_cases h1 : n < 0
   ·have e1 := q9 (show true = b1 from by rw [← hb1.out]; simp [h1]);clear hb1;go_wp2_with fail
    go_meet
    exact ⟨e1.out ▸ q9 (HSp.out true), q9 (HFp.out true)⟩
   by_cases h2 : 4096 < n
   ·have e1 := q9 (show true = b1 from by rw [← hb1.out]; simp [h2]);clear hb1;go_wp2_with fail
    go_meet
    exact ⟨e1.out ▸ q9 (HSp.out true), q9 (HFp.out true)⟩
   have e1 := q9 (show false = b1 from by rw [← hb1.out]; simp [h1, h2]);clear hb1;go_wp2_with fail
   go_meet
   exact ⟨e1.out ▸ q9 (HSp.out false), q9 (HFp.out false)⟩
 case rest =>
  clear HS1 HF1;obtain ⟨HS2, HF2⟩ := hcut;have Hn := q9 (show b1 = false → 0 ≤ n ∧ n ≤ 4096 from fun e => by
   have := hb1.out;rw [e] at this;simp at this
   omega)
  clear hb1;go_wp2_with fail
  go_loopw [6, 7] (fun v i wr => ∃ (k : Nat) (b : Bool) (t : Option (List Nat)) (ys : List Sk) (vs : List Value), i = .int .i64 k ∧ k ≤ 4096 ∧ (k = 0 ∨ (k : Int) ≤ n) ∧ ys.length = k ∧ Hid (wr.ownsRow w.heap.size 62 5 v k vs) ∧ Hid (SV wr vs ys) ∧ Hid (RS wr r R K B b t) ∧ Hid (R2 r R w wr) ∧ Hid (b = false → b1 = false) ∧ Hid (xs = ys ++ (itB fS (n.toNat - k) (b, t)).1 ∧ (b', s') = (itB fS (n.toNat - k) (b, t)).2)) (fun _ i _ => 4096 - (intOf i).toNat)
  case atStart => exact ⟨0, b1, s1, [], [], rfl, by omega, .inl rfl, rfl, q9 (World.ownsRow_nil _ _ _ _), q9 (SV.nil _), HS2, HF2, q9 id, q9 (by rw [Nat.sub_zero, Hi2.out]; exact ⟨rfl, rfl⟩)⟩
  case round =>
   clear HS2 HF2 Hi2;obtain ⟨k, b, t, ys, vs, rfl, hk, hkn, hys, HO, HV, HS, HF, Hb, HX⟩ := hrel;have d0 : wr.cell? ⟨R, 0, none⟩ = some (.pointer (some ⟨r, 0, none⟩)) := HS.out.hR.cell 0;have d1 : wr.cell? ⟨R, 1, none⟩ = some (.bool b) := HS.out.hR.cell 1;by_cases hlt : (k : Int) < n
   ·cases b with
    | true =>
     have hx := q9 (show xs = ys ∧ (b', s') = (true, t) from by have h := HX.out; rw [itB_bad] at h; exact ⟨by rw [h.1, List.append_nil], h.2⟩);clear HX;obtain ⟨A, c, rfl⟩ := own_slice HO.out;go_wp2_with fail
     go_ret
     obtain ⟨e1, e2⟩ := hx.out;injection e2 with e2 e3;subst e1 e2 e3 hys;exact ⟨A, c, rfl, ⟨vs, HO.out, HV.out⟩, HS.out, HF.out⟩
    | false =>
     have Hb0 := q9 (Hb.out rfl);have hn4 := Hn.out Hb0.out;obtain ⟨m, hm⟩ : ∃ m, Hid (n.toNat - k = m + 1) := ⟨n.toNat - k - 1, q9 (by omega)⟩;obtain ⟨⟨q1, q2, q3, q4, q5⟩, ⟨bq, tq⟩, hx⟩ : ∃ x σ', Hid (fS (false, t) = (x, σ')) := ⟨_, _, q9 rfl⟩;have HX2 := q9 (show xs = (ys ++ [⟨q1, q2, q3, q4, q5⟩]) ++ (itB fS m (bq, tq)).1 ∧ (b', s') = (itB fS m (bq, tq)).2 from by
      have h := HX.out;rw [hm.out, itB_step hx.out] at h;exact ⟨by rw [h.1, List.append_assoc]; rfl, h.2⟩)
     have hsz := HF.out.size;have HC := q9 (eS HS.out (Nat.le_trans hB hsz) hx.out);have Hm1 := q9 (show n.toNat - (k + 1) = m from by have := hm.out; omega);clear HX hm hx d0 d1;have d0 : wr.cell? ⟨R, 0, none⟩ = some (.pointer (some ⟨r, 0, none⟩)) := HS.out.hR.cell 0;have d1 : wr.cell? ⟨R, 1, none⟩ = some (.bool false) := HS.out.hR.cell 1;go_wp2_with fail
     refine HC.out.mono ?_;rintro e w2 ⟨C, cC, rfl, hcl_, hs2_, hf2_⟩;have hown2 := own_r2 HO.out hf2_ (by omega) (by omega);have HV2 := q9 (SV.snoc (HV.out.r2 hf2_ HS.out) hcl_.1 hcl_.2 (ax := q1) (ay := q2) (bx := q3) (by_ := q4) (c := cC));have HS2 := q9 hs2_;have HF2 := q9 (HF.out.trans hf2_);have hs2 := HF2.out.size;clear hs2_ hf2_ HC HS HF HO HV d0 d1 hcl_;go_wp2_with (at_builtin; refine wpList_app2 (w := w2) rfl _ _ rfl elt_stroke hown2 hs2 rfl rfl (by simp) rfl rfl (by omega) ?_; intro v3 w3 hown3 hg3 hz3)
     go_roundw
     case rel =>
      have hb3 : Below w.heap.size w2 w3 := (Below.refl _ _).grown hg3 hs2 (fun k hk => (hown2.lt k hk).1);exact ⟨k + 1, bq, tq, ys ++ [⟨q1, q2, q3, q4, q5⟩], vs ++ [.int .i64 q1, .int .i64 q2, .int .i64 q3, .int .i64 q4, .slice C q5.length cC], by go_num, by omega, .inr (by omega), by simp [hys], q9 hown3, q9 (HV2.out.grown hg3 (fun q e => by obtain ⟨t_, hb_⟩ := own_typed hown2 e; exact ⟨_, _, hb_, by decide⟩)), q9 (HS2.out.below (hb3.mono hB)), q9 (HF2.out.grown hg3 (fun k hk => (hown2.lt k hk).1)), q9 (fun _ => Hb0.out), q9 (by rw [Hm1.out]; exact HX2.out)⟩
     case measure => simp [intOf]; omega
   have h0 : n.toNat - k = 0 := by omega
   have hx := q9 (show xs = ys ∧ (b', s') = (b, t) from by have h := HX.out; rw [h0] at h; exact ⟨by rw [h.1]; exact List.append_nil _, h.2⟩);have hge : n ≤ (k : Int) := by omega
   clear HX h0;obtain ⟨A, c, rfl⟩ := own_slice HO.out;go_wp2_with fail
   go_ret
   obtain ⟨e1, e2⟩ := hx.out;injection e2 with e2 e3;subst e1 e2 e3 hys;exact ⟨A, c, rfl, ⟨vs, HO.out, HV.out⟩, HS.out, HF.out⟩
end Go.Proofs.YtnapnkmehnabfaaGreat

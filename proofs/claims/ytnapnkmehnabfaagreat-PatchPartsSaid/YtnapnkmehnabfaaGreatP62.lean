import Derived.Test.YtnapnkmehnabfaaGreatP61
namespace Go.Proofs.YtnapnkmehnabfaaGreat
open Go.RowKit Go.Maps

/-- A field of a patch in a row of patches is set. -/
theorem paV_set : ∀ (ps : List (Pa × Pw)) (k i : Nat) (q q' : Pa × Pw) (v : Value), ps[k]? = some q → i < 9 → (paV q).set i v = paV q' → (ps.flatMap paV).set (k * 9 + i) v = (ps.set k q').flatMap paV
  | [], k, i, q, q', v, h, _, _ => by simp at h
  | u :: ps, 0, i, q, q', v, h, hi, e => by
    obtain rfl : u = q := by simpa using h
    rw [List.flatMap_cons, Nat.zero_mul, Nat.zero_add, List.set_append_left _ _ (by rw [paV_len]; exact hi), e]
    rfl
  | u :: ps, k + 1, i, q, q', v, h, hi, e => by
    have := paV_set ps k i q q' v (by simpa using h) hi e
    rw [List.flatMap_cons, List.set_append_right _ _ (by rw [paV_len]; omega), paV_len, show (k + 1) * 9 + i - 9 = k * 9 + i by omega, this]
    rfl
theorem Bk.part {w : World} {G : Nat} {ps ps' : List (Pa × Pw)} {k i : Nat} {q q' : Pa × Pw} {v : Value} (h : Bk w G 34 (ps.flatMap paV).toArray) (hk : ps[k]? = some q) (hi : i < 9) (e : (paV q).set i v = paV q') (n : Nat) (hn : n = k * 9 + i) (e2 : ps.set k q' = ps') : Bk (w.setCell ⟨G, n, none⟩ v) G 34 (ps'.flatMap paV).toArray := by
  subst e2 hn
  have := h.set_ (k * 9 + i) v
  rw [List.setIfInBounds_toArray, paV_set ps k i q q' v hk hi e] at this
  exact this
theorem part_cell {w : World} {G : Nat} {ps : List (Pa × Pw)} {k i : Nat} {q : Pa × Pw} {v : Value} (h : Bk w G 34 (ps.flatMap paV).toArray) (hk : ps[k]? = some q) (hv : (paV q)[i]? = some v) (n : Nat) (hn : n = k * 9 + i) : w.cell? ⟨G, n, none⟩ = some v := by
  subst hn
  have hi : i < 9 := by have := (List.getElem?_eq_some_iff.1 hv).1; rw [paV_len] at this; exact this
  rw [h.cell (k * 9 + i), List.getElem?_toArray, paV_at ps k i q hk hi, hv]
theorem SL.take {w : World} {A : Option Addr} {xs : List Value} (h : SL w A xs) (n : Nat) : SL w A (xs.take n) := fun j u hu => h j u (by
  rw [List.getElem?_take] at hu
  split at hu
  · exact hu
  · cases hu)
theorem flat_takeN {α : Type} (f : α → List Value) (s : Nat) (hs : ∀ x, (f x).length = s) : ∀ (l : List α) (n : Nat), (l.take n).flatMap f = (l.flatMap f).take (n * s)
  | [], n => by simp
  | x :: l, 0 => by simp
  | x :: l, n + 1 => by
    have e1 : (n + 1) * s - s = n * s := by rw [Nat.add_mul]; omega
    have e2 : (f x).take ((n + 1) * s) = f x := List.take_of_length_le (by rw [hs, Nat.add_mul]; omega)
    rw [List.take_succ_cons, List.flatMap_cons, List.flatMap_cons, flat_takeN f s hs l n, List.take_append, hs, e1, e2]
theorem SS.take {w : World} {A : Option Addr} {l : List Sk} (h : SS w A l) (n : Nat) : SS w A (l.take n) := by
  obtain ⟨vs, h1, h2, h3⟩ := h
  refine ⟨vs.take (n * 5), h1.take _, by rw [List.length_take, List.length_take, h2]; omega, fun j s hs => ?_⟩
  have hj : j < n ∧ l[j]? = some s := by
    rw [List.getElem?_take] at hs
    split at hs
    · exact ⟨by assumption, hs⟩
    · cases hs
  obtain ⟨C, c, a0, a1, a2, a3, a4, a5, a6⟩ := h3 j s hj.2
  have t : ∀ {i : Nat} {v : Value}, i < n * 5 → vs[i]? = some v → (vs.take (n * 5))[i]? = some v := fun {i v} hi hv => by rw [List.getElem?_take, if_pos hi]; exact hv
  exact ⟨C, c, t (by omega) a0, t (by omega) a1, t (by omega) a2, t (by omega) a3, t (by omega) a4, a5, a6⟩
/-- What is known of each of the parts. -/
def GP (w : World) (q : Pa × Pw) : Prop := PT w q.1 q.2 ∧ PO q.1
theorem GP.below {w w' : World} {q : Pa × Pw} (h : GP w q) (hb : Below w.heap.size w w') : GP w' q := ⟨h.1.below hb, h.2⟩
section
variable {w : World} {o nu : Int} {nd : List Int} {st : List Sk} {pl : List Plc} {ma : List Mk} {er dr rt : List (Int × Int)} {an as_ al am ae ad ar : Option Addr} {kn ks kl km ke kd_ kr : Nat}
theorem gp_parts (h : PT w ⟨o, nu, nd, st, pl, ma, er, dr, rt⟩ ⟨an, as_, al, am, ae, ad, ar, kn, ks, kl, km, ke, kd_, kr⟩) (hp : PO ⟨o, nu, nd, st, pl, ma, er, dr, rt⟩) (i1 i2 i3 : Nat) : ∀ q ∈ [((⟨o, nu, nd, st, [], [], [], [], []⟩ : Pa), (⟨an, as_, none, none, none, none, none, kn, ks, 0, 0, 0, 0, 0⟩ : Pw)), ((⟨o, nu, nd, [], pl, [], [], [], []⟩ : Pa), (⟨an, none, al, none, none, none, none, kn, 0, kl, 0, 0, 0, 0⟩ : Pw)), ((⟨o, nu, nd, [], [], ma, [], [], []⟩ : Pa), (⟨an, none, none, am, none, none, none, kn, 0, 0, km, 0, 0, 0⟩ : Pw)), ((⟨o, nu, nd, [], [], [], er, [], []⟩ : Pa), (⟨an, none, none, none, ae, none, none, kn, 0, 0, 0, ke, 0, 0⟩ : Pw)), ((⟨o, nu, nd, [], [], [], [], dr, []⟩ : Pa), (⟨an, none, none, none, none, ad, none, kn, 0, 0, 0, 0, kd_, 0⟩ : Pw)), ((⟨o, nu, nd, [], [], [], [], [], rt⟩ : Pa), (⟨an, none, none, none, none, none, ar, kn, 0, 0, 0, 0, 0, kr⟩ : Pw)), ((⟨o, nu, nd, [], [], [], [], [], []⟩ : Pa), (⟨an, none, none, none, none, none, none, kn, 0, 0, 0, 0, 0, 0⟩ : Pw)), ((⟨o, nu, nd, st.take i1, pl, ma.take i2, er.take i3, dr, rt⟩ : Pa), (⟨an, as_, al, am, ae, ad, ar, kn, ks, kl, km, ke, kd_, kr⟩ : Pw))], GP w q := by
  have z1 : ∀ {p : Sk → Prop}, ([] : List Sk).length ≤ 4096 ∧ ∀ x ∈ ([] : List Sk), p x := ⟨by simp, fun x hx => by cases hx⟩
  have z2 : ∀ {p : Plc → Prop}, ([] : List Plc).length ≤ 4096 ∧ ∀ x ∈ ([] : List Plc), p x := ⟨by simp, fun x hx => by cases hx⟩
  have z3 : ∀ {p : Mk → Prop}, ([] : List Mk).length ≤ 4096 ∧ ∀ x ∈ ([] : List Mk), p x := ⟨by simp, fun x hx => by cases hx⟩
  have z4 : ∀ {p : Int × Int → Prop}, ([] : List (Int × Int)).length ≤ 1 ∧ ∀ x ∈ ([] : List (Int × Int)), p x := ⟨by simp, fun x hx => by cases hx⟩
  have z5 : ∀ {p : Int × Int → Prop}, ([] : List (Int × Int)).length ≤ 4096 ∧ ∀ x ∈ ([] : List (Int × Int)), p x := ⟨by simp, fun x hx => by cases hx⟩
  have e1 : SS w none [] := ⟨[], SL.nil_, rfl, fun j s hs => by simp at hs⟩
  have h' := h
  obtain ⟨a1, a2, a3, a4, a5, a6, a7⟩ := h'
  intro q hq
  simp only [List.mem_cons, List.not_mem_nil, or_false] at hq
  rcases hq with rfl | rfl | rfl | rfl | rfl | rfl | rfl | rfl
  · exact ⟨⟨a1, a2, SL.nil_, SL.nil_, SL.nil_, SL.nil_, SL.nil_⟩, ⟨hp.o, hp.num, hp.nd, hp.st, z2, z3, z4, z4, z5⟩⟩
  · exact ⟨⟨a1, e1, a3, SL.nil_, SL.nil_, SL.nil_, SL.nil_⟩, ⟨hp.o, hp.num, hp.nd, z1, hp.pl, z3, z4, z4, z5⟩⟩
  · exact ⟨⟨a1, e1, SL.nil_, a4, SL.nil_, SL.nil_, SL.nil_⟩, ⟨hp.o, hp.num, hp.nd, z1, z2, hp.ma, z4, z4, z5⟩⟩
  · exact ⟨⟨a1, e1, SL.nil_, SL.nil_, a5, SL.nil_, SL.nil_⟩, ⟨hp.o, hp.num, hp.nd, z1, z2, z3, hp.er, z4, z5⟩⟩
  · exact ⟨⟨a1, e1, SL.nil_, SL.nil_, SL.nil_, a6, SL.nil_⟩, ⟨hp.o, hp.num, hp.nd, z1, z2, z3, z4, hp.dr, z5⟩⟩
  · exact ⟨⟨a1, e1, SL.nil_, SL.nil_, SL.nil_, SL.nil_, a7⟩, ⟨hp.o, hp.num, hp.nd, z1, z2, z3, z4, z4, hp.rt⟩⟩
  · exact ⟨⟨a1, e1, SL.nil_, SL.nil_, SL.nil_, SL.nil_, SL.nil_⟩, ⟨hp.o, hp.num, hp.nd, z1, z2, z3, z4, z4, z5⟩⟩
  · refine ⟨⟨a1, a2.take i1, a3, ?_, ?_, a6, a7⟩, ⟨hp.o, hp.num, hp.nd, ⟨?_, fun x hx => hp.st.2 x (List.mem_of_mem_take hx)⟩, hp.pl, ⟨?_, fun x hx => hp.ma.2 x (List.mem_of_mem_take hx)⟩, ⟨?_, fun x hx => hp.er.2 x (List.mem_of_mem_take hx)⟩, hp.dr, hp.rt⟩⟩
    · show SL w am ((ma.take i2).flatMap mkC)
      rw [flat_takeN mkC 7 (fun _ => rfl)]
      exact SL.take a4 _
    · show SL w ae ((er.take i3).flatMap _)
      rw [flat_takeN _ 2 (fun _ => rfl)]
      exact SL.take a5 _
    · have := hp.st.1; simp at this ⊢; omega
    · have := hp.ma.1; simp at this ⊢; omega
    · have := hp.er.1; simp at this ⊢; omega
end
theorem sk_ne {o : Int} {s : Sk} (h : skE o s = 0) : (s.ax == s.bx && s.ay == s.by_) = false := by
  unfold skE at h
  split at h
  · cases h
  · split at h
    · cases h
    · rename_i _ h2
      cases h3 : (s.ax == s.bx && s.ay == s.by_)
      · rfl
      · exact absurd (by simpa using h3) h2
theorem sk_cl {o : Int} {s : Sk} (h : skE o s = 0) : ∀ c ∈ s.cl, clE c = 0 ∧ c.office = o := by
  unfold skE at h
  split at h
  · cases h
  · split at h
    · cases h
    · split at h
      · cases h
      · intro c hc
        obtain ⟨i, hi, he⟩ := mem_at hc
        have h1 := eachE_at h hi
        unfold clW at h1
        rw [he] at h1
        dsimp only at h1
        split at h1
        · cases h1
        · rename_i h2
          exact ⟨Classical.byContradiction fun h3 => h2 (.inl h3), Classical.byContradiction fun h3 => h2 (.inr h3)⟩
set_option linter.unusedSimpArgs false in
set_option maxHeartbeats 16000000 in
set_option maxRecDepth 100000 in
theorem patchParts_walk (A : Option Addr) (cA : Nat) (l : List Int) (cut : Int) (w : World) (hA : SI w A l) (hl : W64 l) (hct : i64 cut) :
    Calls Tryz.prog 6 #[.slice A l.length cA, .int .i64 cut] w fun e w' => e = .returned (.bool true) ∧ Below w.heap.size w w' := by
  have HSc := Lib.hid (script_any A cA l 8 w hA hl (by decide))
  have HAr := Lib.hid (fun (n : Nat) (hn : n ≤ 4096) W => around_any cut ((n : Int) + 1) W hct.1 hct.2 (by omega) (by omega))
  clear hA hl hct
  go_enter Tryz.func6, Tryz.ntmps6
  go_wp2_with fail
  refine HSc.out.mono ?_
  rintro e w1 ⟨ps, X, cX, rfl, hp8, _, hown, hav, _, hcp, hb1⟩
  have HB1 := Lib.hid hb1
  have HX := Lib.hid (SB.own hown).sl
  have HAv := Lib.hid hav
  have HCp := Lib.hid hcp
  clear hown hav hcp hb1 HSc
  obtain ⟨n, hn⟩ : ∃ z, Hid (ps.length = z) := ⟨_, Lib.hid rfl⟩
  rw [hn.out] at hp8 ⊢
  go_wp2_with fail
  go_loopw [6] (fun v wr => ∃ k : Nat, k ≤ n ∧ v = .int .i64 (k : Int) ∧ Hid (Below w1.heap.size w1 wr)) (fun v _ => n - (intOf v).toNat)
  case atStart => exact ⟨0, by omega, rfl, Lib.hid (Below.refl _ _)⟩
  case round =>
    obtain ⟨k, hk, rfl, HB⟩ := hrel
    by_cases hlt : k < n
    · obtain ⟨bX, oX, p, a, hXe, Hq, hbl, HPB, HPO, Hm⟩ := vals_at HX.out HAv.out (k := k) (by rw [hn.out]; exact hlt)
      subst hXe
      obtain ⟨o, nu, nd, st, pl, ma, er, dr, rt⟩ := p
      obtain ⟨an, as_, al, am, ae, ad, ar, kn, ks, kl, km, ke, kd_, kr⟩ := a
      obtain ⟨hc1, hc2, hc3⟩ := HCp.out _ Hm.out
      have hc1 : st.length ≤ ks := hc1
      have hc2 : ma.length ≤ km := hc2
      have hc3 : er.length ≤ ke := hc3
      have hst : st.length ≤ 4096 := HPO.out.st.1
      have hma : ma.length ≤ 4096 := HPO.out.ma.1
      have her : er.length ≤ 4096 := Nat.le_trans HPO.out.er.1 (by decide)
      have hPz : w1.heap.size ≤ wr.heap.size := HB.out.size
      have c0 : wr.cell? ⟨bX, oX + k * 9, none⟩ = some (.int .i64 o) := (HB.out.cell (p := ⟨bX, oX + k * 9, none⟩) hbl).trans (Hq.out 0 _ rfl)
      have c1 : wr.cell? ⟨bX, oX + k * 9 + 1, none⟩ = some (.int .i64 nu) := (HB.out.cell (p := ⟨bX, oX + k * 9 + 1, none⟩) hbl).trans (Hq.out 1 _ rfl)
      have c2 : wr.cell? ⟨bX, oX + k * 9 + 2, none⟩ = some (.slice an nd.length kn) := (HB.out.cell (p := ⟨bX, oX + k * 9 + 2, none⟩) hbl).trans (Hq.out 2 _ rfl)
      have c3 : wr.cell? ⟨bX, oX + k * 9 + 3, none⟩ = some (.slice as_ st.length ks) := (HB.out.cell (p := ⟨bX, oX + k * 9 + 3, none⟩) hbl).trans (Hq.out 3 _ rfl)
      have c4 : wr.cell? ⟨bX, oX + k * 9 + 4, none⟩ = some (.slice al pl.length kl) := (HB.out.cell (p := ⟨bX, oX + k * 9 + 4, none⟩) hbl).trans (Hq.out 4 _ rfl)
      have c5 : wr.cell? ⟨bX, oX + k * 9 + 5, none⟩ = some (.slice am ma.length km) := (HB.out.cell (p := ⟨bX, oX + k * 9 + 5, none⟩) hbl).trans (Hq.out 5 _ rfl)
      have c6 : wr.cell? ⟨bX, oX + k * 9 + 6, none⟩ = some (.slice ae er.length ke) := (HB.out.cell (p := ⟨bX, oX + k * 9 + 6, none⟩) hbl).trans (Hq.out 6 _ rfl)
      have c7 : wr.cell? ⟨bX, oX + k * 9 + 7, none⟩ = some (.slice ad dr.length kd_) := (HB.out.cell (p := ⟨bX, oX + k * 9 + 7, none⟩) hbl).trans (Hq.out 7 _ rfl)
      have c8 : wr.cell? ⟨bX, oX + k * 9 + 8, none⟩ = some (.slice ar rt.length kr) := (HB.out.cell (p := ⟨bX, oX + k * 9 + 8, none⟩) hbl).trans (Hq.out 8 _ rfl)
      go_upto_region 6 with fail
      clear c0 c1 c2 c3 c4 c5 c6 c7 c8
      have HP5 := Lib.hid (Bk.new wr 34 #[.int .i64 o, .int .i64 nu, .slice an nd.length kn, .slice as_ st.length ks, .slice al pl.length kl, .slice am ma.length km, .slice ae er.length ke, .slice ad dr.length kd_, .slice ar rt.length kr])
      have HB5 := Lib.hid (HB.out.alloc HB.out.size (.cells #[.int .i64 o, .int .i64 nu, .slice an nd.length kn, .slice as_ st.length ks, .slice al pl.length kl, .slice am ma.length km, .slice ae er.length ke, .slice ad dr.length kd_, .slice ar rt.length kr] 34))
      clear HB
      generalize wr.alloc (.cells #[.int .i64 o, .int .i64 nu, .slice an nd.length kn, .slice as_ st.length ks, .slice al pl.length kl, .slice am ma.length km, .slice ae er.length ke, .slice ad dr.length kd_, .slice ar rt.length kr] 34) = W5 at *
      generalize wr.heap.size = P at *
      have c0 : W5.cell? ⟨P, 0, none⟩ = some (.int .i64 o) := HP5.out.cell 0
      have c1 : W5.cell? ⟨P, 1, none⟩ = some (.int .i64 nu) := HP5.out.cell 1
      have c2 : W5.cell? ⟨P, 2, none⟩ = some (.slice an nd.length kn) := HP5.out.cell 2
      have c3 : W5.cell? ⟨P, 3, none⟩ = some (.slice as_ st.length ks) := HP5.out.cell 3
      have c4 : W5.cell? ⟨P, 4, none⟩ = some (.slice al pl.length kl) := HP5.out.cell 4
      have c5 : W5.cell? ⟨P, 5, none⟩ = some (.slice am ma.length km) := HP5.out.cell 5
      have c6 : W5.cell? ⟨P, 6, none⟩ = some (.slice ae er.length ke) := HP5.out.cell 6
      have c7 : W5.cell? ⟨P, 7, none⟩ = some (.slice ad dr.length kd_) := HP5.out.cell 7
      have c8 : W5.cell? ⟨P, 8, none⟩ = some (.slice ar rt.length kr) := HP5.out.cell 8
      go_upto_region 7 with fail
      clear c0 c1 c2 c3 c4 c5 c6 c7 c8
      have HR7 := Lib.hid (Bk.new W5 34 #[.int .i64 o, .int .i64 nu, .slice an nd.length kn, .slice none 0 0, .slice none 0 0, .slice none 0 0, .slice none 0 0, .slice none 0 0, .slice none 0 0])
      have HP7 := Lib.hid (HP5.out.alloc (.cells #[.int .i64 o, .int .i64 nu, .slice an nd.length kn, .slice none 0 0, .slice none 0 0, .slice none 0 0, .slice none 0 0, .slice none 0 0, .slice none 0 0] 34))
      have HB7 := Lib.hid (HB5.out.alloc HB5.out.size (.cells #[.int .i64 o, .int .i64 nu, .slice an nd.length kn, .slice none 0 0, .slice none 0 0, .slice none 0 0, .slice none 0 0, .slice none 0 0, .slice none 0 0] 34))
      have hRz : w1.heap.size ≤ W5.heap.size := HB5.out.size
      clear HP5 HB5
      generalize W5.alloc (.cells #[.int .i64 o, .int .i64 nu, .slice an nd.length kn, .slice none 0 0, .slice none 0 0, .slice none 0 0, .slice none 0 0, .slice none 0 0, .slice none 0 0] 34) = W7 at *
      generalize W5.heap.size = R at *
      have b0 : W7.cell? ⟨R, 0, none⟩ = some (.int .i64 o) := HR7.out.cell 0
      have b1 : W7.cell? ⟨R, 1, none⟩ = some (.int .i64 nu) := HR7.out.cell 1
      have b2 : W7.cell? ⟨R, 2, none⟩ = some (.slice an nd.length kn) := HR7.out.cell 2
      have b3 : W7.cell? ⟨R, 3, none⟩ = some (.slice none 0 0) := HR7.out.cell 3
      have b4 : W7.cell? ⟨R, 4, none⟩ = some (.slice none 0 0) := HR7.out.cell 4
      have b5 : W7.cell? ⟨R, 5, none⟩ = some (.slice none 0 0) := HR7.out.cell 5
      have b6 : W7.cell? ⟨R, 6, none⟩ = some (.slice none 0 0) := HR7.out.cell 6
      have b7 : W7.cell? ⟨R, 7, none⟩ = some (.slice none 0 0) := HR7.out.cell 7
      have b8 : W7.cell? ⟨R, 8, none⟩ = some (.slice none 0 0) := HR7.out.cell 8
      have c0 : W7.cell? ⟨P, 0, none⟩ = some (.int .i64 o) := HP7.out.cell 0
      have c1 : W7.cell? ⟨P, 1, none⟩ = some (.int .i64 nu) := HP7.out.cell 1
      have c2 : W7.cell? ⟨P, 2, none⟩ = some (.slice an nd.length kn) := HP7.out.cell 2
      have c3 : W7.cell? ⟨P, 3, none⟩ = some (.slice as_ st.length ks) := HP7.out.cell 3
      have c4 : W7.cell? ⟨P, 4, none⟩ = some (.slice al pl.length kl) := HP7.out.cell 4
      have c5 : W7.cell? ⟨P, 5, none⟩ = some (.slice am ma.length km) := HP7.out.cell 5
      have c6 : W7.cell? ⟨P, 6, none⟩ = some (.slice ae er.length ke) := HP7.out.cell 6
      have c7 : W7.cell? ⟨P, 7, none⟩ = some (.slice ad dr.length kd_) := HP7.out.cell 7
      have c8 : W7.cell? ⟨P, 8, none⟩ = some (.slice ar rt.length kr) := HP7.out.cell 8
      go_upto_region 8 with fail
      clear c0 c1 c2 c3 c4 c5 c6 c7 c8
      clear b0 b1 b2 b3 b4 b5 b6 b7 b8
      have HG0 := Lib.hid (show Bk (W7.alloc (.cells #[.int .i64 o, .int .i64 nu, .slice an nd.length kn, .slice none 0 0, .slice none 0 0, .slice none 0 0, .slice none 0 0, .slice none 0 0, .slice none 0 0, .int .i64 o, .int .i64 nu, .slice an nd.length kn, .slice none 0 0, .slice none 0 0, .slice none 0 0, .slice none 0 0, .slice none 0 0, .slice none 0 0, .int .i64 o, .int .i64 nu, .slice an nd.length kn, .slice none 0 0, .slice none 0 0, .slice none 0 0, .slice none 0 0, .slice none 0 0, .slice none 0 0, .int .i64 o, .int .i64 nu, .slice an nd.length kn, .slice none 0 0, .slice none 0 0, .slice none 0 0, .slice none 0 0, .slice none 0 0, .slice none 0 0, .int .i64 o, .int .i64 nu, .slice an nd.length kn, .slice none 0 0, .slice none 0 0, .slice none 0 0, .slice none 0 0, .slice none 0 0, .slice none 0 0, .int .i64 o, .int .i64 nu, .slice an nd.length kn, .slice none 0 0, .slice none 0 0, .slice none 0 0, .slice none 0 0, .slice none 0 0, .slice none 0 0, .int .i64 o, .int .i64 nu, .slice an nd.length kn, .slice none 0 0, .slice none 0 0, .slice none 0 0, .slice none 0 0, .slice none 0 0, .slice none 0 0, .int .i64 o, .int .i64 nu, .slice an nd.length kn, .slice as_ st.length ks, .slice al pl.length kl, .slice am ma.length km, .slice ae er.length ke, .slice ad dr.length kd_, .slice ar rt.length kr] 34)) W7.heap.size 34 (([((⟨o, nu, nd, [], [], [], [], [], []⟩ : Pa), (⟨an, none, none, none, none, none, none, kn, 0, 0, 0, 0, 0, 0⟩ : Pw)), ((⟨o, nu, nd, [], [], [], [], [], []⟩ : Pa), (⟨an, none, none, none, none, none, none, kn, 0, 0, 0, 0, 0, 0⟩ : Pw)), ((⟨o, nu, nd, [], [], [], [], [], []⟩ : Pa), (⟨an, none, none, none, none, none, none, kn, 0, 0, 0, 0, 0, 0⟩ : Pw)), ((⟨o, nu, nd, [], [], [], [], [], []⟩ : Pa), (⟨an, none, none, none, none, none, none, kn, 0, 0, 0, 0, 0, 0⟩ : Pw)), ((⟨o, nu, nd, [], [], [], [], [], []⟩ : Pa), (⟨an, none, none, none, none, none, none, kn, 0, 0, 0, 0, 0, 0⟩ : Pw)), ((⟨o, nu, nd, [], [], [], [], [], []⟩ : Pa), (⟨an, none, none, none, none, none, none, kn, 0, 0, 0, 0, 0, 0⟩ : Pw)), ((⟨o, nu, nd, [], [], [], [], [], []⟩ : Pa), (⟨an, none, none, none, none, none, none, kn, 0, 0, 0, 0, 0, 0⟩ : Pw)), ((⟨o, nu, nd, st, pl, ma, er, dr, rt⟩ : Pa), (⟨an, as_, al, am, ae, ad, ar, kn, ks, kl, km, ke, kd_, kr⟩ : Pw))] : List (Pa × Pw)).flatMap paV).toArray from Bk.new _ _ _)
      have HP8 := Lib.hid (HP7.out.alloc (.cells #[.int .i64 o, .int .i64 nu, .slice an nd.length kn, .slice none 0 0, .slice none 0 0, .slice none 0 0, .slice none 0 0, .slice none 0 0, .slice none 0 0, .int .i64 o, .int .i64 nu, .slice an nd.length kn, .slice none 0 0, .slice none 0 0, .slice none 0 0, .slice none 0 0, .slice none 0 0, .slice none 0 0, .int .i64 o, .int .i64 nu, .slice an nd.length kn, .slice none 0 0, .slice none 0 0, .slice none 0 0, .slice none 0 0, .slice none 0 0, .slice none 0 0, .int .i64 o, .int .i64 nu, .slice an nd.length kn, .slice none 0 0, .slice none 0 0, .slice none 0 0, .slice none 0 0, .slice none 0 0, .slice none 0 0, .int .i64 o, .int .i64 nu, .slice an nd.length kn, .slice none 0 0, .slice none 0 0, .slice none 0 0, .slice none 0 0, .slice none 0 0, .slice none 0 0, .int .i64 o, .int .i64 nu, .slice an nd.length kn, .slice none 0 0, .slice none 0 0, .slice none 0 0, .slice none 0 0, .slice none 0 0, .slice none 0 0, .int .i64 o, .int .i64 nu, .slice an nd.length kn, .slice none 0 0, .slice none 0 0, .slice none 0 0, .slice none 0 0, .slice none 0 0, .slice none 0 0, .int .i64 o, .int .i64 nu, .slice an nd.length kn, .slice as_ st.length ks, .slice al pl.length kl, .slice am ma.length km, .slice ae er.length ke, .slice ad dr.length kd_, .slice ar rt.length kr] 34))
      have HB8 := Lib.hid (HB7.out.alloc HB7.out.size (.cells #[.int .i64 o, .int .i64 nu, .slice an nd.length kn, .slice none 0 0, .slice none 0 0, .slice none 0 0, .slice none 0 0, .slice none 0 0, .slice none 0 0, .int .i64 o, .int .i64 nu, .slice an nd.length kn, .slice none 0 0, .slice none 0 0, .slice none 0 0, .slice none 0 0, .slice none 0 0, .slice none 0 0, .int .i64 o, .int .i64 nu, .slice an nd.length kn, .slice none 0 0, .slice none 0 0, .slice none 0 0, .slice none 0 0, .slice none 0 0, .slice none 0 0, .int .i64 o, .int .i64 nu, .slice an nd.length kn, .slice none 0 0, .slice none 0 0, .slice none 0 0, .slice none 0 0, .slice none 0 0, .slice none 0 0, .int .i64 o, .int .i64 nu, .slice an nd.length kn, .slice none 0 0, .slice none 0 0, .slice none 0 0, .slice none 0 0, .slice none 0 0, .slice none 0 0, .int .i64 o, .int .i64 nu, .slice an nd.length kn, .slice none 0 0, .slice none 0 0, .slice none 0 0, .slice none 0 0, .slice none 0 0, .slice none 0 0, .int .i64 o, .int .i64 nu, .slice an nd.length kn, .slice none 0 0, .slice none 0 0, .slice none 0 0, .slice none 0 0, .slice none 0 0, .slice none 0 0, .int .i64 o, .int .i64 nu, .slice an nd.length kn, .slice as_ st.length ks, .slice al pl.length kl, .slice am ma.length km, .slice ae er.length ke, .slice ad dr.length kd_, .slice ar rt.length kr] 34))
      have hGz : w1.heap.size ≤ W7.heap.size := HB7.out.size
      have hPG : P < W7.heap.size := HP7.out.lt
      clear HP7 HB7 HR7
      generalize W7.alloc (.cells #[.int .i64 o, .int .i64 nu, .slice an nd.length kn, .slice none 0 0, .slice none 0 0, .slice none 0 0, .slice none 0 0, .slice none 0 0, .slice none 0 0, .int .i64 o, .int .i64 nu, .slice an nd.length kn, .slice none 0 0, .slice none 0 0, .slice none 0 0, .slice none 0 0, .slice none 0 0, .slice none 0 0, .int .i64 o, .int .i64 nu, .slice an nd.length kn, .slice none 0 0, .slice none 0 0, .slice none 0 0, .slice none 0 0, .slice none 0 0, .slice none 0 0, .int .i64 o, .int .i64 nu, .slice an nd.length kn, .slice none 0 0, .slice none 0 0, .slice none 0 0, .slice none 0 0, .slice none 0 0, .slice none 0 0, .int .i64 o, .int .i64 nu, .slice an nd.length kn, .slice none 0 0, .slice none 0 0, .slice none 0 0, .slice none 0 0, .slice none 0 0, .slice none 0 0, .int .i64 o, .int .i64 nu, .slice an nd.length kn, .slice none 0 0, .slice none 0 0, .slice none 0 0, .slice none 0 0, .slice none 0 0, .slice none 0 0, .int .i64 o, .int .i64 nu, .slice an nd.length kn, .slice none 0 0, .slice none 0 0, .slice none 0 0, .slice none 0 0, .slice none 0 0, .slice none 0 0, .int .i64 o, .int .i64 nu, .slice an nd.length kn, .slice as_ st.length ks, .slice al pl.length kl, .slice am ma.length km, .slice ae er.length ke, .slice ad dr.length kd_, .slice ar rt.length kr] 34) = W8 at *
      generalize W7.heap.size = G at *
      have p0 : W8.cell? ⟨P, 3, none⟩ = some (.slice as_ st.length ks) := HP8.out.cell 3
      have g0 : W8.cell? ⟨G, 3, none⟩ = some (.slice none 0 0) := part_cell (k := 0) (i := 3) (q := ((⟨o, nu, nd, [], [], [], [], [], []⟩ : Pa), (⟨an, none, none, none, none, none, none, kn, 0, 0, 0, 0, 0, 0⟩ : Pw))) HG0.out rfl rfl 3 rfl
      have f0 := HG0.out.frozen 3
      go_upto_region 9 with fail
      have HGn0 := Lib.hid (show Bk (W8.setCell ⟨G, 3, none⟩ (.slice as_ st.length ks)) G 34 (([((⟨o, nu, nd, st, [], [], [], [], []⟩ : Pa), (⟨an, as_, none, none, none, none, none, kn, ks, 0, 0, 0, 0, 0⟩ : Pw)), ((⟨o, nu, nd, [], [], [], [], [], []⟩ : Pa), (⟨an, none, none, none, none, none, none, kn, 0, 0, 0, 0, 0, 0⟩ : Pw)), ((⟨o, nu, nd, [], [], [], [], [], []⟩ : Pa), (⟨an, none, none, none, none, none, none, kn, 0, 0, 0, 0, 0, 0⟩ : Pw)), ((⟨o, nu, nd, [], [], [], [], [], []⟩ : Pa), (⟨an, none, none, none, none, none, none, kn, 0, 0, 0, 0, 0, 0⟩ : Pw)), ((⟨o, nu, nd, [], [], [], [], [], []⟩ : Pa), (⟨an, none, none, none, none, none, none, kn, 0, 0, 0, 0, 0, 0⟩ : Pw)), ((⟨o, nu, nd, [], [], [], [], [], []⟩ : Pa), (⟨an, none, none, none, none, none, none, kn, 0, 0, 0, 0, 0, 0⟩ : Pw)), ((⟨o, nu, nd, [], [], [], [], [], []⟩ : Pa), (⟨an, none, none, none, none, none, none, kn, 0, 0, 0, 0, 0, 0⟩ : Pw)), ((⟨o, nu, nd, st, pl, ma, er, dr, rt⟩ : Pa), (⟨an, as_, al, am, ae, ad, ar, kn, ks, kl, km, ke, kd_, kr⟩ : Pw))] : List (Pa × Pw)).flatMap paV).toArray from HG0.out.part (k := 0) (i := 3) (q := ((⟨o, nu, nd, [], [], [], [], [], []⟩ : Pa), (⟨an, none, none, none, none, none, none, kn, 0, 0, 0, 0, 0, 0⟩ : Pw))) (q' := ((⟨o, nu, nd, st, [], [], [], [], []⟩ : Pa), (⟨an, as_, none, none, none, none, none, kn, ks, 0, 0, 0, 0, 0⟩ : Pw))) rfl (by decide) rfl 3 rfl rfl)
      have HPn0 := Lib.hid (HP8.out.far (p := ⟨G, 3, none⟩) (Nat.ne_of_lt hPG) (.slice as_ st.length ks))
      have HBn0 := Lib.hid (HB8.out.setCell (p := ⟨G, 3, none⟩) hGz (.slice as_ st.length ks))
      clear p0 g0 f0 HP8 HB8 HG0
      generalize W8.setCell ⟨G, 3, none⟩ (.slice as_ st.length ks) = V0 at *
      have p1 : V0.cell? ⟨P, 4, none⟩ = some (.slice al pl.length kl) := HPn0.out.cell 4
      have g1 : V0.cell? ⟨G, 13, none⟩ = some (.slice none 0 0) := part_cell (k := 1) (i := 4) (q := ((⟨o, nu, nd, [], [], [], [], [], []⟩ : Pa), (⟨an, none, none, none, none, none, none, kn, 0, 0, 0, 0, 0, 0⟩ : Pw))) HGn0.out rfl rfl 13 rfl
      have f1 := HGn0.out.frozen 13
      go_upto_region 10 with fail
      have HGn1 := Lib.hid (show Bk (V0.setCell ⟨G, 13, none⟩ (.slice al pl.length kl)) G 34 (([((⟨o, nu, nd, st, [], [], [], [], []⟩ : Pa), (⟨an, as_, none, none, none, none, none, kn, ks, 0, 0, 0, 0, 0⟩ : Pw)), ((⟨o, nu, nd, [], pl, [], [], [], []⟩ : Pa), (⟨an, none, al, none, none, none, none, kn, 0, kl, 0, 0, 0, 0⟩ : Pw)), ((⟨o, nu, nd, [], [], [], [], [], []⟩ : Pa), (⟨an, none, none, none, none, none, none, kn, 0, 0, 0, 0, 0, 0⟩ : Pw)), ((⟨o, nu, nd, [], [], [], [], [], []⟩ : Pa), (⟨an, none, none, none, none, none, none, kn, 0, 0, 0, 0, 0, 0⟩ : Pw)), ((⟨o, nu, nd, [], [], [], [], [], []⟩ : Pa), (⟨an, none, none, none, none, none, none, kn, 0, 0, 0, 0, 0, 0⟩ : Pw)), ((⟨o, nu, nd, [], [], [], [], [], []⟩ : Pa), (⟨an, none, none, none, none, none, none, kn, 0, 0, 0, 0, 0, 0⟩ : Pw)), ((⟨o, nu, nd, [], [], [], [], [], []⟩ : Pa), (⟨an, none, none, none, none, none, none, kn, 0, 0, 0, 0, 0, 0⟩ : Pw)), ((⟨o, nu, nd, st, pl, ma, er, dr, rt⟩ : Pa), (⟨an, as_, al, am, ae, ad, ar, kn, ks, kl, km, ke, kd_, kr⟩ : Pw))] : List (Pa × Pw)).flatMap paV).toArray from HGn0.out.part (k := 1) (i := 4) (q := ((⟨o, nu, nd, [], [], [], [], [], []⟩ : Pa), (⟨an, none, none, none, none, none, none, kn, 0, 0, 0, 0, 0, 0⟩ : Pw))) (q' := ((⟨o, nu, nd, [], pl, [], [], [], []⟩ : Pa), (⟨an, none, al, none, none, none, none, kn, 0, kl, 0, 0, 0, 0⟩ : Pw))) rfl (by decide) rfl 13 rfl rfl)
      have HPn1 := Lib.hid (HPn0.out.far (p := ⟨G, 13, none⟩) (Nat.ne_of_lt hPG) (.slice al pl.length kl))
      have HBn1 := Lib.hid (HBn0.out.setCell (p := ⟨G, 13, none⟩) hGz (.slice al pl.length kl))
      clear p1 g1 f1 HPn0 HBn0 HGn0
      generalize V0.setCell ⟨G, 13, none⟩ (.slice al pl.length kl) = V1 at *
      have p2 : V1.cell? ⟨P, 5, none⟩ = some (.slice am ma.length km) := HPn1.out.cell 5
      have g2 : V1.cell? ⟨G, 23, none⟩ = some (.slice none 0 0) := part_cell (k := 2) (i := 5) (q := ((⟨o, nu, nd, [], [], [], [], [], []⟩ : Pa), (⟨an, none, none, none, none, none, none, kn, 0, 0, 0, 0, 0, 0⟩ : Pw))) HGn1.out rfl rfl 23 rfl
      have f2 := HGn1.out.frozen 23
      go_upto_region 11 with fail
      have HGn2 := Lib.hid (show Bk (V1.setCell ⟨G, 23, none⟩ (.slice am ma.length km)) G 34 (([((⟨o, nu, nd, st, [], [], [], [], []⟩ : Pa), (⟨an, as_, none, none, none, none, none, kn, ks, 0, 0, 0, 0, 0⟩ : Pw)), ((⟨o, nu, nd, [], pl, [], [], [], []⟩ : Pa), (⟨an, none, al, none, none, none, none, kn, 0, kl, 0, 0, 0, 0⟩ : Pw)), ((⟨o, nu, nd, [], [], ma, [], [], []⟩ : Pa), (⟨an, none, none, am, none, none, none, kn, 0, 0, km, 0, 0, 0⟩ : Pw)), ((⟨o, nu, nd, [], [], [], [], [], []⟩ : Pa), (⟨an, none, none, none, none, none, none, kn, 0, 0, 0, 0, 0, 0⟩ : Pw)), ((⟨o, nu, nd, [], [], [], [], [], []⟩ : Pa), (⟨an, none, none, none, none, none, none, kn, 0, 0, 0, 0, 0, 0⟩ : Pw)), ((⟨o, nu, nd, [], [], [], [], [], []⟩ : Pa), (⟨an, none, none, none, none, none, none, kn, 0, 0, 0, 0, 0, 0⟩ : Pw)), ((⟨o, nu, nd, [], [], [], [], [], []⟩ : Pa), (⟨an, none, none, none, none, none, none, kn, 0, 0, 0, 0, 0, 0⟩ : Pw)), ((⟨o, nu, nd, st, pl, ma, er, dr, rt⟩ : Pa), (⟨an, as_, al, am, ae, ad, ar, kn, ks, kl, km, ke, kd_, kr⟩ : Pw))] : List (Pa × Pw)).flatMap paV).toArray from HGn1.out.part (k := 2) (i := 5) (q := ((⟨o, nu, nd, [], [], [], [], [], []⟩ : Pa), (⟨an, none, none, none, none, none, none, kn, 0, 0, 0, 0, 0, 0⟩ : Pw))) (q' := ((⟨o, nu, nd, [], [], ma, [], [], []⟩ : Pa), (⟨an, none, none, am, none, none, none, kn, 0, 0, km, 0, 0, 0⟩ : Pw))) rfl (by decide) rfl 23 rfl rfl)
      have HPn2 := Lib.hid (HPn1.out.far (p := ⟨G, 23, none⟩) (Nat.ne_of_lt hPG) (.slice am ma.length km))
      have HBn2 := Lib.hid (HBn1.out.setCell (p := ⟨G, 23, none⟩) hGz (.slice am ma.length km))
      clear p2 g2 f2 HPn1 HBn1 HGn1
      generalize V1.setCell ⟨G, 23, none⟩ (.slice am ma.length km) = V2 at *
      have p3 : V2.cell? ⟨P, 6, none⟩ = some (.slice ae er.length ke) := HPn2.out.cell 6
      have g3 : V2.cell? ⟨G, 33, none⟩ = some (.slice none 0 0) := part_cell (k := 3) (i := 6) (q := ((⟨o, nu, nd, [], [], [], [], [], []⟩ : Pa), (⟨an, none, none, none, none, none, none, kn, 0, 0, 0, 0, 0, 0⟩ : Pw))) HGn2.out rfl rfl 33 rfl
      have f3 := HGn2.out.frozen 33
      go_upto_region 12 with fail
      have HGn3 := Lib.hid (show Bk (V2.setCell ⟨G, 33, none⟩ (.slice ae er.length ke)) G 34 (([((⟨o, nu, nd, st, [], [], [], [], []⟩ : Pa), (⟨an, as_, none, none, none, none, none, kn, ks, 0, 0, 0, 0, 0⟩ : Pw)), ((⟨o, nu, nd, [], pl, [], [], [], []⟩ : Pa), (⟨an, none, al, none, none, none, none, kn, 0, kl, 0, 0, 0, 0⟩ : Pw)), ((⟨o, nu, nd, [], [], ma, [], [], []⟩ : Pa), (⟨an, none, none, am, none, none, none, kn, 0, 0, km, 0, 0, 0⟩ : Pw)), ((⟨o, nu, nd, [], [], [], er, [], []⟩ : Pa), (⟨an, none, none, none, ae, none, none, kn, 0, 0, 0, ke, 0, 0⟩ : Pw)), ((⟨o, nu, nd, [], [], [], [], [], []⟩ : Pa), (⟨an, none, none, none, none, none, none, kn, 0, 0, 0, 0, 0, 0⟩ : Pw)), ((⟨o, nu, nd, [], [], [], [], [], []⟩ : Pa), (⟨an, none, none, none, none, none, none, kn, 0, 0, 0, 0, 0, 0⟩ : Pw)), ((⟨o, nu, nd, [], [], [], [], [], []⟩ : Pa), (⟨an, none, none, none, none, none, none, kn, 0, 0, 0, 0, 0, 0⟩ : Pw)), ((⟨o, nu, nd, st, pl, ma, er, dr, rt⟩ : Pa), (⟨an, as_, al, am, ae, ad, ar, kn, ks, kl, km, ke, kd_, kr⟩ : Pw))] : List (Pa × Pw)).flatMap paV).toArray from HGn2.out.part (k := 3) (i := 6) (q := ((⟨o, nu, nd, [], [], [], [], [], []⟩ : Pa), (⟨an, none, none, none, none, none, none, kn, 0, 0, 0, 0, 0, 0⟩ : Pw))) (q' := ((⟨o, nu, nd, [], [], [], er, [], []⟩ : Pa), (⟨an, none, none, none, ae, none, none, kn, 0, 0, 0, ke, 0, 0⟩ : Pw))) rfl (by decide) rfl 33 rfl rfl)
      have HPn3 := Lib.hid (HPn2.out.far (p := ⟨G, 33, none⟩) (Nat.ne_of_lt hPG) (.slice ae er.length ke))
      have HBn3 := Lib.hid (HBn2.out.setCell (p := ⟨G, 33, none⟩) hGz (.slice ae er.length ke))
      clear p3 g3 f3 HPn2 HBn2 HGn2
      generalize V2.setCell ⟨G, 33, none⟩ (.slice ae er.length ke) = V3 at *
      have p4 : V3.cell? ⟨P, 7, none⟩ = some (.slice ad dr.length kd_) := HPn3.out.cell 7
      have g4 : V3.cell? ⟨G, 43, none⟩ = some (.slice none 0 0) := part_cell (k := 4) (i := 7) (q := ((⟨o, nu, nd, [], [], [], [], [], []⟩ : Pa), (⟨an, none, none, none, none, none, none, kn, 0, 0, 0, 0, 0, 0⟩ : Pw))) HGn3.out rfl rfl 43 rfl
      have f4 := HGn3.out.frozen 43
      go_upto_region 13 with fail
      have HGn4 := Lib.hid (show Bk (V3.setCell ⟨G, 43, none⟩ (.slice ad dr.length kd_)) G 34 (([((⟨o, nu, nd, st, [], [], [], [], []⟩ : Pa), (⟨an, as_, none, none, none, none, none, kn, ks, 0, 0, 0, 0, 0⟩ : Pw)), ((⟨o, nu, nd, [], pl, [], [], [], []⟩ : Pa), (⟨an, none, al, none, none, none, none, kn, 0, kl, 0, 0, 0, 0⟩ : Pw)), ((⟨o, nu, nd, [], [], ma, [], [], []⟩ : Pa), (⟨an, none, none, am, none, none, none, kn, 0, 0, km, 0, 0, 0⟩ : Pw)), ((⟨o, nu, nd, [], [], [], er, [], []⟩ : Pa), (⟨an, none, none, none, ae, none, none, kn, 0, 0, 0, ke, 0, 0⟩ : Pw)), ((⟨o, nu, nd, [], [], [], [], dr, []⟩ : Pa), (⟨an, none, none, none, none, ad, none, kn, 0, 0, 0, 0, kd_, 0⟩ : Pw)), ((⟨o, nu, nd, [], [], [], [], [], []⟩ : Pa), (⟨an, none, none, none, none, none, none, kn, 0, 0, 0, 0, 0, 0⟩ : Pw)), ((⟨o, nu, nd, [], [], [], [], [], []⟩ : Pa), (⟨an, none, none, none, none, none, none, kn, 0, 0, 0, 0, 0, 0⟩ : Pw)), ((⟨o, nu, nd, st, pl, ma, er, dr, rt⟩ : Pa), (⟨an, as_, al, am, ae, ad, ar, kn, ks, kl, km, ke, kd_, kr⟩ : Pw))] : List (Pa × Pw)).flatMap paV).toArray from HGn3.out.part (k := 4) (i := 7) (q := ((⟨o, nu, nd, [], [], [], [], [], []⟩ : Pa), (⟨an, none, none, none, none, none, none, kn, 0, 0, 0, 0, 0, 0⟩ : Pw))) (q' := ((⟨o, nu, nd, [], [], [], [], dr, []⟩ : Pa), (⟨an, none, none, none, none, ad, none, kn, 0, 0, 0, 0, kd_, 0⟩ : Pw))) rfl (by decide) rfl 43 rfl rfl)
      have HPn4 := Lib.hid (HPn3.out.far (p := ⟨G, 43, none⟩) (Nat.ne_of_lt hPG) (.slice ad dr.length kd_))
      have HBn4 := Lib.hid (HBn3.out.setCell (p := ⟨G, 43, none⟩) hGz (.slice ad dr.length kd_))
      clear p4 g4 f4 HPn3 HBn3 HGn3
      generalize V3.setCell ⟨G, 43, none⟩ (.slice ad dr.length kd_) = V4 at *
      have p5 : V4.cell? ⟨P, 8, none⟩ = some (.slice ar rt.length kr) := HPn4.out.cell 8
      have g5 : V4.cell? ⟨G, 53, none⟩ = some (.slice none 0 0) := part_cell (k := 5) (i := 8) (q := ((⟨o, nu, nd, [], [], [], [], [], []⟩ : Pa), (⟨an, none, none, none, none, none, none, kn, 0, 0, 0, 0, 0, 0⟩ : Pw))) HGn4.out rfl rfl 53 rfl
      have f5 := HGn4.out.frozen 53
      go_upto_region 14 with fail
      have HGn5 := Lib.hid (show Bk (V4.setCell ⟨G, 53, none⟩ (.slice ar rt.length kr)) G 34 (([((⟨o, nu, nd, st, [], [], [], [], []⟩ : Pa), (⟨an, as_, none, none, none, none, none, kn, ks, 0, 0, 0, 0, 0⟩ : Pw)), ((⟨o, nu, nd, [], pl, [], [], [], []⟩ : Pa), (⟨an, none, al, none, none, none, none, kn, 0, kl, 0, 0, 0, 0⟩ : Pw)), ((⟨o, nu, nd, [], [], ma, [], [], []⟩ : Pa), (⟨an, none, none, am, none, none, none, kn, 0, 0, km, 0, 0, 0⟩ : Pw)), ((⟨o, nu, nd, [], [], [], er, [], []⟩ : Pa), (⟨an, none, none, none, ae, none, none, kn, 0, 0, 0, ke, 0, 0⟩ : Pw)), ((⟨o, nu, nd, [], [], [], [], dr, []⟩ : Pa), (⟨an, none, none, none, none, ad, none, kn, 0, 0, 0, 0, kd_, 0⟩ : Pw)), ((⟨o, nu, nd, [], [], [], [], [], rt⟩ : Pa), (⟨an, none, none, none, none, none, ar, kn, 0, 0, 0, 0, 0, kr⟩ : Pw)), ((⟨o, nu, nd, [], [], [], [], [], []⟩ : Pa), (⟨an, none, none, none, none, none, none, kn, 0, 0, 0, 0, 0, 0⟩ : Pw)), ((⟨o, nu, nd, st, pl, ma, er, dr, rt⟩ : Pa), (⟨an, as_, al, am, ae, ad, ar, kn, ks, kl, km, ke, kd_, kr⟩ : Pw))] : List (Pa × Pw)).flatMap paV).toArray from HGn4.out.part (k := 5) (i := 8) (q := ((⟨o, nu, nd, [], [], [], [], [], []⟩ : Pa), (⟨an, none, none, none, none, none, none, kn, 0, 0, 0, 0, 0, 0⟩ : Pw))) (q' := ((⟨o, nu, nd, [], [], [], [], [], rt⟩ : Pa), (⟨an, none, none, none, none, none, ar, kn, 0, 0, 0, 0, 0, kr⟩ : Pw))) rfl (by decide) rfl 53 rfl rfl)
      have HPn5 := Lib.hid (HPn4.out.far (p := ⟨G, 53, none⟩) (Nat.ne_of_lt hPG) (.slice ar rt.length kr))
      have HBn5 := Lib.hid (HBn4.out.setCell (p := ⟨G, 53, none⟩) hGz (.slice ar rt.length kr))
      clear p5 g5 f5 HPn4 HBn4 HGn4
      generalize V4.setCell ⟨G, 53, none⟩ (.slice ar rt.length kr) = V5 at *
      have HG := HGn5
      have HP := HPn5
      have HB := HBn5
      clear HGn5 HPn5 HBn5
      obtain ⟨i1, hii1⟩ : ∃ z : Nat, Hid (around cut ((st.length : Int) + 1) = (z : Int)) := ⟨(around cut ((st.length : Int) + 1)).toNat, Lib.hid (Int.toNat_of_nonneg (around_bd _ _ (by omega)).1).symm⟩
      have hi1 : i1 ≤ st.length := by have h1 := around_bd cut ((st.length : Int) + 1) (by omega); have h2 := hii1.out; omega
      have HAr1 := Lib.hid (HAr.out st.length (by omega))
      rw [hii1.out] at HAr1
      have ww1 : IntKind.i64.wrap ((st.length : Int) + 1) = (st.length : Int) + 1 := IntWalk.i64_in _ ⟨by omega, by omega⟩
      have hci1 : ¬ ((ks : Int) < (i1 : Int)) := by omega
      have hcj1 : ¬ (ks < i1) := by omega
      have hcl1 : i1 ≤ ks := by omega
      go_upto_region 14 with fail
      have HGd := Lib.hid (HG.out.below (Below.refl _ _).drew HG.out.lt)
      have HPd := Lib.hid (HP.out.below (Below.refl _ _).drew HP.out.lt)
      have HBd := Lib.hid HB.out.drew
      clear HG HP HB
      refine wp_region_noPanic ?_
      refine region_T (s := 12) (S := fun W => W.cell? ⟨P, 3, none⟩ = some (.slice as_ st.length ks)) (by kernel_rfl) ?_
      change wpT _ _ _ _ _ 13 _ _ V5.drew
      generalize V5.drew = X0 at *
      refine T_takeD (k := 0) (v := .slice (some ⟨G, 0, none⟩) 8 8) (d := some 72) rfl rfl (by decide +kernel) (fun _ _ _ h => h) (Or.inl ⟨by rfl, fun W hW => by go_simp⟩) (HPd.out.cell 3) ?_
      try simp only [Act.put, List.setIfInBounds_toArray, List.set_cons_zero, List.set_cons_succ]
      refine T_takeD (k := 1) (v := .pointer (some ⟨P, 3, none⟩)) (d := some 73) rfl rfl (by decide +kernel) (fun _ _ _ h => h) (Or.inl ⟨by rfl, fun W hW => by go_simp⟩) (HPd.out.cell 3) ?_
      try simp only [Act.put, List.setIfInBounds_toArray, List.set_cons_zero, List.set_cons_succ]
      refine T_takeD (k := 2) (v := .slice as_ st.length ks) (d := some 74) rfl rfl (by decide +kernel) (fun _ _ _ h => h) (Or.inl ⟨by rfl, fun W hW => by go_simp⟩) (HPd.out.cell 3) ?_
      try simp only [Act.put, List.setIfInBounds_toArray, List.set_cons_zero, List.set_cons_succ]
      refine T_takeD (k := 3) (v := .int .i64 cut) (d := some 75) rfl rfl (by decide +kernel) (fun _ _ _ h => h) (Or.inl ⟨by rfl, fun W hW => by go_simp⟩) (HPd.out.cell 3) ?_
      try simp only [Act.put, List.setIfInBounds_toArray, List.set_cons_zero, List.set_cons_succ]
      refine T_takeD (k := 4) (v := .pointer (some ⟨P, 3, none⟩)) (d := some 76) rfl rfl (by decide +kernel) (fun _ _ _ h => h) (Or.inl ⟨by rfl, fun W hW => by go_simp⟩) (HPd.out.cell 3) ?_
      try simp only [Act.put, List.setIfInBounds_toArray, List.set_cons_zero, List.set_cons_succ]
      refine T_takeD (k := 5) (v := .slice as_ st.length ks) (d := some 77) rfl rfl (by decide +kernel) (fun _ _ _ h => h) (Or.inl ⟨by rfl, fun W hW => by go_simp⟩) (HPd.out.cell 3) ?_
      try simp only [Act.put, List.setIfInBounds_toArray, List.set_cons_zero, List.set_cons_succ]
      refine T_takeD (k := 6) (v := .int .i64 (st.length : Int)) (d := some 78) rfl rfl (by decide +kernel) (fun _ _ _ h => h) (Or.inl ⟨by rfl, fun W hW => by go_simp⟩) (HPd.out.cell 3) ?_
      try simp only [Act.put, List.setIfInBounds_toArray, List.set_cons_zero, List.set_cons_succ]
      refine T_takeD (k := 7) (v := .int .i64 ((st.length : Int) + 1)) (d := some 79) rfl rfl (by decide +kernel) (fun _ _ _ h => h) (Or.inl ⟨by rfl, fun W hW => by go_simp⟩) (HPd.out.cell 3) ?_
      try simp only [Act.put, List.setIfInBounds_toArray, List.set_cons_zero, List.set_cons_succ]
      refine T_oneS (i := 8) (by decide +kernel) (T_step rfl rfl (fun K hK8 => ?_))
      have hK8 := Lib.hid hK8
      go_simp
      go_at_call 15
      refine (HAr1.out _).mono ?_
      rintro e wz ⟨rfl, rfl⟩
      refine hK8.out _ _ (HPd.out.cell 3) ?_
      try simp only [Act.put, List.setIfInBounds_toArray, List.set_cons_zero, List.set_cons_succ]
      refine T_takeD (k := 9) (v := .slice as_ i1 ks) (d := some 81) rfl rfl (by decide +kernel) (fun _ _ _ h => h) (Or.inl ⟨by rfl, fun W hW => by go_simp⟩) (HPd.out.cell 3) ?_
      try simp only [Act.put, List.setIfInBounds_toArray, List.set_cons_zero, List.set_cons_succ]
      refine T_oneS (i := 10) (by decide +kernel) (T_step rfl rfl (fun K hK10 => ?_))
      have hK10 := Lib.hid hK10
      go_simp
      refine hK10.out _ _ (HPd.out.cell 3) ?_
      try simp only [Act.put, List.setIfInBounds_toArray, List.set_cons_zero, List.set_cons_succ]
      refine T_takeD (k := 11) (v := .pointer (some ⟨G, 66, none⟩)) (d := some 83) rfl rfl (by decide +kernel) (fun _ _ _ h => h) (Or.inl ⟨by rfl, fun W hW => by go_simp⟩) (HPd.out.cell 3) ?_
      try simp only [Act.put, List.setIfInBounds_toArray, List.set_cons_zero, List.set_cons_succ]
      refine T_last (by decide +kernel) (by decide +kernel) (by decide +kernel) rfl rfl (fun K hKl => ?_)
      have hKl := Lib.hid hKl
      have d3 : X0.cell? ⟨G, 66, none⟩ = some (.slice as_ st.length ks) := part_cell (k := 7) (i := 3) (q := ((⟨o, nu, nd, st, pl, ma, er, dr, rt⟩ : Pa), (⟨an, as_, al, am, ae, ad, ar, kn, ks, kl, km, ke, kd_, kr⟩ : Pw))) HGd.out rfl rfl 66 rfl
      have d4 := HGd.out.frozen 66
      go_simp
      refine hKl.out _ _ (NoPanic.normal ?_)
      try simp only [Act.put, List.setIfInBounds_toArray, List.set_cons_zero, List.set_cons_succ]
      clear hKl d3 d4
      have HG2 := Lib.hid (show Bk (X0.setCell ⟨G, 66, none⟩ (.slice as_ i1 ks)) G 34 (([((⟨o, nu, nd, st, [], [], [], [], []⟩ : Pa), (⟨an, as_, none, none, none, none, none, kn, ks, 0, 0, 0, 0, 0⟩ : Pw)), ((⟨o, nu, nd, [], pl, [], [], [], []⟩ : Pa), (⟨an, none, al, none, none, none, none, kn, 0, kl, 0, 0, 0, 0⟩ : Pw)), ((⟨o, nu, nd, [], [], ma, [], [], []⟩ : Pa), (⟨an, none, none, am, none, none, none, kn, 0, 0, km, 0, 0, 0⟩ : Pw)), ((⟨o, nu, nd, [], [], [], er, [], []⟩ : Pa), (⟨an, none, none, none, ae, none, none, kn, 0, 0, 0, ke, 0, 0⟩ : Pw)), ((⟨o, nu, nd, [], [], [], [], dr, []⟩ : Pa), (⟨an, none, none, none, none, ad, none, kn, 0, 0, 0, 0, kd_, 0⟩ : Pw)), ((⟨o, nu, nd, [], [], [], [], [], rt⟩ : Pa), (⟨an, none, none, none, none, none, ar, kn, 0, 0, 0, 0, 0, kr⟩ : Pw)), ((⟨o, nu, nd, [], [], [], [], [], []⟩ : Pa), (⟨an, none, none, none, none, none, none, kn, 0, 0, 0, 0, 0, 0⟩ : Pw)), ((⟨o, nu, nd, st.take i1, pl, ma, er, dr, rt⟩ : Pa), (⟨an, as_, al, am, ae, ad, ar, kn, ks, kl, km, ke, kd_, kr⟩ : Pw))] : List (Pa × Pw)).flatMap paV).toArray from HGd.out.part (k := 7) (i := 3) (q := ((⟨o, nu, nd, st, pl, ma, er, dr, rt⟩ : Pa), (⟨an, as_, al, am, ae, ad, ar, kn, ks, kl, km, ke, kd_, kr⟩ : Pw))) (q' := ((⟨o, nu, nd, st.take i1, pl, ma, er, dr, rt⟩ : Pa), (⟨an, as_, al, am, ae, ad, ar, kn, ks, kl, km, ke, kd_, kr⟩ : Pw))) rfl (by decide) (by simp only [paV, paC, List.set_cons_succ, List.set_cons_zero, List.length_take, Nat.min_eq_left hi1]) 66 rfl rfl)
      have HP2 := Lib.hid (HPd.out.far (p := ⟨G, 66, none⟩) (Nat.ne_of_lt hPG) (.slice as_ i1 ks))
      have HB2 := Lib.hid (HBd.out.setCell (p := ⟨G, 66, none⟩) hGz (.slice as_ i1 ks))
      clear HGd HPd HBd
      have HG := HG2
      have HP := HP2
      have HB := HB2
      clear HG2 HP2 HB2
      generalize X0.setCell ⟨G, 66, none⟩ (.slice as_ i1 ks) = V6 at *
      obtain ⟨i2, hii2⟩ : ∃ z : Nat, Hid (around cut ((ma.length : Int) + 1) = (z : Int)) := ⟨(around cut ((ma.length : Int) + 1)).toNat, Lib.hid (Int.toNat_of_nonneg (around_bd _ _ (by omega)).1).symm⟩
      have hi2 : i2 ≤ ma.length := by have h1 := around_bd cut ((ma.length : Int) + 1) (by omega); have h2 := hii2.out; omega
      have HAr2 := Lib.hid (HAr.out ma.length (by omega))
      rw [hii2.out] at HAr2
      have ww2 : IntKind.i64.wrap ((ma.length : Int) + 1) = (ma.length : Int) + 1 := IntWalk.i64_in _ ⟨by omega, by omega⟩
      have hci2 : ¬ ((km : Int) < (i2 : Int)) := by omega
      have hcj2 : ¬ (km < i2) := by omega
      have hcl2 : i2 ≤ km := by omega
      go_upto_region 15 with fail
      have HGd := Lib.hid (HG.out.below (Below.refl _ _).drew HG.out.lt)
      have HPd := Lib.hid (HP.out.below (Below.refl _ _).drew HP.out.lt)
      have HBd := Lib.hid HB.out.drew
      clear HG HP HB
      refine wp_region_noPanic ?_
      refine region_T (s := 12) (S := fun W => W.cell? ⟨P, 5, none⟩ = some (.slice am ma.length km)) (by kernel_rfl) ?_
      change wpT _ _ _ _ _ 13 _ _ V6.drew
      generalize V6.drew = X0 at *
      refine T_takeD (k := 0) (v := .slice (some ⟨G, 0, none⟩) 8 8) (d := some 84) rfl rfl (by decide +kernel) (fun _ _ _ h => h) (Or.inl ⟨by rfl, fun W hW => by go_simp⟩) (HPd.out.cell 5) ?_
      try simp only [Act.put, List.setIfInBounds_toArray, List.set_cons_zero, List.set_cons_succ]
      refine T_takeD (k := 1) (v := .pointer (some ⟨P, 5, none⟩)) (d := some 85) rfl rfl (by decide +kernel) (fun _ _ _ h => h) (Or.inl ⟨by rfl, fun W hW => by go_simp⟩) (HPd.out.cell 5) ?_
      try simp only [Act.put, List.setIfInBounds_toArray, List.set_cons_zero, List.set_cons_succ]
      refine T_takeD (k := 2) (v := .slice am ma.length km) (d := some 86) rfl rfl (by decide +kernel) (fun _ _ _ h => h) (Or.inl ⟨by rfl, fun W hW => by go_simp⟩) (HPd.out.cell 5) ?_
      try simp only [Act.put, List.setIfInBounds_toArray, List.set_cons_zero, List.set_cons_succ]
      refine T_takeD (k := 3) (v := .int .i64 cut) (d := some 87) rfl rfl (by decide +kernel) (fun _ _ _ h => h) (Or.inl ⟨by rfl, fun W hW => by go_simp⟩) (HPd.out.cell 5) ?_
      try simp only [Act.put, List.setIfInBounds_toArray, List.set_cons_zero, List.set_cons_succ]
      refine T_takeD (k := 4) (v := .pointer (some ⟨P, 5, none⟩)) (d := some 88) rfl rfl (by decide +kernel) (fun _ _ _ h => h) (Or.inl ⟨by rfl, fun W hW => by go_simp⟩) (HPd.out.cell 5) ?_
      try simp only [Act.put, List.setIfInBounds_toArray, List.set_cons_zero, List.set_cons_succ]
      refine T_takeD (k := 5) (v := .slice am ma.length km) (d := some 89) rfl rfl (by decide +kernel) (fun _ _ _ h => h) (Or.inl ⟨by rfl, fun W hW => by go_simp⟩) (HPd.out.cell 5) ?_
      try simp only [Act.put, List.setIfInBounds_toArray, List.set_cons_zero, List.set_cons_succ]
      refine T_takeD (k := 6) (v := .int .i64 (ma.length : Int)) (d := some 90) rfl rfl (by decide +kernel) (fun _ _ _ h => h) (Or.inl ⟨by rfl, fun W hW => by go_simp⟩) (HPd.out.cell 5) ?_
      try simp only [Act.put, List.setIfInBounds_toArray, List.set_cons_zero, List.set_cons_succ]
      refine T_takeD (k := 7) (v := .int .i64 ((ma.length : Int) + 1)) (d := some 91) rfl rfl (by decide +kernel) (fun _ _ _ h => h) (Or.inl ⟨by rfl, fun W hW => by go_simp⟩) (HPd.out.cell 5) ?_
      try simp only [Act.put, List.setIfInBounds_toArray, List.set_cons_zero, List.set_cons_succ]
      refine T_oneS (i := 8) (by decide +kernel) (T_step rfl rfl (fun K hK8 => ?_))
      have hK8 := Lib.hid hK8
      go_simp
      go_at_call 15
      refine (HAr2.out _).mono ?_
      rintro e wz ⟨rfl, rfl⟩
      refine hK8.out _ _ (HPd.out.cell 5) ?_
      try simp only [Act.put, List.setIfInBounds_toArray, List.set_cons_zero, List.set_cons_succ]
      refine T_takeD (k := 9) (v := .slice am i2 km) (d := some 93) rfl rfl (by decide +kernel) (fun _ _ _ h => h) (Or.inl ⟨by rfl, fun W hW => by go_simp⟩) (HPd.out.cell 5) ?_
      try simp only [Act.put, List.setIfInBounds_toArray, List.set_cons_zero, List.set_cons_succ]
      refine T_oneS (i := 10) (by decide +kernel) (T_step rfl rfl (fun K hK10 => ?_))
      have hK10 := Lib.hid hK10
      go_simp
      refine hK10.out _ _ (HPd.out.cell 5) ?_
      try simp only [Act.put, List.setIfInBounds_toArray, List.set_cons_zero, List.set_cons_succ]
      refine T_takeD (k := 11) (v := .pointer (some ⟨G, 68, none⟩)) (d := some 95) rfl rfl (by decide +kernel) (fun _ _ _ h => h) (Or.inl ⟨by rfl, fun W hW => by go_simp⟩) (HPd.out.cell 5) ?_
      try simp only [Act.put, List.setIfInBounds_toArray, List.set_cons_zero, List.set_cons_succ]
      refine T_last (by decide +kernel) (by decide +kernel) (by decide +kernel) rfl rfl (fun K hKl => ?_)
      have hKl := Lib.hid hKl
      have d3 : X0.cell? ⟨G, 68, none⟩ = some (.slice am ma.length km) := part_cell (k := 7) (i := 5) (q := ((⟨o, nu, nd, st.take i1, pl, ma, er, dr, rt⟩ : Pa), (⟨an, as_, al, am, ae, ad, ar, kn, ks, kl, km, ke, kd_, kr⟩ : Pw))) HGd.out rfl rfl 68 rfl
      have d4 := HGd.out.frozen 68
      go_simp
      refine hKl.out _ _ (NoPanic.normal ?_)
      try simp only [Act.put, List.setIfInBounds_toArray, List.set_cons_zero, List.set_cons_succ]
      clear hKl d3 d4
      have HG2 := Lib.hid (show Bk (X0.setCell ⟨G, 68, none⟩ (.slice am i2 km)) G 34 (([((⟨o, nu, nd, st, [], [], [], [], []⟩ : Pa), (⟨an, as_, none, none, none, none, none, kn, ks, 0, 0, 0, 0, 0⟩ : Pw)), ((⟨o, nu, nd, [], pl, [], [], [], []⟩ : Pa), (⟨an, none, al, none, none, none, none, kn, 0, kl, 0, 0, 0, 0⟩ : Pw)), ((⟨o, nu, nd, [], [], ma, [], [], []⟩ : Pa), (⟨an, none, none, am, none, none, none, kn, 0, 0, km, 0, 0, 0⟩ : Pw)), ((⟨o, nu, nd, [], [], [], er, [], []⟩ : Pa), (⟨an, none, none, none, ae, none, none, kn, 0, 0, 0, ke, 0, 0⟩ : Pw)), ((⟨o, nu, nd, [], [], [], [], dr, []⟩ : Pa), (⟨an, none, none, none, none, ad, none, kn, 0, 0, 0, 0, kd_, 0⟩ : Pw)), ((⟨o, nu, nd, [], [], [], [], [], rt⟩ : Pa), (⟨an, none, none, none, none, none, ar, kn, 0, 0, 0, 0, 0, kr⟩ : Pw)), ((⟨o, nu, nd, [], [], [], [], [], []⟩ : Pa), (⟨an, none, none, none, none, none, none, kn, 0, 0, 0, 0, 0, 0⟩ : Pw)), ((⟨o, nu, nd, st.take i1, pl, ma.take i2, er, dr, rt⟩ : Pa), (⟨an, as_, al, am, ae, ad, ar, kn, ks, kl, km, ke, kd_, kr⟩ : Pw))] : List (Pa × Pw)).flatMap paV).toArray from HGd.out.part (k := 7) (i := 5) (q := ((⟨o, nu, nd, st.take i1, pl, ma, er, dr, rt⟩ : Pa), (⟨an, as_, al, am, ae, ad, ar, kn, ks, kl, km, ke, kd_, kr⟩ : Pw))) (q' := ((⟨o, nu, nd, st.take i1, pl, ma.take i2, er, dr, rt⟩ : Pa), (⟨an, as_, al, am, ae, ad, ar, kn, ks, kl, km, ke, kd_, kr⟩ : Pw))) rfl (by decide) (by simp only [paV, paC, List.set_cons_succ, List.set_cons_zero, List.length_take, Nat.min_eq_left hi1, Nat.min_eq_left hi2]) 68 rfl rfl)
      have HP2 := Lib.hid (HPd.out.far (p := ⟨G, 68, none⟩) (Nat.ne_of_lt hPG) (.slice am i2 km))
      have HB2 := Lib.hid (HBd.out.setCell (p := ⟨G, 68, none⟩) hGz (.slice am i2 km))
      clear HGd HPd HBd
      have HG := HG2
      have HP := HP2
      have HB := HB2
      clear HG2 HP2 HB2
      generalize X0.setCell ⟨G, 68, none⟩ (.slice am i2 km) = V7 at *
      obtain ⟨i3, hii3⟩ : ∃ z : Nat, Hid (around cut ((er.length : Int) + 1) = (z : Int)) := ⟨(around cut ((er.length : Int) + 1)).toNat, Lib.hid (Int.toNat_of_nonneg (around_bd _ _ (by omega)).1).symm⟩
      have hi3 : i3 ≤ er.length := by have h1 := around_bd cut ((er.length : Int) + 1) (by omega); have h2 := hii3.out; omega
      have HAr3 := Lib.hid (HAr.out er.length (by omega))
      rw [hii3.out] at HAr3
      have ww3 : IntKind.i64.wrap ((er.length : Int) + 1) = (er.length : Int) + 1 := IntWalk.i64_in _ ⟨by omega, by omega⟩
      have hci3 : ¬ ((ke : Int) < (i3 : Int)) := by omega
      have hcj3 : ¬ (ke < i3) := by omega
      have hcl3 : i3 ≤ ke := by omega
      go_upto_region 16 with fail
      have HGd := Lib.hid (HG.out.below (Below.refl _ _).drew HG.out.lt)
      have HPd := Lib.hid (HP.out.below (Below.refl _ _).drew HP.out.lt)
      have HBd := Lib.hid HB.out.drew
      clear HG HP HB
      refine wp_region_noPanic ?_
      refine region_T (s := 12) (S := fun W => W.cell? ⟨P, 6, none⟩ = some (.slice ae er.length ke)) (by kernel_rfl) ?_
      change wpT _ _ _ _ _ 13 _ _ V7.drew
      generalize V7.drew = X0 at *
      refine T_takeD (k := 0) (v := .slice (some ⟨G, 0, none⟩) 8 8) (d := some 96) rfl rfl (by decide +kernel) (fun _ _ _ h => h) (Or.inl ⟨by rfl, fun W hW => by go_simp⟩) (HPd.out.cell 6) ?_
      try simp only [Act.put, List.setIfInBounds_toArray, List.set_cons_zero, List.set_cons_succ]
      refine T_takeD (k := 1) (v := .pointer (some ⟨P, 6, none⟩)) (d := some 97) rfl rfl (by decide +kernel) (fun _ _ _ h => h) (Or.inl ⟨by rfl, fun W hW => by go_simp⟩) (HPd.out.cell 6) ?_
      try simp only [Act.put, List.setIfInBounds_toArray, List.set_cons_zero, List.set_cons_succ]
      refine T_takeD (k := 2) (v := .slice ae er.length ke) (d := some 98) rfl rfl (by decide +kernel) (fun _ _ _ h => h) (Or.inl ⟨by rfl, fun W hW => by go_simp⟩) (HPd.out.cell 6) ?_
      try simp only [Act.put, List.setIfInBounds_toArray, List.set_cons_zero, List.set_cons_succ]
      refine T_takeD (k := 3) (v := .int .i64 cut) (d := some 99) rfl rfl (by decide +kernel) (fun _ _ _ h => h) (Or.inl ⟨by rfl, fun W hW => by go_simp⟩) (HPd.out.cell 6) ?_
      try simp only [Act.put, List.setIfInBounds_toArray, List.set_cons_zero, List.set_cons_succ]
      refine T_takeD (k := 4) (v := .pointer (some ⟨P, 6, none⟩)) (d := some 100) rfl rfl (by decide +kernel) (fun _ _ _ h => h) (Or.inl ⟨by rfl, fun W hW => by go_simp⟩) (HPd.out.cell 6) ?_
      try simp only [Act.put, List.setIfInBounds_toArray, List.set_cons_zero, List.set_cons_succ]
      refine T_takeD (k := 5) (v := .slice ae er.length ke) (d := some 101) rfl rfl (by decide +kernel) (fun _ _ _ h => h) (Or.inl ⟨by rfl, fun W hW => by go_simp⟩) (HPd.out.cell 6) ?_
      try simp only [Act.put, List.setIfInBounds_toArray, List.set_cons_zero, List.set_cons_succ]
      refine T_takeD (k := 6) (v := .int .i64 (er.length : Int)) (d := some 102) rfl rfl (by decide +kernel) (fun _ _ _ h => h) (Or.inl ⟨by rfl, fun W hW => by go_simp⟩) (HPd.out.cell 6) ?_
      try simp only [Act.put, List.setIfInBounds_toArray, List.set_cons_zero, List.set_cons_succ]
      refine T_takeD (k := 7) (v := .int .i64 ((er.length : Int) + 1)) (d := some 103) rfl rfl (by decide +kernel) (fun _ _ _ h => h) (Or.inl ⟨by rfl, fun W hW => by go_simp⟩) (HPd.out.cell 6) ?_
      try simp only [Act.put, List.setIfInBounds_toArray, List.set_cons_zero, List.set_cons_succ]
      refine T_oneS (i := 8) (by decide +kernel) (T_step rfl rfl (fun K hK8 => ?_))
      have hK8 := Lib.hid hK8
      go_simp
      go_at_call 15
      refine (HAr3.out _).mono ?_
      rintro e wz ⟨rfl, rfl⟩
      refine hK8.out _ _ (HPd.out.cell 6) ?_
      try simp only [Act.put, List.setIfInBounds_toArray, List.set_cons_zero, List.set_cons_succ]
      refine T_takeD (k := 9) (v := .slice ae i3 ke) (d := some 105) rfl rfl (by decide +kernel) (fun _ _ _ h => h) (Or.inl ⟨by rfl, fun W hW => by go_simp⟩) (HPd.out.cell 6) ?_
      try simp only [Act.put, List.setIfInBounds_toArray, List.set_cons_zero, List.set_cons_succ]
      refine T_oneS (i := 10) (by decide +kernel) (T_step rfl rfl (fun K hK10 => ?_))
      have hK10 := Lib.hid hK10
      go_simp
      refine hK10.out _ _ (HPd.out.cell 6) ?_
      try simp only [Act.put, List.setIfInBounds_toArray, List.set_cons_zero, List.set_cons_succ]
      refine T_takeD (k := 11) (v := .pointer (some ⟨G, 69, none⟩)) (d := some 107) rfl rfl (by decide +kernel) (fun _ _ _ h => h) (Or.inl ⟨by rfl, fun W hW => by go_simp⟩) (HPd.out.cell 6) ?_
      try simp only [Act.put, List.setIfInBounds_toArray, List.set_cons_zero, List.set_cons_succ]
      refine T_last (by decide +kernel) (by decide +kernel) (by decide +kernel) rfl rfl (fun K hKl => ?_)
      have hKl := Lib.hid hKl
      have d3 : X0.cell? ⟨G, 69, none⟩ = some (.slice ae er.length ke) := part_cell (k := 7) (i := 6) (q := ((⟨o, nu, nd, st.take i1, pl, ma.take i2, er, dr, rt⟩ : Pa), (⟨an, as_, al, am, ae, ad, ar, kn, ks, kl, km, ke, kd_, kr⟩ : Pw))) HGd.out rfl rfl 69 rfl
      have d4 := HGd.out.frozen 69
      go_simp
      refine hKl.out _ _ (NoPanic.normal ?_)
      try simp only [Act.put, List.setIfInBounds_toArray, List.set_cons_zero, List.set_cons_succ]
      clear hKl d3 d4
      have HG2 := Lib.hid (show Bk (X0.setCell ⟨G, 69, none⟩ (.slice ae i3 ke)) G 34 (([((⟨o, nu, nd, st, [], [], [], [], []⟩ : Pa), (⟨an, as_, none, none, none, none, none, kn, ks, 0, 0, 0, 0, 0⟩ : Pw)), ((⟨o, nu, nd, [], pl, [], [], [], []⟩ : Pa), (⟨an, none, al, none, none, none, none, kn, 0, kl, 0, 0, 0, 0⟩ : Pw)), ((⟨o, nu, nd, [], [], ma, [], [], []⟩ : Pa), (⟨an, none, none, am, none, none, none, kn, 0, 0, km, 0, 0, 0⟩ : Pw)), ((⟨o, nu, nd, [], [], [], er, [], []⟩ : Pa), (⟨an, none, none, none, ae, none, none, kn, 0, 0, 0, ke, 0, 0⟩ : Pw)), ((⟨o, nu, nd, [], [], [], [], dr, []⟩ : Pa), (⟨an, none, none, none, none, ad, none, kn, 0, 0, 0, 0, kd_, 0⟩ : Pw)), ((⟨o, nu, nd, [], [], [], [], [], rt⟩ : Pa), (⟨an, none, none, none, none, none, ar, kn, 0, 0, 0, 0, 0, kr⟩ : Pw)), ((⟨o, nu, nd, [], [], [], [], [], []⟩ : Pa), (⟨an, none, none, none, none, none, none, kn, 0, 0, 0, 0, 0, 0⟩ : Pw)), ((⟨o, nu, nd, st.take i1, pl, ma.take i2, er.take i3, dr, rt⟩ : Pa), (⟨an, as_, al, am, ae, ad, ar, kn, ks, kl, km, ke, kd_, kr⟩ : Pw))] : List (Pa × Pw)).flatMap paV).toArray from HGd.out.part (k := 7) (i := 6) (q := ((⟨o, nu, nd, st.take i1, pl, ma.take i2, er, dr, rt⟩ : Pa), (⟨an, as_, al, am, ae, ad, ar, kn, ks, kl, km, ke, kd_, kr⟩ : Pw))) (q' := ((⟨o, nu, nd, st.take i1, pl, ma.take i2, er.take i3, dr, rt⟩ : Pa), (⟨an, as_, al, am, ae, ad, ar, kn, ks, kl, km, ke, kd_, kr⟩ : Pw))) rfl (by decide) (by simp only [paV, paC, List.set_cons_succ, List.set_cons_zero, List.length_take, Nat.min_eq_left hi1, Nat.min_eq_left hi2, Nat.min_eq_left hi3]) 69 rfl rfl)
      have HP2 := Lib.hid (HPd.out.far (p := ⟨G, 69, none⟩) (Nat.ne_of_lt hPG) (.slice ae i3 ke))
      have HB2 := Lib.hid (HBd.out.setCell (p := ⟨G, 69, none⟩) hGz (.slice ae i3 ke))
      clear HGd HPd HBd
      have HG := HG2
      have HP := HP2
      have HB := HB2
      clear HG2 HP2 HB2
      generalize X0.setCell ⟨G, 69, none⟩ (.slice ae i3 ke) = V8 at *
      have HGP := Lib.hid (gp_parts HPB.out.pt HPO.out i1 i2 i3)
      have hq8 : ([((⟨o, nu, nd, st, [], [], [], [], []⟩ : Pa), (⟨an, as_, none, none, none, none, none, kn, ks, 0, 0, 0, 0, 0⟩ : Pw)), ((⟨o, nu, nd, [], pl, [], [], [], []⟩ : Pa), (⟨an, none, al, none, none, none, none, kn, 0, kl, 0, 0, 0, 0⟩ : Pw)), ((⟨o, nu, nd, [], [], ma, [], [], []⟩ : Pa), (⟨an, none, none, am, none, none, none, kn, 0, 0, km, 0, 0, 0⟩ : Pw)), ((⟨o, nu, nd, [], [], [], er, [], []⟩ : Pa), (⟨an, none, none, none, ae, none, none, kn, 0, 0, 0, ke, 0, 0⟩ : Pw)), ((⟨o, nu, nd, [], [], [], [], dr, []⟩ : Pa), (⟨an, none, none, none, none, ad, none, kn, 0, 0, 0, 0, kd_, 0⟩ : Pw)), ((⟨o, nu, nd, [], [], [], [], [], rt⟩ : Pa), (⟨an, none, none, none, none, none, ar, kn, 0, 0, 0, 0, 0, kr⟩ : Pw)), ((⟨o, nu, nd, [], [], [], [], [], []⟩ : Pa), (⟨an, none, none, none, none, none, none, kn, 0, 0, 0, 0, 0, 0⟩ : Pw)), ((⟨o, nu, nd, st.take i1, pl, ma.take i2, er.take i3, dr, rt⟩ : Pa), (⟨an, as_, al, am, ae, ad, ar, kn, ks, kl, km, ke, kd_, kr⟩ : Pw))] : List (Pa × Pw)).length = 8 := rfl
      obtain ⟨qs, hqs⟩ : ∃ z, Hid (([((⟨o, nu, nd, st, [], [], [], [], []⟩ : Pa), (⟨an, as_, none, none, none, none, none, kn, ks, 0, 0, 0, 0, 0⟩ : Pw)), ((⟨o, nu, nd, [], pl, [], [], [], []⟩ : Pa), (⟨an, none, al, none, none, none, none, kn, 0, kl, 0, 0, 0, 0⟩ : Pw)), ((⟨o, nu, nd, [], [], ma, [], [], []⟩ : Pa), (⟨an, none, none, am, none, none, none, kn, 0, 0, km, 0, 0, 0⟩ : Pw)), ((⟨o, nu, nd, [], [], [], er, [], []⟩ : Pa), (⟨an, none, none, none, ae, none, none, kn, 0, 0, 0, ke, 0, 0⟩ : Pw)), ((⟨o, nu, nd, [], [], [], [], dr, []⟩ : Pa), (⟨an, none, none, none, none, ad, none, kn, 0, 0, 0, 0, kd_, 0⟩ : Pw)), ((⟨o, nu, nd, [], [], [], [], [], rt⟩ : Pa), (⟨an, none, none, none, none, none, ar, kn, 0, 0, 0, 0, 0, kr⟩ : Pw)), ((⟨o, nu, nd, [], [], [], [], [], []⟩ : Pa), (⟨an, none, none, none, none, none, none, kn, 0, 0, 0, 0, 0, 0⟩ : Pw)), ((⟨o, nu, nd, st.take i1, pl, ma.take i2, er.take i3, dr, rt⟩ : Pa), (⟨an, as_, al, am, ae, ad, ar, kn, ks, kl, km, ke, kd_, kr⟩ : Pw))] : List (Pa × Pw)) = z) := ⟨_, Lib.hid rfl⟩
      rw [hqs.out] at HG HGP hq8
      have Hq8 := Lib.hid hq8
      clear hq8 hii1 hii2 hii3 HAr1 HAr2 HAr3 ww1 ww2 ww3 hci1 hci2 hci3 hcj1 hcj2 hcj3 hcl1 hcl2 hcl3
      go_wp2_with fail
      go_loopw [10] (fun v wr2 => ∃ j : Nat, j ≤ 8 ∧ v = .int .i64 (j : Int) ∧ Hid (Below V8.heap.size V8 wr2)) (fun v _ => 8 - (intOf v).toNat)
      case atStart => exact ⟨0, by omega, rfl, Lib.hid (Below.refl _ _)⟩
      case round =>
        obtain ⟨j, hj, rfl, HB2⟩ := hrel
        by_cases hj8 : j < 8
        · have hjq := List.getElem?_eq_getElem (l := qs) (i := j) (by rw [Hq8.out]; exact hj8)
          obtain ⟨⟨pj, aj⟩, hqj⟩ : ∃ z, Hid (qs[j]? = some z) := ⟨_, Lib.hid hjq⟩
          obtain ⟨hpt, hpo⟩ := HGP.out _ (List.mem_of_getElem? hqj.out)
          have hjj : ¬ (8 : Int) ≤ (j : Int) := by omega
          have hV := patchValid_any pj aj wr ((hpt.below HB.out).below HB2.out) (po_pln hpo)
          rw [hpo.ok] at hV
          have HV := Lib.hid hV
          clear hjq hpt hpo hV
          have c0 : wr.cell? ⟨G, j * 9, none⟩ = some (.int .i64 pj.office) := part_cell (HG.out.below HB2.out HG.out.lt) hqj.out (i := 0) rfl _ rfl
          have c1 : wr.cell? ⟨G, j * 9 + 1, none⟩ = some (.int .i64 pj.num) := part_cell (HG.out.below HB2.out HG.out.lt) hqj.out (i := 1) rfl _ rfl
          have c2 : wr.cell? ⟨G, j * 9 + 2, none⟩ = some (.slice aj.n pj.needs.length aj.cn) := part_cell (HG.out.below HB2.out HG.out.lt) hqj.out (i := 2) rfl _ rfl
          have c3 : wr.cell? ⟨G, j * 9 + 3, none⟩ = some (.slice aj.s pj.st.length aj.cs) := part_cell (HG.out.below HB2.out HG.out.lt) hqj.out (i := 3) rfl _ rfl
          have c4 : wr.cell? ⟨G, j * 9 + 4, none⟩ = some (.slice aj.l pj.pl.length aj.cl) := part_cell (HG.out.below HB2.out HG.out.lt) hqj.out (i := 4) rfl _ rfl
          have c5 : wr.cell? ⟨G, j * 9 + 5, none⟩ = some (.slice aj.m pj.ma.length aj.cm) := part_cell (HG.out.below HB2.out HG.out.lt) hqj.out (i := 5) rfl _ rfl
          have c6 : wr.cell? ⟨G, j * 9 + 6, none⟩ = some (.slice aj.e pj.er.length aj.ce) := part_cell (HG.out.below HB2.out HG.out.lt) hqj.out (i := 6) rfl _ rfl
          have c7 : wr.cell? ⟨G, j * 9 + 7, none⟩ = some (.slice aj.d pj.dr.length aj.cd) := part_cell (HG.out.below HB2.out HG.out.lt) hqj.out (i := 7) rfl _ rfl
          have c8 : wr.cell? ⟨G, j * 9 + 8, none⟩ = some (.slice aj.r pj.rt.length aj.cr) := part_cell (HG.out.below HB2.out HG.out.lt) hqj.out (i := 8) rfl _ rfl
          go_wp2_with fail
          refine HV.out.mono ?_
          rintro e wv ⟨rfl, hb_⟩
          have HB3 := Lib.hid (HB2.out.trans (hb_.mono HB2.out.size))
          clear hb_ HB2 HV c0 c1 c2 c3 c4 c5 c6 c7 c8
          go_wp2_with fail
          go_roundw
          case rel => exact ⟨j + 1, by omega, by go_num, HB3⟩
          case measure => simp [intOf]; omega
        · have hj8i : ¬ (j : Int) < 8 := by omega
          go_wp2_with fail
          go_loopw [11] (fun v wr3 => ∃ j : Nat, j ≤ st.length ∧ v = .int .i64 (j : Int) ∧ Hid (Below V8.heap.size V8 wr3)) (fun v _ => st.length - (intOf v).toNat)
          case atStart => exact ⟨0, by omega, rfl, HB2⟩
          case round =>
            clear HB2
            obtain ⟨m, hm, rfl, HB3⟩ := hrel
            have HP3 := Lib.hid (HP.out.below HB3.out HP.out.lt)
            have p3 : wr.cell? ⟨P, 3, none⟩ = some (.slice as_ st.length ks) := HP3.out.cell 3
            by_cases hms : m < st.length
            · obtain ⟨bS, oS, s, C, cC, hSe, s0, s1, s2, s3, s4, hSC, hcl, hsi⟩ := SS.get (((HPB.out.below HB.out).below HB3.out).pt.s) hms
              have hsk := HPO.out.st.2 s (List.mem_of_getElem? hsi.out)
              obtain ⟨hp1, hp2⟩ := sk_pts hsk
              have hne := sk_ne hsk
              have Hcl := Lib.hid (sk_cl hsk)
              obtain ⟨ax, ay, bx, by_, cl⟩ := s
              have HPa := Lib.hid (fun W => hp1 ▸ point_any ax ay W)
              have HPb := Lib.hid (fun W => hp2 ▸ point_any bx by_ W)
              have heq := fun W => hne ▸ eql_point ax ay bx by_ W
              have hmi : ¬ (st.length : Int) ≤ (m : Int) := by omega
              have as1 : as_ = some ⟨bS, oS, none⟩ := hSe
              have HT := Lib.hid (Bk.new wr 62 #[.int .i64 ax, .int .i64 ay, .int .i64 bx, .int .i64 by_, .slice C cl.length cC])
              have HB4 := Lib.hid (HB3.out.alloc HB3.out.size (.cells #[.int .i64 ax, .int .i64 ay, .int .i64 bx, .int .i64 by_, .slice C cl.length cC] 62))
              have HC4 := Lib.hid (show SC _ C cl from hSC.below ((Below.refl _ _).alloc (Nat.le_refl _) (.cells #[.int .i64 ax, .int .i64 ay, .int .i64 bx, .int .i64 by_, .slice C cl.length cC] 62)))
              rw [as1] at p3
              clear hsk hp1 hp2 hne hSC hsi HB3 HP3 hSe
              go_upto_region 26 with fail
              generalize wr.alloc (.cells #[.int .i64 ax, .int .i64 ay, .int .i64 bx, .int .i64 by_, .slice C cl.length cC] 62) = Y0 at *
              generalize wr.heap.size = T at *
              clear p3 s0 s1 s2 s3 s4 as1
              have t0 : Y0.cell? ⟨T, 0, none⟩ = some (.int .i64 ax) := HT.out.cell 0
              have t1 : Y0.cell? ⟨T, 1, none⟩ = some (.int .i64 ay) := HT.out.cell 1
              have t2 : Y0.cell? ⟨T, 2, none⟩ = some (.int .i64 bx) := HT.out.cell 2
              have t3 : Y0.cell? ⟨T, 3, none⟩ = some (.int .i64 by_) := HT.out.cell 3
              have t4 : Y0.cell? ⟨T, 4, none⟩ = some (.slice C cl.length cC) := HT.out.cell 4
              go_wp2_with fail
              refine (HPa.out _).mono ?_
              rintro e Y1 ⟨rfl, hb_⟩
              have HT1 := Lib.hid (HT.out.below hb_ HT.out.lt)
              have HB5 := Lib.hid (HB4.out.trans (hb_.mono HB4.out.size))
              have HC5 := Lib.hid (show SC _ C cl from HC4.out.below hb_)
              clear hb_ HT HB4 HC4 t0 t1 t2 t3 t4
              have t0 : Y1.cell? ⟨T, 0, none⟩ = some (.int .i64 ax) := HT1.out.cell 0
              have t1 : Y1.cell? ⟨T, 1, none⟩ = some (.int .i64 ay) := HT1.out.cell 1
              have t2 : Y1.cell? ⟨T, 2, none⟩ = some (.int .i64 bx) := HT1.out.cell 2
              have t3 : Y1.cell? ⟨T, 3, none⟩ = some (.int .i64 by_) := HT1.out.cell 3
              have t4 : Y1.cell? ⟨T, 4, none⟩ = some (.slice C cl.length cC) := HT1.out.cell 4
              go_wp2_with fail
              refine (HPb.out _).mono ?_
              rintro e Y2 ⟨rfl, hb_⟩
              have HT2 := Lib.hid (HT1.out.below hb_ HT1.out.lt)
              have HB6 := Lib.hid (HB5.out.trans (hb_.mono HB5.out.size))
              have HC6 := Lib.hid (show SC _ C cl from HC5.out.below hb_)
              clear hb_ HT1 HB5 HC5 t0 t1 t2 t3 t4
              have t0 : Y2.cell? ⟨T, 0, none⟩ = some (.int .i64 ax) := HT2.out.cell 0
              have t1 : Y2.cell? ⟨T, 1, none⟩ = some (.int .i64 ay) := HT2.out.cell 1
              have t2 : Y2.cell? ⟨T, 2, none⟩ = some (.int .i64 bx) := HT2.out.cell 2
              have t3 : Y2.cell? ⟨T, 3, none⟩ = some (.int .i64 by_) := HT2.out.cell 3
              have t4 : Y2.cell? ⟨T, 4, none⟩ = some (.slice C cl.length cC) := HT2.out.cell 4
              go_wp2_with fail
              clear t0 t1 t2 t3 t4 heq
              go_loopw [13] (fun v wr4 => ∃ j : Nat, j ≤ cl.length ∧ v = .int .i64 (j : Int) ∧ Hid (Below Y2.heap.size Y2 wr4)) (fun v _ => cl.length - (intOf v).toNat)
              case atStart => exact ⟨0, by omega, rfl, Lib.hid (Below.refl _ _)⟩
              case round =>
                obtain ⟨u, hu, rfl, HB7⟩ := hrel
                have HT3 := Lib.hid (HT2.out.below HB7.out HT2.out.lt)
                have t4 : wr.cell? ⟨T, 4, none⟩ = some (.slice C cl.length cC) := HT3.out.cell 4
                by_cases hul : u < cl.length
                · obtain ⟨bC, oC, t, hCe, e0, e1, e2, e3, e4, hti⟩ := SC.get (HC6.out.below HB7.out) hul
                  obtain ⟨hce, hco⟩ := Hcl.out t (List.mem_of_getElem? hti.out)
                  obtain ⟨ck, co, cf, ct, cd⟩ := t
                  have hco : co = o := hco
                  subst hco
                  subst hCe
                  have hci : ¬ (cl.length : Int) ≤ (u : Int) := by omega
                  have HCl := Lib.hid (fun W => (show Calls Tryz.prog 25 #[.agg #[.int .i64 ck, .int .i64 co, .int .i64 cf, .int .i64 ct, .int .i64 cd]] W fun e w' => e = .returned (.int .i64 0) ∧ Below W.heap.size W w' from hce ▸ claim_any ⟨ck, co, cf, ct, cd⟩ W))
                  have HE := Lib.hid (fun W (h : Below wr.heap.size wr W) => show W.cell? ⟨bC, oC + u * 5, none⟩ = some (.int .i64 ck) ∧ W.cell? ⟨bC, oC + u * 5 + 1, none⟩ = some (.int .i64 co) ∧ W.cell? ⟨bC, oC + u * 5 + 2, none⟩ = some (.int .i64 cf) ∧ W.cell? ⟨bC, oC + u * 5 + 3, none⟩ = some (.int .i64 ct) ∧ W.cell? ⟨bC, oC + u * 5 + 4, none⟩ = some (.int .i64 cd) from ⟨(h.cell (World.block_lt_of_cell? _ _ e0)).trans e0, (h.cell (World.block_lt_of_cell? _ _ e1)).trans e1, (h.cell (World.block_lt_of_cell? _ _ e2)).trans e2, (h.cell (World.block_lt_of_cell? _ _ e3)).trans e3, (h.cell (World.block_lt_of_cell? _ _ e4)).trans e4⟩)
                  have HPz := Lib.hid ((HP.out.below (HB6.out.trans (HB7.out.mono HB6.out.size)) HP.out.lt))
                  clear hce hti e0 e1 e2 e3 e4
                  go_upto_region 31 with fail
                  clear t4
                  have HBd := Lib.hid HB7.out.drew
                  have HXd := Lib.hid ((Below.refl wr.heap.size wr).drew)
                  have HTd := Lib.hid (HT3.out.below (Below.refl _ _).drew HT3.out.lt)
                  have HPd := Lib.hid (HPz.out.below (Below.refl _ _).drew HPz.out.lt)
                  clear HB7 HT3 HPz
                  refine wp_region_noPanic ?_
                  refine region_H (S := fun W => W.cell? ⟨T, 4, none⟩ = some (.slice (some ⟨bC, oC, none⟩) cl.length cC) ∧ W.cell? ⟨P, 0, none⟩ = some (.int .i64 co) ∧ W.cell? ⟨bC, oC + u * 5, none⟩ = some (.int .i64 ck) ∧ W.cell? ⟨bC, oC + u * 5 + 1, none⟩ = some (.int .i64 co) ∧ W.cell? ⟨bC, oC + u * 5 + 2, none⟩ = some (.int .i64 cf) ∧ W.cell? ⟨bC, oC + u * 5 + 3, none⟩ = some (.int .i64 ct) ∧ W.cell? ⟨bC, oC + u * 5 + 4, none⟩ = some (.int .i64 cd)) (by kernel_rfl) ?_
                  change wpH _ _ _ _ 18 _ _ wr.drew
                  generalize wr.drew = X0 at *
                  refine H_takeD (k := 0) (v := .pointer (some ⟨T, 4, none⟩)) (d := some 160) rfl rfl (by decide +kernel) (fun _ _ _ h => h) (Or.inl ⟨by rfl, fun W hW => by obtain ⟨s0, s1, s2, s3, s4, s5, s6⟩ := hW; go_simp⟩) ⟨HTd.out.cell 4, HPd.out.cell 0, HE.out _ HXd.out⟩ ?_
                  try simp only [Act.put, List.setIfInBounds_toArray, List.set_cons_zero, List.set_cons_succ]
                  refine H_takeD (k := 1) (v := .slice (some ⟨bC, oC, none⟩) cl.length cC) (d := some 161) rfl rfl (by decide +kernel) (fun _ _ _ h => h) (Or.inl ⟨by rfl, fun W hW => by obtain ⟨s0, s1, s2, s3, s4, s5, s6⟩ := hW; go_simp⟩) ⟨HTd.out.cell 4, HPd.out.cell 0, HE.out _ HXd.out⟩ ?_
                  try simp only [Act.put, List.setIfInBounds_toArray, List.set_cons_zero, List.set_cons_succ]
                  refine H_takeD (k := 2) (v := .int .i64 (u : Int)) (d := some 162) rfl rfl (by decide +kernel) (fun _ _ _ h => h) (Or.inl ⟨by rfl, fun W hW => by obtain ⟨s0, s1, s2, s3, s4, s5, s6⟩ := hW; go_simp⟩) ⟨HTd.out.cell 4, HPd.out.cell 0, HE.out _ HXd.out⟩ ?_
                  try simp only [Act.put, List.setIfInBounds_toArray, List.set_cons_zero, List.set_cons_succ]
                  refine H_takeD (k := 3) (v := .pointer (some ⟨bC, oC + u * 5, none⟩)) (d := some 163) rfl rfl (by decide +kernel) (fun _ _ _ h => h) (Or.inl ⟨by rfl, fun W hW => by obtain ⟨s0, s1, s2, s3, s4, s5, s6⟩ := hW; go_simp⟩) ⟨HTd.out.cell 4, HPd.out.cell 0, HE.out _ HXd.out⟩ ?_
                  try simp only [Act.put, List.setIfInBounds_toArray, List.set_cons_zero, List.set_cons_succ]
                  refine H_takeD (k := 4) (v := .agg #[.int .i64 ck, .int .i64 co, .int .i64 cf, .int .i64 ct, .int .i64 cd]) (d := some 164) rfl rfl (by decide +kernel) (fun _ _ _ h => h) (Or.inl ⟨by rfl, fun W hW => by obtain ⟨s0, s1, s2, s3, s4, s5, s6⟩ := hW; go_simp⟩) ⟨HTd.out.cell 4, HPd.out.cell 0, HE.out _ HXd.out⟩ ?_
                  try simp only [Act.put, List.setIfInBounds_toArray, List.set_cons_zero, List.set_cons_succ]
                  refine H_one (i := 5) (by decide +kernel) (H_step rfl rfl (fun K hK5 => ?_))
                  have hK5 := Lib.hid hK5
                  go_simp
                  go_at_call 25
                  refine (HCl.out _).mono ?_
                  rintro e wc_ ⟨rfl, hb_⟩
                  have HB9 := Lib.hid (HBd.out.trans (hb_.mono HBd.out.size))
                  have HX9 := Lib.hid (HXd.out.trans (hb_.mono HXd.out.size))
                  have HT9 := Lib.hid (HTd.out.below hb_ HTd.out.lt)
                  have HP9 := Lib.hid (HPd.out.below hb_ HPd.out.lt)
                  clear hb_ HBd HXd HTd HPd
                  have HBd := HB9
                  have HXd := HX9
                  have HTd := HT9
                  have HPd := HP9
                  clear HB9 HX9 HT9 HP9
                  refine hK5.out _ _ ⟨HTd.out.cell 4, HPd.out.cell 0, HE.out _ HXd.out⟩ ?_
                  try simp only [Act.put, List.setIfInBounds_toArray, List.set_cons_zero, List.set_cons_succ]
                  refine H_takeD (k := 6) (v := .bool false) (d := some 166) rfl rfl (by decide +kernel) (fun _ _ _ h => h) (Or.inl ⟨by rfl, fun W hW => by obtain ⟨s0, s1, s2, s3, s4, s5, s6⟩ := hW; go_simp⟩) ⟨HTd.out.cell 4, HPd.out.cell 0, HE.out _ HXd.out⟩ ?_
                  try simp only [Act.put, List.setIfInBounds_toArray, List.set_cons_zero, List.set_cons_succ]
                  refine H_takeD (k := 7) (v := .bool false) (d := some 167) rfl rfl (by decide +kernel) (fun _ _ _ h => h) (Or.inl ⟨by rfl, fun W hW => by obtain ⟨s0, s1, s2, s3, s4, s5, s6⟩ := hW; go_simp⟩) ⟨HTd.out.cell 4, HPd.out.cell 0, HE.out _ HXd.out⟩ ?_
                  try simp only [Act.put, List.setIfInBounds_toArray, List.set_cons_zero, List.set_cons_succ]
                  refine H_takeD (k := 8) (v := .pointer (some ⟨T, 4, none⟩)) (d := some 168) rfl rfl (by decide +kernel) (fun _ _ _ h => h) (Or.inl ⟨by simp [Region.wanted, yielded], fun W hW => by obtain ⟨s0, s1, s2, s3, s4, s5, s6⟩ := hW; go_simp⟩) ⟨HTd.out.cell 4, HPd.out.cell 0, HE.out _ HXd.out⟩ ?_
                  try simp only [Act.put, List.setIfInBounds_toArray, List.set_cons_zero, List.set_cons_succ]
                  refine H_takeD (k := 9) (v := .slice (some ⟨bC, oC, none⟩) cl.length cC) (d := some 169) rfl rfl (by decide +kernel) (fun _ _ _ h => h) (Or.inl ⟨by simp [Region.wanted, yielded], fun W hW => by obtain ⟨s0, s1, s2, s3, s4, s5, s6⟩ := hW; go_simp⟩) ⟨HTd.out.cell 4, HPd.out.cell 0, HE.out _ HXd.out⟩ ?_
                  try simp only [Act.put, List.setIfInBounds_toArray, List.set_cons_zero, List.set_cons_succ]
                  refine H_takeD (k := 10) (v := .int .i64 (u : Int)) (d := some 170) rfl rfl (by decide +kernel) (fun _ _ _ h => h) (Or.inl ⟨by simp [Region.wanted, yielded], fun W hW => by obtain ⟨s0, s1, s2, s3, s4, s5, s6⟩ := hW; go_simp⟩) ⟨HTd.out.cell 4, HPd.out.cell 0, HE.out _ HXd.out⟩ ?_
                  try simp only [Act.put, List.setIfInBounds_toArray, List.set_cons_zero, List.set_cons_succ]
                  refine H_takeD (k := 11) (v := .pointer (some ⟨bC, oC + u * 5, none⟩)) (d := some 171) rfl rfl (by decide +kernel) (fun _ _ _ h => h) (Or.inl ⟨by simp [Region.wanted, yielded], fun W hW => by obtain ⟨s0, s1, s2, s3, s4, s5, s6⟩ := hW; go_simp⟩) ⟨HTd.out.cell 4, HPd.out.cell 0, HE.out _ HXd.out⟩ ?_
                  try simp only [Act.put, List.setIfInBounds_toArray, List.set_cons_zero, List.set_cons_succ]
                  refine H_takeD (k := 12) (v := .pointer (some ⟨bC, oC + u * 5 + 1, none⟩)) (d := some 172) rfl rfl (by decide +kernel) (fun _ _ _ h => h) (Or.inl ⟨by simp [Region.wanted, yielded], fun W hW => by obtain ⟨s0, s1, s2, s3, s4, s5, s6⟩ := hW; go_simp⟩) ⟨HTd.out.cell 4, HPd.out.cell 0, HE.out _ HXd.out⟩ ?_
                  try simp only [Act.put, List.setIfInBounds_toArray, List.set_cons_zero, List.set_cons_succ]
                  refine H_takeD (k := 13) (v := .int .i64 co) (d := some 173) rfl rfl (by decide +kernel) (fun _ _ _ h => h) (Or.inl ⟨by simp [Region.wanted, yielded], fun W hW => by obtain ⟨s0, s1, s2, s3, s4, s5, s6⟩ := hW; go_simp⟩) ⟨HTd.out.cell 4, HPd.out.cell 0, HE.out _ HXd.out⟩ ?_
                  try simp only [Act.put, List.setIfInBounds_toArray, List.set_cons_zero, List.set_cons_succ]
                  refine H_takeD (k := 14) (v := .pointer (some ⟨P, 0, none⟩)) (d := some 174) rfl rfl (by decide +kernel) (fun _ _ _ h => h) (Or.inl ⟨by simp [Region.wanted, yielded], fun W hW => by obtain ⟨s0, s1, s2, s3, s4, s5, s6⟩ := hW; go_simp⟩) ⟨HTd.out.cell 4, HPd.out.cell 0, HE.out _ HXd.out⟩ ?_
                  try simp only [Act.put, List.setIfInBounds_toArray, List.set_cons_zero, List.set_cons_succ]
                  refine H_takeD (k := 15) (v := .int .i64 co) (d := some 175) rfl rfl (by decide +kernel) (fun _ _ _ h => h) (Or.inl ⟨by simp [Region.wanted, yielded], fun W hW => by obtain ⟨s0, s1, s2, s3, s4, s5, s6⟩ := hW; go_simp⟩) ⟨HTd.out.cell 4, HPd.out.cell 0, HE.out _ HXd.out⟩ ?_
                  try simp only [Act.put, List.setIfInBounds_toArray, List.set_cons_zero, List.set_cons_succ]
                  refine H_takeD (k := 16) (v := .bool false) (d := some 176) rfl rfl (by decide +kernel) (fun _ _ _ h => h) (Or.inl ⟨by simp [Region.wanted, yielded], fun W hW => by obtain ⟨s0, s1, s2, s3, s4, s5, s6⟩ := hW; go_simp⟩) ⟨HTd.out.cell 4, HPd.out.cell 0, HE.out _ HXd.out⟩ ?_
                  try simp only [Act.put, List.setIfInBounds_toArray, List.set_cons_zero, List.set_cons_succ]
                  refine H_takeD (k := 17) (v := .bool false) (d := some 177) rfl rfl (by decide +kernel) (fun _ _ _ h => h) (Or.inl ⟨by rfl, fun W hW => by obtain ⟨s0, s1, s2, s3, s4, s5, s6⟩ := hW; go_simp⟩) ⟨HTd.out.cell 4, HPd.out.cell 0, HE.out _ HXd.out⟩ ?_
                  try simp only [Act.put, List.setIfInBounds_toArray, List.set_cons_zero, List.set_cons_succ]
                  refine H_end (by decide +kernel) (NoPanic.normal ?_)
                  try simp only [Act.put, List.setIfInBounds_toArray, List.set_cons_zero, List.set_cons_succ]
                  go_wp2_with fail
                  go_roundw
                  case rel => exact ⟨u + 1, by omega, by go_num, HBd⟩
                  case measure => simp [intOf]; omega
                · have HB8 := Lib.hid (HB6.out.trans (HB7.out.mono HB6.out.size))
                  clear HB6 HB7 HT3
                  go_wp2_with fail
                  go_roundw
                  case rel => exact ⟨m + 1, by omega, by go_num, HB8⟩
                  case measure => simp [intOf]; omega
            · have HBf := Lib.hid (HB.out.trans (HB3.out.mono HB.out.size))
              clear HB3 HP3
              go_wp2_with fail
              go_roundw
              case rel => exact ⟨k + 1, by omega, by go_num, HBf⟩
              case measure => simp [intOf]; omega
    · have HBf := Lib.hid (HB1.out.trans (HB.out.mono HB1.out.size))
      clear HB
      go_wp2_with fail
      refine (lives_any wr).mono ?_
      rintro e wl ⟨rfl, hb_⟩
      have HBl := Lib.hid (HBf.out.trans (hb_.mono HBf.out.size))
      clear hb_
      go_wp2_with fail
      go_ret
      exact ⟨rfl, HBl.out⟩
end Go.Proofs.YtnapnkmehnabfaaGreat

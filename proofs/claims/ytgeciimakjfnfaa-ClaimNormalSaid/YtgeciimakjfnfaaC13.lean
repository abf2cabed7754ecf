import Derived.Test.YtgeciimakjfnfaaMaps2
import Derived.Test.YtgeciimakjfnfaaC12
import Derived.Test.YtgeciimakjfnfaaC9
import Derived.DeepKeys4
namespace Go.Proofs.Ytgeciimakjfnfaa
open Go.RowKit Go.Maps

abbrev Ky := Int × Int × Int
abbrev Sv := Option Addr × Nat × Nat
def kV (k : Ky) : Value := .agg #[.int .i64 k.1, .int .i64 k.2.1, .int .i64 k.2.2]
def sV (v : Sv) : Value := .slice v.1 v.2.1 v.2.2
theorem inj_kV : Inj kV := fun a b h => by
  unfold kV at h
  simp at h
  exact Prod.ext h.1 (Prod.ext h.2.1 h.2.2)
theorem laid_out : laidOutB Try.prog = true := by kernel_rfl
theorem row_key : (83 : TypeId) < (Try.prog).types.size := of_decide_eq_true (by kernel_rfl)
theorem keyed_key : Keyed Try.prog 83 := Keyed.of_law (deep_law_laid laid_out (m := 2) (by omega) row_key (by kernel_rfl) (by rw [Try.underlying83]))
theorem cells_key : (Try.prog).cellsOf 83 = 3 := by kernel_rfl
theorem cells_int : (Try.prog).cellsOf 3 = 1 := by kernel_rfl
theorem types_size : (Try.prog).types.size = ((Try.prog).types.size - 1) + 1 := by
  have : 0 < (Try.prog).types.size := Nat.lt_of_le_of_lt (Nat.zero_le _) row_key
  omega
theorem key_key : (Try.prog).keyType 83 = true := by kernel_rfl
theorem good_key {k : Ky} (h1 : i64 k.1) (h2 : i64 k.2.1) (h3 : i64 k.2.2) : Good Try.prog 83 (kV k) := by
  have w1 : (Lit.int .i64 k.1).wf = true := by unfold i64 at h1; exact WalkArith.wf_i64 (by omega)
  have w2 : (Lit.int .i64 k.2.1).wf = true := by unfold i64 at h2; exact WalkArith.wf_i64 (by omega)
  have w3 : (Lit.int .i64 k.2.2).wf = true := by unfold i64 at h3; exact WalkArith.wf_i64 (by omega)
  unfold Good keyOf kV
  rw [Try.underlying83]
  have hf : Value.formed Try.prog 83 (.agg #[.int .i64 k.1, .int .i64 k.2.1, .int .i64 k.2.2]) = true := by
    unfold Value.formed
    rw [Try.underlying83]
    simp [cells_key]
  simp only [key_key, Bool.true_and, hf, if_true]
  obtain ⟨d, hd⟩ : ∃ d, (Try.prog).types.size = d + 1 := ⟨_, types_size⟩
  rw [hd]
  simp [Program.keyLits, Try.underlying83, Try.underlying3, Value.cells, cells_key, cells_int, w1, w2, w3]
theorem zero_sl (w : World) : (zeroValue 38).run Try.prog w = .ok (sV (none, 0, 0)) w := by kernel_rfl
theorem good_cl {c : Cl} (h : clE c = 0) : Good Try.prog 83 (kV (kyOf c)) := by
  have := clE_iff.1 h
  exact good_key ⟨by show _ ≤ c.kind; omega, by show c.kind ≤ _; omega⟩ ⟨by show _ ≤ c.office; omega, by show c.office ≤ _; omega⟩ ⟨by show _ ≤ c.dec; omega, by show c.dec ≤ _; omega⟩

set_option linter.unusedSimpArgs false in
set_option maxHeartbeats 4000000 in
set_option maxRecDepth 100000 in
theorem keyOf_any (t : Cl) (w : World) : Calls Try.prog 48 #[clV t] w fun e w' => e = .returned (kV (kyOf t)) ∧ Below w.heap.size w w' := by
  show Calls Try.prog 48 #[.agg #[.int .i64 t.kind, .int .i64 t.office, .int .i64 t.fr, .int .i64 t.til, .int .i64 t.dec]] w _
  have hb0 := boxC t w
  have hk := boxC_k t w
  have hkz := hk.alloc (.cells #[.int .i64 0, .int .i64 0, .int .i64 0] 83)
  have hK := Bk.new' (w.alloc (.cells #[.int .i64 t.kind, .int .i64 t.office, .int .i64 t.fr, .int .i64 t.til, .int .i64 t.dec] 24)) 83 #[.int .i64 0, .int .i64 0, .int .i64 0] (g := w.heap.size + 1) (by simp)
  have a0 := hkz.cell 0
  have a1 := hkz.cell 1
  have a4 := hkz.cell 4
  have k0 := hK.cell 0
  have k1 := hK.cell 1
  have k2 := hK.cell 2
  simp only [List.getElem?_toArray, List.getElem?_cons_zero, List.getElem?_cons_succ] at a0 a1 a4 k0 k1 k2
  have z0 := hK.frozen 0
  have z1 := hK.frozen 1
  have z2 := hK.frozen 2
  have hb1 := hb0.alloc (by simp) (.cells #[.int .i64 0, .int .i64 0, .int .i64 0] 83)
  have hF := Bk.new' (w.alloc (.cells #[.int .i64 t.kind, .int .i64 t.office, .int .i64 t.fr, .int .i64 t.til, .int .i64 t.dec] 24)) 83 #[.int .i64 t.kind, .int .i64 t.office, .int .i64 t.dec] (g := w.heap.size + 1) (by simp)
  have r0 := hF.cell 0
  have r1 := hF.cell 1
  have r2 := hF.cell 2
  simp only [List.getElem?_toArray, List.getElem?_cons_zero, List.getElem?_cons_succ] at r0 r1 r2
  have Hb := Lib.hid (hb0.alloc (by simp) (.cells #[.int .i64 t.kind, .int .i64 t.office, .int .i64 t.dec] 83))
  clear hb0 hk hkz hK hb1 hF
  go_enter Try.func48, Try.ntmps48
  go_wp2_with fail
  exact bodyPost_ret (v := .agg #[.int .i64 t.kind, .int .i64 t.office, .int .i64 t.dec]) (by simp [results, Try.results48, go_sem, r0, r1, r2]) rfl ⟨rfl, Hb.out⟩

/-! The spans of all keys in memory. -/
theorem own_turn {w w' : World} {base r : Nat} {e : TypeId} {n size : Nat} {v : Value} {xs : List Value} (h : w.ownsRow base e size v n xs) (ht : Turn w w' r) (hne : some r ≠ v.ownBlock) : w'.ownsRow base e size v n xs := by
  refine ⟨h.1, ?_⟩
  rcases h.2 with hn | ⟨g, cap, cur, rfl, h1, hg, rest⟩
  · exact .inl hn
  · exact .inr ⟨g, cap, cur, rfl, h1, (ht.block g (fun e => hne (by simp [Value.ownBlock, e]))).trans hg, rest⟩
structure KM (w : World) (base : Nat) (S : List Cl) (f : Ky → Option Sv) : Prop where
  row : ∀ k v, f k = some v → 1 ≤ v.2.1 ∧ w.ownsRow base 24 5 (sV v) v.2.1 ((mrg (partK S k)).flatMap clC)
  none_ : ∀ k, f k = none → partK S k = []
  ne : ∀ k k' v v', f k = some v → f k' = some v' → k ≠ k' → (sV v).ownBlock ≠ (sV v').ownBlock
theorem KM.nil (w : World) (base : Nat) : KM w base [] (fun _ => none) := ⟨fun _ _ h => (by cases h), fun _ _ => rfl, fun _ _ _ _ h => (by cases h)⟩
theorem KM.below {w w' : World} {base : Nat} {S : List Cl} {f : Ky → Option Sv} (h : KM w base S f) (hb : Below w.heap.size w w') : KM w' base S f :=
  ⟨fun k v hk => ⟨(h.row k v hk).1, own_below (h.row k v hk).2 hb⟩, h.none_, h.ne⟩
theorem KM.turn {w w' : World} {base r : Nat} {S : List Cl} {f : Ky → Option Sv} (h : KM w base S f) (ht : Turn w w' r) (hr : r < base) : KM w' base S f :=
  ⟨fun k v hk => ⟨(h.row k v hk).1, own_turn (h.row k v hk).2 ht (fun e => by have := ((h.row k v hk).2.lt r e.symm).1; omega)⟩, h.none_, h.ne⟩
theorem row_slot {w : World} {base n : Nat} {v : Sv} {xs : List Value} (h : w.ownsRow base 24 5 (sV v) n xs) (hn : 1 ≤ n) : ∃ g c, v = (some ⟨g, 0, none⟩, n, c) := by
  rcases h.2 with ⟨e, h0⟩ | ⟨g, cap, _, e, _⟩
  · omega
  · obtain ⟨A, m, c⟩ := v
    unfold sV at e
    injection e with e1 e2 e3
    simp only at e1 e2 e3
    subst e1 e2 e3
    exact ⟨g, c, rfl⟩
/-- One row has turned, in place or by growing. -/
theorem KM.put {w w' : World} {base : Nat} {S : List Cl} {f : Ky → Option Sv} (h : KM w base S f) (c : Cl) (v' : Sv) {old : Option Nat} (hold : old = ((f (kyOf c)).map sV).elim none Value.ownBlock)
    (hg : w.grownBy w' old) (hv : 1 ≤ v'.2.1) (hrow : w'.ownsRow base 24 5 (sV v') v'.2.1 ((stepM (mrg (partK S (kyOf c))) c).flatMap clC)) (hb : (sV v').ownBlock = old ∨ (sV v').ownBlock = some w.heap.size) :
    KM w' base (S ++ [c]) (setF f (kyOf c) v') := by
  have hoth : ∀ k v, f k = some v → k ≠ kyOf c → old = none ∨ (sV v).ownBlock ≠ old := fun k v hk hne => by
    cases hf : f (kyOf c) with
    | none => rw [hf] at hold; exact .inl hold
    | some u => rw [hf] at hold; exact .inr (by rw [hold]; exact h.ne _ _ _ _ hk hf hne)
  refine ⟨fun k v hk => ?_, fun k hk => ?_, fun k k' v u hk hk' hne => ?_⟩
  · unfold setF at hk
    by_cases e : k = kyOf c
    · rw [if_pos e] at hk
      injection hk with hk
      subst hk
      rw [e, partK_snoc_eq, mrg_snoc]
      exact ⟨hv, hrow⟩
    · rw [if_neg e] at hk
      rw [partK_snoc_ne S c (fun q => e q.symm)]
      obtain ⟨r1, r2⟩ := h.row k v hk
      refine ⟨r1, own_grown r2 hg ?_⟩
      rcases hoth k v hk e with q | q
      · right
        rw [q]
        obtain ⟨g, cc, e5⟩ := row_slot r2 r1
        rw [e5]
        simp [sV, Value.ownBlock]
      · exact .inr q
  · unfold setF at hk
    by_cases e : k = kyOf c
    · rw [if_pos e] at hk; cases hk
    · rw [if_neg e] at hk
      rw [partK_snoc_ne S c (fun q => e q.symm)]
      exact h.none_ k hk
  · have key : ∀ k v, f k = some v → k ≠ kyOf c → (sV v).ownBlock ≠ (sV v').ownBlock := fun k v hk hne => by
      obtain ⟨r1, r2⟩ := h.row k v hk
      obtain ⟨g, cc, e⟩ := row_slot r2 r1
      have hlt : g < w.heap.size := (r2.lt g (by rw [e]; simp [sV, Value.ownBlock])).2
      rcases hb with q | q
      · rw [q]
        rcases hoth k v hk hne with z | z
        · rw [z, e]; simp [sV, Value.ownBlock]
        · exact z
      · rw [q, e]
        simp [sV, Value.ownBlock]
        omega
    unfold setF at hk hk'
    by_cases e : k = kyOf c
    · rw [if_pos e] at hk
      injection hk with hk
      subst hk
      have e' : k' ≠ kyOf c := fun q => hne (e.trans q.symm)
      rw [if_neg e'] at hk'
      exact fun q => key k' u hk' e' q.symm
    · rw [if_neg e] at hk
      by_cases e' : k' = kyOf c
      · rw [if_pos e'] at hk'
        injection hk' with hk'
        subst hk'
        exact key k v hk e
      · rw [if_neg e'] at hk'
        exact h.ne k k' v u hk hk' hne
theorem setF_self {f : Ky → Option Sv} {k : Ky} {v : Sv} (h : f k = some v) : setF f k v = f := by
  funext x
  unfold setF
  split
  · rename_i e; rw [e, h]
  · rfl
/-- An append in a region that draws, with where the row lies then. -/
theorem app_wpA {P : Program} {Q : Exit → Act → World → Prop} {o : Oper} {a : Act} {w : World} {K : Act → World → Prop} {base : Nat} {us xs : List Value} {e t : TypeId} {z : Value} {size bytes n H c : Nat} {v : Value} (x y : Operand)
    (ho : o.op = .call { callee := .builtin .append, args := #[x, y], argTypes := #[t, t] }) (hE : Elt P t e z size bytes) (hs : a.eval x = v) (hx : a.eval y = .slice (some ⟨H, 0, none⟩) 1 c)
    (hown : w.ownsRow base e size v n xs) (hB : Bk w H e us.toArray) (hl : us.length = size) (h1 : us.all (·.oneCell') = true) (hn : n < 1099511627776) (hbs : base ≤ w.heap.size)
    (h : ∀ v' w1, w1.ownsRow base e size v' (n + 1) (xs ++ us) → w.grownBy w1 v.ownBlock → (v'.ownBlock = v.ownBlock ∨ v'.ownBlock = some w.heap.size) → K (a.put o.dst v') w1) : Oper.wp P o a w K Q := by
  obtain ⟨ht, hsz, hby, hzs, i, hi, hz, hs1, hb1⟩ := hE
  have hmul : (n + 1) * bytes ≤ 140737488355328 := by
    have := Nat.mul_le_mul (show n + 1 ≤ 1099511627776 from hn) hby
    omega
  obtain ⟨v', w1, hrun, h2, h3, _, h5⟩ := run_append_own_at (P := P) w base t o.type e i z size bytes ht hi hz hs1 hb1 hzs hsz v n xs hown ⟨H, 0, none⟩ 1 c us (by simpa using hl) (World.news_of_block hB) (all_one h1) (by unfold maxLen; omega) hmul hbs
  unfold Oper.wp execOp
  simp only [ho, resolve, invoke, builtin, Sem.run_bind, Sem.run_pure, Result.andThen_ok, List.map_toArray, List.map_cons, List.map_nil, hs, hx]
  rw [hrun]
  exact h v' w1 h2 h3 h5
end Go.Proofs.Ytgeciimakjfnfaa

import Derived.Test.YtmdgdphhedgojaaK02
import Derived.Test.YtmdgdphhedgojaaK10
import Derived.Test.YtmdgdphhedgojaaT3
import Derived.Test.YtmdgdphhedgojaaR33
namespace Go.Proofs.Ytmdgdphhedgojaa
open Go.RowKit Go.Maps

/-- Borders of a graph of n faces. -/
def EOK (n : Nat) (ns : List (Int × Int × Int)) : Prop := ∀ t ∈ ns, 0 ≤ t.1 ∧ t.1 < t.2.1 ∧ t.2.1 < n
theorem validE_eok {ws : List Int} {ns : List (Int × Int × Int)} (h : validE ws ns = 0) : EOK ws.length ns := fun t ht => by
  unfold validE at h
  split at h
  · cases h
  · split at h
    · cases h
    · split at h
      · cases h
      · rename_i h3
        obtain ⟨i, hi, rfl⟩ := List.getElem_of_mem ht
        have : badAt ws.length ns i = false := by
          cases hb : badAt ws.length ns i
          · rfl
          · exact (h3 (List.any_eq_true.2 ⟨i, by simpa using hi, hb⟩)).elim
        simp only [badAt, decide_eq_false_iff_not, List.getD, List.getElem?_eq_getElem hi, Option.getD_some] at this
        omega

/-- The least faces after a border joins two. -/
def joined (of : List Int) (t : Int × Int × Int) : List Int := if t.1 = 0 then of else merged of (of.getD t.1.toNat 0, of.getD t.2.1.toNat 0)
def comp (ns : List (Int × Int × Int)) (n : Nat) : List Int := ns.foldl joined (alone n)
theorem joined_len (of : List Int) (t : Int × Int × Int) : (joined of t).length = of.length := by
  unfold joined
  split
  · rfl
  · exact merged_len _ _
theorem comp_snoc (ns : List (Int × Int × Int)) (t : Int × Int × Int) (n : Nat) : comp (ns ++ [t]) n = joined (comp ns n) t := by simp [comp]
theorem comp_take {ns : List (Int × Int × Int)} {k n : Nat} {t : Int × Int × Int} (h : ns[k]? = some t) : comp (ns.take (k + 1)) n = joined (comp (ns.take k) n) t := by
  rw [take_snoc' h, comp_snoc]
/-- What the least faces of the parts are. -/
structure Comp (of : List Int) (n : Nat) (ns : List (Int × Int × Int)) : Prop where
  len : of.length = n
  cn : CN of
  al : Al of
  e : ∀ t ∈ ns, t.1 ≠ 0 → of.getD t.1.toNat 0 = of.getD t.2.1.toNat 0
theorem merged_same {of : List Int} {m : Int × Int} {i j : Nat} (hi : i < of.length) (hj : j < of.length) (h : of.getD i 0 = of.getD j 0) : (merged of m).getD i 0 = (merged of m).getD j 0 := by
  rw [getD_merged _ _ _ hi, getD_merged _ _ _ hj, h]
theorem Comp.join {of : List Int} {n : Nat} {ns : List (Int × Int × Int)} {t : Int × Int × Int} (h : Comp of n ns) (hE : EOK n ns) (ht : 0 ≤ t.1 ∧ t.1 < t.2.1 ∧ t.2.1 < n) : Comp (joined of t) n (ns ++ [t]) := by
  have hl := h.len
  unfold joined
  split
  · rename_i h0
    refine ⟨hl, h.cn, h.al, fun u hu => ?_⟩
    rcases List.mem_append.1 hu with hu | hu
    · exact h.e u hu
    · obtain rfl : u = t := by simpa using hu
      intro h1
      exact (h1 h0).elim
  · rename_i h0
    obtain ⟨a, ha, ha1, ha2⟩ := h.cn t.1.toNat (by omega)
    obtain ⟨b, hb, hb1, hb2⟩ := h.cn t.2.1.toNat (by omega)
    have h00 : of.getD 0 0 = 0 := cn_zero' h.cn (by omega)
    have za : (a : Int) ≠ of.getD 0 0 := fun e => by
      have := h.al t.1.toNat (by omega) (by omega)
      omega
    have zb : (b : Int) ≠ of.getD 0 0 := fun e => by
      have := h.al t.2.1.toNat (by omega) (by omega)
      omega
    rw [ha, hb]
    refine ⟨by rw [merged_len, hl], h.cn.merge (by omega) (by omega) ha2 hb2, h.al.merge h.cn za zb, fun u hu h1 => ?_⟩
    rcases List.mem_append.1 hu with hu | hu
    · have hu2 := hE u hu
      exact merged_same (by omega) (by omega) (h.e u hu h1)
    · obtain rfl : u = t := by simpa using hu
      rw [merged_near (by omega) ha (.inl rfl), merged_near (by omega) hb (.inr rfl)]
theorem comp_spec {n : Nat} : ∀ {ns : List (Int × Int × Int)} (_ : EOK n ns) (k : Nat), k ≤ ns.length → Comp (comp (ns.take k) n) n (ns.take k)
  | _, _, 0, _ => ⟨alone_len n, alone_cn n, al_alone n, fun t ht => by simp at ht⟩
  | ns, hE, k + 1, hk => by
    have hx : ns[k]? = some ns[k] := List.getElem?_eq_getElem (by omega)
    have ih := comp_spec hE k (by omega)
    have h := ih.join (fun t ht => hE t (List.mem_of_mem_take ht)) (hE _ (List.mem_of_getElem? hx))
    rw [← take_snoc' hx, ← comp_take hx] at h
    exact h
theorem comp_all {n : Nat} {ns : List (Int × Int × Int)} (hE : EOK n ns) : Comp (comp ns n) n ns := by
  have h := comp_spec hE ns.length (Nat.le_refl _)
  rwa [List.take_length] at h
theorem RT.join {rt of : List Int} {n : Nat} {ns : List (Int × Int × Int)} {a b : Nat} (h : RT rt of) (hC : Comp of n ns) (ha : a < n) (hb : b < n) :
    ∃ p q : Nat, of.getD a 0 = p ∧ of.getD b 0 = q ∧ p < n ∧ q < n ∧ RT (rt.set (max p q) ((min p q : Nat) : Int)) (merged of (of.getD a 0, of.getD b 0)) := by
  have hl := hC.len
  obtain ⟨p, p1, p2, p3⟩ := hC.cn a (by omega)
  obtain ⟨q, q1, q2, q3⟩ := hC.cn b (by omega)
  refine ⟨p, q, p1, q1, by omega, by omega, ?_⟩
  rw [p1, q1]
  exact h.merge (by omega) (by omega) p3 q3

/-- The least faces of the parts among the first faces. -/
def rts (of : List Int) (n : Nat) : List Nat := (List.range n).filter fun r => r != 0 && of.getD r 0 == (r : Int)
/-- The faces of a part. -/
def inP (of : List Int) (r : Nat) (j : Nat) : Bool := j != 0 && of.getD j 0 == (r : Int)
theorem rts_succ (of : List Int) (n : Nat) : rts of (n + 1) = rts of n ++ if (n != 0 && of.getD n 0 == (n : Int)) then [n] else [] := by
  unfold rts
  rw [List.range_succ, List.filter_append]
  congr 1
  cases h : (n != 0 && of.getD n 0 == (n : Int)) <;> simp_all
theorem rts_len (of : List Int) (n : Nat) : (rts of n).length ≤ n := by
  have := List.length_filter_le (fun r => r != 0 && of.getD r 0 == (r : Int)) (List.range n)
  simpa [rts] using this
theorem mem_rts {of : List Int} {n r : Nat} : r ∈ rts of n ↔ r < n ∧ r ≠ 0 ∧ of.getD r 0 = r := by simp [rts]
theorem rts_nodup (of : List Int) (n : Nat) : (rts of n).Nodup := by
  unfold rts
  exact List.Pairwise.filter _ List.nodup_range
theorem rts_pre (of : List Int) {a b : Nat} (h : a ≤ b) : ∃ l, rts of b = rts of a ++ l := by
  induction b with
  | zero => obtain rfl : a = 0 := by omega
            exact ⟨[], by simp⟩
  | succ b ih =>
    by_cases hab : a = b + 1
    · subst hab; exact ⟨[], by simp⟩
    · obtain ⟨l, hl⟩ := ih (by omega)
      rw [rts_succ, hl, List.append_assoc]
      exact ⟨_, rfl⟩
theorem rts_at {of : List Int} {a b j r : Nat} (h : a ≤ b) (hj : (rts of a)[j]? = some r) : (rts of b)[j]? = some r := by
  obtain ⟨l, hl⟩ := rts_pre of h
  rw [hl, List.getElem?_append_left (List.getElem?_eq_some_iff.1 hj).1, hj]
/-- The index of a part. -/
def pidx (l : List Nat) (x : Int) : Option Int := if 0 ≤ x ∧ x.toNat ∈ l then some (l.idxOf x.toNat) else none
theorem pidx_snoc {l : List Nat} {r : Nat} (h : r ∉ l) : setF (pidx l) (r : Int) (l.length : Int) = pidx (l ++ [r]) := by
  funext x
  unfold setF pidx
  by_cases hx : x = (r : Int)
  · subst hx
    rw [if_pos rfl, if_pos ⟨by omega, by simp⟩]
    simp [List.idxOf_append, h]
  · rw [if_neg hx]
    by_cases h0 : 0 ≤ x
    · have hne : x.toNat ≠ r := by omega
      by_cases hm : x.toNat ∈ l
      · rw [if_pos ⟨h0, hm⟩, if_pos ⟨h0, by simp [hm]⟩, List.idxOf_append, if_pos hm]
      · rw [if_neg (fun h => hm h.2), if_neg (fun h => by have := h.2; simp [hm, hne] at this)]
    · rw [if_neg (fun h => h0 h.1), if_neg (fun h => h0 h.1)]
theorem pidx_at {l : List Nat} {r : Nat} (h : r ∈ l) : ∃ j, j < l.length ∧ l[j]? = some r ∧ pidx l (r : Int) = some (j : Int) := by
  refine ⟨l.idxOf r, List.idxOf_lt_length_of_mem h, ?_, ?_⟩
  · have hlt := List.idxOf_lt_length_of_mem h
    rw [List.getElem?_eq_getElem hlt]
    simp
  · unfold pidx
    rw [if_pos ⟨by omega, by simpa using h⟩]
    simp

/-- Two rows that share no block. -/
def Ap (u v : Value) : Prop := u.ownBlock = none ∨ u.ownBlock ≠ v.ownBlock
theorem Ap.symm {u v : Value} (h : Ap u v) : Ap v u := by
  rcases h with h | h
  · by_cases e : v.ownBlock = none
    · exact .inl e
    · exact .inr (by rw [h]; exact e)
  · exact .inr (Ne.symm h)
/-- A value in place of another. -/
def up {α : Type} (f : Nat → α) (i : Nat) (x : α) : Nat → α := fun j => if j = i then x else f j
theorem up_same {α : Type} (f : Nat → α) (i : Nat) (x : α) : up f i x i = x := if_pos rfl
theorem up_else {α : Type} (f : Nat → α) {i j : Nat} (x : α) (h : j ≠ i) : up f i x j = f j := if_neg h

/-- Rows of one type, of one's own, each in its own block. -/
structure Fam (w : World) (base : Nat) (e : TypeId) (size m : Nat) (V : Nat → Value) (nn : Nat → Nat) (X : Nat → List Value) : Prop where
  o : ∀ j, j < m → w.ownsRow base e size (V j) (nn j) (X j)
  a : ∀ i j, i < m → j < m → i ≠ j → Ap (V i) (V j)

section
variable {w w' : World} {base m size : Nat} {e : TypeId} {V : Nat → Value} {nn : Nat → Nat} {X : Nat → List Value}
theorem Fam.below (h : Fam w base e size m V nn X) (hb : Below w.heap.size w w') : Fam w' base e size m V nn X := ⟨fun j hj => own_below (h.o j hj) hb, h.a⟩
theorem Fam.grown (h : Fam w base e size m V nn X) {row : Option Nat} (hg : w.grownBy w' row) (hr : ∀ j, j < m → (V j).ownBlock = none ∨ (V j).ownBlock ≠ row) : Fam w' base e size m V nn X := ⟨fun j hj => own_grown (h.o j hj) hg (hr j hj), h.a⟩
theorem Fam.set_ (h : Fam w base e size m V nn X) {k i : Nat} (hr : ∀ j, j < m → some k ≠ (V j).ownBlock) (u : Value) : Fam (w.setCell ⟨k, i, none⟩ u) base e size m V nn X := ⟨fun j hj => own_set (h.o j hj) (hr j hj) u, h.a⟩
theorem Fam.turn (h : Fam w base e size m V nn X) {r : Nat} (ht : Turn w w' r) (hr : ∀ j, j < m → some r ≠ (V j).ownBlock) : Fam w' base e size m V nn X := ⟨fun j hj => by
  have ho := h.o j hj
  have hne := hr j hj
  refine ⟨ho.1, ?_⟩
  rcases ho.2 with hn | ⟨g, cap, cur, hv, h1, hgg, rest⟩
  · exact .inl hn
  · refine .inr ⟨g, cap, cur, hv, h1, (ht.block g ?_).trans hgg, rest⟩
    rintro rfl
    rw [hv] at hne
    simp [Value.ownBlock] at hne, h.a⟩
theorem Fam.lt (h : Fam w base e size m V nn X) {j g : Nat} (hj : j < m) (hg : (V j).ownBlock = some g) : base ≤ g ∧ g < w.heap.size := (h.o j hj).lt g hg
/-- A row that has grown by an element. -/
theorem Fam.app (h : Fam w base e size m V nn X) {i : Nat} (hi : i < m) {v : Value} {n' : Nat} {x' : List Value} (hg : w.grownBy w' (V i).ownBlock) (ho : w'.ownsRow base e size v n' x') (hv : v.ownBlock = (V i).ownBlock ∨ ∃ b, v.ownBlock = some b ∧ w.heap.size ≤ b) :
    Fam w' base e size m (up V i v) (up nn i n') (up X i x') := by
  have hap : ∀ j, j < m → j ≠ i → Ap v (V j) := fun j hj hji => by
    rcases hv with hv | ⟨b, hb, hz⟩
    · have := h.a i j hi hj (Ne.symm hji)
      unfold Ap at this ⊢
      rw [hv]
      exact this
    · refine .inr fun hc => ?_
      rw [hb] at hc
      have := (h.lt hj hc.symm).2
      omega
  refine ⟨fun j hj => ?_, fun j k hj hk hjk => ?_⟩
  · by_cases hji : j = i
    · subst hji; rw [up_same, up_same, up_same]; exact ho
    · rw [up_else _ _ hji, up_else _ _ hji, up_else _ _ hji]
      exact own_grown (h.o j hj) hg (h.a j i hj hi hji)
  · by_cases hji : j = i
    · subst hji; rw [up_same, up_else _ _ (Ne.symm hjk)]; exact hap k hk (Ne.symm hjk)
    · by_cases hki : k = i
      · subst hki; rw [up_same, up_else _ _ hji]; exact (hap j hj hji).symm
      · rw [up_else _ _ hji, up_else _ _ hki]; exact h.a j k hj hk hjk
/-- A new row. -/
theorem Fam.push (h : Fam w base e size m V nn X) {v : Value} {n' : Nat} {x' : List Value} (ho : w.ownsRow base e size v n' x') (hv : ∀ j, j < m → Ap v (V j)) : Fam w base e size (m + 1) (up V m v) (up nn m n') (up X m x') := by
  refine ⟨fun j hj => ?_, fun j k hj hk hjk => ?_⟩
  · by_cases hji : j = m
    · subst hji; rw [up_same, up_same, up_same]; exact ho
    · rw [up_else _ _ hji, up_else _ _ hji, up_else _ _ hji]; exact h.o j (by omega)
  · by_cases hji : j = m
    · subst hji; rw [up_same, up_else _ _ (Ne.symm hjk)]; exact hv k (by omega)
    · by_cases hki : k = m
      · subst hki; rw [up_same, up_else _ _ hji]; exact (hv j (by omega)).symm
      · rw [up_else _ _ hji, up_else _ _ hki]; exact h.a j k (by omega) (by omega) hjk
theorem Fam.congr (h : Fam w base e size m V nn X) {nn' : Nat → Nat} {X' : Nat → List Value} (h1 : ∀ j, j < m → nn j = nn' j) (h2 : ∀ j, j < m → X j = X' j) : Fam w base e size m V nn' X' := ⟨fun j hj => by rw [← h1 j hj, ← h2 j hj]; exact h.o j hj, h.a⟩
end

/-- The cells of the parts under way. -/
def cellsP (F U N : Nat → Value) (m : Nat) : List Value := (List.range m).flatMap fun j => [F j, U j, N j]
theorem cellsP_succ (F U N : Nat → Value) (m : Nat) : cellsP F U N (m + 1) = cellsP F U N m ++ [F m, U m, N m] := by simp [cellsP, List.range_succ]
theorem cellsP_len (F U N : Nat → Value) (m : Nat) : (cellsP F U N m).length = m * 3 := by
  induction m with
  | zero => rfl
  | succ m ih => rw [cellsP_succ, List.length_append, ih]; simp; omega
theorem cellsP_congr {F U N F' U' N' : Nat → Value} {m : Nat} (h : ∀ j, j < m → F j = F' j ∧ U j = U' j ∧ N j = N' j) : cellsP F U N m = cellsP F' U' N' m := by
  induction m with
  | zero => rfl
  | succ m ih =>
    obtain ⟨h1, h2, h3⟩ := h m (by omega)
    rw [cellsP_succ, cellsP_succ, ih (fun j hj => h j (by omega)), h1, h2, h3]
theorem cellsP_at (F U N : Nat → Value) : ∀ {m j : Nat}, j < m → (cellsP F U N m)[j * 3]? = some (F j) ∧ (cellsP F U N m)[j * 3 + 1]? = some (U j) ∧ (cellsP F U N m)[j * 3 + 2]? = some (N j)
  | 0, _, h => by omega
  | m + 1, j, h => by
    rw [cellsP_succ]
    have hl := cellsP_len F U N m
    by_cases hj : j = m
    · subst hj
      refine ⟨?_, ?_, ?_⟩ <;> rw [List.getElem?_append_right (by omega), hl]
      · simp
      · rw [show j * 3 + 1 - j * 3 = 1 by omega]; rfl
      · rw [show j * 3 + 2 - j * 3 = 2 by omega]; rfl
    · obtain ⟨h1, h2, h3⟩ := cellsP_at F U N (m := m) (j := j) (by omega)
      refine ⟨?_, ?_, ?_⟩ <;> rw [List.getElem?_append_left (by omega)] <;> assumption
theorem cellsP_up (F U N : Nat → Value) (v : Value) : ∀ {m i : Nat}, i < m → cellsP (up F i v) U N m = (cellsP F U N m).set (i * 3) v ∧ cellsP F (up U i v) N m = (cellsP F U N m).set (i * 3 + 1) v ∧ cellsP F U (up N i v) m = (cellsP F U N m).set (i * 3 + 2) v
  | 0, _, h => by omega
  | m + 1, i, h => by
    have hl := cellsP_len F U N m
    by_cases hi : i = m
    · subst hi
      have k1 : cellsP (up F i v) U N i = cellsP F U N i := cellsP_congr fun j hj => ⟨up_else _ _ (by omega), rfl, rfl⟩
      have k2 : cellsP F (up U i v) N i = cellsP F U N i := cellsP_congr fun j hj => ⟨rfl, up_else _ _ (by omega), rfl⟩
      have k3 : cellsP F U (up N i v) i = cellsP F U N i := cellsP_congr fun j hj => ⟨rfl, rfl, up_else _ _ (by omega)⟩
      refine ⟨?_, ?_, ?_⟩
      · rw [cellsP_succ, cellsP_succ, k1, up_same, List.set_append_right _ _ (by omega), hl, Nat.sub_self]; rfl
      · rw [cellsP_succ, cellsP_succ, k2, up_same, List.set_append_right _ _ (by omega), hl, show i * 3 + 1 - i * 3 = 1 by omega]; rfl
      · rw [cellsP_succ, cellsP_succ, k3, up_same, List.set_append_right _ _ (by omega), hl, show i * 3 + 2 - i * 3 = 2 by omega]; rfl
    · obtain ⟨h1, h2, h3⟩ := cellsP_up F U N v (m := m) (i := i) (by omega)
      refine ⟨?_, ?_, ?_⟩
      · rw [cellsP_succ, cellsP_succ, h1, up_else _ _ (by omega), List.set_append_left _ _ (by omega)]
      · rw [cellsP_succ, cellsP_succ, h2, up_else _ _ (by omega), List.set_append_left _ _ (by omega)]
      · rw [cellsP_succ, cellsP_succ, h3, up_else _ _ (by omega), List.set_append_left _ _ (by omega)]
end Go.Proofs.Ytmdgdphhedgojaa

namespace Go.Proofs.Ytmdgdphhedgojaa
open Go.RowKit Go.Maps

/-- A slice type t with elements of type e, of up to 1024 bytes. -/
def EltB (P : Program) (t e : TypeId) (z : Value) (size bytes : Nat) : Prop :=
  P.underlying t = some (.slice e) ∧ 0 < size ∧ bytes ≤ 1024 ∧ z.cells.size = size ∧ ∃ i, P.info? e = some i ∧ i.zero = some z ∧ i.size = size ∧ i.bytes = bytes
theorem EltB.mk' {P : Program} {t e : TypeId} {z : Value} {size bytes : Nat} (ht : P.underlying t = some (.slice e)) (hi : (P.info? e).map (fun i => (i.zero, i.size, i.bytes)) = some (some z, size, bytes))
    (hs : 0 < size) (hb : bytes ≤ 1024) (hz : z.cells.size = size) : EltB P t e z size bytes := by
  obtain ⟨i, h1, h2, h3, h4⟩ := info_parts hi
  exact ⟨ht, hs, hb, hz, i, h1, h2, h3, h4⟩
theorem Elt.big {P : Program} {t e : TypeId} {z : Value} {size bytes : Nat} (h : Elt P t e z size bytes) : EltB P t e z size bytes := by
  obtain ⟨ht, hs, hb, hz, i, h1⟩ := h
  exact ⟨ht, hs, by omega, hz, i, h1⟩
theorem elt_part : EltB Try.prog 79 74 (.agg #[.slice none 0 0, .slice none 0 0, .slice none 0 0]) 3 72 := EltB.mk' Try.underlying79 (by kernel_rfl) (by decide) (by decide) rfl

/-- append of one element, laid in a new block, onto a slice of one's own, with all that is known of the new slice. -/
theorem wpList_app3 {P : Program} {ops : Array Oper} {rest : List Oper} {o : Oper} {a : Act} {Q : Exit → Act → World → Prop} {w : World} {base : Nat} {us xs : List Value} {e t : TypeId} {z : Value} {size bytes n : Nat} {v : Value}
    (hgd : o.guard = none) (s x : Operand) (ho : o.op = .call { callee := .builtin .append, args := #[s, x], argTypes := #[t, t] }) (hE : EltB P t e z size bytes)
    (hown : w.ownsRow base e size v n xs) (hbs : base ≤ w.heap.size) (hs : a.eval s = v) {H : Nat} (hx : a.eval x = .slice (some ⟨H, 0, none⟩) 1 1) (hH : w.heap.size = H)
    (hl : us.length = size) (h1 : us.all (·.oneCell') = true) (hn : n < 1073741824)
    (h : ∀ v' w1, w1.ownsRow base e size v' (n + 1) (xs ++ us) → w.grownBy w1 v.ownBlock → (v'.ownBlock = v.ownBlock ∨ ∃ b, v'.ownBlock = some b ∧ w.heap.size ≤ b) → w.heap.size + 1 ≤ w1.heap.size →
      wpList P ops Q rest (a.put o.dst v') w1) : wpList P ops Q (o :: rest) a (w.alloc (.cells us.toArray e)) := by
  obtain ⟨ht, hsz, hby, hzs, i, hi, hz, hs1, hb1⟩ := hE
  subst hH
  refine wpList_plain hgd fun K hK => ?_
  have hmul : (n + 1) * bytes ≤ 140737488355328 := by
    have := Nat.mul_le_mul (show n + 1 ≤ 1073741824 from hn) hby
    omega
  obtain ⟨v', w1, hrun, hown1, hgr, _, hat⟩ := run_append_own_at (P := P) (w.alloc (.cells us.toArray e)) base t o.type e i z size bytes ht hi hz hs1 hb1 hzs hsz v n xs (hown.alloc _) ⟨w.heap.size, 0, none⟩ 1 1 us (by simpa using hl) (cells_new w us e) (all_one h1) (by unfold maxLen; omega) hmul (by simp; omega)
  have hg : w.grownBy w1 v.ownBlock := ⟨hgr.os, hgr.tape, hgr.output, by have := hgr.size; simp at this; omega, fun k hk hne => (hgr.block k (by simp; omega) hne).trans (Below.heap_alloc w _ k hk)⟩
  unfold Oper.wp execOp
  simp only [ho, resolve, invoke, builtin, Sem.run_bind, Sem.run_pure, Result.andThen_ok, List.map_toArray, List.map_cons, List.map_nil, hs, hx, hrun]
  refine hK _ _ (h v' w1 hown1 hg ?_ (by have := hgr.size; simpa using this))
  rcases hat with hat | hat
  · exact .inl hat
  · exact .inr ⟨w.heap.size + 1, by simpa using hat, by omega⟩

theorem app_wp3 {P : Program} {Q : Exit → Act → World → Prop} {o : Oper} {a : Act} {w : World} {K : Act → World → Prop} {base : Nat} {us xs : List Value} {e t : TypeId} {z : Value} {size bytes n H c : Nat} {v : Value} (x y : Operand)
    (ho : o.op = .call { callee := .builtin .append, args := #[x, y], argTypes := #[t, t] }) (hE : EltB P t e z size bytes) (hs : a.eval x = v) (hx : a.eval y = .slice (some ⟨H, 0, none⟩) 1 c)
    (hown : w.ownsRow base e size v n xs) (hB : Bk w H e us.toArray) (hl : us.length = size) (h1 : us.all (·.oneCell') = true) (hn : n < 1073741824) (hbs : base ≤ w.heap.size)
    (h : ∀ v' w1, w1.ownsRow base e size v' (n + 1) (xs ++ us) → w.grownBy w1 v.ownBlock → (v'.ownBlock = v.ownBlock ∨ ∃ b, v'.ownBlock = some b ∧ w.heap.size ≤ b) → K (a.put o.dst v') w1) : Oper.wp P o a w K Q := by
  obtain ⟨ht, hsz, hby, hzs, i, hi, hz, hs1, hb1⟩ := hE
  have hmul : (n + 1) * bytes ≤ 140737488355328 := by
    have := Nat.mul_le_mul (show n + 1 ≤ 1073741824 from hn) hby
    omega
  refine wp_append_lies w x y t ho base e i z size bytes ht hi hz hs1 hb1 hzs hsz v n xs hs hown ⟨H, 0, none⟩ 1 c us hx (by simpa using hl) (World.news_of_block hB) (all_one h1) (by omega) (by unfold maxLen; omega) hmul hbs _ rfl
    (fun g cap w1 k1 k2 k3 _ => h _ w1 k1 k2 ?_)
  rcases k3 with k3 | k3
  · exact .inl (by rw [k3]; rfl)
  · exact .inr ⟨g, rfl, by omega⟩

/-- What lies in memory while the parts are made. -/
structure KS (W : World) (s b1 M L G : Nat) (cg : Array Value) (n : Nat) (of rt lc : List Int) (l : List Nat) (m : Nat) (v : Value) (F U N : Nat → Value) (XF : Nat → List Nat) (XU : Nat → List Int) (XN : Nat → List (Int × Int × Int)) : Prop where
  rr : RT rt of
  root : Bk W (s + 1) 3 (rowI rt)
  gr : Bk W s 36 cg
  box : Bk W (s + 1 + 1) 22 #[.slice (some ⟨s + 1, 0, none⟩) n n]
  fb : Bk W G 107 #[.func (.func 55) #[] #[.pointer (some ⟨s + 1 + 1, 0, none⟩), .pointer (some ⟨G, 0, none⟩)]]
  mp : ∃ kn, MapF iV iV Try.prog 3 W M (pidx l) kn
  lo : Bk W L 3 (rowI lc)
  out : W.ownsRow b1 74 3 v m (cellsP F U N m)
  fF : Fam W b1 3 1 m F (fun j => (XF j).length) (fun j => (XF j).map fun f : Nat => Value.int .i64 (f : Int))
  fU : Fam W b1 3 1 m U (fun j => (XU j).length) (fun j => (XU j).map (Value.int .i64))
  fN : Fam W b1 52 3 m N (fun j => (XN j).length) (fun j => triC (XN j))
  fu : ∀ i j, i < m → j < m → Ap (F i) (U j)
  bd : s + 1 + 1 < b1 ∧ G < b1 ∧ M < b1 ∧ L < b1 ∧ L ≠ s + 1 ∧ b1 ≤ W.heap.size

section
variable {W W' : World} {s b1 M L G : Nat} {cg : Array Value} {n : Nat} {of rt lc : List Int} {l : List Nat} {m : Nat} {v : Value} {F U N : Nat → Value} {XF : Nat → List Nat} {XU : Nat → List Int} {XN : Nat → List (Int × Int × Int)}
theorem Fam.far {w : World} {base m size : Nat} {e : TypeId} {V : Nat → Value} {nn : Nat → Nat} {X : Nat → List Value} (h : Fam w base e size m V nn X) {r : Nat} (hr : r < base) : ∀ j, j < m → some r ≠ (V j).ownBlock := fun j hj hc => by
  have := (h.lt hj hc.symm).1
  omega
theorem Fam.own_ne {w : World} {base m size : Nat} {e : TypeId} {V : Nat → Value} {nn : Nat → Nat} {X : Nat → List Value} (h : Fam w base e size m V nn X) {base' e' size' n' : _} {v' : Value} {xs' : List Value} (ho : w.ownsRow base' e' size' v' n' xs') (hne : e ≠ e') : ∀ j, j < m → (V j).ownBlock = none ∨ (V j).ownBlock ≠ v'.ownBlock := fun j hj => Go.Proofs.Ytmdgdphhedgojaa.own_ne (h.o j hj) ho hne
theorem own_far {w : World} {base e size n r : Nat} {v : Value} {xs : List Value} (h : w.ownsRow base e size v n xs) (hr : r < base) : some r ≠ v.ownBlock := fun hc => by
  have := (h.lt r hc.symm).1
  omega
theorem own_turn' {w w' : World} {base e size n r : Nat} {v : Value} {xs : List Value} (h : w.ownsRow base e size v n xs) (ht : Turn w w' r) (hr : some r ≠ v.ownBlock) : w'.ownsRow base e size v n xs := by
  refine ⟨h.1, ?_⟩
  rcases h.2 with hn | ⟨g, cap, cur, hv, h1, hgg, rest⟩
  · exact .inl hn
  · refine .inr ⟨g, cap, cur, hv, h1, (ht.block g ?_).trans hgg, rest⟩
    rintro rfl
    rw [hv] at hr
    simp [Value.ownBlock] at hr
theorem KS.below (h : KS W s b1 M L G cg n of rt lc l m v F U N XF XU XN) (hb : Below W.heap.size W W') : KS W' s b1 M L G cg n of rt lc l m v F U N XF XU XN := by
  obtain ⟨h1, h2, h3, h4, h5, ⟨kn, h6⟩, h7, h8, h9, h10, h11, h12, h13⟩ := h
  have := hb.size
  exact ⟨h1, h2.below hb h2.lt, h3.below hb h3.lt, h4.below hb h4.lt, h5.below hb h5.lt, ⟨kn, h6.below hb h6.lt⟩, h7.below hb h7.lt, own_below h8 hb, h9.below hb, h10.below hb, h11.below hb, h12, by omega⟩
theorem KS.alloc (h : KS W s b1 M L G cg n of rt lc l m v F U N XF XU XN) (o : Obj) : KS (W.alloc o) s b1 M L G cg n of rt lc l m v F U N XF XU XN := h.below ((Below.refl _ _).alloc (Nat.le_refl _) o)
theorem KS.drew (h : KS W s b1 M L G cg n of rt lc l m v F U N XF XU XN) : KS W.drew s b1 M L G cg n of rt lc l m v F U N XF XU XN := h.below ((Below.refl _ _).drew)
theorem KS.qt (h : KS W s b1 M L G cg n of rt lc l m v F U N XF XU XN) (hq : Qt W W') : KS W' s b1 M L G cg n of rt lc l m v F U N XF XU XN := h.below (hq.below _)
/-- A root has been looked for. -/
theorem KS.find (h : KS W s b1 M L G cg n of rt lc l m v F U N XF XU XN) {rt' : List Int} (hR : RT rt' of) (hg : Bk W' (s + 1) 3 (rowI rt')) (ht : Turn W W' (s + 1)) : KS W' s b1 M L G cg n of rt' lc l m v F U N XF XU XN := by
  obtain ⟨h1, h2, h3, h4, h5, ⟨kn, h6⟩, h7, h8, h9, h10, h11, h12, h13⟩ := h
  have := ht.size
  exact ⟨hR, hg, ht.bk h3 (by omega), ht.bk h4 (by omega), ht.bk h5 (Ne.symm (Bk.ne_ h2 h5 (by decide))), ⟨kn, h6.turn ht (Ne.symm (h6.bk_ne h2))⟩, ht.bk h7 h13.2.2.2.2.1, own_turn' h8 ht (own_far h8 (by omega)), h9.turn ht (h9.far (by omega)), h10.turn ht (h10.far (by omega)), h11.turn ht (h11.far (by omega)), h12, by omega⟩
/-- The map has taken an index. -/
theorem KS.map (h : KS W s b1 M L G cg n of rt lc l m v F U N XF XU XN) {l' : List Nat} {kn : Nat} (hm : MapF iV iV Try.prog 3 W' M (pidx l') kn) (ht : Turn W W' M) : KS W' s b1 M L G cg n of rt lc l' m v F U N XF XU XN := by
  obtain ⟨h1, h2, h3, h4, h5, ⟨kn, h6⟩, h7, h8, h9, h10, h11, h12, h13⟩ := h
  have := ht.size
  exact ⟨h1, ht.bk h2 (h6.bk_ne h2), ht.bk h3 (h6.bk_ne h3), ht.bk h4 (h6.bk_ne h4), ht.bk h5 (h6.bk_ne h5), ⟨_, hm⟩, ht.bk h7 (h6.bk_ne h7), own_turn' h8 ht (own_far h8 (by omega)), h9.turn ht (h9.far (by omega)), h10.turn ht (h10.far (by omega)), h11.turn ht (h11.far (by omega)), h12, by omega⟩
/-- A number in its part is written. -/
theorem KS.local_ (h : KS W s b1 M L G cg n of rt lc l m v F U N XF XU XN) (i : Nat) {lc' : List Int} (u : Value) (hu : (rowI lc).setIfInBounds i u = rowI lc') : KS (W.setCell ⟨L, i, none⟩ u) s b1 M L G cg n of rt lc' l m v F U N XF XU XN := by
  obtain ⟨h1, h2, h3, h4, h5, ⟨kn, h6⟩, h7, h8, h9, h10, h11, h12, h13⟩ := h
  exact ⟨h1, h2.far (by show s + 1 ≠ L; omega) u, h3.far (Bk.ne_ h3 h7 (by decide)) u, h4.far (Bk.ne_ h4 h7 (by decide)) u, h5.far (Bk.ne_ h5 h7 (by decide)) u, ⟨kn, h6.setCell (Ne.symm (h6.bk_ne h7)) u⟩, hu ▸ h7.set_ i u, own_set h8 (own_far h8 (by omega)) u, h9.set_ (h9.far (by omega)) u, h10.set_ (h10.far (by omega)) u, h11.set_ (h11.far (by omega)) u, h12, by simpa using h13⟩
/-- A part has come. -/
theorem KS.push (h : KS W s b1 M L G cg n of rt lc l m v F U N XF XU XN) {H : Nat} {v' : Value} (hH : Bk W H 3 (rowI [0])) (hb : b1 ≤ H) (hne : ∀ j, j < m → some H ≠ (F j).ownBlock ∧ some H ≠ (U j).ownBlock) (hg : W.grownBy W' v.ownBlock)
    (ho : W'.ownsRow b1 74 3 v' (m + 1) (cellsP F U N m ++ [.slice none 0 0, .slice (some ⟨H, 0, none⟩) 1 1, .slice none 0 0])) (hF : XF m = []) (hU : XU m = [0]) (hN : XN m = []) :
    KS W' s b1 M L G cg n of rt lc l (m + 1) v' (up F m (.slice none 0 0)) (up U m (.slice (some ⟨H, 0, none⟩) 1 1)) (up N m (.slice none 0 0)) XF XU XN := by
  obtain ⟨h1, h2, h3, h4, h5, ⟨kn, h6⟩, h7, h8, h9, h10, h11, h12, h13⟩ := h
  have hz := hg.size
  have hrow : ∀ r, r < b1 → some r ≠ v.ownBlock := fun r hr => own_far h8 hr
  have hH' := hH.grown hg (hH.ne_own h8 (by decide))
  have hro : W'.ownsRow b1 3 1 (.slice (some ⟨H, 0, none⟩) 1 1) 1 ([0].map (Value.int .i64)) := own_row hH' hb (by simp)
  have f1 := (h9.grown hg (h9.own_ne h8 (by decide))).push (v := .slice none 0 0) (n' := 0) (x' := []) (World.ownsRow_nil _ _ _ _) (fun j _ => .inl rfl)
  have f2 := (h10.grown hg (h10.own_ne h8 (by decide))).push hro (fun j hj => by
    have := (hne j hj).2
    exact .inr (by simpa [Value.ownBlock] using this))
  have f3 := (h11.grown hg (h11.own_ne h8 (by decide))).push (v := .slice none 0 0) (n' := 0) (x' := []) (World.ownsRow_nil _ _ _ _) (fun j _ => .inl rfl)
  refine ⟨h1, h2.grown hg (hrow _ (by omega)), h3.grown hg (hrow _ (by omega)), h4.grown hg (hrow _ (by omega)), h5.grown hg (hrow _ (by omega)), ⟨kn, h6.grown hg (hrow _ (by omega))⟩, h7.grown hg (hrow _ (by omega)), ?_, f1.congr (fun j hj => ?_) (fun j hj => ?_), f2.congr (fun j hj => ?_) (fun j hj => ?_), f3.congr (fun j hj => ?_) (fun j hj => ?_), fun i j hi hj => ?_, by omega⟩
  · rw [cellsP_succ, cellsP_congr (F' := F) (U' := U) (N' := N) (fun j hj => ⟨up_else _ _ (by omega), up_else _ _ (by omega), up_else _ _ (by omega)⟩), up_same, up_same, up_same]
    exact ho
  · by_cases e : j = m
    · subst e; rw [up_same, hF]; rfl
    · rw [up_else _ _ e]
  · by_cases e : j = m
    · subst e; rw [up_same, hF]; rfl
    · rw [up_else _ _ e]
  · by_cases e : j = m
    · subst e; rw [up_same, hU]; rfl
    · rw [up_else _ _ e]
  · by_cases e : j = m
    · subst e; rw [up_same, hU]
    · rw [up_else _ _ e]
  · by_cases e : j = m
    · subst e; rw [up_same, hN]; rfl
    · rw [up_else _ _ e]
  · by_cases e : j = m
    · subst e; rw [up_same, hN]; rfl
    · rw [up_else _ _ e]
  · by_cases e : i = m
    · subst e; rw [up_same]; exact .inl rfl
    · rw [up_else _ _ e]
      by_cases e2 : j = m
      · subst e2; rw [up_same]
        have := (hne i (by omega)).1
        exact .inr (by simpa [Value.ownBlock] using Ne.symm this)
      · rw [up_else _ _ e2]
        exact h12 i j (by omega) (by omega)

theorem KS.gr_grown (h : KS W s b1 M L G cg n of rt lc l m v F U N XF XU XN) {row : Option Nat} (hg : W.grownBy W' row) (hr : ∀ r, r < b1 → some r ≠ row) (i : Nat) : W'.cell? ⟨s, i, none⟩ = cg[i]? ∧ W'.cell? ⟨L, i, none⟩ = (rowI lc)[i]? := by
  obtain ⟨h1, h2, h3, h4, h5, ⟨kn, h6⟩, h7, h8, h9, h10, h11, h12, h13⟩ := h
  exact ⟨(h3.grown hg (hr _ (by omega))).cell i, (h7.grown hg (hr _ (by omega))).cell i⟩
/-- The cells of a part. -/
theorem KS.cells {g c : Nat} (h : KS W s b1 M L G cg n of rt lc l m (.slice (some ⟨g, 0, none⟩) m c) F U N XF XU XN) {i : Nat} (hi : i < m) : W.cell? ⟨g, i * 3, none⟩ = some (F i) ∧ W.cell? ⟨g, i * 3 + 1, none⟩ = some (U i) ∧ W.cell? ⟨g, i * 3 + 2, none⟩ = some (N i) ∧ ∀ j, W.frozen? ⟨g, j, none⟩ = false := by
  obtain ⟨c1, c2, c3⟩ := cellsP_at F U N hi
  have hs := SL.of_own h.out
  have key : ∀ {k : Nat} {u : Value}, (cellsP F U N m)[k]? = some u → W.cell? ⟨g, k, none⟩ = some u := fun {k u} hu => by
    obtain ⟨b, o, e, _, hc⟩ := hs k u hu
    injection e with e
    injection e with e1 e2
    subst e1 e2
    rwa [Nat.zero_add] at hc
  refine ⟨key c1, key c2, key c3, fun j => ?_⟩
  rcases h.out.2 with ⟨he, _⟩ | ⟨k, cap, cur, he, h1, hg, _⟩
  · cases he
  · injection he with e1 e2 e3
    injection e1 with e1
    injection e1 with e1
    subst e1
    exact Bk.frozen (t := 74) (cs := cur) hg j
theorem KS.ne_rows {g c : Nat} (h : KS W s b1 M L G cg n of rt lc l m (.slice (some ⟨g, 0, none⟩) m c) F U N XF XU XN) {i : Nat} (hi : i < m) : some g ≠ (F i).ownBlock ∧ some g ≠ (U i).ownBlock ∧ some g ≠ (N i).ownBlock := by
  refine ⟨fun hc => ?_, fun hc => ?_, fun hc => ?_⟩
  · rcases own_ne h.out (h.fF.o i hi) (by decide) with h | h
    · cases h
    · exact h hc
  · rcases own_ne h.out (h.fU.o i hi) (by decide) with h | h
    · cases h
    · exact h hc
  · rcases own_ne h.out (h.fN.o i hi) (by decide) with h | h
    · cases h
    · exact h hc
theorem KS.after {g c : Nat} (h : KS W s b1 M L G cg n of rt lc l m (.slice (some ⟨g, 0, none⟩) m c) F U N XF XU XN) {row : Option Nat} (hg : W.grownBy W' row) (hr : ∃ i, i < m ∧ (row = (F i).ownBlock ∨ row = (U i).ownBlock ∨ row = (N i).ownBlock)) {i : Nat} (hi : i < m) :
    W'.cell? ⟨g, i * 3, none⟩ = some (F i) ∧ W'.cell? ⟨g, i * 3 + 1, none⟩ = some (U i) ∧ W'.cell? ⟨g, i * 3 + 2, none⟩ = some (N i) ∧ ∀ j, W'.frozen? ⟨g, j, none⟩ = false := by
  obtain ⟨i0, hi0, hr⟩ := hr
  obtain ⟨n1, n2, n3⟩ := h.ne_rows hi0
  have hb : W'.heap[g]? = W.heap[g]? := hg.block g (h.out.lt g rfl).2 (by rcases hr with hr | hr | hr <;> rw [hr] <;> assumption)
  obtain ⟨c1, c2, c3, c4⟩ := h.cells hi
  exact ⟨(World.cell?_of_block hb).trans c1, (World.cell?_of_block hb).trans c2, (World.cell?_of_block hb).trans c3, fun j => (World.frozen?_of_block hb).trans (c4 j)⟩
theorem up_id {α : Type} (f : Nat → α) (i : Nat) : up f i (f i) = f := by
  funext j
  unfold up
  split
  · rename_i h; rw [h]
  · rfl
/-- A face has come to a part. -/
theorem KS.appF {g c : Nat} (h : KS W s b1 M L G cg n of rt lc l m (.slice (some ⟨g, 0, none⟩) m c) F U N XF XU XN) {i : Nat} (hi : i < m) {v' : Value} {f : Nat} (hg : W.grownBy W' (F i).ownBlock) (ho : W'.ownsRow b1 3 1 v' ((XF i).length + 1) (((XF i).map fun f : Nat => Value.int .i64 (f : Int)) ++ [.int .i64 f]))
    (hv : v'.ownBlock = (F i).ownBlock ∨ ∃ b, v'.ownBlock = some b ∧ W.heap.size ≤ b) {XF' : Nat → List Nat} (hX : XF' = up XF i (XF i ++ [f])) :
    KS (W'.setCell ⟨g, i * 3, none⟩ v') s b1 M L G cg n of rt lc l m (.slice (some ⟨g, 0, none⟩) m c) (up F i v') U N XF' XU XN := by
  subst hX
  obtain ⟨h1, h2, h3, h4, h5, ⟨kn, h6⟩, h7, h8, h9, h10, h11, h12, h13⟩ := h
  have hrow : ∀ r, r < b1 → some r ≠ (F i).ownBlock := fun r hr => h9.far hr i hi
  have hz := hg.size
  have hgb : b1 ≤ g := (h8.lt g rfl).1
  have hgl : g < W.heap.size := (h8.lt g rfl).2
  have k8 := own_grown h8 hg (own_ne h8 (h9.o i hi) (by decide))
  have k9 := h9.app hi hg ho hv
  have hap : ∀ j, j < m → (U j).ownBlock = none ∨ (U j).ownBlock ≠ (F i).ownBlock := fun j hj => (h12 i j hi hj).symm
  have k10 := h10.grown hg hap
  have k11 := h11.grown hg (h11.own_ne (h9.o i hi) (by decide))
  have nF : ∀ j, j < m → some g ≠ (up F i v' j).ownBlock := fun j hj hc => by
    rcases own_ne k8 (k9.o j hj) (by decide) with h | h
    · cases h
    · exact h hc
  have nU : ∀ j, j < m → some g ≠ (U j).ownBlock := fun j hj hc => by
    rcases own_ne k8 (k10.o j hj) (by decide) with h | h
    · cases h
    · exact h hc
  have nN : ∀ j, j < m → some g ≠ (N j).ownBlock := fun j hj hc => by
    rcases own_ne k8 (k11.o j hj) (by decide) with h | h
    · cases h
    · exact h hc
  refine ⟨h1, (h2.grown hg (hrow _ (by omega))).far (by show s + 1 ≠ g; omega) _, (h3.grown hg (hrow _ (by omega))).far (by show s ≠ g; omega) _, (h4.grown hg (hrow _ (by omega))).far (by show s + 1 + 1 ≠ g; omega) _, (h5.grown hg (hrow _ (by omega))).far (by show G ≠ g; omega) _, ⟨kn, (h6.grown hg (hrow _ (by omega))).setCell (by show M ≠ g; omega) _⟩, (h7.grown hg (hrow _ (by omega))).far (by show L ≠ g; omega) _, ?_, ((k9.set_ nF v').congr (fun j hj => ?_) (fun j hj => ?_)), k10.set_ nU v', k11.set_ nN v', fun a b ha hb => ?_, by simp; omega⟩
  · rw [(cellsP_up F U N v' hi).1]
    exact own_put k8 v'
  · by_cases e : j = i
    · subst e; simp [up_same]
    · rw [up_else _ _ e, up_else _ _ e]
  · by_cases e : j = i
    · subst e; simp [up_same]
    · rw [up_else _ _ e, up_else _ _ e]
  · by_cases e : a = i
    · subst e
      rw [up_same]
      rcases hv with hv | ⟨b0, hb0, hz0⟩
      · have := h12 a b hi hb
        unfold Ap at this ⊢
        rw [hv]; exact this
      · refine .inr fun hc => ?_
        rw [hb0] at hc
        have := (h10.lt hb hc.symm).2
        omega
    · rw [up_else _ _ e]; exact h12 a b ha hb
/-- A weight has come to a part. -/
theorem KS.appU {g c : Nat} (h : KS W s b1 M L G cg n of rt lc l m (.slice (some ⟨g, 0, none⟩) m c) F U N XF XU XN) {i : Nat} (hi : i < m) {v' : Value} {x : Int} (hg : W.grownBy W' (U i).ownBlock) (ho : W'.ownsRow b1 3 1 v' ((XU i).length + 1) (((XU i).map (Value.int .i64)) ++ [.int .i64 x]))
    (hv : v'.ownBlock = (U i).ownBlock ∨ ∃ b, v'.ownBlock = some b ∧ W.heap.size ≤ b) {XU' : Nat → List Int} (hX : XU' = up XU i (XU i ++ [x])) :
    KS (W'.setCell ⟨g, i * 3 + 1, none⟩ v') s b1 M L G cg n of rt lc l m (.slice (some ⟨g, 0, none⟩) m c) F (up U i v') N XF XU' XN := by
  subst hX
  obtain ⟨h1, h2, h3, h4, h5, ⟨kn, h6⟩, h7, h8, h9, h10, h11, h12, h13⟩ := h
  have hrow : ∀ r, r < b1 → some r ≠ (U i).ownBlock := fun r hr => h10.far hr i hi
  have hz := hg.size
  have hgb : b1 ≤ g := (h8.lt g rfl).1
  have hgl : g < W.heap.size := (h8.lt g rfl).2
  have k8 := own_grown h8 hg (own_ne h8 (h10.o i hi) (by decide))
  have k10 := h10.app hi hg ho hv
  have hap : ∀ j, j < m → (F j).ownBlock = none ∨ (F j).ownBlock ≠ (U i).ownBlock := fun j hj => h12 j i hj hi
  have k9 := h9.grown hg hap
  have k11 := h11.grown hg (h11.own_ne (h10.o i hi) (by decide))
  have nF : ∀ j, j < m → some g ≠ (F j).ownBlock := fun j hj hc => by
    rcases own_ne k8 (k9.o j hj) (by decide) with h | h
    · cases h
    · exact h hc
  have nU : ∀ j, j < m → some g ≠ (up U i v' j).ownBlock := fun j hj hc => by
    rcases own_ne k8 (k10.o j hj) (by decide) with h | h
    · cases h
    · exact h hc
  have nN : ∀ j, j < m → some g ≠ (N j).ownBlock := fun j hj hc => by
    rcases own_ne k8 (k11.o j hj) (by decide) with h | h
    · cases h
    · exact h hc
  refine ⟨h1, (h2.grown hg (hrow _ (by omega))).far (by show s + 1 ≠ g; omega) _, (h3.grown hg (hrow _ (by omega))).far (by show s ≠ g; omega) _, (h4.grown hg (hrow _ (by omega))).far (by show s + 1 + 1 ≠ g; omega) _, (h5.grown hg (hrow _ (by omega))).far (by show G ≠ g; omega) _, ⟨kn, (h6.grown hg (hrow _ (by omega))).setCell (by show M ≠ g; omega) _⟩, (h7.grown hg (hrow _ (by omega))).far (by show L ≠ g; omega) _, ?_, k9.set_ nF v', ((k10.set_ nU v').congr (fun j hj => ?_) (fun j hj => ?_)), k11.set_ nN v', fun a b ha hb => ?_, by simp; omega⟩
  · rw [(cellsP_up F U N v' hi).2.1]
    exact own_put k8 v'
  · by_cases e : j = i
    · subst e; simp [up_same]
    · rw [up_else _ _ e, up_else _ _ e]
  · by_cases e : j = i
    · subst e; simp [up_same]
    · rw [up_else _ _ e, up_else _ _ e]
  · by_cases e : b = i
    · subst e
      rw [up_same]
      rcases hv with hv | ⟨b0, hb0, hz0⟩
      · have := h12 a b ha hi
        unfold Ap at this ⊢
        rw [hv]; exact this
      · refine Ap.symm (.inr fun hc => ?_)
        rw [hb0] at hc
        have := (h9.lt ha hc.symm).2
        omega
    · rw [up_else _ _ e]; exact h12 a b ha hb
/-- A border has come to a part. -/
theorem KS.appN {g c : Nat} (h : KS W s b1 M L G cg n of rt lc l m (.slice (some ⟨g, 0, none⟩) m c) F U N XF XU XN) {i : Nat} (hi : i < m) {v' : Value} {x : Int × Int × Int} (hg : W.grownBy W' (N i).ownBlock) (ho : W'.ownsRow b1 52 3 v' ((XN i).length + 1) (triC (XN i) ++ [.int .i64 x.1, .int .i64 x.2.1, .int .i64 x.2.2]))
    (hv : v'.ownBlock = (N i).ownBlock ∨ ∃ b, v'.ownBlock = some b ∧ W.heap.size ≤ b) {XN' : Nat → List (Int × Int × Int)} (hX : XN' = up XN i (XN i ++ [x])) :
    KS (W'.setCell ⟨g, i * 3 + 2, none⟩ v') s b1 M L G cg n of rt lc l m (.slice (some ⟨g, 0, none⟩) m c) F U (up N i v') XF XU XN' := by
  subst hX
  obtain ⟨h1, h2, h3, h4, h5, ⟨kn, h6⟩, h7, h8, h9, h10, h11, h12, h13⟩ := h
  have hrow : ∀ r, r < b1 → some r ≠ (N i).ownBlock := fun r hr => h11.far hr i hi
  have hz := hg.size
  have hgb : b1 ≤ g := (h8.lt g rfl).1
  have hgl : g < W.heap.size := (h8.lt g rfl).2
  have k8 := own_grown h8 hg (own_ne h8 (h11.o i hi) (by decide))
  have k11 := h11.app hi hg ho hv
  have k9 := h9.grown hg (h9.own_ne (h11.o i hi) (by decide))
  have k10 := h10.grown hg (h10.own_ne (h11.o i hi) (by decide))
  have nF : ∀ j, j < m → some g ≠ (F j).ownBlock := fun j hj hc => by
    rcases own_ne k8 (k9.o j hj) (by decide) with h | h
    · cases h
    · exact h hc
  have nU : ∀ j, j < m → some g ≠ (U j).ownBlock := fun j hj hc => by
    rcases own_ne k8 (k10.o j hj) (by decide) with h | h
    · cases h
    · exact h hc
  have nN : ∀ j, j < m → some g ≠ (up N i v' j).ownBlock := fun j hj hc => by
    rcases own_ne k8 (k11.o j hj) (by decide) with h | h
    · cases h
    · exact h hc
  refine ⟨h1, (h2.grown hg (hrow _ (by omega))).far (by show s + 1 ≠ g; omega) _, (h3.grown hg (hrow _ (by omega))).far (by show s ≠ g; omega) _, (h4.grown hg (hrow _ (by omega))).far (by show s + 1 + 1 ≠ g; omega) _, (h5.grown hg (hrow _ (by omega))).far (by show G ≠ g; omega) _, ⟨kn, (h6.grown hg (hrow _ (by omega))).setCell (by show M ≠ g; omega) _⟩, (h7.grown hg (hrow _ (by omega))).far (by show L ≠ g; omega) _, ?_, k9.set_ nF v', k10.set_ nU v', ((k11.set_ nN v').congr (fun j hj => ?_) (fun j hj => ?_)), h12, by simp; omega⟩
  · rw [(cellsP_up F U N v' hi).2.2]
    exact own_put k8 v'
  · by_cases e : j = i
    · subst e; simp [up_same]
    · rw [up_else _ _ e, up_else _ _ e]
  · by_cases e : j = i
    · subst e; simp [up_same, triC_append]; rfl
    · rw [up_else _ _ e, up_else _ _ e]
end

theorem root_ks {of : List Int} {k r : Nat} {n : Nat} {ns : List (Int × Int × Int)} (hC : Comp of n ns) (hk : k < n) (h0 : k ≠ 0) (hr : of.getD k 0 = (r : Int)) (hrk : r ≤ k) (hrr : of.getD r 0 = (r : Int)) : r ≠ 0 ∧ r ∈ rts of (k + 1) := by
  have h1 : r ≠ 0 := fun e => h0 (hC.al k (by have := hC.len; omega) (by rw [hr, e]; rfl))
  exact ⟨h1, mem_rts.2 ⟨by omega, h1, hrr⟩⟩
/-- The faces, the weights and the borders of the parts, as far as they have come. -/
def rj (of : List Int) (n j : Nat) : Nat := (rts of n).getD j 0
def xF (of : List Int) (n k j : Nat) : List Nat := fcs (inP of (rj of n j)) k
def xU (ws of : List Int) (n k j : Nat) : List Int := inW ws (inP of (rj of n j)) k
def xN (ns : List (Int × Int × Int)) (of : List Int) (n j : Nat) : List (Int × Int × Int) := inN ns (inP of (rj of n j))
def locL (of : List Int) (k : Nat) : List Int := (List.range k).map fun j => if j = 0 then 0 else ((loc (inP of (of.getD j 0).toNat) j : Nat) : Int)
theorem locL_len (of : List Int) (k : Nat) : (locL of k).length = k := by simp [locL]
theorem locL_succ (of : List Int) (k : Nat) : locL of (k + 1) = locL of k ++ [if k = 0 then 0 else ((loc (inP of (of.getD k 0).toNat) k : Nat) : Int)] := by simp [locL, List.range_succ]
theorem locL_at {of : List Int} {n j : Nat} (hj : j < n) (h0 : j ≠ 0) : (locL of n)[j]? = some ((loc (inP of (of.getD j 0).toNat) j : Nat) : Int) := by simp [locL, hj, h0]
theorem inW_succ (ws : List Int) (p : Nat → Bool) (k : Nat) : inW ws p (k + 1) = inW ws p k ++ if p k then [ws.getD k 0] else [] := by
  unfold inW
  rw [fcs_succ, List.map_append, List.cons_append]
  cases p k <;> rfl
theorem rj_at {of : List Int} {n j r : Nat} (h : (rts of n)[j]? = some r) : rj of n j = r := by simp [rj, List.getD, h]
theorem rj_else {of : List Int} {n i j r : Nat} (hi : (rts of n)[i]? = some r) (h0 : r ≠ 0) (hj : j ≠ i) : rj of n j ≠ r := fun e => by
  unfold rj List.getD at e
  cases hx : (rts of n)[j]? with
  | none => rw [hx] at e; exact h0 e.symm
  | some x =>
    rw [hx] at e
    obtain rfl : x = r := e
    obtain ⟨h1, h2⟩ := List.getElem?_eq_some_iff.1 hi
    obtain ⟨h3, h4⟩ := List.getElem?_eq_some_iff.1 hx
    exact hj (nodup_idx (rts_nodup of n) h3 h1 (by rw [h4, h2]))
theorem inP_at {of : List Int} {k r : Nat} (hr : of.getD k 0 = (r : Int)) (h0 : k ≠ 0) : inP of r k = true := by simp only [inP, hr]; simp [h0]
theorem inP_else {of : List Int} {k r r' : Nat} (hr : of.getD k 0 = (r : Int)) (h : r' ≠ r) : inP of r' k = false := by
  simp only [inP, hr]
  rw [Bool.and_eq_false_iff]
  exact .inr (by simp; omega)
theorem xF_step {of : List Int} {n k i r : Nat} (hr : of.getD k 0 = (r : Int)) (h0 : k ≠ 0) (h1 : r ≠ 0) (hi : (rts of n)[i]? = some r) : xF of n (k + 1) = up (xF of n k) i (xF of n k i ++ [k]) := by
  funext j
  by_cases e : j = i
  · subst e
    rw [up_same, xF, fcs_succ, rj_at hi, inP_at hr h0, xF, rj_at hi]
    rfl
  · rw [up_else _ _ e, xF, fcs_succ, inP_else hr (rj_else hi h1 e), xF]
    simp
theorem xU_step {ws of : List Int} {n k i r : Nat} (hr : of.getD k 0 = (r : Int)) (h0 : k ≠ 0) (h1 : r ≠ 0) (hi : (rts of n)[i]? = some r) : xU ws of n (k + 1) = up (xU ws of n k) i (xU ws of n k i ++ [ws.getD k 0]) := by
  funext j
  by_cases e : j = i
  · subst e
    rw [up_same, xU, inW_succ, rj_at hi, inP_at hr h0, xU, rj_at hi]
    rfl
  · rw [up_else _ _ e, xU, inW_succ, inP_else hr (rj_else hi h1 e), xU]
    simp
theorem fcs_root {of : List Int} {r : Nat} (hC : CN of) : ∀ k, k ≤ r → k ≤ of.length → fcs (inP of r) k = []
  | 0, _, _ => rfl
  | k + 1, h, hl => by
    rw [fcs_succ, fcs_root hC k (by omega) (by omega)]
    obtain ⟨q, q1, q2, _⟩ := hC k (by omega)
    rw [inP_else q1 (by omega)]
    rfl
theorem root_new {of : List Int} {k : Nat} (h0 : k ≠ 0) (hr : of.getD k 0 = (k : Int)) : rts of (k + 1) = rts of k ++ [k] := by
  rw [rts_succ, hr]
  simp [h0]
theorem root_old {of : List Int} {k : Nat} (hr : of.getD k 0 ≠ (k : Int)) : rts of (k + 1) = rts of k := by
  rw [rts_succ]
  simp only [List.append_right_eq_self]
  rw [if_neg]
  simp only [Bool.and_eq_true, beq_iff_eq]
  exact fun h => hr h.2
theorem rts_zero (of : List Int) : rts of 1 = [] := by rw [rts_succ]; rfl
theorem xN_step {ns : List (Int × Int × Int)} {of : List Int} {n i r k : Nat} {t : Int × Int × Int} (ht : ns[k]? = some t) (hr : of.getD t.1.toNat 0 = (r : Int)) (h0 : t.1.toNat ≠ 0) (h1 : r ≠ 0) (hi : (rts of n)[i]? = some r) :
    xN (ns.take (k + 1)) of n = up (xN (ns.take k) of n) i (xN (ns.take k) of n i ++ [reN (inP of r) t]) := by
  funext j
  rw [take_snoc' ht]
  by_cases e : j = i
  · subst e
    rw [up_same, xN, inN, List.filter_append, rj_at hi, xN, inN, rj_at hi, List.filter_cons, inP_at hr h0, List.map_append]
    rfl
  · rw [up_else _ _ e, xN, inN, List.filter_append, List.filter_cons, inP_else hr (rj_else hi h1 e), xN, inN]
    simp
theorem xN_zero {ns : List (Int × Int × Int)} {of : List Int} {n k : Nat} {t : Int × Int × Int} (ht : ns[k]? = some t) (h0 : t.1.toNat = 0) : xN (ns.take (k + 1)) of n = xN (ns.take k) of n := by
  funext j
  rw [take_snoc' ht, xN, inN, List.filter_append, List.filter_cons, h0]
  have : inP of (rj of n j) 0 = false := rfl
  rw [this, xN, inN]
  simp

/-- The parts: their faces, their weights and their borders. -/
def partsO (ws : List Int) (ns : List (Int × Int × Int)) (of : List Int) : List (List Int × List Int × List (Int × Int × Int)) := (rts of ws.length).map fun r => ((fcs (inP of r) ws.length).map fun f : Nat => (f : Int), inW ws (inP of r) ws.length, inN ns (inP of r))
def partsD (ws : List Int) (ns : List (Int × Int × Int)) : List (List Int × List Int × List (Int × Int × Int)) := partsO ws ns (comp ns ws.length)
/-- What lies from block b on is as it was. -/
structure Up (b : Nat) (w W : World) : Prop where
  size : w.heap.size ≤ W.heap.size
  block : ∀ k, b ≤ k → k < w.heap.size → W.heap[k]? = w.heap[k]?
theorem Up.refl (b : Nat) (w : World) : Up b w w := ⟨Nat.le_refl _, fun _ _ _ => rfl⟩
theorem Up.trans {b : Nat} {u v w : World} (h : Up b u v) (k : Up b v w) : Up b u w := ⟨Nat.le_trans h.size k.size, fun i hi hl => (k.block i hi (Nat.lt_of_lt_of_le hl h.size)).trans (h.block i hi hl)⟩
theorem Up.of_below {b : Nat} {w W : World} (h : Below w.heap.size w W) : Up b w W := ⟨h.size, fun k _ hl => h.block k hl⟩
theorem Up.of_grown {b r : Nat} {w W : World} (h : w.grownBy W (some r)) (hr : r < b) : Up b w W := ⟨h.size, fun k hk hl => h.block k hl (fun e => by injection e; omega)⟩
theorem own_up {w W : World} {b base e size n : Nat} {v : Value} {xs : List Value} (h : w.ownsRow base e size v n xs) (hb : b ≤ base) (hU : Up b w W) : W.ownsRow base e size v n xs := by
  refine ⟨h.1, ?_⟩
  rcases h.2 with hn | ⟨g, cap, cur, hv, h1, hgg, rest⟩
  · exact .inl hn
  · exact .inr ⟨g, cap, cur, hv, h1, (hU.block g (by omega) (Array.getElem?_eq_some_iff.1 hgg).1).trans hgg, rest⟩
/-- The parts behind a slice, in blocks from b on. -/
def PR (w : World) (b : Nat) (A : Option Addr) (ds : List (List Int × List Int × List (Int × Int × Int))) : Prop :=
  ∃ vs, (∀ W, Up b w W → SL W A vs) ∧ vs.length = ds.length * 3 ∧ ∀ j d, ds[j]? = some d → ∃ F f U u N n, vs[j * 3]? = some (Value.slice F d.1.length f) ∧ vs[j * 3 + 1]? = some (Value.slice U d.2.1.length u) ∧ vs[j * 3 + 2]? = some (Value.slice N d.2.2.length n) ∧ ∀ W, Up b w W → SI W F d.1 ∧ SI W U d.2.1 ∧ ST W N d.2.2
theorem PR.up {w w' : World} {b : Nat} {A : Option Addr} {ds : List (List Int × List Int × List (Int × Int × Int))} (h : PR w b A ds) (hb : Up b w w') : PR w' b A ds := by
  obtain ⟨vs, h1, h2, h3⟩ := h
  refine ⟨vs, fun W hW => h1 W (hb.trans hW), h2, fun j d hd => ?_⟩
  obtain ⟨F, f, U, u, N, n, c1, c2, c3, s1⟩ := h3 j d hd
  exact ⟨F, f, U, u, N, n, c1, c2, c3, fun W hW => s1 W (hb.trans hW)⟩
theorem PR.get {w : World} {b' : Nat} {A : Option Addr} {ds : List (List Int × List Int × List (Int × Int × Int))} {k : Nat} (h : PR w b' A ds) (hk : k < ds.length) :
    ∃ b o F f U u N n Fl Wl Nl, A = some ⟨b, o, none⟩ ∧ w.cell? ⟨b, o + k * 3, none⟩ = some (Value.slice F (Fl : List Int).length f) ∧ w.cell? ⟨b, o + k * 3 + 1, none⟩ = some (Value.slice U (Wl : List Int).length u) ∧ w.cell? ⟨b, o + k * 3 + 2, none⟩ = some (Value.slice N (Nl : List (Int × Int × Int)).length n) ∧
      (∀ W, Up b' w W → SI W F Fl ∧ SI W U Wl ∧ ST W N Nl) ∧ Hid (ds[k]? = some (Fl, Wl, Nl)) ∧ b < w.heap.size := by
  obtain ⟨vs, h1, h2, h3⟩ := h
  have hn : ds[k]? = some ds[k] := List.getElem?_eq_getElem hk
  obtain ⟨F, f, U, u, N, n, c1, c2, c3, s1⟩ := h3 k _ hn
  have h1 := h1 w (Up.refl _ _)
  obtain ⟨b, o, e0, hbl, k1⟩ := h1 _ _ c1
  subst e0
  have k2 := SL.two h1 c1 c2
  have k3 := SL.two h1 c1 c3
  rw [← Nat.add_assoc] at k2 k3
  exact ⟨b, o, F, f, U, u, N, n, _, _, _, rfl, k1, k2, k3, s1, hn, hbl⟩
theorem KS.parts {W : World} {s b1 M L G c : Nat} {cg : Array Value} {of rt lc ws : List Int} {ns : List (Int × Int × Int)} {l : List Nat} {A : Option Addr} {F U N : Nat → Value}
    (h : KS W s b1 M L G cg ws.length of rt lc l (rts of ws.length).length (.slice A (rts of ws.length).length c) F U N (xF of ws.length ws.length) (xU ws of ws.length ws.length) (xN ns of ws.length)) (hs : s ≤ b1) : PR W s A (partsO ws ns of) := by
  refine ⟨_, fun X hX => SL.of_own (own_up h.out hs hX), by rw [cellsP_len, partsO, List.length_map], fun j d hd => ?_⟩
  rw [partsO, List.getElem?_map] at hd
  cases hr : (rts of ws.length)[j]? with
  | none => rw [hr] at hd; cases hd
  | some r =>
    rw [hr] at hd
    obtain rfl := Option.some.inj hd
    have hj := (List.getElem?_eq_some_iff.1 hr).1
    obtain ⟨c1, c2, c3⟩ := cellsP_at F U N hj
    have o1 := h.fF.o j hj
    have o2 := h.fU.o j hj
    have o3 := h.fN.o j hj
    have e1 : xF of ws.length ws.length j = fcs (inP of r) ws.length := by rw [xF, rj_at hr]
    have e2 : xU ws of ws.length ws.length j = inW ws (inP of r) ws.length := by rw [xU, rj_at hr]
    have e3 : xN ns of ws.length j = inN ns (inP of r) := by rw [xN, rj_at hr]
    obtain ⟨A1, k1, v1⟩ := own_slice o1
    obtain ⟨A2, k2, v2⟩ := own_slice o2
    obtain ⟨A3, k3, v3⟩ := own_slice o3
    rw [v1] at c1 o1
    rw [v2] at c2 o2
    rw [v3] at c3 o3
    rw [e1] at c1
    rw [e2] at c2
    rw [e3] at c3
    refine ⟨A1, k1, A2, k2, A3, k3, by rw [List.length_map]; exact c1, c2, c3, fun X hX => ?_⟩
    have s1 := SL.of_own (own_up o1 hs hX)
    have s2 := SL.of_own (own_up o2 hs hX)
    have s3 := SL.of_own (own_up o3 hs hX)
    rw [e1] at s1
    rw [e2] at s2
    rw [e3] at s3
    refine ⟨?_, s2, s3⟩
    show SL X A1 _
    rw [List.map_map]
    exact s1
end Go.Proofs.Ytmdgdphhedgojaa

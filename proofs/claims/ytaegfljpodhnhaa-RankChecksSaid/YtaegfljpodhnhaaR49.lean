import Derived.Test.YtaegfljpodhnhaaR48
import Derived.Test.YtaegfljpodhnhaaR37
import Derived.Test.YtaegfljpodhnhaaR38
namespace Go.Proofs.Ytaegfljpodhnhaa
open Go.RowKit Go.Maps

/-- The new rows of ints behind some slices, each with its own room. -/
structure IB (w : World) (base : Nat) (vs : List Value) (ls : List (List Int)) : Prop where
  len : vs.length = ls.length
  el : ∀ (j : Nat) v l, vs[j]? = some v → ls[j]? = some l → ∃ B c, v = Value.slice B l.length c ∧ w.ownsRow base 3 1 (.slice B l.length c) l.length (l.map (Value.int .i64))

section
variable {w w' : World} {base : Nat} {vs : List Value} {ls : List (List Int)}
theorem IB.nil (w : World) (base : Nat) : IB w base [] [] := ⟨rfl, fun j v l h => by simp at h⟩
theorem IB.below (h : IB w base vs ls) (hb : Below w.heap.size w w') : IB w' base vs ls := ⟨h.len, fun j v l hv hl => by
  obtain ⟨B, c, e, hg⟩ := h.el j v l hv hl
  exact ⟨B, c, e, own_below hg hb⟩⟩
theorem IB.grown (h : IB w base vs ls) {b n size : Nat} {e : TypeId} {v : Value} {xs : List Value} (ho : w.ownsRow b e size v n xs) (he : 3 ≠ e) (hg : w.grownBy w' v.ownBlock) : IB w' base vs ls := ⟨h.len, fun j u l hv hl => by
  obtain ⟨B, c, eq, hk⟩ := h.el j u l hv hl
  exact ⟨B, c, eq, own_grown hk hg (own_ne hk ho he)⟩⟩
theorem IB.snoc (h : IB w base vs ls) {c : Nat} {B : Option Addr} {l : List Int} (hg : w.ownsRow base 3 1 (.slice B l.length c) l.length (l.map (Value.int .i64))) : IB w base (vs ++ [.slice B l.length c]) (ls ++ [l]) := ⟨by simp [h.len], fun j v k hv hk => by
  have hlen := h.len
  rcases snoc_get hv with ⟨hv, h1⟩ | ⟨h1, rfl⟩ <;> rcases snoc_get hk with ⟨hk, h2⟩ | ⟨h2, rfl⟩
  · exact h.el j v k hv hk
  · omega
  · omega
  · exact ⟨B, c, rfl, hg⟩⟩
theorem IB.sll {n c b : Nat} {A : Option Addr} (h : IB w base vs ls) (ho : w.ownsRow b 22 1 (.slice A n c) n vs) : SLL w A ls :=
  ⟨vs, SL.of_own ho, h.len, fun j v l hv hl => by
    obtain ⟨B, c, e, hg⟩ := h.el j v l hv hl
    exact ⟨B, c, e, own_si hg⟩⟩
end

/-- What a slice of ints reads. -/
def readI (w : World) (B : Option Addr) (n : Nat) : List Int := (List.range n).map fun j => match B with
  | some a => match w.cell? (a.add j) with
    | some (.int _ z) => z
    | _ => 0
  | none => 0
theorem readI_len (w : World) (B : Option Addr) (n : Nat) : (readI w B n).length = n := by simp [readI]

theorem SI.put {w : World} {B : Option Addr} {l : List Int} {p : Addr} {x y : Int} (h : SI w B l) (hc : w.cell? p = some (.int .i64 x)) : SI (w.setCell p (.int .i64 y)) B (readI (w.setCell p (.int .i64 y)) B l.length) := fun j u hu => by
  have hj : j < l.length := by
    have := (List.getElem?_eq_some_iff.1 hu).1
    simpa [readI_len] using this
  obtain ⟨b, o, rfl, hb, hcell⟩ := h j (.int .i64 l[j]) (by simp [hj])
  have hn : ∃ z, (w.setCell p (.int .i64 y)).cell? ⟨b, o + j, none⟩ = some (.int .i64 z) := by
    by_cases e : p = ⟨b, o + j, none⟩
    · subst e
      exact ⟨y, World.cell?_setCell_same w _ _ hc⟩
    · exact ⟨l[j], (World.cell?_setCell_other w _ _ _ e).trans hcell⟩
  obtain ⟨z, hz⟩ := hn
  refine ⟨b, o, rfl, by simpa [World.setCell] using hb, ?_⟩
  have e : (readI (w.setCell p (.int .i64 y)) (some ⟨b, o, none⟩) l.length)[j]? = some z := by
    have ha : (⟨b, o, none⟩ : Addr).add j = ⟨b, o + j, none⟩ := by simp [Addr.add]
    have hz' : (w.setCell p (.int .i64 y)).cell? ((⟨b, o, none⟩ : Addr).add j) = some (.int .i64 z) := by rw [ha]; exact hz
    simp only [readI, List.getElem?_map, List.getElem?_range hj, Option.map_some, hz']
  rw [List.getElem?_map, e] at hu
  injection hu with hu
  rw [← hu]
  exact hz

theorem SLL.put {w : World} {A : Option Addr} {ls : List (List Int)} {p : Addr} {x y : Int} (h : SLL w A ls) (hc : w.cell? p = some (.int .i64 x)) :
    ∃ bs, SLL (w.setCell p (.int .i64 y)) A bs ∧ bs.length = ls.length ∧ ∀ n, (∀ l ∈ ls, l.length ≤ n) → ∀ l ∈ bs, l.length ≤ n := by
  obtain ⟨vs, h1, h2, h3⟩ := h
  refine ⟨(List.zip vs ls).map fun q => match q.1 with
    | .slice B _ _ => readI (w.setCell p (.int .i64 y)) B q.2.length
    | _ => [], ⟨vs, fun j u hu => ?_, by simp [h2], fun j v l hv hl => ?_⟩, by simp [h2], fun n hn l hl => ?_⟩
  · obtain ⟨b, o, e, hb, hcell⟩ := h1 j u hu
    refine ⟨b, o, e, by simpa [World.setCell] using hb, ?_⟩
    have hne : p ≠ ⟨b, o + j, none⟩ := fun e => by
      subst e
      have hj := (List.getElem?_eq_some_iff.1 hu).1
      obtain ⟨B, c, e2, _⟩ := h3 j u ls[j] hu (List.getElem?_eq_getElem (by omega))
      rw [hcell, e2] at hc
      cases hc
    exact (World.cell?_setCell_other w _ _ _ hne).trans hcell
  · have hj : j < ls.length := by have := (List.getElem?_eq_some_iff.1 hv).1; omega
    have hl2 : ls[j]? = some ls[j] := List.getElem?_eq_getElem hj
    have hz : (List.zip vs ls)[j]? = some (v, ls[j]) := List.getElem?_zip_eq_some.2 ⟨hv, hl2⟩
    rw [List.getElem?_map, hz] at hl
    obtain ⟨B, c, e2, hs⟩ := h3 j v _ hv hl2
    subst e2
    simp only [Option.map_some] at hl
    injection hl with hl
    subst hl
    refine ⟨B, c, by rw [readI_len], ?_⟩
    exact SI.put hs hc
  · obtain ⟨⟨v, l0⟩, hq, rfl⟩ := List.mem_map.1 hl
    have hm := List.of_mem_zip hq
    dsimp only
    split
    · rw [readI_len]; exact hn _ hm.2
    · exact Nat.zero_le _
end Go.Proofs.Ytaegfljpodhnhaa

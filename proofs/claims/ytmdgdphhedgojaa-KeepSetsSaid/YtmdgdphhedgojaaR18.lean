import Derived.Test.YtmdgdphhedgojaaR16
import Derived.Test.YtmdgdphhedgojaaR17
namespace Go.Proofs.Ytmdgdphhedgojaa
open Go.RowKit Go.Maps

theorem elt_lists : Elt Try.prog 38 22 (.slice none 0 0) 1 24 := Elt.mk' Try.underlying38 (by kernel_rfl) (by decide) (by decide) rfl
theorem elt_steps : Elt Try.prog 84 95 (.slice none 0 0) 1 24 := Elt.mk' Try.underlying84 (by kernel_rfl) (by decide) (by decide) rfl

theorem own_grown {w w' : World} {base : Nat} {e : TypeId} {n size : Nat} {v : Value} {xs : List Value} {row : Option Nat} (h : w.ownsRow base e size v n xs) (hg : w.grownBy w' row) (hr : v.ownBlock = none ∨ v.ownBlock ≠ row) : w'.ownsRow base e size v n xs := by
  refine ⟨h.1, ?_⟩
  rcases h.2 with hn | ⟨g, cap, cur, rfl, h1, hgg, rest⟩
  · exact .inl hn
  · refine .inr ⟨g, cap, cur, rfl, h1, (hg.block g (Array.getElem?_eq_some_iff.1 hgg).1 ?_).trans hgg, rest⟩
    rcases hr with hr | hr
    · simp [Value.ownBlock] at hr
    · simpa [Value.ownBlock] using hr

theorem own_mono {w : World} {base base' : Nat} {e : TypeId} {n size : Nat} {v : Value} {xs : List Value} (h : w.ownsRow base e size v n xs) (hb : base' ≤ base) : w.ownsRow base' e size v n xs := by
  refine ⟨h.1, ?_⟩
  rcases h.2 with hn | ⟨g, cap, cur, rfl, h1, rest⟩
  · exact .inl hn
  · exact .inr ⟨g, cap, cur, rfl, by omega, rest⟩

theorem own_fr {w w' : World} {g r s base : Nat} {e : TypeId} {n size : Nat} {v : Value} {xs : List Value} (h : w.ownsRow base e size v n xs) (hf : Fr g r s w w') (hr : some g ≠ v.ownBlock ∧ some r ≠ v.ownBlock ∧ some s ≠ v.ownBlock) : w'.ownsRow base e size v n xs := by
  refine ⟨h.1, ?_⟩
  rcases h.2 with hn | ⟨k, cap, cur, rfl, h1, hgg, rest⟩
  · exact .inl hn
  · refine .inr ⟨k, cap, cur, rfl, h1, (hf.block k (Array.getElem?_eq_some_iff.1 hgg).1 ?_ ?_ ?_).trans hgg, rest⟩ <;> rintro rfl <;> simp [Value.ownBlock] at hr

theorem Bk.fr {w w' : World} {g r s k : Nat} {t : TypeId} {cs : Array Value} (h : Bk w k t cs) (hf : Fr g r s w w') (h1 : k ≠ g) (h2 : k ≠ r) (h3 : k ≠ s) : Bk w' k t cs := (hf.block k h.lt h1 h2 h3).trans h

/-- The rows of ints behind some slices. -/
structure LL (w : World) (vs : List Value) (ls : List (List Int)) : Prop where
  len : vs.length = ls.length
  el : ∀ (j : Nat) v l, vs[j]? = some v → ls[j]? = some l → ∃ h, v = Value.slice (some ⟨h, 0, none⟩) l.length l.length ∧ Bk w h 3 (rowI l)

/-- The rows of pairs behind some slices. -/
structure PL (w : World) (vs : List Value) (ls : List (List (Int × Int))) : Prop where
  len : vs.length = ls.length
  el : ∀ (j : Nat) v l, vs[j]? = some v → ls[j]? = some l → ∃ B c, v = Value.slice B l.length c ∧ w.ownsRow 0 114 2 (.slice B l.length c) l.length (pairC l)

section
variable {w w' : World} {vs : List Value}
theorem LL.nil (w : World) : LL w [] [] := ⟨rfl, fun j v l h => by simp at h⟩
theorem PL.nil (w : World) : PL w [] [] := ⟨rfl, fun j v l h => by simp at h⟩
theorem LL.below {ls : List (List Int)} (h : LL w vs ls) (hb : Below w.heap.size w w') : LL w' vs ls := ⟨h.len, fun j v l hv hl => by
  obtain ⟨g, e, hg⟩ := h.el j v l hv hl
  exact ⟨g, e, hg.below hb hg.lt⟩⟩
theorem PL.below {ls : List (List (Int × Int))} (h : PL w vs ls) (hb : Below w.heap.size w w') : PL w' vs ls := ⟨h.len, fun j v l hv hl => by
  obtain ⟨B, c, e, hg⟩ := h.el j v l hv hl
  exact ⟨B, c, e, own_below hg hb⟩⟩
theorem LL.grown {ls : List (List Int)} (h : LL w vs ls) {base n size : Nat} {e : TypeId} {v : Value} {xs : List Value} (ho : w.ownsRow base e size v n xs) (he : e ≠ 3) (hg : w.grownBy w' v.ownBlock) : LL w' vs ls := ⟨h.len, fun j u l hv hl => by
  obtain ⟨k, eq, hk⟩ := h.el j u l hv hl
  exact ⟨k, eq, hk.grown hg (hk.ne_own ho he)⟩⟩
theorem PL.grown {ls : List (List (Int × Int))} (h : PL w vs ls) {base n size : Nat} {e : TypeId} {v : Value} {xs : List Value} (ho : w.ownsRow base e size v n xs) (he : 114 ≠ e) (hg : w.grownBy w' v.ownBlock) : PL w' vs ls := ⟨h.len, fun j u l hv hl => by
  obtain ⟨B, c, eq, hk⟩ := h.el j u l hv hl
  exact ⟨B, c, eq, own_grown hk hg (own_ne hk ho he)⟩⟩
theorem snoc_get {α : Type} {l : List α} {x y : α} {j : Nat} (h : (l ++ [x])[j]? = some y) : l[j]? = some y ∧ j < l.length ∨ j = l.length ∧ y = x := by
  rcases Nat.lt_trichotomy j l.length with hj | hj | hj
  · rw [List.getElem?_append_left hj] at h; exact .inl ⟨h, hj⟩
  · subst hj; rw [List.getElem?_append_right (Nat.le_refl _)] at h; simp at h; exact .inr ⟨rfl, h.symm⟩
  · rw [List.getElem?_append_right (by omega), List.getElem?_eq_none (by simp; omega)] at h; cases h
theorem LL.snoc {ls : List (List Int)} (h : LL w vs ls) {g : Nat} {l : List Int} (hg : Bk w g 3 (rowI l)) : LL w (vs ++ [.slice (some ⟨g, 0, none⟩) l.length l.length]) (ls ++ [l]) := ⟨by simp [h.len], fun j v k hv hk => by
  have hlen := h.len
  rcases snoc_get hv with ⟨hv, h1⟩ | ⟨h1, rfl⟩ <;> rcases snoc_get hk with ⟨hk, h2⟩ | ⟨h2, rfl⟩
  · exact h.el j v k hv hk
  · omega
  · omega
  · exact ⟨g, rfl, hg⟩⟩
theorem PL.snoc {ls : List (List (Int × Int))} (h : PL w vs ls) {base c : Nat} {B : Option Addr} {l : List (Int × Int)} (hg : w.ownsRow base 114 2 (.slice B l.length c) l.length (pairC l)) : PL w (vs ++ [.slice B l.length c]) (ls ++ [l]) := ⟨by simp [h.len], fun j v k hv hk => by
  have hlen := h.len
  rcases snoc_get hv with ⟨hv, h1⟩ | ⟨h1, rfl⟩ <;> rcases snoc_get hk with ⟨hk, h2⟩ | ⟨h2, rfl⟩
  · exact h.el j v k hv hk
  · omega
  · omega
  · exact ⟨B, c, rfl, own_mono hg (Nat.zero_le _)⟩⟩
end

section
variable {w w' : World} {base p g rw rn c : Nat} {ws : List Int} {ns : List (Int × Int × Int)} {of : List Int}
theorem GS.below (h : GS w base p g rw rn c ws ns of) (hb : Below w.heap.size w w') : GS w' base p g rw rn c ws ns of := by
  obtain ⟨hp, hg, ⟨fw, n, hw1, hw2⟩, ⟨m, hn⟩, r1, r2, r3, r4, r5⟩ := h
  exact ⟨hp.below hb hp.lt, hg.below hb hg.lt, ⟨fw, n, hw1.below hb hw1.lt, hw2⟩, ⟨m, hn.below hb hn.lt⟩, r1, r2, r3, r4, r5⟩
theorem GS.alloc (h : GS w base p g rw rn c ws ns of) (o : Obj) : GS (w.alloc o) base p g rw rn c ws ns of := h.below ((Below.refl _ _).alloc (Nat.le_refl _) o)
theorem GS.grown (h : GS w base p g rw rn c ws ns of) {b n size : Nat} {e : TypeId} {v : Value} {xs : List Value} (ho : w.ownsRow b e size v n xs) (he : e ≠ 130) (he2 : e ≠ 3) (hgr : w.grownBy w' v.ownBlock) : GS w' base p g rw rn c ws ns of := by
  obtain ⟨hp, hg, ⟨fw, k, hw1, hw2⟩, ⟨m, hn⟩, r1, r2, r3, r4, r5⟩ := h
  exact ⟨hp.grown hgr (hp.ne_own ho he), hg.grown hgr (hg.ne_own ho he2), ⟨fw, k, hw1.grown hgr (MapF.own_ne hw1 ho), hw2⟩, ⟨m, hn.grown hgr (MapF.own_ne hn ho)⟩, r1, r2, r3, r4, r5⟩
theorem GS.set_ (h : GS w base p g rw rn c ws ns of) {k : Nat} {t : TypeId} {cs : Array Value} (hk : Bk w k t cs) (h1 : t ≠ 130) (h2 : t ≠ 3) (i : Nat) (u : Value) : GS (w.setCell ⟨k, i, none⟩ u) base p g rw rn c ws ns of := by
  obtain ⟨hp, hg, ⟨fw, n, hw1, hw2⟩, ⟨m, hn⟩, r1, r2, r3, r4, r5⟩ := h
  exact ⟨hp.far (Ne.symm (Bk.ne_ hk hp h1)) u, hg.far (Ne.symm (Bk.ne_ hk hg h2)) u, ⟨fw, n, hw1.setCell (Ne.symm (hw1.bk_ne hk)) u, hw2⟩, ⟨m, hn.setCell (Ne.symm (hn.bk_ne hk)) u⟩, r1, r2, r3, r4, r5⟩
theorem GS.ne_row (h : GS w base p g rw rn c ws ns of) {b n size : Nat} {e : TypeId} {v : Value} {xs : List Value} (ho : w.ownsRow b e size v n xs) (he2 : e ≠ 3) : some g ≠ v.ownBlock ∧ some rw ≠ v.ownBlock ∧ some rn ≠ v.ownBlock := by
  obtain ⟨hp, hg, ⟨fw, k, hw1, hw2⟩, ⟨m, hn⟩, r1, r2, r3, r4, r5⟩ := h
  exact ⟨hg.ne_own ho he2, MapF.own_ne hw1 ho, MapF.own_ne hn ho⟩
theorem GS.ne_bk (h : GS w base p g rw rn c ws ns of) {k : Nat} {t : TypeId} {cs : Array Value} (hk : Bk w k t cs) (h2 : t ≠ 3) : k ≠ g ∧ k ≠ rw ∧ k ≠ rn := by
  obtain ⟨hp, hg, ⟨fw, n, hw1, hw2⟩, ⟨m, hn⟩, r1, r2, r3, r4, r5⟩ := h
  exact ⟨Bk.ne_ hk hg h2, hw1.bk_ne hk, hn.bk_ne hk⟩
end

theorem CN.fok {of : List Int} (h : CN of) : FOK of := fun v hv => by
  obtain ⟨k, hk, rfl⟩ := List.getElem_of_mem hv
  obtain ⟨r, r1, r2, _⟩ := h k hk
  have e1 : of[k] = (r : Int) := by simpa [List.getD, hk] using r1
  omega

end Go.Proofs.Ytmdgdphhedgojaa

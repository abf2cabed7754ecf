import Derived.Test.YtmdgdphhedgojaaT1
import Derived.Deep.RegionHeld3
import Derived.Deep.RegionLaw
namespace Go.Proofs.Ytmdgdphhedgojaa
open Go.RowKit Go.Maps

theorem wsX_len (x : Int) (ws : List Int) : (wsX x ws).length = ws.length := by simp [wsX]
theorem nsY_len (y : Int) (ns : List (Int × Int × Int)) : (nsY y ns).length = ns.length := by simp [nsY]
theorem wsX_take (x : Int) {ws : List Int} {k : Nat} {v : Int} (h : ws[k]? = some v) : wsX x (ws.take (k + 1)) = wsX x (ws.take k) ++ [x * v] := by
  rw [take_snoc' h]; simp [wsX]
theorem nsY_take (y : Int) {ns : List (Int × Int × Int)} {k : Nat} {a b z : Int} (h : ns[k]? = some (a, b, z)) : nsY y (ns.take (k + 1)) = nsY y (ns.take k) ++ [(a, b, y * z)] := by
  rw [take_snoc' h]; simp [nsY]

theorem GoodG.scaled {ws : List Int} {ns : List (Int × Int × Int)} {a b x y : Int} (h : GoodG ws ns a b) (hx : 0 < x) (hy : 0 < y) : GoodG (wsX x ws) (nsY y ns) (x * a) (y * b) := by
  refine ⟨by rw [wsX_len]; exact h.n1, by rw [wsX_len]; exact h.n2, by rw [nsY_len]; exact h.n3, ?_, ?_, ?_⟩
  · intro z hz
    obtain ⟨v, hv, rfl⟩ := List.mem_map.1 hz
    have := h.w v hv
    exact ⟨Int.mul_nonneg (by omega) this.1, (mul_le' hx).2 this.2⟩
  · intro u hu
    obtain ⟨t, ht, rfl⟩ := List.mem_map.1 hu
    have := h.t t ht
    rw [wsX_len]
    have h1 : y * 1 ≤ y * t.2.2 := (mul_le' hy).2 this.2.2.2.1
    exact ⟨this.1, this.2.1, this.2.2.1, by dsimp only; omega, (mul_le' hy).2 this.2.2.2.2⟩
  · intro i h0 hi
    rw [nsY_len] at hi
    have := h.s i h0 hi
    rw [nsY_getD, nsY_getD]
    exact this

theorem GoodT.scaled {ls : List Int} {m x : Int} (h : GoodT ls m) (hx : 0 < x) : GoodT (wsX x ls) (x * m) := by
  refine ⟨by rw [wsX_len]; exact h.n1, by rw [wsX_len]; exact h.n2, ?_, ?_⟩
  · intro z hz
    obtain ⟨v, hv, rfl⟩ := List.mem_map.1 hz
    have := h.b v hv
    exact ⟨Int.mul_nonneg (by omega) this.1, (mul_le' hx).2 this.2⟩
  · intro j hj
    rw [wsX_len] at hj
    rw [wsX_getD, wsX_getD]
    exact (mul_le' hx).2 (h.s j hj)

theorem own_si {w : World} {base n c : Nat} {A : Option Addr} {l : List Int} (h : w.ownsRow base 3 1 (.slice A n c) n (l.map (Value.int .i64))) : SI w A l := SL.of_own h

theorem chain_lens {ws : List Int} {ns : List (Int × Int × Int)} : ∀ (ls of : List Int), CN of → ∀ p ∈ chain ws ns of ls, p.1.length = of.length
  | [], _, _, p, hp => by simp [chain] at hp
  | n :: ls, of, h, p, hp => by
    have h1 := CN.scaleF (ws := ws) (ns := ns) (least := n) of.length of h
    rcases List.mem_cons.1 hp with rfl | hp
    · exact h1.2
    · exact (chain_lens ls _ h1.1 p hp).trans h1.2

theorem ofL_lens {ws : List Int} {ns : List (Int × Int × Int)} {ls : List Int} : ∀ l ∈ ofL ws ns ls, l.length = ws.length := fun l hl => by
  unfold ofL at hl
  split at hl
  · obtain ⟨p, hp, rfl⟩ := List.mem_map.1 hl
    rw [ix_len, chain_lens ls _ (alone_cn _) p hp, alone_len]
  · simp at hl

theorem scaleF_steps {ws : List Int} {ns : List (Int × Int × Int)} {n : Int} : ∀ (f : Nat) (of : List Int), (scaleF ws ns n f of).2.length ≤ f
  | 0, _ => by simp [scaleF]
  | f + 1, of => by
    rw [scaleF]
    split
    · have := scaleF_steps (ws := ws) (ns := ns) (n := n) f (merged of ((next ws ns of n).1, (next ws ns of n).2.1))
      simp only [List.length_cons]
      omega
    · simp

theorem chain_steps {ws : List Int} {ns : List (Int × Int × Int)} : ∀ (ls of : List Int), CN of → ∀ p ∈ chain ws ns of ls, p.2.length ≤ of.length
  | [], _, _, p, hp => by simp [chain] at hp
  | n :: ls, of, h, p, hp => by
    have h1 := CN.scaleF (ws := ws) (ns := ns) (least := n) of.length of h
    rcases List.mem_cons.1 hp with rfl | hp
    · exact scaleF_steps _ _
    · have := chain_steps ls _ h1.1 p hp
      have h2 := h1.2
      unfold scale at this
      omega

theorem stL_len (ws : List Int) (ns : List (Int × Int × Int)) (ls : List Int) (s : Int) : (stL ws ns ls s).length ≤ ws.length := by
  unfold stL
  split
  · unfold steps
    rcases Nat.lt_or_ge s.toNat (chain ws ns (alone ws.length) ls).length with h | h
    · have := chain_steps (ws := ws) (ns := ns) ls _ (alone_cn ws.length) _ (List.getElem_mem h)
      rw [alone_len] at this
      simpa [List.getD, h] using this
    · simp [List.getD, List.getElem?_eq_none h]
  · simp

theorem of_ok (A B C : Option Addr) (c d f : Nat) (ws : List Int) (ns : List (Int × Int × Int)) (ls : List Int) (L : List (List Int)) (w : World) (hA : SI w A ws) (hB : ST w B ns) (hC : SI w C ls) (hE : ofE ws ns ls = 0) (hL : ofL ws ns ls = L) :
    Calls Try.prog 15 #[.agg #[.slice A ws.length c, .slice B ns.length d], .slice C ls.length f] w fun e w' => ∃ D m, e = .returned (.tuple #[.agg #[.slice D L.length m], .int .i64 0]) ∧ SLL w' D L ∧ Below w.heap.size w w' := by
  have hg := validE_good (orI_two.1 hE).1
  have ht := thrE_good (orI_two.1 hE).2
  refine (of_any A B C c d f ws ns ls w hA hB hC (by omega) (by omega) (by omega)).mono ?_
  rintro e w' ⟨D, m, vs, rfl, hown, hLL, hb⟩
  rw [hL] at hown hLL ⊢
  rw [hE]
  exact ⟨D, m, rfl, SLL.of_rows hown hLL (fun l hl => by have := ofL_lens (ws := ws) (ns := ns) (ls := ls) l (hL ▸ hl); omega), hb⟩

theorem own_cap {w : World} {base n c : Nat} {e : TypeId} {A : Option Addr} {xs : List Value} {size : Nat} (h : w.ownsRow base e size (.slice A n c) n xs) : n ≤ c := by
  rcases h.2 with ⟨he, h0⟩ | ⟨g, cap, cur, he, _, _, hc, _⟩
  · omega
  · injection he with _ _ e3
    omega

end Go.Proofs.Ytmdgdphhedgojaa

import Derived.Test.YtmdgdphhedgojaaK11
import Derived.Test.YtmdgdphhedgojaaK13
import Derived.StringKeys
namespace Go.Proofs.Ytmdgdphhedgojaa
open Go.RowKit Go.Maps

theorem eql_nilI (a : Option Addr) (l c : Nat) (W : World) : (binOp .eql 22 (.slice a l c) (.slice none 0 0)).run Try.prog W = .ok (.bool a.isNone) W := by
  simp only [binOp]
  simp [run_equal_slice_nil W 22 3 a l c Try.underlying22]
theorem eql_nilT (a : Option Addr) (l c : Nat) (W : World) : (binOp .eql 28 (.slice a l c) (.slice none 0 0)).run Try.prog W = .ok (.bool a.isNone) W := by
  simp only [binOp]
  simp [run_equal_slice_nil W 28 52 a l c Try.underlying28]

set_option maxHeartbeats 1000000 in
set_option maxRecDepth 100000 in
theorem cloneI_any (A : Option Addr) (c : Nat) (l : List Int) (w : World) (hA : SI w A l) (hl : l.length ≤ 1000000000) :
    Calls Try.prog 32 #[.slice A l.length c] w fun e w' => ∃ v, e = .returned v ∧ w'.ownsRow w.heap.size 3 1 v l.length (l.map (Value.int .i64)) ∧ Below w.heap.size w w' := by
  cases A with
  | none =>
    have hl0 : l = [] := by
      cases l with
      | nil => rfl
      | cons x l =>
        obtain ⟨b, o, e, _⟩ := hA 0 _ rfl
        cases e
    subst hl0
    have hu := fun W => eql_nilI none 0 c W
    go_enter Try.func32, Try.ntmps32
    go_wp2_with fail
    go_ret
    exact ⟨_, rfl, World.ownsRow_nil _ _ _ _, Below.refl _ _⟩
  | some a =>
    have Hv := Lib.hid (own_void8 (base := w.heap.size) (size := 1) (Bk.new w 3 #[]) (Nat.le_refl _))
    have Hx := Lib.hid ((Below.refl w.heap.size w).alloc (Nat.le_refl _) (.cells #[] 3))
    have hsz : w.heap.size ≤ (w.alloc (.cells #[] 3)).heap.size := by simp
    have Ha := Lib.hid (SL.below hA Hx.out)
    have hu := fun W => eql_nilI (some a) l.length c W
    go_enter Try.func32, Try.ntmps32
    go_wp2_with (at_builtin; refine wpList_appM (w := w.alloc (.cells #[] 3)) rfl _ _ rfl elt_int Hv.out hsz rfl rfl Ha.out (by simp) (ints_all l) (by omega) ?_; intro v2 W2 hown2 hg2)
    go_ret
    exact ⟨v2, rfl, by simpa using hown2, Hx.out.grown hg2 hsz (fun k hk => by simp [Value.ownBlock] at hk; omega)⟩

set_option maxHeartbeats 1000000 in
set_option maxRecDepth 100000 in
theorem cloneT_any (A : Option Addr) (c : Nat) (l : List (Int × Int × Int)) (w : World) (hA : ST w A l) (hl : l.length ≤ 1000000000) :
    Calls Try.prog 35 #[.slice A l.length c] w fun e w' => ∃ v, e = .returned v ∧ w'.ownsRow w.heap.size 52 3 v l.length (triC l) ∧ Below w.heap.size w w' := by
  cases A with
  | none =>
    have hl0 : l = [] := by
      cases l with
      | nil => rfl
      | cons x l =>
        obtain ⟨b, o, e, _⟩ := hA 0 (.int .i64 x.1) rfl
        cases e
    subst hl0
    have hu := fun W => eql_nilT none 0 c W
    go_enter Try.func35, Try.ntmps35
    go_wp2_with fail
    go_ret
    exact ⟨_, rfl, World.ownsRow_nil _ _ _ _, Below.refl _ _⟩
  | some a =>
    have Hv := Lib.hid (own_void8 (base := w.heap.size) (size := 3) (Bk.new w 52 #[]) (Nat.le_refl _))
    have Hx := Lib.hid ((Below.refl w.heap.size w).alloc (Nat.le_refl _) (.cells #[] 52))
    have hsz : w.heap.size ≤ (w.alloc (.cells #[] 52)).heap.size := by simp
    have Ha := Lib.hid (SL.below hA Hx.out)
    have hu := fun W => eql_nilT (some a) l.length c W
    go_enter Try.func35, Try.ntmps35
    go_wp2_with (at_builtin; refine wpList_appM (w := w.alloc (.cells #[] 52)) rfl _ _ rfl elt_tri Hv.out hsz rfl rfl Ha.out (by rw [triC_len]) (triC_all l) (by omega) ?_; intro v2 W2 hown2 hg2)
    go_ret
    exact ⟨v2, rfl, by simpa using hown2, Hx.out.grown hg2 hsz (fun k hk => by simp [Value.ownBlock] at hk; omega)⟩

/-- Strings as keys. -/
def sV (b : ByteArray) : Value := .string b
theorem inj_sV : Inj sV := fun a b h => by unfold sV at h; injection h
theorem keyed_str : Keyed Try.prog 9 := string_keyed Try.underlying9
theorem good_str {b : ByteArray} (h : b.size ≤ maxLen) : Good Try.prog 9 (sV b) := ⟨_, Go.WideMaps.keyOf_string_mk Try.underlying9 h⟩
theorem zero_lists (W : World) : (zeroValue 38).run Try.prog W = .ok (.slice none 0 0) W := by kernel_rfl

/-- The lists of a part. -/
def PD (ls : List Int) (d : List Int × List Int × List (Int × Int × Int)) : List (List Int) := lists d.2.1 d.2.2 ls
/-- The blocks in F are as they were. -/
structure Kf (F : Nat → Prop) (w W : World) : Prop where
  size : w.heap.size ≤ W.heap.size
  block : ∀ k, F k → k < w.heap.size → W.heap[k]? = w.heap[k]?
theorem Kf.refl (F : Nat → Prop) (w : World) : Kf F w w := ⟨Nat.le_refl _, fun _ _ _ => rfl⟩
theorem Kf.trans {F : Nat → Prop} {u v w : World} (h : Kf F u v) (k : Kf F v w) : Kf F u w := ⟨Nat.le_trans h.size k.size, fun i hi hl => (k.block i hi (Nat.lt_of_lt_of_le hl h.size)).trans (h.block i hi hl)⟩
theorem Kf.of_below {F : Nat → Prop} {w W : World} (h : Below w.heap.size w W) : Kf F w W := ⟨h.size, fun k _ hl => h.block k hl⟩
theorem Kf.of_grown {F : Nat → Prop} {p : Nat} {w W : World} (hp : ¬ F p) (h : w.grownBy W (some p)) : Kf F w W := ⟨h.size, fun k hk hl => h.block k hl (fun e => hp (by injection e with e; exact e ▸ hk))⟩
theorem own_kf {F : Nat → Prop} {w W : World} {base e size n : Nat} {v : Value} {xs : List Value} (h : w.ownsRow base e size v n xs) (hF : ∀ g, v.ownBlock = some g → F g) (hW : Kf F w W) : W.ownsRow base e size v n xs := by
  refine ⟨h.1, ?_⟩
  rcases h.2 with hn | ⟨g, cap, cur, hv, h1, hgg, rest⟩
  · exact .inl hn
  · exact .inr ⟨g, cap, cur, hv, h1, (hW.block g (hF g (by rw [hv]; rfl)) (Array.getElem?_eq_some_iff.1 hgg).1).trans hgg, rest⟩
/-- The parts with their groups behind a slice, in the blocks F. -/
def BR (w : World) (Ft : Nat → Prop) (A : Option Addr) (ds : List (List Int × List Int × List (Int × Int × Int))) (ls : List Int) : Prop :=
  ∃ vs, (∀ W, Kf Ft w W → SL W A vs) ∧ vs.length = ds.length * 4 ∧ ∀ j d, ds[j]? = some d → ∃ F f U u N n G g, vs[j * 4]? = some (Value.slice F d.1.length f) ∧ vs[j * 4 + 1]? = some (Value.slice U d.2.1.length u) ∧ vs[j * 4 + 2]? = some (Value.slice N d.2.2.length n) ∧ vs[j * 4 + 3]? = some (Value.slice G ls.length g) ∧
    ∀ W, Kf Ft w W → SI W F d.1 ∧ SI W U d.2.1 ∧ ST W N d.2.2 ∧ SLL W G (PD ls d)
theorem BR.nil (w : World) (Ft : Nat → Prop) (ls : List Int) : BR w Ft none [] ls := ⟨[], fun _ _ => SL.nil_, rfl, fun j d h => by simp at h⟩
theorem grown_of_below {w w' : World} (h : Below w.heap.size w w') (row : Option Nat) : w.grownBy w' row := ⟨h.os, h.tape, h.output, h.size, fun k hk _ => h.block k hk⟩
theorem BR.kf {w w' : World} {Ft : Nat → Prop} {A : Option Addr} {ds : List (List Int × List Int × List (Int × Int × Int))} {ls : List Int} (h : BR w Ft A ds ls) (hb : Kf Ft w w') : BR w' Ft A ds ls := by
  obtain ⟨vs, h1, h2, h3⟩ := h
  refine ⟨vs, fun W hW => h1 W (hb.trans hW), h2, fun j d hd => ?_⟩
  obtain ⟨F, f, U, u, N, n, G, g, c1, c2, c3, c4, s1⟩ := h3 j d hd
  exact ⟨F, f, U, u, N, n, G, g, c1, c2, c3, c4, fun W hW => s1 W (hb.trans hW)⟩
theorem BR.below {w w' : World} {Ft : Nat → Prop} {A : Option Addr} {ds : List (List Int × List Int × List (Int × Int × Int))} {ls : List Int} (h : BR w Ft A ds ls) (hb : Below w.heap.size w w') : BR w' Ft A ds ls := h.kf (Kf.of_below hb)
theorem BR.get {w : World} {Ft : Nat → Prop} {A : Option Addr} {ds : List (List Int × List Int × List (Int × Int × Int))} {ls : List Int} {k : Nat} (h : BR w Ft A ds ls) (hk : k < ds.length) :
    ∃ b o F f U u N n G g Fl Wl Nl, A = some ⟨b, o, none⟩ ∧ w.cell? ⟨b, o + k * 4, none⟩ = some (Value.slice F (Fl : List Int).length f) ∧ w.cell? ⟨b, o + k * 4 + 1, none⟩ = some (Value.slice U (Wl : List Int).length u) ∧ w.cell? ⟨b, o + k * 4 + 2, none⟩ = some (Value.slice N (Nl : List (Int × Int × Int)).length n) ∧
      w.cell? ⟨b, o + k * 4 + 3, none⟩ = some (Value.slice G ls.length g) ∧ (∀ W, Kf Ft w W → SI W F Fl ∧ SI W U Wl ∧ ST W N Nl ∧ SLL W G (lists Wl Nl ls)) ∧ Hid (ds[k]? = some (Fl, Wl, Nl)) ∧ b < w.heap.size := by
  obtain ⟨vs, h1, h2, h3⟩ := h
  have hn : ds[k]? = some ds[k] := List.getElem?_eq_getElem hk
  obtain ⟨F, f, U, u, N, n, G, g, c1, c2, c3, c4, s1⟩ := h3 k _ hn
  have h1 := h1 w (Kf.refl _ _)
  obtain ⟨b, o, e0, hbl, k1⟩ := h1 _ _ c1
  subst e0
  have k2 := SL.two h1 c1 c2
  have k3 := SL.two h1 c1 c3
  have k4 := SL.two h1 c1 c4
  rw [← Nat.add_assoc] at k2 k3 k4
  exact ⟨b, o, F, f, U, u, N, n, G, g, _, _, _, rfl, k1, k2, k3, k4, s1, hn, hbl⟩
/-- A kept hierarchy at block p, what it holds in the blocks F. -/
structure KP (w : World) (p : Nat) (F : Nat → Prop) (ls ws : List Int) (ns : List (Int × Int × Int)) (work : Int) : Prop where
  ok : validE ws ns = 0
  th : thrE ls = 0
  np : ¬ F p
  fl : ∀ k, F k → k < w.heap.size
  el : ∃ C c A a B b D d, Bk w p 70 #[.slice C ls.length c, .slice A ws.length a, .slice B ns.length b, .slice D (partsD ws ns).length d, .int .i64 work] ∧ (∀ W, Kf F w W → SI W C ls ∧ SI W A ws ∧ ST W B ns) ∧ BR w F D (partsD ws ns) ls
theorem KP.kf {w w' : World} {p : Nat} {F : Nat → Prop} {ls ws : List Int} {ns : List (Int × Int × Int)} {work : Int} (h : KP w p F ls ws ns work) (hb : Kf F w w') (hp : w'.heap[p]? = w.heap[p]?) : KP w' p F ls ws ns work := by
  obtain ⟨h1, h2, h3, h4, C, c, A, a, B, b, D, d, h5, h6, h7⟩ := h
  exact ⟨h1, h2, h3, fun k hk => Nat.lt_of_lt_of_le (h4 k hk) hb.size, C, c, A, a, B, b, D, d, hp.trans h5, fun W hW => h6 W (hb.trans hW), h7.kf hb⟩
theorem KP.lt {w : World} {p : Nat} {F : Nat → Prop} {ls ws : List Int} {ns : List (Int × Int × Int)} {work : Int} (h : KP w p F ls ws ns work) : p < w.heap.size := by
  obtain ⟨_, _, _, _, C, c, A, a, B, b, D, d, h3, _⟩ := h
  exact h3.lt
theorem KP.below {w w' : World} {p : Nat} {F : Nat → Prop} {ls ws : List Int} {ns : List (Int × Int × Int)} {work : Int} (h : KP w p F ls ws ns work) (hb : Below w.heap.size w w') : KP w' p F ls ws ns work := h.kf (Kf.of_below hb) (hb.block p h.lt)
theorem partsD_nil : partsD [] [] = [] := rfl
end Go.Proofs.Ytmdgdphhedgojaa

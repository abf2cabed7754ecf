import Derived.Test.YtnapnkmehnabfaaGreatQB
import Derived.Test.YtnapnkmehnabfaaGreatW1
import Derived.Lib.AppendStr
import Derived.Laws.IdiomStrings
set_option maxHeartbeats 2000000
set_option maxRecDepth 100000
namespace Go.Proofs.YtnapnkmehnabfaaGreat
open Go.RowKit Go.Maps
def Nb (w w' : World) (p : Nat) : Prop := ∀ k t cs, k ≠ p → t ≠ 5 → Bk w k t cs → Bk w' k t cs
theorem Nb.refl (w : World) (p : Nat) : Nb w w p := fun _ _ _ _ _ h => h
theorem Nb.trans {a b c : World} {p : Nat} (h : Nb a b p) (k : Nb b c p) : Nb a c p := fun j t cs h1 h2 h3 => k j t cs h1 h2 (h j t cs h1 h2 h3)
theorem Nb.alloc {a w : World} {p : Nat} (h : Nb a w p) (o : Obj) : Nb a (w.alloc o) p := fun j t cs h1 h2 h3 => (h j t cs h1 h2 h3).alloc o
theorem Nb.below {a w w' : World} {p : Nat} (h : Nb a w p) (hb : Below w.heap.size w w') : Nb a w' p := fun j t cs h1 h2 h3 => (h j t cs h1 h2 h3).below hb (h j t cs h1 h2 h3).lt
theorem nb_app {w w' : World} {p base n : Nat} {v u : Value} {xs : List Value} (hown : w.ownsRow base 5 1 v n xs) (hg : w.grownBy w' v.ownBlock) (i : Nat) : Nb w (w'.setCell ⟨p, i, none⟩ u) p :=
 fun _ _ _ h1 h2 h3 => (h3.grown hg (h3.ne_own hown (fun e => h2 e.symm))).far (p := ⟨p, i, none⟩) h1 u
theorem WR.alloc {w : World} {base p : Nat} {v : Value} {d : List Nat} (h : WR w base p v d) (o : Obj) : WR (w.alloc o) base p v d := ⟨h.hp.alloc o, h.own.alloc o, h.bp⟩
theorem WR.size {w : World} {base p : Nat} {v : Value} {d : List Nat} (h : WR w base p v d) : base ≤ w.heap.size := by have := h.hp.lt; have := h.bp; omega
theorem qUint_any (base p : Nat) (v : Value) (d : List Nat) (n : Nat) (w : World) (hn : n < 18446744073709551616) (hp : Bk w p 104 #[v]) (hbp : base ≤ p) (hown : w.ownsRow base 5 1 v d.length (byV d)) (hd : d.length ≤ 1000000000) :
  Calls Tryz.prog 53 #[.pointer (some ⟨p, 0, none⟩), .int .u64 n] w fun e w' => ∃ v', e = .returned (.tuple #[]) ∧ Bk w' p 104 #[v'] ∧ w'.ownsRow base 5 1 v' (d ++ vb n).length (byV (d ++ vb n)) ∧ Below base w w' ∧ Nb w w' p := by
 have hb0 : base ≤ w.heap.size := by have := hp.lt; omega
 have Hp := q9 hp;have Hown := q9 hown;clear hp hown;go_enter Tryz.func53, Tryz.ntmps53
 go_wp2
 go_loopw [1] (fun s wr => ∃ (m : Nat) (v' : Value) (d' : List Nat), s = .int .u64 m ∧ m < 18446744073709551616 ∧ Hid (d ++ vb n = d' ++ vb m) ∧ Bk wr p 104 #[v'] ∧ wr.ownsRow base 5 1 v' d'.length (byV d') ∧ Below base w wr ∧ Hid (Nb w wr p)) (fun s _ => (intOf s).toNat)
 case atStart => exact ⟨n, v, d, rfl, hn, q9 rfl, Hp.out, Hown.out, Below.refl _ _, q9 (Nb.refl _ _)⟩
 case round =>
  obtain ⟨m, v', d', rfl, hm, hv, hpk, hown, hb, hnb⟩ := hrel;have hbs : base ≤ wr.heap.size := by have := hpk.lt; omega
  have hd' : d'.length ≤ 1000000010 := by
   have h1 := congrArg List.length hv.out;have h2 := vb_ten hn;rw [List.length_append, List.length_append] at h1;omega
  have hrow := hpk.ne_own hown (by decide);have hc0 : wr.cell? ⟨p, 0, none⟩ = some v' := hpk.cell 0;by_cases hlt : m < 128
  ·have hv2 : Hid (d ++ vb n = d' ++ [m]) := by show _ = _; rw [hv.out, vb_small hlt]
   go_wp2_with (at_builtin; refine wpList_app2 (w := wr) rfl _ _ rfl elt_byte hown hbs rfl rfl (by simp) rfl rfl (by omega) ?_; intro v2 w2 hown2 hg2 hz2; obtain ⟨A2, c2, rfl⟩ := own_slice hown2; have hp2 := hpk.grown hg2 hrow; have hq0 : w2.cell? ⟨p, 0, none⟩ = some v' := hp2.cell 0; have hq1 := hp2.frozen 0)
   go_end0
   have hp2 := hpk.grown hg2 hrow;refine ⟨_, rfl, hp2.set_ 0 _, ?_, (hb.grown hg2 hbs (fun k hk => (hown.lt k hk).1)).setCell (p := ⟨p, 0, none⟩) hbp _, hnb.out.trans (nb_app hown hg2 _)⟩;rw [hv2.out, byV_append, List.length_append];exact own_set (i := 0) hown2 (hp2.ne_own hown2 (by decide)) _
  have hge : 128 ≤ m := by omega
  obtain ⟨x, hx⟩ : ∃ x : Nat, Hid (m % 256 = x) := ⟨_, q9 rfl⟩;obtain ⟨y, hy⟩ : ∃ y : Nat, Hid (m % 128 + 128 = y) := ⟨_, q9 rfl⟩;have hw8 : IntKind.u8.wrap (m : Int) = (x : Int) := by rw [u8_low, hx.out]
  have hor : bits .or .u8 (x : Int) 128 = (y : Int) := by rw [← hx.out, or_more, hy.out]
  have hv2 : Hid (d ++ vb n = (d' ++ [y]) ++ vb (m / 128)) := by show _ = _; rw [hv.out, vb_big hlt, hy.out]; simp
  go_wp2_with (at_builtin; refine wpList_app2 (w := wr) rfl _ _ rfl elt_byte hown hbs rfl rfl (by simp) rfl rfl (by omega) ?_; intro v2 w2 hown2 hg2 hz2; obtain ⟨A2, c2, rfl⟩ := own_slice hown2; have hp2 := hpk.grown hg2 hrow; have hq0 : w2.cell? ⟨p, 0, none⟩ = some v' := hp2.cell 0; have hq1 := hp2.frozen 0)
  go_roundw
  case rel =>
   have hp2 := hpk.grown hg2 hrow;refine ⟨m / 128, _, d' ++ [y], by go_num, by omega, hv2, hp2.set_ 0 _, ?_, (hb.grown hg2 hbs (fun k hk => (hown.lt k hk).1)).setCell (p := ⟨p, 0, none⟩) hbp _, q9 (hnb.out.trans (nb_app hown hg2 _))⟩;rw [byV_append, List.length_append];exact own_set (i := 0) hown2 (hp2.ne_own hown2 (by decide)) _
  case measure => simp [intOf]; omega
theorem qU_any (base p : Nat) (v : Value) (d : List Nat) (n : Nat) (w : World) (hn : n < 18446744073709551616) (h : WR w base p v d) (hd : d.length ≤ 1000000000) :
  Calls Tryz.prog 53 #[.pointer (some ⟨p, 0, none⟩), .int .u64 n] w fun e w' => ∃ v', e = .returned (.tuple #[]) ∧ WR w' base p v' (d ++ vb n) ∧ Below base w w' ∧ Nb w w' p :=
 (qUint_any base p v d n w hn h.hp h.bp h.own hd).mono fun _ _ ⟨v', e, h1, h3, h4, h5⟩ => ⟨v', e, ⟨h1, h3, h.bp⟩, h4, h5⟩
theorem qInt_any (base p : Nat) (v : Value) (d : List Nat) (n : Int) (w : World) (hn : -9223372036854775808 ≤ n ∧ n ≤ 9223372036854775807) (h : WR w base p v d) (hd : d.length ≤ 1000000000) :
  Calls Tryz.prog 146 #[.pointer (some ⟨p, 0, none⟩), .int .i64 n] w fun e w' => ∃ v', e = .returned (.tuple #[]) ∧ WR w' base p v' (d ++ vb (zz n)) ∧ Below base w w' ∧ Nb w w' p := by
 have H := q9 h;clear h;go_enter Tryz.func146, Tryz.ntmps146
 go_wp2_with fail
 refine (zig_any n w hn).mono ?_;rintro e w' ⟨rfl, rfl⟩;go_wp2_with fail
 refine (qU_any base p v d (zz n) w (zz_lt hn) H.out hd).mono ?_;rintro e w1 ⟨v', rfl, hW, hb, hnb⟩;have HW := q9 hW;have Hb := q9 hb;have Hn := q9 hnb;clear hW hb hnb;go_wp2_with fail
 go_end0
 exact ⟨v', rfl, HW.out, Hb.out, Hn.out⟩
theorem strCells_byV (s : ByteArray) : Lib.strCells s = byV (bl s) := by
 unfold Lib.strCells byV bl;rw [List.map_map];rfl
theorem qText_any (base p : Nat) (v : Value) (d : List Nat) (s : ByteArray) (w : World) (hs : s.size ≤ 1000000) (h : WR w base p v d) (hd : d.length ≤ 900000000) :
  Calls Tryz.prog 147 #[.pointer (some ⟨p, 0, none⟩), .string s] w fun e w' => ∃ v', e = .returned (.tuple #[]) ∧ WR w' base p v' (d ++ (vb s.size ++ bl s)) ∧ Below base w w' ∧ Nb w w' p := by
 have H := q9 h;clear h;have hw : IntKind.u64.wrap (s.size : Int) = ((s.size : Nat) : Int) := by rw [IntKind.wrap_u64]; omega
 go_enter Tryz.func147, Tryz.ntmps147
 go_wp2_with fail
 refine (qU_any base p v d s.size w (by omega) H.out (by omega)).mono ?_;rintro e w1 ⟨v1, rfl, hW, hb, hnb⟩;have hv10 := vb_ten (n := s.size) (by omega);have hl1 : (d ++ vb s.size).length ≤ 900000010 := by rw [List.length_append]; omega
 obtain ⟨d1, hd1⟩ : ∃ z, Hid (d ++ vb s.size = z) := ⟨_, q9 rfl⟩;rw [hd1.out] at hW hl1;have hc0 : w1.cell? ⟨p, 0, none⟩ = some v1 := hW.hp.cell 0;have hbs : base ≤ w1.heap.size := hW.size;have HW := q9 hW;have Hb := q9 hb;have Hn := q9 hnb;have hown := hW.own;have hpk := hW.hp;have hrow := hpk.ne_own hown (by decide);obtain ⟨i0, hi, hz0, hz1, hz2⟩ := info_parts (show ((Tryz.prog).info? 5).map (fun i => (i.zero, i.size, i.bytes)) = some (some (.int .u8 0), 1, 1) by kernel_rfl);clear hW hb hw hnb;go_wp2_with (at_builtin; refine Lib.wpList_append_own_string w1 rfl _ _ 50 9 rfl base 5 i0 Tryz.underlying50 Tryz.underlying9 hi hz0 hz1 hz2 v1 d1.length (byV d1) rfl hown s rfl (by unfold maxLen; omega) (by omega) hbs ?_; intro v2 w2 hown2 hg2 hz2'; obtain ⟨A2, c2, rfl⟩ := own_slice hown2; have hp2 := hpk.grown hg2 hrow; have hq0 : w2.cell? ⟨p, 0, none⟩ = some v1 := hp2.cell 0; have hq1 := hp2.frozen 0)
 go_end0
 have hp2 := hpk.grown hg2 hrow;refine ⟨_, rfl, ⟨hp2.set_ 0 _, ?_, HW.out.bp⟩, Hb.out.trans (((Below.refl base w1).grown hg2 hbs (fun k hk => (hown.lt k hk).1)).setCell (p := ⟨p, 0, none⟩) HW.out.bp _), Hn.out.trans (nb_app hown hg2 _)⟩;rw [← List.append_assoc, hd1.out, byV_append, ← strCells_byV, List.length_append, bl_len];exact own_set (i := 0) hown2 (hp2.ne_own hown2 (by decide)) _
theorem text_of (s : ByteArray) (g c : Nat) (w : World) (h : ∀ k, k < s.size → w.cell? ⟨g, k, none⟩ = some (.int .u8 (byt s k))) : (convert 50 9 (.slice (some ⟨g, 0, none⟩) s.size c)).run Tryz.prog w = .ok (.string s) w := by
 have hd : s.size = s.data.toList.length := by rw [Array.length_toList]; rfl
 have := run_convert_bytes_back (P := Tryz.prog) w 50 9 5 ⟨g, 0, none⟩ c s.data.toList Tryz.underlying50 Tryz.underlying5 Tryz.underlying9 (fun j hj => by
  have hj2 : j < s.size := by omega
  have e : byt s j = ((s.data.toList[j].toNat : Nat) : Int) := by
   rw [byt, List.getD, bl_get s hj2, Option.getD_some];rfl
  have e2 : (⟨g, 0, none⟩ : Addr).add j = ⟨g, j, none⟩ := by
   unfold Addr.add;split
   ·rename_i h; subst h; rfl
   simp
  rw [e2, h j hj2, e])
 rw [← hd] at this;rw [this]
end Go.Proofs.YtnapnkmehnabfaaGreat

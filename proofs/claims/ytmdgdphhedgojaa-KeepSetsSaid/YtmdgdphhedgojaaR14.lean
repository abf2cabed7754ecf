import Derived.Test.YtmdgdphhedgojaaR13
namespace Go.Proofs.Ytmdgdphhedgojaa
open Go.RowKit Go.Maps

theorem nodup_len : ∀ (N : Nat) (l : List Nat), l.Nodup → (∀ x ∈ l, x < N) → l.length ≤ N
  | 0, l, _, h => by
    cases l with
    | nil => simp
    | cons x l => exact absurd (h x (by simp)) (by omega)
  | N + 1, l, hn, h => by
    by_cases hm : N ∈ l
    · have ih := nodup_len N (l.erase N) (hn.erase N) (fun x hx => by
        have := (hn.mem_erase_iff).1 hx
        have := h x this.2
        omega)
      rw [List.length_erase_of_mem hm] at ih
      omega
    · have ih := nodup_len N l hn (fun x hx => by
        have := h x hx
        have : x ≠ N := fun e => hm (e ▸ hx)
        omega)
      omega

theorem nodup_map_on {α β : Type} {g : α → β} : ∀ {l : List α}, l.Nodup → (∀ a ∈ l, ∀ b ∈ l, g a = g b → a = b) → (l.map g).Nodup
  | [], _, _ => by simp
  | x :: l, hn, h => by
    rw [List.nodup_cons] at hn
    rw [List.map_cons, List.nodup_cons]
    refine ⟨fun hm => ?_, nodup_map_on hn.2 (fun a ha b hb => h a (by simp [ha]) b (by simp [hb]))⟩
    obtain ⟨y, hy, e⟩ := List.mem_map.1 hm
    exact hn.1 (h y (by simp [hy]) x (by simp) e ▸ hy)

def code : Value → Nat
  | .agg ⟨[.int _ a, .int _ b]⟩ => a.toNat * 4096 + b.toNat
  | _ => 0

theorem pair_bound {w : World} {r n : Nat} {f : Int × Int → Option Int} (h : MapF pV iV Try.prog 114 w r f n) (hf : ∀ p, f p ≠ none → 0 ≤ p.1 ∧ p.1 < 4096 ∧ 0 ≤ p.2 ∧ p.2 < 4096) : n ≤ 16777216 := by
  obtain ⟨es, clock, _, rfl, F⟩ := h
  have hk : ∀ k ∈ es.toList.map (·.key), ∃ p, k = pV p ∧ f p ≠ none := fun k hk => by
    obtain ⟨e, he, rfl⟩ := List.mem_map.1 hk
    obtain ⟨p, a, e1, _, e3⟩ := F.fn1 e he
    exact ⟨p, e1, by simp [e3]⟩
  have hc : ∀ p : Int × Int, code (pV p) = p.1.toNat * 4096 + p.2.toNat := fun p => rfl
  have := nodup_len 16777216 ((es.toList.map (·.key)).map code) (nodup_map_on F.knd (fun a ha b hb e => by
    obtain ⟨p, rfl, hp⟩ := hk a ha
    obtain ⟨q, rfl, hq⟩ := hk b hb
    have h1 := hf p hp
    have h2 := hf q hq
    rw [hc, hc] at e
    have e1 : p.1 = q.1 := by omega
    have e2 : p.2 = q.2 := by omega
    rw [Prod.ext e1 e2])) (fun x hx => by
    obtain ⟨k, hk', rfl⟩ := List.mem_map.1 hx
    obtain ⟨p, rfl, hp⟩ := hk k hk'
    have h1 := hf p hp
    rw [hc]; omega)
  simpa using this

/-- The entries are faces. -/
def FOK (of : List Int) : Prop := ∀ v ∈ of, 0 ≤ v ∧ v < of.length

theorem FOK.getD {of : List Int} (h : FOK of) {k : Nat} (hk : k < of.length) : 0 ≤ of.getD k 0 ∧ of.getD k 0 < of.length := by
  have := h of[k] (List.getElem_mem hk)
  simpa [List.getD, hk] using this

theorem commonTo_pos {n : Nat} {ns : List (Int × Int × Int)} {of : List Int} {a b : Int} (h : NOK n ns) (k : Nat) (hp : 0 < commonTo ns of a b k) :
    ∃ x y : Nat, x < n ∧ y < n ∧ of.getD x 0 = a ∧ of.getD y 0 = b := by
  induction k with
  | zero => simp [commonTo] at hp
  | succ k ih =>
    unfold commonTo at hp
    split at hp
    · rename_i hc
      by_cases hk : k < ns.length
      · have hn : ns[k]? = some ns[k] := List.getElem?_eq_getElem hk
        have hh := h.at hn
        rw [tri_getD hn] at hc
        simp only [Bool.or_eq_true, Bool.and_eq_true, beq_iff_eq] at hc
        rcases hc with ⟨h1, h2⟩ | ⟨h1, h2⟩
        · exact ⟨_, _, by omega, by omega, h1, h2⟩
        · exact ⟨_, _, by omega, by omega, h2, h1⟩
      · have e : ns.getD k (0, 0, 0) = (0, 0, 0) := by simp [List.getD, hk]
        rw [e] at hp
        exact ih (by simpa using hp)
    · exact ih (by simpa using hp)

theorem near_ok {of : List Int} {ns : List (Int × Int × Int)} (hn : NOK of.length ns) (hF : FOK of) (hl : of.length ≤ 4096) (i : Nat) : ∀ p, nearF ns of i p ≠ none → 0 ≤ p.1 ∧ p.1 < 4096 ∧ 0 ≤ p.2 ∧ p.2 < 4096 := fun p hp => by
  have hpos : 0 < commonTo ns of p.1 p.2 i := by
    unfold nearF at hp
    split at hp
    · rename_i hc; exact hc.2
    · exact (hp rfl).elim
  obtain ⟨x, y, hx, hy, e1, e2⟩ := commonTo_pos hn i hpos
  have h1 := hF.getD hx
  have h2 := hF.getD hy
  omega

theorem near_len {of : List Int} {ns : List (Int × Int × Int)} (hn : NOK of.length ns) {i : Nat} {p : Int × Int} (hp : nearF ns of i p ≠ none) : 0 < of.length := by
  have hpos : 0 < commonTo ns of p.1 p.2 i := by
    unfold nearF at hp
    split at hp
    · rename_i hc; exact hc.2
    · exact (hp rfl).elim
  obtain ⟨x, y, hx, hy, e1, e2⟩ := commonTo_pos hn i hpos
  omega

/-- A group that can go. -/
def Can (ws : List Int) (of : List Int) (least z : Int) (p : Int × Int) : Prop := p.1 ≠ z ∧ p.2 ≠ z ∧ weight ws of p.1 < least

/-- The candidates among the borders that have come. -/
structure Cs (ws : List Int) (of : List Int) (least z : Int) (done : List (Int × Int)) (cs : List (Int × Int)) : Prop where
  a : ∀ c ∈ cs, c.1 = weight ws of c.2 ∧ ∃ b, (c.2, b) ∈ done ∧ Can ws of least z (c.2, b)
  b : ∀ p ∈ done, Can ws of least z p → ∃ c ∈ cs, c.2 = p.1
  n : cs.length ≤ done.length

theorem Cs.skip {ws : List Int} {of : List Int} {least z : Int} {done cs : List (Int × Int)} {p : Int × Int} (h : Cs ws of least z done cs) (hp : Can ws of least z p → ∃ c ∈ cs, c.2 = p.1) : Cs ws of least z (done ++ [p]) cs := by
  refine ⟨fun c hc => ?_, fun q hq hcan => ?_, by have := h.n; simp; omega⟩
  · obtain ⟨h1, b, h2, h3⟩ := h.a c hc
    exact ⟨h1, b, by simp [h2], h3⟩
  · rcases List.mem_append.1 hq with hq | hq
    · exact h.b q hq hcan
    · have : q = p := by simpa using hq
      subst this
      exact hp hcan

theorem Cs.push {ws : List Int} {of : List Int} {least z : Int} {done cs : List (Int × Int)} {p : Int × Int} (h : Cs ws of least z done cs) (hp : Can ws of least z p) : Cs ws of least z (done ++ [p]) (cs ++ [(weight ws of p.1, p.1)]) := by
  refine ⟨fun c hc => ?_, fun q hq hcan => ?_, by have := h.n; simp; omega⟩
  · rcases List.mem_append.1 hc with hc | hc
    · obtain ⟨h1, b, h2, h3⟩ := h.a c hc
      exact ⟨h1, b, by simp [h2], h3⟩
    · have : c = (weight ws of p.1, p.1) := by simpa using hc
      subst this
      exact ⟨rfl, p.2, by simp, hp⟩
  · rcases List.mem_append.1 hq with hq | hq
    · obtain ⟨c, hc, e⟩ := h.b q hq hcan
      exact ⟨c, by simp [hc], e⟩
    · have : q = p := by simpa using hq
      subst this
      exact ⟨(weight ws of q.1, q.1), by simp, rfl⟩

/-- How many entries are left to a range. -/
def itLeft (w : World) (it b : Nat) : Nat :=
  match w.heap[it]?, w.heap[b]? with
  | some (.mapIter _ _ seen _), some (.map es _) => (leftOf es seen).size
  | _, _ => 0
theorem Iter.left {κ α : Type} {ek : κ → Value} {ev : α → Value} {P : Program} {kt : TypeId} {w : World} {it b n c : Nat} {f : κ → Option α} {done : List κ} (h : Iter ek ev P kt w it b f n done c) : itLeft w it b = c := by
  obtain ⟨es, clock, since, seen, c0, h1, h2, _, _, _, _, _, _, hc⟩ := h
  simp [itLeft, h1, h2, hc]

theorem own_turn {w w' : World} {base r : Nat} {e : TypeId} {n size : Nat} {v : Value} {xs : List Value} (h : w.ownsRow base e size v n xs) (ht : Turn w w' r) (hne : some r ≠ v.ownBlock) : w'.ownsRow base e size v n xs := by
  refine ⟨h.1, ?_⟩
  rcases h.2 with hn | ⟨g, cap, cur, rfl, h1, hg, rest⟩
  · exact .inl hn
  · exact .inr ⟨g, cap, cur, rfl, h1, (ht.block g (fun e => hne (by simp [Value.ownBlock, e]))).trans hg, rest⟩

theorem elt_cand : Elt Try.prog 131 134 (.agg #[.int .i64 0, .int .i64 0]) 2 16 := Elt.mk' Try.underlying131 (by kernel_rfl) (by decide) (by decide) rfl

theorem minTo_mem {l : List (Int × Int)} (k : Nat) (hk : k < l.length) : minTo l k ∈ l := by
  induction k with
  | zero => rw [minTo]; have : l.getD 0 (0, 0) = l[0] := by simp [List.getD, hk]
            rw [this]; exact List.getElem_mem hk
  | succ k ih =>
    unfold minTo
    split
    · have : l.getD (k + 1) (0, 0) = l[k + 1] := by simp [List.getD, hk]
      rw [this]; exact List.getElem_mem hk
    · exact ih (by omega)

theorem minC_mem {l : List (Int × Int)} (h : 0 < l.length) : minC l ∈ l := minTo_mem _ (by omega)

theorem near_val {of : List Int} {ns : List (Int × Int × Int)} (hn : NOK of.length ns) (hl3 : ns.length ≤ 16384) {p : Int × Int} {v : Int} (h : nearF ns of ns.length p = some v) : 0 < v ∧ v ≤ 18014398509481984 := by
  have hb := commonTo_bd (of := of) (a := p.1) (b := p.2) hn ns.length
  unfold nearF at h
  split at h
  · rename_i hc
    injection h with h
    subst h
    exact ⟨hc.2, by omega⟩
  · cases h

/-- The candidates for the neighbour. -/
structure Ds (f : Int × Int → Option Int) (a z : Int) (done ds : List (Int × Int)) : Prop where
  p1 : ∀ d ∈ ds, f (a, d.2) = some (-d.1) ∧ d.2 ≠ z
  p2 : ∀ y c, (a, y) ∈ done → f (a, y) = some c → y ≠ z → (-c, y) ∈ ds
  n : ds.length ≤ done.length

theorem Ds.skip {f : Int × Int → Option Int} {a z : Int} {done ds : List (Int × Int)} {p : Int × Int} (h : Ds f a z done ds) (hp : p.1 = a → p.2 = z) : Ds f a z (done ++ [p]) ds := by
  refine ⟨h.p1, fun y c hm hf hy => ?_, by have := h.n; simp; omega⟩
  rcases List.mem_append.1 hm with hm | hm
  · exact h.p2 y c hm hf hy
  · have : (a, y) = p := by simpa using hm
    subst this
    exact (hy (hp rfl)).elim

theorem Ds.push {f : Int × Int → Option Int} {a z : Int} {done ds : List (Int × Int)} {b v : Int} (h : Ds f a z done ds) (hf : f (a, b) = some v) (hb : b ≠ z) : Ds f a z (done ++ [(a, b)]) (ds ++ [(-v, b)]) := by
  refine ⟨fun d hd => ?_, fun y c hm hf' hy => ?_, by have := h.n; simp; omega⟩
  · rcases List.mem_append.1 hd with hd | hd
    · exact h.p1 d hd
    · have : d = (-v, b) := by simpa using hd
      subst this
      exact ⟨by simpa using hf, hb⟩
  · rcases List.mem_append.1 hm with hm | hm
    · exact List.mem_append.2 (.inl (h.p2 y c hm hf' hy))
    · have : y = b := by simpa using hm
      subst this
      rw [hf] at hf'
      injection hf' with hf'
      subst hf'
      simp

/-- What 'next' answers. -/
def NextRel (ws : List Int) (ns : List (Int × Int × Int)) (of : List Int) (least z a b : Int) (found : Bool) : Prop :=
  ∃ cs, (∀ c ∈ cs, c.1 = weight ws of c.2 ∧ ∃ b, nearF ns of ns.length (c.2, b) ≠ none ∧ Can ws of least z (c.2, b)) ∧ (∀ p, nearF ns of ns.length p ≠ none → Can ws of least z p → ∃ c ∈ cs, c.2 = p.1) ∧
   ((cs = [] ∧ found = false ∧ a = 0 ∧ b = 0) ∨ (cs ≠ [] ∧ found = true ∧ a = (minC cs).2 ∧ ∃ ds, ds ≠ [] ∧ b = (minC ds).2 ∧
     (∀ d ∈ ds, nearF ns of ns.length (a, d.2) = some (-d.1) ∧ d.2 ≠ z) ∧ (∀ y c, nearF ns of ns.length (a, y) = some c → y ≠ z → (-c, y) ∈ ds)))

set_option maxHeartbeats 4000000 in
set_option maxRecDepth 100000 in
theorem nextP_any (base p g rw rn c : Nat) (ws : List Int) (ns : List (Int × Int × Int)) (of : List Int) (least z : Int) (w : World) (hG : GS w base p g rw rn c ws ns of) (hz0 : of.getD 0 0 = z) (hl : of.length ≤ 4096) (hn : NOK of.length ns) (hl3 : ns.length ≤ 16384) (hF : FOK of) :
    Calls Try.prog 59 #[.pointer (some ⟨p, 0, none⟩), .int .i64 least] w fun e w' => ∃ a b found, e = .returned (.tuple #[.agg #[.int .i64 a, .int .i64 b], .bool found]) ∧ NextRel ws ns of least z a b found ∧ Below w.heap.size w w' := by
  obtain ⟨hp, hg, ⟨fw, nw, hmw, hfw⟩, ⟨nn, hmn⟩, hne, hbp, hbg, hbw, hbn⟩ := hG
  have hnb := pair_bound hmn (near_ok hn hF hl _)
  have hmm := @run_makeMap Try.prog
  have hpl := hp.lt
  have hgl := hg.lt
  have hwl := hmw.lt
  have hnl := hmn.lt
  have Hfw := Lib.hid hfw
  have hz : 0 < of.length → of[0]? = some z := fun h => by
    rw [← hz0]; simp [List.getD, h]
  have Hz := Lib.hid hz
  clear hz0
  have e1 : (w.alloc (.cells #[.int .i64 0, .int .i64 0] 114)).heap.size = w.heap.size + 1 := by simp
  have hc2 : ((w.alloc (.cells #[.int .i64 0, .int .i64 0] 114)).alloc (.map #[] 0)).cell? ⟨p, 2, none⟩ = some (.map (some rn)) := ((hp.alloc _).alloc _).cell 2
  obtain ⟨w1, hrg, hit, hgr, hsz⟩ := ((hmn.alloc (.cells #[.int .i64 0, .int .i64 0] 114)).alloc (.map #[] 0)).range Try.underlying128
  clear hfw hz
  have Hp := Lib.hid hp
  have Hg := Lib.hid hg
  have Hmw := Lib.hid hmw
  have Hr := Lib.hid (Bk.grown ((Bk.new w 114 #[.int .i64 0, .int .i64 0]).alloc (.map #[] 0)) hgr (by simp))
  have Hs : Hid (MapF iV bV Try.prog 3 w1 (w.heap.size + 1) (fun _ => none) 0) := MapF.grown (e1 ▸ MapF.new iV bV Try.prog 3 (w.alloc (.cells #[.int .i64 0, .int .i64 0] 114))) hgr (by simp)
  have Hb : Hid (Below w.heap.size w w1) := ((((Below.refl _ _).alloc (Nat.le_refl _) _).alloc (by simp) _ : Below w.heap.size w ((w.alloc (.cells #[.int .i64 0, .int .i64 0] 114)).alloc (.map #[] 0)))).grown hgr (by simp; omega) (by simp)
  simp only [World.size_alloc] at hit
  have Hit := Lib.hid hit
  clear hit hgr hsz hp hg hmw hmn
  go_enter Try.func59, Try.ntmps59
  go_wp2
  clear hc2 hrg hmm
  go_loopw [6] (fun v wr => ∃ (done cs : List (Int × Int)) (c' ms : Nat) (fs : Int → Option Bool), wr.ownsRow w.heap.size 134 2 v cs.length (pairC cs) ∧ Iter pV iV Try.prog 114 wr (w.heap.size + 1 + 1) rn (nearF ns of ns.length) nn done c' ∧ MapF iV bV Try.prog 3 wr (w.heap.size + 1) fs ms ∧ Hid (Cs ws of least z done cs) ∧ Hid (∀ a, (fs a).getD false = true ↔ ∃ c ∈ cs, c.2 = a) ∧
     Hid (∀ p ∈ done, nearF ns of ns.length p ≠ none) ∧ done.length + c' ≤ nn ∧ cs.length ≤ done.length ∧ Below w.heap.size w wr ∧ Bk wr w.heap.size 114 #[.int .i64 0, .int .i64 0]) (fun _ wr => itLeft wr (w.heap.size + 1 + 1) rn)
  case atStart => exact ⟨[], [], nn, 0, fun _ => none, World.ownsRow_nil _ _ _ _, Hit.out, Hs.out, ⟨by simp, by simp, by simp⟩, (fun a => by simp), (fun p hp => by simp at hp), by simp, by simp, Hb.out, Hr.out⟩
  case round =>
    obtain ⟨done, cs, c', ms, fs, hown, hit, hms, hcs, hfs, hdk, hle, hcl, hb, hr⟩ := hrel
    have hleft := Lib.hid hit.left
    have hbs := hb.size
    rcases hit.next inj_pV 0 with ⟨hall, hnx⟩ | ⟨q, v, w2, c2, hq1, hq2, hq3, hnx, hit2, hlt, ht2, hen⟩
    · have hnx' : ∀ ty, (Instr.next (.pointer (some ⟨w.heap.size + 1 + 1, 0, none⟩)) false ty).run Try.prog wr = .ok (.tuple #[.bool false]) wr := fun ty => hnx
      clear hnx
      have hcs1 : Hid (∀ c ∈ cs, c.1 = weight ws of c.2 ∧ ∃ b, nearF ns of ns.length (c.2, b) ≠ none ∧ Can ws of least z (c.2, b)) := fun c hc => by
        obtain ⟨h1, b, h2, h3⟩ := hcs.out.a c hc
        exact ⟨h1, b, hdk.out _ h2, h3⟩
      have hcs2 : Hid (∀ p, nearF ns of ns.length p ≠ none → Can ws of least z p → ∃ c ∈ cs, c.2 = p.1) := fun p hp hc => hcs.out.b p (hall p hp) hc
      obtain ⟨A1, c1, rfl⟩ := own_slice hown
      have Hown := Lib.hid hown
      have Hmn := Lib.hid hit.map
      have Hb := Lib.hid hb
      have Hr := Lib.hid hr
      clear hall hcs hfs hdk hown hit hms hb hr
      by_cases hemp : cs.length = 0
      · have hnil : Hid (cs = []) := List.eq_nil_of_length_eq_zero hemp
        have hle0 : cs.length ≤ 0 := by omega
        clear hemp
        have hr0 : wr.cell? ⟨w.heap.size, 0, none⟩ = some (.int .i64 0) := Hr.out.cell 0
        have hr1 : wr.cell? ⟨w.heap.size, 1, none⟩ = some (.int .i64 0) := Hr.out.cell 1
        have hf0 := Hr.out.frozen 0
        have hf1 := Hr.out.frozen 1
        have hz0 := ((Hr.out.set_ 0 (.int .i64 0)).set_ 1 (.int .i64 0)).cell 0
        have hz1 := ((Hr.out.set_ 0 (.int .i64 0)).set_ 1 (.int .i64 0)).cell 1
        go_wp2
        refine bodyPost_ret (v := .tuple #[.agg #[.int .i64 0, .int .i64 0], .bool false]) (by simp [results, Try.results59, go_sem, hz0, hz1]) rfl ⟨0, 0, false, rfl, ⟨cs, hcs1.out, hcs2.out, .inl ⟨hnil.out, rfl, rfl, rfl⟩⟩, ?_⟩
        exact (Hb.out.setCell (by simp) _).setCell (by simp) _
      · have hlen : 0 < cs.length := by omega
        clear hemp
        go_wp2_with fail
        refine (first_any A1 c1 cs wr (SL.of_own Hown.out) hlen (by omega)).mono ?_
        rintro e w5 ⟨rfl, hb5⟩
        have hb50 := Hb.out.trans (hb5.mono hbs)
        have hzs5 := hb5.size
        have hmn5 := Hmn.out.below hb5 Hmn.out.lt
        have Hr5 := Lib.hid (Hr.out.below hb5 Hr.out.lt)
        have hcp : w5.cell? ⟨p, 2, none⟩ = some (.map (some rn)) := (Hp.out.below hb50 hpl).cell 2
        obtain ⟨w6, hrg, hit6, hgr6, hsz6⟩ := hmn5.range Try.underlying128
        have Hr6 := Lib.hid (Hr5.out.grown hgr6 (by simp))
        have Hb5 := Lib.hid hb50
        have hs50 := hb50.size
        have Hb56 := Lib.hid ((Below.refl w5.heap.size w5).grown hgr6 (by omega) (by simp))
        have Hit6 := Lib.hid hit6
        have hrl := Hr.out.lt
        clear hb5 hb50 hmn5 hit6 hgr6
        have ha := minC_mem hlen
        have Ha := Lib.hid ha
        clear ha
        obtain ⟨a, hae⟩ : ∃ a, Hid ((minC cs).2 = a) := ⟨_, rfl⟩
        have hgo := hae.out
        rw [hgo]
        clear hgo
        go_wp2_with fail
        clear hcp hrg
        have hvb := fun p v h => near_val hn hl3 (p := p) (v := v) h
        have hDS0 : Hid (Ds (nearF ns of ns.length) a z [] []) := ⟨by simp, by simp, by simp⟩
        go_loopw [6] (fun v wr => ∃ (done ds : List (Int × Int)) (c' : Nat), wr.ownsRow w5.heap.size 134 2 v ds.length (pairC ds) ∧ Iter pV iV Try.prog 114 wr w5.heap.size rn (nearF ns of ns.length) nn done c' ∧ Hid (Ds (nearF ns of ns.length) a z done ds) ∧ done.length + c' ≤ nn ∧ Below w5.heap.size w5 wr) (fun _ wr => itLeft wr w5.heap.size rn)
        case atStart => exact ⟨[], [], nn, World.ownsRow_nil _ _ _ _, Hit6.out, hDS0, by simp, Hb56.out⟩
        case round =>
          obtain ⟨done, ds, c', hown, hit, hds, hle, hb⟩ := hrel
          have hleft := Lib.hid hit.left
          have hbs6 := hb.size
          rcases hit.next inj_pV 0 with ⟨hall, hnx⟩ | ⟨q, v, w7, c2, hq1, hq2, hq3, hnx, hit2, hlt, ht2, hen⟩
          · have hnx' : ∀ ty, (Instr.next (.pointer (some ⟨w5.heap.size, 0, none⟩)) false ty).run Try.prog wr = .ok (.tuple #[.bool false]) wr := fun ty => hnx
            clear hnx
            obtain ⟨A2, c3, rfl⟩ := own_slice hown
            have hne2 : 0 < ds.length := by
              obtain ⟨h1, b, h2, h3⟩ := hcs1.out _ Ha.out
              rw [hae.out] at h2 h3
              cases hf : nearF ns of ns.length (a, b) with
              | none => exact (h2 hf).elim
              | some v => exact List.length_pos_of_mem (hds.out.p2 b v (hall _ h2) hf h3.2.1)
            have hdl := hds.out.n
            have hdall : Hid (∀ y c, nearF ns of ns.length (a, y) = some c → y ≠ z → (-c, y) ∈ ds) := fun y c hc hy => hds.out.p2 y c (hall _ (by rw [hc]; simp)) hc hy
            have hbw := Hb5.out.trans (hb.mono hs50)
            have Hrw := Lib.hid (Hr5.out.below hb Hr5.out.lt)
            have Hbw := Lib.hid hbw
            have Hdall := Lib.hid hall
            clear hall hit hb hbw
            go_wp2_with fail
            refine (first_any A2 c3 ds wr (SL.of_own hown) hne2 (by omega)).mono ?_
            rintro e w8 ⟨rfl, hb8⟩
            obtain ⟨b, hbe⟩ : ∃ b, Hid ((minC ds).2 = b) := ⟨_, rfl⟩
            have hgo := hbe.out
            rw [hgo]
            clear hgo
            have hr8 := Hrw.out.below hb8 Hrw.out.lt
            have Hb8 := Lib.hid (Hbw.out.trans (hb8.mono Hbw.out.size))
            have hr0 : w8.cell? ⟨w.heap.size, 0, none⟩ = some (.int .i64 0) := hr8.cell 0
            have hr1 : w8.cell? ⟨w.heap.size, 1, none⟩ = some (.int .i64 0) := hr8.cell 1
            have hf0 := hr8.frozen 0
            have hf1 := hr8.frozen 1
            have hz0 := ((hr8.set_ 0 (.int .i64 a)).set_ 1 (.int .i64 b)).cell 0
            have hz1 := ((hr8.set_ 0 (.int .i64 a)).set_ 1 (.int .i64 b)).cell 1
            clear hb8
            go_wp2_with fail
            refine bodyPost_ret (v := .tuple #[.agg #[.int .i64 a, .int .i64 b], .bool true]) (by simp [results, Try.results59, go_sem, hz0, hz1]) rfl ⟨a, b, true, rfl, ⟨cs, hcs1.out, hcs2.out, .inr ⟨fun h => by simp [h] at hlen, rfl, hae.out.symm, ds, fun h => by simp [h] at hne2, hbe.out.symm, hds.out.p1, hdall.out⟩⟩, ?_⟩
            exact (Hb8.out.setCell (by simp) _).setCell (by simp) _
          · have hnx' : ∀ ty, (Instr.next (.pointer (some ⟨w5.heap.size, 0, none⟩)) false ty).run Try.prog wr = .ok (.tuple #[.bool true, .agg #[.int .i64 q.1, .int .i64 q.2], .int .i64 v]) w7 := fun ty => hnx
            have hen' : (Instr.entry (.pointer (some ⟨w5.heap.size, 0, none⟩))).run Try.prog w7 = .ok (.tuple #[.agg #[.int .i64 q.1, .int .i64 q.2], .int .i64 v]) w7 := hen
            clear hnx hen
            obtain ⟨q1, q2⟩ := q
            dsimp only at hnx' hen'
            have hv := hvb _ _ hq2
            have hown2 := own_turn hown ht2 (hit.own_ne hown)
            have hb2 := ht2.below hb (by omega)
            have hown1 := hown2.alloc (.cells #[.int .i64 q1, .int .i64 q2] 114)
            have hit1 := hit2.keep (w' := w7.alloc (.cells #[.int .i64 q1, .int .i64 q2] 114)) (Below.heap_alloc _ _ _ hit2.lt) (Below.heap_alloc _ _ _ hit2.map.lt)
            have hb1 := hb2.alloc (by have := hb2.size; exact this) (.cells #[.int .i64 q1, .int .i64 q2] 114)
            have ht1 := Bk.new w7 114 #[.int .i64 q1, .int .i64 q2]
            have hzs : w7.heap.size < (w7.alloc (.cells #[.int .i64 q1, .int .i64 q2] 114)).heap.size := by simp
            clear hown hown2 hb hb2 hit hit2 ht2
            go_wp2_with fail
            clear hnx' hen'
            generalize w7.alloc (.cells #[.int .i64 q1, .int .i64 q2] 114) = W1 at hown1 hit1 hb1 ht1 hzs ⊢
            generalize w7.heap.size = t at ht1 hzs ⊢
            have hb01 := Hb5.out.trans (hb1.mono hs50)
            have hcp0 : W1.cell? ⟨p, 0, none⟩ = some (.slice (some ⟨g, 0, none⟩) of.length c) := (Hp.out.below hb01 hpl).cell 0
            have h0l := near_len hn (i := ns.length) (p := (q1, q2)) (by rw [hq2]; simp)
            have hcg : W1.cell? ⟨g, 0, none⟩ = some (.int .i64 z) := ((Hg.out.below hb01 hgl).cell 0).trans (rowI_get (Hz.out h0l))
            have hct0 : W1.cell? ⟨t, 0, none⟩ = some (.int .i64 q1) := ht1.cell 0
            have hct1 : W1.cell? ⟨t, 1, none⟩ = some (.int .i64 q2) := ht1.cell 1
            by_cases hA : q1 = a
            · have hbA : (q1 == a) = true := by simpa using hA
              by_cases hB : q2 = z
              · have hskip : Hid (Ds (nearF ns of ns.length) a z (done ++ [(q1, q2)]) ds) := hds.out.skip (fun _ => hB)
                have hbB : (q2 != z) = false := by simpa using hB
                clear hB hA
                go_wp2_with fail
                go_quiet (fail)
                have hqn : Qt W1 (W1.drewN nq) := ⟨nq, rfl⟩
                generalize W1.drewN nq = W2 at hqn ⊢
                clear hcp0 hcg hct0 hct1
                go_wp2_with fail
                go_roundw
                case rel => exact ⟨done ++ [(q1, q2)], ds, c2, own_qt hown1 hqn, hit1.qt hqn, hskip, by simp; omega, hqn.bl hb1⟩
                case measure => rw [hleft.out, (hit1.qt hqn).left]; omega
              · have hpush : Hid (Ds (nearF ns of ns.length) a z (done ++ [(q1, q2)]) (ds ++ [(-v, q2)])) := by subst hA; exact hds.out.push hq2 hB
                have hbB : (q2 != z) = true := by simpa using hB
                have hlen2 := hds.out.n
                clear hB hA
                go_wp2_with fail
                go_quiet (fail)
                have hqn : Qt W1 (W1.drewN nq) := ⟨nq, rfl⟩
                generalize W1.drewN nq = W2 at hqn ⊢
                clear hcp0 hcg hct0 hct1
                have hown2 := own_qt hown1 hqn
                have hit2 := hit1.qt hqn
                have hb2 := hqn.bl hb1
                have hct1 : W2.cell? ⟨t, 1, none⟩ = some (.int .i64 q2) := (ht1.qt hqn).cell 1
                have hneg : IntKind.i64.wrap (-v) = -v := IntWalk.i64_in _ (by omega)
                have hrow := hit2.own_ne hown2
                have Hit2 := Lib.hid hit2
                clear hown1 hit1 hb1 hqn hit2
                go_wp2_with (at_builtin; refine wpList_app1 (w := W2) rfl _ _ rfl elt_cand hown2 hb2 rfl rfl (by simp) rfl rfl (by omega) ?_; intro v1 w4 hown4 hb4 hg4 _ hz4)
                go_roundw
                case rel =>
                  exact ⟨done ++ [(q1, q2)], ds ++ [(-v, q2)], c2, by rw [pairC_append, List.length_append]; exact hown4, Hit2.out.keep (hg4.block _ Hit2.out.lt hrow) (hg4.block rn Hit2.out.map.lt (MapF.own_ne Hit2.out.map hown2)), hpush, by simp; omega, hb4⟩
                case measure =>
                  have hl4 := (Hit2.out.keep (hg4.block _ Hit2.out.lt hrow) (hg4.block rn Hit2.out.map.lt (MapF.own_ne Hit2.out.map hown2))).left
                  rw [hleft.out, hl4]; omega
            · have hskip : Hid (Ds (nearF ns of ns.length) a z (done ++ [(q1, q2)]) ds) := hds.out.skip (fun h => (hA h).elim)
              have hbA : (q1 == a) = false := by simpa using hA
              clear hA
              go_wp2_with fail
              go_quiet (fail)
              have hqn : Qt W1 (W1.drewN nq) := ⟨nq, rfl⟩
              generalize W1.drewN nq = W2 at hqn ⊢
              clear hcp0 hcg hct0 hct1
              go_wp2_with fail
              go_roundw
              case rel => exact ⟨done ++ [(q1, q2)], ds, c2, own_qt hown1 hqn, hit1.qt hqn, hskip, by simp; omega, hqn.bl hb1⟩
              case measure => rw [hleft.out, (hit1.qt hqn).left]; omega
    · have hnx' : ∀ ty, (Instr.next (.pointer (some ⟨w.heap.size + 1 + 1, 0, none⟩)) false ty).run Try.prog wr = .ok (.tuple #[.bool true, .agg #[.int .i64 q.1, .int .i64 q.2], .int .i64 v]) w2 := fun ty => hnx
      have hen' : (Instr.entry (.pointer (some ⟨w.heap.size + 1 + 1, 0, none⟩))).run Try.prog w2 = .ok (.tuple #[.agg #[.int .i64 q.1, .int .i64 q.2], .int .i64 v]) w2 := hen
      clear hnx hen
      obtain ⟨q1, q2⟩ := q
      dsimp only at hnx' hen'
      have hQ := near_ok hn hF hl _ (q1, q2) (by rw [hq2]; simp)
      dsimp only at hQ
      obtain ⟨hQ1, hQ2, hQ3, hQ4⟩ := hQ
      have hgq := good_int (x := q1) ⟨by omega, by omega⟩
      have hdk2 : Hid (∀ p ∈ done ++ [(q1, q2)], nearF ns of ns.length p ≠ none) := fun p hp => by
        rcases List.mem_append.1 hp with h | h
        · exact hdk.out p h
        · have : p = (q1, q2) := by simpa using h
          subst this; rw [hq2]; simp
      -- the worlds
      have hown2 := own_turn hown ht2 (hit.own_ne hown)
      have hms2 := hms.turn ht2 (hit.map_ne hms)
      have hb2 := ht2.below hb (by omega)
      have hr2 := ht2.bk hr (hit.bk_ne hr)
      have hown1 := hown2.alloc (.cells #[.int .i64 q1, .int .i64 q2] 114)
      have hit1 := hit2.keep (w' := w2.alloc (.cells #[.int .i64 q1, .int .i64 q2] 114)) (Below.heap_alloc _ _ _ hit2.lt) (Below.heap_alloc _ _ _ hit2.map.lt)
      have hms1 := hms2.alloc (.cells #[.int .i64 q1, .int .i64 q2] 114)
      have hb1 := hb2.alloc (by have := hb2.size; exact this) (.cells #[.int .i64 q1, .int .i64 q2] 114)
      have hr1 := hr2.alloc (.cells #[.int .i64 q1, .int .i64 q2] 114)
      have ht1 := Bk.new w2 114 #[.int .i64 q1, .int .i64 q2]
      have hzs : w2.heap.size < (w2.alloc (.cells #[.int .i64 q1, .int .i64 q2] 114)).heap.size := by simp
      clear hown hown2 hms hms2 hb hb2 hr hr2 hit hit2 ht2
      go_wp2
      clear hnx' hen'
      generalize w2.alloc (.cells #[.int .i64 q1, .int .i64 q2] 114) = W1 at hown1 hit1 hms1 hb1 hr1 ht1 hzs ⊢
      generalize w2.heap.size = t at ht1 hzs ⊢
      have hcp0 : W1.cell? ⟨p, 0, none⟩ = some (.slice (some ⟨g, 0, none⟩) of.length c) := (Hp.out.below hb1 hpl).cell 0
      have hcp1 : W1.cell? ⟨p, 1, none⟩ = some (.map (some rw)) := (Hp.out.below hb1 hpl).cell 1
      have h0l := near_len hn (i := ns.length) (p := (q1, q2)) (by rw [hq2]; simp)
      have hcg : W1.cell? ⟨g, 0, none⟩ = some (.int .i64 z) := ((Hg.out.below hb1 hgl).cell 0).trans (rowI_get (Hz.out h0l))
      have hct0 : W1.cell? ⟨t, 0, none⟩ = some (.int .i64 q1) := ht1.cell 0
      have hct1 : W1.cell? ⟨t, 1, none⟩ = some (.int .i64 q2) := ht1.cell 1
      have hlkS : ∀ m, (Instr.lookup 132 (.map (some (w.heap.size + 1))) (.int .i64 q1) false).run Try.prog (W1.drewN m) = .ok (.bool ((fs q1).getD false)) (W1.drewN m) := fun m => (hms1.drewN m).lookup inj_iV keyed_int Try.underlying132 (zero_bool (W1.drewN m)) hgq
      have hmw1 := Hmw.out.below hb1 hwl
      have hlkW : ∀ m, (Instr.lookup 88 (.map (some rw)) (.int .i64 q1) false).run Try.prog (W1.drewN m) = .ok (.int .i64 (weight ws of q1)) (W1.drewN m) := fun m => by
        have := (hmw1.drewN m).lookup inj_iV keyed_int Try.underlying88 (zero_int (W1.drewN m)) hgq
        rw [Hfw.out] at this
        exact this
      have Hmw1 := Lib.hid hmw1
      clear hmw1
      by_cases hA : q1 = z
      · have hskip : Hid (Cs ws of least z (done ++ [(q1, q2)]) cs) := hcs.out.skip (fun hc => (hc.1 hA).elim)
        have hbA : (q1 != z) = false := by simpa using hA
        clear hA
        go_wp2
        go_quiet (fail)
        have hqn : Qt W1 (W1.drewN nq) := ⟨nq, rfl⟩
        generalize W1.drewN nq = W2 at hqn ⊢
        clear hcp0 hcp1 hcg hct0 hct1 hlkS hlkW
        go_wp2_with fail
        go_roundw
        case rel => exact ⟨done ++ [(q1, q2)], cs, c2, ms, fs, own_qt hown1 hqn, hit1.qt hqn, hms1.qt hqn, hskip, hfs, hdk2, by simp; omega, by simp; omega, hqn.bl hb1, hr1.qt hqn⟩
        case measure => rw [hleft.out, (hit1.qt hqn).left]; omega
      · have hbA : (q1 != z) = true := by simpa using hA
        by_cases hB : q2 = z
        · have hskip : Hid (Cs ws of least z (done ++ [(q1, q2)]) cs) := hcs.out.skip (fun hc => (hc.2.1 hB).elim)
          have hbB : (q2 != z) = false := by simpa using hB
          clear hB hA
          go_wp2
          go_quiet (fail)
          have hqn : Qt W1 (W1.drewN nq) := ⟨nq, rfl⟩
          generalize W1.drewN nq = W2 at hqn ⊢
          clear hcp0 hcp1 hcg hct0 hct1 hlkS hlkW
          go_wp2_with fail
          go_roundw
          case rel => exact ⟨done ++ [(q1, q2)], cs, c2, ms, fs, own_qt hown1 hqn, hit1.qt hqn, hms1.qt hqn, hskip, hfs, hdk2, by simp; omega, by simp; omega, hqn.bl hb1, hr1.qt hqn⟩
          case measure => rw [hleft.out, (hit1.qt hqn).left]; omega
        · have hbB : (q2 != z) = true := by simpa using hB
          cases hsn : (fs q1).getD false
          · by_cases hW : weight ws of q1 < least
            · have hpush : Hid (Cs ws of least z (done ++ [(q1, q2)]) (cs ++ [(weight ws of q1, q1)])) := hcs.out.push ⟨hA, hB, hW⟩
              clear hB hA
              go_wp2
              go_quiet (fail)
              have hqn : Qt W1 (W1.drewN nq) := ⟨nq, rfl⟩
              generalize W1.drewN nq = W2 at hqn ⊢
              clear hcp0 hcp1 hcg hct0 hct1 hlkS hlkW
              have hown2 := own_qt hown1 hqn
              have hit2 := hit1.qt hqn
              have hms2 := hms1.qt hqn
              have hb2 := hqn.bl hb1
              have hr2 := hr1.qt hqn
              have hzs2 : t < W2.heap.size := by obtain ⟨m, rfl⟩ := hqn; exact hzs
              clear hown1 hit1 hms1 hb1 hr1 hqn Hmw1
              obtain ⟨w3, hup, hms3, ht3⟩ := hms2.update inj_iV keyed_int Try.underlying132 hgq true
              have hup' : (Instr.mapUpdate 132 (.map (some (w.heap.size + 1))) (.int .i64 q1) (.bool true)).run Try.prog W2 = .ok () w3 := hup
              have hown3 := own_turn hown2 ht3 (hms2.own_ne hown2)
              have hit3 := hit2.keep (ht3.block _ (Ne.symm (hit2.map_ne hms2))) (ht3.block rn (by omega))
              have hb3 := ht3.below hb2 (by omega)
              have hr3 := ht3.bk hr2 (hms2.bk_ne hr2)
              clear hup hown2 hit2 hb2 hr2
              have hcp1 : w3.cell? ⟨p, 1, none⟩ = some (.map (some rw)) := (Hp.out.below hb3 hpl).cell 1
              have hlkW : (Instr.lookup 88 (.map (some rw)) (.int .i64 q1) false).run Try.prog w3 = .ok (.int .i64 (weight ws of q1)) w3 := by
                have := (Hmw.out.below hb3 hwl).lookup inj_iV keyed_int Try.underlying88 (zero_int w3) hgq
                rw [Hfw.out] at this
                exact this
              have Hms3 := Lib.hid hms3
              have Hit3 := Lib.hid hit3
              have Hr3 := Lib.hid hr3
              clear hms3 ht3 hms2 hit3 hr3
              go_wp2_with (at_builtin; refine wpList_app1 (w := w3) rfl _ _ rfl elt_cand hown3 hb3 rfl rfl (by simp) rfl rfl (by omega) ?_; intro v1 w4 hown4 hb4 hg4 _ hz4)
              have hrow := Hit3.out.own_ne hown3
              go_roundw
              case rel =>
                refine ⟨done ++ [(q1, q2)], cs ++ [(weight ws of q1, q1)], c2, _, setF fs q1 true, by rw [pairC_append, List.length_append]; exact hown4, Hit3.out.keep (hg4.block _ Hit3.out.lt hrow) (hg4.block rn Hit3.out.map.lt (MapF.own_ne Hit3.out.map hown3)), Hms3.out.grown hg4 (MapF.own_ne Hms3.out hown3), hpush, ?_, hdk2, by simp; omega, by simp; omega, hb4, Hr3.out.grown hg4 (Hr3.out.ne_own hown3 (by decide))⟩
                intro a
                unfold setF
                by_cases ha : a = q1
                · subst ha; simp
                · rw [if_neg ha]
                  have := hfs.out a
                  rw [this]
                  constructor
                  · rintro ⟨c, hc, e⟩; exact ⟨c, by simp [hc], e⟩
                  · rintro ⟨c, hc, e⟩
                    rcases List.mem_append.1 hc with hc | hc
                    · exact ⟨c, hc, e⟩
                    · have : c = (weight ws of q1, q1) := by simpa using hc
                      subst this
                      exact (ha e.symm).elim
              case measure =>
                have hl4 := (Hit3.out.keep (hg4.block _ Hit3.out.lt hrow) (hg4.block rn Hit3.out.map.lt (MapF.own_ne Hit3.out.map hown3))).left
                rw [hleft.out, hl4]; omega
            · have hskip : Hid (Cs ws of least z (done ++ [(q1, q2)]) cs) := hcs.out.skip (fun hc => (hW hc.2.2).elim)
              clear hB hA
              go_wp2
              go_quiet (fail)
              have hqn : Qt W1 (W1.drewN nq) := ⟨nq, rfl⟩
              generalize W1.drewN nq = W2 at hqn ⊢
              clear hcp0 hcp1 hcg hct0 hct1 hlkS hlkW
              go_wp2_with fail
              go_roundw
              case rel => exact ⟨done ++ [(q1, q2)], cs, c2, ms, fs, own_qt hown1 hqn, hit1.qt hqn, hms1.qt hqn, hskip, hfs, hdk2, by simp; omega, by simp; omega, hqn.bl hb1, hr1.qt hqn⟩
              case measure => rw [hleft.out, (hit1.qt hqn).left]; omega
          · have hskip : Hid (Cs ws of least z (done ++ [(q1, q2)]) cs) := hcs.out.skip (fun _ => (hfs.out q1).1 hsn)
            clear hB hA
            go_wp2
            go_quiet (fail)
            have hqn : Qt W1 (W1.drewN nq) := ⟨nq, rfl⟩
            generalize W1.drewN nq = W2 at hqn ⊢
            clear hcp0 hcp1 hcg hct0 hct1 hlkS hlkW
            go_wp2_with fail
            go_roundw
            case rel => exact ⟨done ++ [(q1, q2)], cs, c2, ms, fs, own_qt hown1 hqn, hit1.qt hqn, hms1.qt hqn, hskip, hfs, hdk2, by simp; omega, by simp; omega, hqn.bl hb1, hr1.qt hqn⟩
            case measure => rw [hleft.out, (hit1.qt hqn).left]; omega
end Go.Proofs.Ytmdgdphhedgojaa

/- (paroleref01.Same), SameC. -/
import Derived.Test.YtkopmnhngjbmcaaGreatDoorG1
import Derived.Deep.RegionHeld3
namespace Go.Proofs.YtkopmnhngjbmcaaGreatDoor.Sn
open Go Go.RowKit
set_option linter.unusedVariables false
theorem sameE_eq (x y : Ex) : sameE x y = (decide (x.op = y.op) && decide (x.n = y.n) && decide (x.v = y.v) && sameEs x.a y.a) := by
  obtain ⟨o, n, v, a⟩ := x
  obtain ⟨o', n', v', a'⟩ := y
  rfl
theorem sameC_eq (x y : Cn) : sameC x y = (decide (x.op = y.op) && sameEs x.a y.a && sameCs x.c y.c) := by
  obtain ⟨o, a, c⟩ := x
  obtain ⟨o', a', c'⟩ := y
  rfl
theorem sameEs_at {l m : List Ex} {k : Nat} {x y : Ex} (hx : l[k]? = some x) (hy : m[k]? = some y) (h : sameE x y = false) : sameEs l m = false := by
  cases h' : sameEs l m with
  | false => rfl
  | true =>
    have h2 := (sameEs_iff _ _).1 h'
    subst h2
    rw [hx] at hy
    injection hy with hy
    rw [(sameE_iff _ _).2 hy] at h; cases h
theorem sameCs_at {l m : List Cn} {k : Nat} {x y : Cn} (hx : l[k]? = some x) (hy : m[k]? = some y) (h : sameC x y = false) : sameCs l m = false := by
  cases h' : sameCs l m with
  | false => rfl
  | true =>
    have h2 := (sameCs_iff _ _).1 h'
    subst h2
    rw [hx] at hy
    injection hy with hy
    rw [(sameC_iff _ _).2 hy] at h; cases h
theorem sameEs_len {l m : List Ex} (h : l.length ≠ m.length) : sameEs l m = false := by
  cases h' : sameEs l m with
  | false => rfl
  | true => exact absurd (congrArg List.length ((sameEs_iff _ _).1 h')) h
theorem sameCs_len {l m : List Cn} (h : l.length ≠ m.length) : sameCs l m = false := by
  cases h' : sameCs l m with
  | false => rfl
  | true => exact absurd (congrArg List.length ((sameCs_iff _ _).1 h')) h
set_option maxRecDepth 100000 in
set_option maxHeartbeats 4000000 in
theorem same_no (o o' n n' v v' : Int) (p q : Nat) (A B : Option Addr) (c d : Nat) (hp : p < 1152921504606846976) (hq : q < 1152921504606846976) (w : World) (hno : o ≠ o' ∨ n ≠ n' ∨ v ≠ v' ∨ p ≠ q) :
    Calls Tryz.prog 62 #[.agg #[.int .i64 o, .int .i64 n, .int .i64 v, .slice A p c], .agg #[.int .i64 o', .int .i64 n', .int .i64 v', .slice B q d]] w fun en w' => en = .returned (.bool false) ∧ Below w.heap.size w w' := by
  by_cases h1 : o = o'
  · subst h1
    by_cases h2 : n = n'
    · subst h2
      by_cases h3 : v = v'
      · subst h3
        have h4 : ¬ p = q := by
          rcases hno with h | h | h | h
          · exact absurd rfl h
          · exact absurd rfl h
          · exact absurd rfl h
          · exact h
        have h5 : ¬ (p : Int) = (q : Int) := by omega
        clear hno
        go_enter Tryz.func62, Tryz.ntmps62
        go_wp2_with (first
          | ((with_reducible refine gate_dst (N := 2) rfl ?_); refine box4 rfl (N := 2) rfl (.int .i64 o) (.int .i64 n) (.int .i64 v) (.slice A p c) 125 (by go_simp) ?_; intro g1 w1 HG1 HA0 HBE1 q0 q1 q2 q3)
          | ((with_reducible refine gate_dst (N := 3) rfl ?_); refine box4 rfl (N := 3) rfl (.int .i64 o) (.int .i64 n) (.int .i64 v) (.slice B q d) 125 (by go_simp) ?_; intro g2 w2 HG2 HA2 HBE2 r0 r1 r2 r3; have HA1 := Lib.hid (below_blk HBE2.out HA0.out); have q0' : w2.cell? ⟨g1, 0, none⟩ = some (.int .i64 o) := (blk_cell HA1.out 0).trans rfl; have q1' : w2.cell? ⟨g1, 1, none⟩ = some (.int .i64 n) := (blk_cell HA1.out 1).trans rfl; have q2' : w2.cell? ⟨g1, 2, none⟩ = some (.int .i64 v) := (blk_cell HA1.out 2).trans rfl; have q3' : w2.cell? ⟨g1, 3, none⟩ = some (.slice A p c) := (blk_cell HA1.out 3).trans rfl; clear q0 q1 q2 q3))
        go_ret
        exact ⟨rfl, below_trans HBE1.out HBE2.out⟩
      · clear hno
        go_enter Tryz.func62, Tryz.ntmps62
        go_wp2_with (first
          | ((with_reducible refine gate_dst (N := 2) rfl ?_); refine box4 rfl (N := 2) rfl (.int .i64 o) (.int .i64 n) (.int .i64 v) (.slice A p c) 125 (by go_simp) ?_; intro g1 w1 HG1 HA0 HBE1 q0 q1 q2 q3)
          | ((with_reducible refine gate_dst (N := 3) rfl ?_); refine box4 rfl (N := 3) rfl (.int .i64 o) (.int .i64 n) (.int .i64 v') (.slice B q d) 125 (by go_simp) ?_; intro g2 w2 HG2 HA2 HBE2 r0 r1 r2 r3; have HA1 := Lib.hid (below_blk HBE2.out HA0.out); have q0' : w2.cell? ⟨g1, 0, none⟩ = some (.int .i64 o) := (blk_cell HA1.out 0).trans rfl; have q1' : w2.cell? ⟨g1, 1, none⟩ = some (.int .i64 n) := (blk_cell HA1.out 1).trans rfl; have q2' : w2.cell? ⟨g1, 2, none⟩ = some (.int .i64 v) := (blk_cell HA1.out 2).trans rfl; have q3' : w2.cell? ⟨g1, 3, none⟩ = some (.slice A p c) := (blk_cell HA1.out 3).trans rfl; clear q0 q1 q2 q3))
        go_ret
        exact ⟨rfl, below_trans HBE1.out HBE2.out⟩
    · clear hno
      go_enter Tryz.func62, Tryz.ntmps62
      go_wp2_with (first
        | ((with_reducible refine gate_dst (N := 2) rfl ?_); refine box4 rfl (N := 2) rfl (.int .i64 o) (.int .i64 n) (.int .i64 v) (.slice A p c) 125 (by go_simp) ?_; intro g1 w1 HG1 HA0 HBE1 q0 q1 q2 q3)
        | ((with_reducible refine gate_dst (N := 3) rfl ?_); refine box4 rfl (N := 3) rfl (.int .i64 o) (.int .i64 n') (.int .i64 v') (.slice B q d) 125 (by go_simp) ?_; intro g2 w2 HG2 HA2 HBE2 r0 r1 r2 r3; have HA1 := Lib.hid (below_blk HBE2.out HA0.out); have q0' : w2.cell? ⟨g1, 0, none⟩ = some (.int .i64 o) := (blk_cell HA1.out 0).trans rfl; have q1' : w2.cell? ⟨g1, 1, none⟩ = some (.int .i64 n) := (blk_cell HA1.out 1).trans rfl; have q2' : w2.cell? ⟨g1, 2, none⟩ = some (.int .i64 v) := (blk_cell HA1.out 2).trans rfl; have q3' : w2.cell? ⟨g1, 3, none⟩ = some (.slice A p c) := (blk_cell HA1.out 3).trans rfl; clear q0 q1 q2 q3))
      go_ret
      exact ⟨rfl, below_trans HBE1.out HBE2.out⟩
  · clear hno
    go_enter Tryz.func62, Tryz.ntmps62
    go_wp2_with (first
      | ((with_reducible refine gate_dst (N := 2) rfl ?_); refine box4 rfl (N := 2) rfl (.int .i64 o) (.int .i64 n) (.int .i64 v) (.slice A p c) 125 (by go_simp) ?_; intro g1 w1 HG1 HA0 HBE1 q0 q1 q2 q3)
      | ((with_reducible refine gate_dst (N := 3) rfl ?_); refine box4 rfl (N := 3) rfl (.int .i64 o') (.int .i64 n') (.int .i64 v') (.slice B q d) 125 (by go_simp) ?_; intro g2 w2 HG2 HA2 HBE2 r0 r1 r2 r3; have HA1 := Lib.hid (below_blk HBE2.out HA0.out); have q0' : w2.cell? ⟨g1, 0, none⟩ = some (.int .i64 o) := (blk_cell HA1.out 0).trans rfl; have q1' : w2.cell? ⟨g1, 1, none⟩ = some (.int .i64 n) := (blk_cell HA1.out 1).trans rfl; have q2' : w2.cell? ⟨g1, 2, none⟩ = some (.int .i64 v) := (blk_cell HA1.out 2).trans rfl; have q3' : w2.cell? ⟨g1, 3, none⟩ = some (.slice A p c) := (blk_cell HA1.out 3).trans rfl; clear q0 q1 q2 q3))
    go_ret
    exact ⟨rfl, below_trans HBE1.out HBE2.out⟩
theorem same_no' (x y : Ex) (hno : x.op ≠ y.op ∨ x.n ≠ y.n ∨ x.v ≠ y.v ∨ x.a.length ≠ y.a.length) : sameE x y = false := by
  rw [sameE_eq]
  rcases hno with h | h | h | h
  · simp [h]
  · simp [h]
  · simp [h]
  · rw [sameEs_len h]; simp
set_option maxRecDepth 100000 in
set_option maxHeartbeats 4000000 in
theorem same_calls : ∀ (n : Nat) (x y : Ex), x.size ≤ n → n < 1152921504606846976 → y.size < 1152921504606846976 → ∀ (S : Snap) (w : World) (cs ds : List Value), Agr S w → RepE S x cs → RepE S y ds →
    Calls Tryz.prog 62 #[.agg cs.toArray, .agg ds.toArray] w fun en w' => en = .returned (.bool (sameE x y)) ∧ Below w.heap.size w w' := by
  intro n
  induction n with
  | zero => intro x y hx; rw [x.size_eq] at hx; omega
  | succ n ih =>
    intro x y hx hn hy S w cs ds hS hr hq
    obtain ⟨A, c, rfl, hc, hrow⟩ := hr.open_
    obtain ⟨B, d, rfl, hd, hrow2⟩ := hq.open_
    have hsz := x.size_eq
    have hsz2 := y.size_eq
    have hl1 := Ex.length_le x.a
    have hl2 := Ex.length_le y.a
    have hx1 : x.a.length < 1152921504606846976 := by omega
    have hy1 : y.a.length < 1152921504606846976 := by omega
    by_cases hno : x.op ≠ y.op ∨ x.n ≠ y.n ∨ x.v ≠ y.v ∨ x.a.length ≠ y.a.length
    · rw [same_no' x y hno]; exact same_no _ _ _ _ _ _ _ _ A B c d hx1 hy1 w hno
    simp only [not_or, ne_eq, Decidable.not_not] at hno
    obtain ⟨h1, h2, h3, h4⟩ := hno
    rw [← h1, ← h2, ← h3, ← h4]
    have HH := Lib.hid (And.intro h1 (And.intro h2 h3))
    have HLENa := Lib.hid h4
    have HS := Lib.hid hS
    have HRa := Lib.hid hrow
    have HQa := Lib.hid hrow2
    have HSZ := Lib.hid hsz
    have HSZ2 : Hid (y.size < 1152921504606846976 ∧ y.size = 1 + Ex.sizeL y.a) := Lib.hid ⟨hy, hsz2⟩
    have HE := Lib.hid hx
    have HIH := Lib.hid ih
    clear hS hr hq hrow hrow2 hsz hsz2 hx hy ih hl1 hl2 h1 h2 h3 h4
    go_enter Tryz.func62, Tryz.ntmps62
    go_wp2_with (first
      | ((with_reducible refine gate_dst (N := 2) rfl ?_); refine box4 rfl (N := 2) rfl (.int .i64 x.op) (.int .i64 x.n) (.int .i64 x.v) (.slice A x.a.length c) 125 (by go_simp) ?_; intro g1 w1 HG1 HA0 HBE1 q0 q1 q2 q3)
      | ((with_reducible refine gate_dst (N := 3) rfl ?_); refine box4 rfl (N := 3) rfl (.int .i64 x.op) (.int .i64 x.n) (.int .i64 x.v) (.slice B x.a.length d) 125 (by go_simp) ?_; intro g2 w2 HG2 HA2 HBE2 r0 r1 r2 r3; have HA1 := Lib.hid (below_blk HBE2.out HA0.out); have q0' : w2.cell? ⟨g1, 0, none⟩ = some (.int .i64 x.op) := (blk_cell HA1.out 0).trans rfl; have q1' : w2.cell? ⟨g1, 1, none⟩ = some (.int .i64 x.n) := (blk_cell HA1.out 1).trans rfl; have q2' : w2.cell? ⟨g1, 2, none⟩ = some (.int .i64 x.v) := (blk_cell HA1.out 2).trans rfl; have q3' : w2.cell? ⟨g1, 3, none⟩ = some (.slice A x.a.length c) := (blk_cell HA1.out 3).trans rfl; clear q0 q1 q2 q3))
    have HBB := Lib.hid (below_trans HBE1.out HBE2.out)
    clear q0' q1' q2' q3' r0 r1 r2 r3
    go_loopw [5] (fun s5 wr => ∃ k : Nat, k ≤ x.a.length ∧ s5 = .int .i64 k ∧ Hid (x.a.take k = y.a.take k) ∧ Below w2.heap.size w2 wr) (fun s5 _ => x.a.length - (intOf s5).toNat)
    case atStart => exact ⟨0, Nat.zero_le _, rfl, Lib.hid (by simp), Below.refl _ _⟩
    case round =>
      obtain ⟨k, hk, rfl, HTK, hB⟩ := hrel
      have HB1 := Lib.hid hB
      have HK1 := Lib.hid (below_blk hB HA1.out)
      have HK2 := Lib.hid (below_blk hB HA2.out)
      have h3 : wr.cell? ⟨g1, 3, none⟩ = some (.slice A x.a.length c) := (blk_cell HK1.out 3).trans rfl
      clear hB
      by_cases hlt : k < x.a.length
      · have hlt2 : k < y.a.length := by have := HLENa.out; omega
        have hx : x.a[k]? = some x.a[k] := by simp [hlt]
        have hy : y.a[k]? = some y.a[k] := by simp [hlt2]
        have HSW := Lib.hid ((HS.out.below HBB.out).below HB1.out)
        obtain ⟨ad, A3, c3, hA, g0, g1', g2', g3', hrep⟩ := RowE.at_ HSW.out HRa.out k x.a[k] hx
        obtain ⟨bd, B3, d3, hA2, h0, h1', h2', h3', hrep2⟩ := RowE.at_ HSW.out HQa.out k y.a[k] hy
        subst hA hA2
        clear h3
        have HMK : Hid (∀ w', Below wr.heap.size wr w' → Below wr.heap.size wr w' ∧ w'.cell? ⟨g1, 3, none⟩ = some (.slice (some ad) x.a.length c) ∧ w'.cell? ⟨g2, 3, none⟩ = some (.slice (some bd) x.a.length d) ∧ w'.cell? (ad.add (k * 4)) = some (.int .i64 x.a[k].op) ∧ w'.cell? ⟨(ad.add (k * 4)).block, (ad.add (k * 4)).off + 1, none⟩ = some (.int .i64 x.a[k].n) ∧ w'.cell? ⟨(ad.add (k * 4)).block, (ad.add (k * 4)).off + 2, none⟩ = some (.int .i64 x.a[k].v) ∧ w'.cell? ⟨(ad.add (k * 4)).block, (ad.add (k * 4)).off + 3, none⟩ = some (.slice A3 x.a[k].a.length c3) ∧ w'.cell? (bd.add (k * 4)) = some (.int .i64 y.a[k].op) ∧ w'.cell? ⟨(bd.add (k * 4)).block, (bd.add (k * 4)).off + 1, none⟩ = some (.int .i64 y.a[k].n) ∧ w'.cell? ⟨(bd.add (k * 4)).block, (bd.add (k * 4)).off + 2, none⟩ = some (.int .i64 y.a[k].v) ∧ w'.cell? ⟨(bd.add (k * 4)).block, (bd.add (k * 4)).off + 3, none⟩ = some (.slice B3 y.a[k].a.length d3)) := Lib.hid fun w' hb => by
          have hk1 := below_blk hb HK1.out
          have hk2 := below_blk hb HK2.out
          exact ⟨hb, (blk_cell hk1 3).trans rfl, (blk_cell hk2 3).trans rfl, (hb.cell (World.block_lt_of_cell? wr _ g0)).trans g0, (hb.cell (World.block_lt_of_cell? wr _ g1')).trans g1', (hb.cell (World.block_lt_of_cell? wr _ g2')).trans g2', (hb.cell (World.block_lt_of_cell? wr _ g3')).trans g3', (hb.cell (World.block_lt_of_cell? wr _ h0)).trans h0, (hb.cell (World.block_lt_of_cell? wr _ h1')).trans h1', (hb.cell (World.block_lt_of_cell? wr _ h2')).trans h2', (hb.cell (World.block_lt_of_cell? wr _ h3')).trans h3'⟩
        have HX : Hid (∀ W, Below wr.heap.size wr W → Calls Tryz.prog 62 #[.agg #[.int .i64 x.a[k].op, .int .i64 x.a[k].n, .int .i64 x.a[k].v, .slice A3 x.a[k].a.length c3], .agg #[.int .i64 y.a[k].op, .int .i64 y.a[k].n, .int .i64 y.a[k].v, .slice B3 y.a[k].a.length d3]] W fun en w' => en = .returned (.bool (sameE x.a[k] y.a[k])) ∧ Below W.heap.size W w') := Lib.hid fun W hW =>
          HIH.out x.a[k] y.a[k] (by have := HSZ.out; have := HE.out; have h1 := Ex.sizeL_take_succ x.a k _ hx; have h2 := Ex.sizeL_take_le x.a (k + 1); omega) (by omega) (by have := HSZ2.out; have h1 := Ex.sizeL_take_succ y.a k _ hy; have h2 := Ex.sizeL_take_le y.a (k + 1); omega) S W [.int .i64 x.a[k].op, .int .i64 x.a[k].n, .int .i64 x.a[k].v, .slice A3 x.a[k].a.length c3] [.int .i64 y.a[k].op, .int .i64 y.a[k].n, .int .i64 y.a[k].v, .slice B3 y.a[k].a.length d3] (HSW.out.below hW) hrep hrep2
        have HEL : Hid (x.a[k]? = some x.a[k] ∧ y.a[k]? = some y.a[k]) := Lib.hid ⟨hx, hy⟩
        have k0 : (0 : Int) ≤ (k : Int) := by omega
        have k1 : (k : Int) < (x.a.length : Int) := by omega
        have HGS : Hid ((Below wr.heap.size wr wr ∧ wr.cell? ⟨g1, 3, none⟩ = some (.slice (some ad) x.a.length c) ∧ wr.cell? ⟨g2, 3, none⟩ = some (.slice (some bd) x.a.length d) ∧ wr.cell? (ad.add (k * 4)) = some (.int .i64 x.a[k].op) ∧ wr.cell? ⟨(ad.add (k * 4)).block, (ad.add (k * 4)).off + 1, none⟩ = some (.int .i64 x.a[k].n) ∧ wr.cell? ⟨(ad.add (k * 4)).block, (ad.add (k * 4)).off + 2, none⟩ = some (.int .i64 x.a[k].v) ∧ wr.cell? ⟨(ad.add (k * 4)).block, (ad.add (k * 4)).off + 3, none⟩ = some (.slice A3 x.a[k].a.length c3) ∧ wr.cell? (bd.add (k * 4)) = some (.int .i64 y.a[k].op) ∧ wr.cell? ⟨(bd.add (k * 4)).block, (bd.add (k * 4)).off + 1, none⟩ = some (.int .i64 y.a[k].n) ∧ wr.cell? ⟨(bd.add (k * 4)).block, (bd.add (k * 4)).off + 2, none⟩ = some (.int .i64 y.a[k].v) ∧ wr.cell? ⟨(bd.add (k * 4)).block, (bd.add (k * 4)).off + 3, none⟩ = some (.slice B3 y.a[k].a.length d3))) := Lib.hid (HMK.out wr (Below.refl _ _))
        clear hx hy hrep hrep2 g0 g1' g2' g3' h0 h1' h2' h3'
        cases hsm : sameE x.a[k] y.a[k]
        · rw [hsm] at HX
          have HF : Hid (sameE x y = false) := Lib.hid (by
            have h1 : sameEs x.a y.a = false := sameEs_at HEL.out.1 HEL.out.2 hsm
            rw [sameE_eq, h1]; simp)
          clear hsm
          have h3 : wr.cell? ⟨g1, 3, none⟩ = some (.slice (some ad) x.a.length c) := (blk_cell HK1.out 3).trans rfl
          go_wp2_with fail
          clear h3
          go_region_held3 (fun w' => Below wr.heap.size wr w' ∧ w'.cell? ⟨g1, 3, none⟩ = some (.slice (some ad) x.a.length c) ∧ w'.cell? ⟨g2, 3, none⟩ = some (.slice (some bd) x.a.length d) ∧ w'.cell? (ad.add (k * 4)) = some (.int .i64 x.a[k].op) ∧ w'.cell? ⟨(ad.add (k * 4)).block, (ad.add (k * 4)).off + 1, none⟩ = some (.int .i64 x.a[k].n) ∧ w'.cell? ⟨(ad.add (k * 4)).block, (ad.add (k * 4)).off + 2, none⟩ = some (.int .i64 x.a[k].v) ∧ w'.cell? ⟨(ad.add (k * 4)).block, (ad.add (k * 4)).off + 3, none⟩ = some (.slice A3 x.a[k].a.length c3) ∧ w'.cell? (bd.add (k * 4)) = some (.int .i64 y.a[k].op) ∧ w'.cell? ⟨(bd.add (k * 4)).block, (bd.add (k * 4)).off + 1, none⟩ = some (.int .i64 y.a[k].n) ∧ w'.cell? ⟨(bd.add (k * 4)).block, (bd.add (k * 4)).off + 2, none⟩ = some (.int .i64 y.a[k].v) ∧ w'.cell? ⟨(bd.add (k * 4)).block, (bd.add (k * 4)).off + 3, none⟩ = some (.slice B3 y.a[k].a.length d3)) (first | exact HMK.out _ (Below.refl _ _) | exact HMK.out _ (Below.refl _ _).drew | exact HMK.out _ (below_trans (‹Below wr.heap.size wr _ ∧ _›).1 hb5)) (first | (go_at_call 62; with_reducible refine (HX.out _ (‹Below wr.heap.size wr _ ∧ _›).1).mono ?_; rintro en w5 ⟨rfl, hb5⟩))
          all_goals
            have HB5 := Lib.hid (‹Below wr.heap.size wr w5 ∧ _›).1
            go_wp2
            go_ret
            exact ⟨by rw [HF.out]; rfl, below_trans HBB.out (below_trans HB1.out HB5.out)⟩
        · rw [hsm] at HX
          have HEQ := Lib.hid ((sameE_iff _ _).1 hsm)
          clear hsm
          have h3 : wr.cell? ⟨g1, 3, none⟩ = some (.slice (some ad) x.a.length c) := (blk_cell HK1.out 3).trans rfl
          go_wp2_with fail
          clear h3
          go_region_held3 (fun w' => Below wr.heap.size wr w' ∧ w'.cell? ⟨g1, 3, none⟩ = some (.slice (some ad) x.a.length c) ∧ w'.cell? ⟨g2, 3, none⟩ = some (.slice (some bd) x.a.length d) ∧ w'.cell? (ad.add (k * 4)) = some (.int .i64 x.a[k].op) ∧ w'.cell? ⟨(ad.add (k * 4)).block, (ad.add (k * 4)).off + 1, none⟩ = some (.int .i64 x.a[k].n) ∧ w'.cell? ⟨(ad.add (k * 4)).block, (ad.add (k * 4)).off + 2, none⟩ = some (.int .i64 x.a[k].v) ∧ w'.cell? ⟨(ad.add (k * 4)).block, (ad.add (k * 4)).off + 3, none⟩ = some (.slice A3 x.a[k].a.length c3) ∧ w'.cell? (bd.add (k * 4)) = some (.int .i64 y.a[k].op) ∧ w'.cell? ⟨(bd.add (k * 4)).block, (bd.add (k * 4)).off + 1, none⟩ = some (.int .i64 y.a[k].n) ∧ w'.cell? ⟨(bd.add (k * 4)).block, (bd.add (k * 4)).off + 2, none⟩ = some (.int .i64 y.a[k].v) ∧ w'.cell? ⟨(bd.add (k * 4)).block, (bd.add (k * 4)).off + 3, none⟩ = some (.slice B3 y.a[k].a.length d3)) (first | exact HMK.out _ (Below.refl _ _) | exact HMK.out _ (Below.refl _ _).drew | exact HMK.out _ (below_trans (‹Below wr.heap.size wr _ ∧ _›).1 hb5)) (first | (go_at_call 62; with_reducible refine (HX.out _ (‹Below wr.heap.size wr _ ∧ _›).1).mono ?_; rintro en w5 ⟨rfl, hb5⟩))
          all_goals
            have HB5 := Lib.hid (‹Below wr.heap.size wr w5 ∧ _›).1
            go_wp2
            go_roundw
            case rel => exact ⟨k + 1, by omega, by go_num, Lib.hid (by rw [List.take_add_one, List.take_add_one, HEL.out.1, HEL.out.2, HTK.out, HEQ.out]), below_trans HB1.out HB5.out⟩
            case measure => simp [intOf]; omega
      · have hke : k = x.a.length := by omega
        have HF : Hid (sameE x y = true) := Lib.hid (by
          have h := HTK.out
          rw [hke, List.take_length, HLENa.out, List.take_length] at h
          rw [sameE_eq, (sameEs_iff _ _).2 h, HH.out.1, HH.out.2.1, HH.out.2.2]; simp)
        clear hke
        go_wp2
        go_ret
        exact ⟨by rw [HF.out]; rfl, below_trans HBB.out HB1.out⟩
end Go.Proofs.YtkopmnhngjbmcaaGreatDoor.Sn

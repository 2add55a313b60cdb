/- (paroleref01.SameC). -/
import Derived.Test.YtkopmnhngjbmcaaGreatDoorG2
namespace Go.Proofs.YtkopmnhngjbmcaaGreatDoor.Sn
open Go Go.RowKit
set_option linter.unusedVariables false
set_option maxRecDepth 100000 in
set_option maxHeartbeats 4000000 in
theorem sameC_no (o o' : Int) (p1 p2 m1 m2 : Nat) (A B AB BB : Option Addr) (c d cb db : Nat) (hp1 : p1 < 1152921504606846976) (hm1 : m1 < 1152921504606846976) (hp2 : p2 < 1152921504606846976) (hm2 : m2 < 1152921504606846976) (w : World) (hno : o ≠ o' ∨ p1 ≠ m1 ∨ p2 ≠ m2) :
    Calls Tryz.prog 18 #[.agg #[.int .i64 o, .slice A p1 c, .slice AB p2 cb], .agg #[.int .i64 o', .slice B m1 d, .slice BB m2 db]] w fun en w' => en = .returned (.bool false) ∧ Below w.heap.size w w' := by
  by_cases h1 : o = o'
  · subst h1
    by_cases h2 : p1 = m1
    · subst h2
      have h4 : ¬ p2 = m2 := by
        rcases hno with h | h | h
        · exact absurd rfl h
        · exact absurd rfl h
        · exact h
      have h5 : ¬ (p2 : Int) = (m2 : Int) := by omega
      clear hno
      go_enter Tryz.func18, Tryz.ntmps18
      go_wp2_with (first
        | ((with_reducible refine gate_dst (N := 2) rfl ?_); refine box3 rfl (N := 2) rfl (.int .i64 o) (.slice A p1 c) (.slice AB p2 cb) 25 (by go_simp) ?_; intro g1 w1 HG1 HA0 HBE1 q0 q1 q2)
        | ((with_reducible refine gate_dst (N := 3) rfl ?_); refine box3 rfl (N := 3) rfl (.int .i64 o) (.slice B p1 d) (.slice BB m2 db) 25 (by go_simp) ?_; intro g2 w2 HG2 HA2 HBE2 r0 r1 r2; have HA1 := Lib.hid (below_blk HBE2.out HA0.out); have q0' : w2.cell? ⟨g1, 0, none⟩ = some (.int .i64 o) := (blk_cell HA1.out 0).trans rfl; have q1' : w2.cell? ⟨g1, 1, none⟩ = some (.slice A p1 c) := (blk_cell HA1.out 1).trans rfl; have q2' : w2.cell? ⟨g1, 2, none⟩ = some (.slice AB p2 cb) := (blk_cell HA1.out 2).trans rfl; clear q0 q1 q2))
      go_ret
      exact ⟨rfl, below_trans HBE1.out HBE2.out⟩
    · have h5 : ¬ (p1 : Int) = (m1 : Int) := by omega
      clear hno
      go_enter Tryz.func18, Tryz.ntmps18
      go_wp2_with (first
        | ((with_reducible refine gate_dst (N := 2) rfl ?_); refine box3 rfl (N := 2) rfl (.int .i64 o) (.slice A p1 c) (.slice AB p2 cb) 25 (by go_simp) ?_; intro g1 w1 HG1 HA0 HBE1 q0 q1 q2)
        | ((with_reducible refine gate_dst (N := 3) rfl ?_); refine box3 rfl (N := 3) rfl (.int .i64 o) (.slice B m1 d) (.slice BB m2 db) 25 (by go_simp) ?_; intro g2 w2 HG2 HA2 HBE2 r0 r1 r2; have HA1 := Lib.hid (below_blk HBE2.out HA0.out); have q0' : w2.cell? ⟨g1, 0, none⟩ = some (.int .i64 o) := (blk_cell HA1.out 0).trans rfl; have q1' : w2.cell? ⟨g1, 1, none⟩ = some (.slice A p1 c) := (blk_cell HA1.out 1).trans rfl; have q2' : w2.cell? ⟨g1, 2, none⟩ = some (.slice AB p2 cb) := (blk_cell HA1.out 2).trans rfl; clear q0 q1 q2))
      go_ret
      exact ⟨rfl, below_trans HBE1.out HBE2.out⟩
  · clear hno
    go_enter Tryz.func18, Tryz.ntmps18
    go_wp2_with (first
      | ((with_reducible refine gate_dst (N := 2) rfl ?_); refine box3 rfl (N := 2) rfl (.int .i64 o) (.slice A p1 c) (.slice AB p2 cb) 25 (by go_simp) ?_; intro g1 w1 HG1 HA0 HBE1 q0 q1 q2)
      | ((with_reducible refine gate_dst (N := 3) rfl ?_); refine box3 rfl (N := 3) rfl (.int .i64 o') (.slice B m1 d) (.slice BB m2 db) 25 (by go_simp) ?_; intro g2 w2 HG2 HA2 HBE2 r0 r1 r2; have HA1 := Lib.hid (below_blk HBE2.out HA0.out); have q0' : w2.cell? ⟨g1, 0, none⟩ = some (.int .i64 o) := (blk_cell HA1.out 0).trans rfl; have q1' : w2.cell? ⟨g1, 1, none⟩ = some (.slice A p1 c) := (blk_cell HA1.out 1).trans rfl; have q2' : w2.cell? ⟨g1, 2, none⟩ = some (.slice AB p2 cb) := (blk_cell HA1.out 2).trans rfl; clear q0 q1 q2))
    go_ret
    exact ⟨rfl, below_trans HBE1.out HBE2.out⟩
theorem sameC_no' (x y : Cn) (hno : x.op ≠ y.op ∨ x.a.length ≠ y.a.length ∨ x.c.length ≠ y.c.length) : sameC x y = false := by
  rw [sameC_eq]
  rcases hno with h | h | h
  · simp [h]
  · rw [sameEs_len h]; simp
  · rw [sameCs_len h]; simp
set_option maxRecDepth 100000 in
set_option maxHeartbeats 8000000 in
theorem sameC_calls : ∀ (n : Nat) (x y : Cn), x.size ≤ n → n < 1152921504606846976 → y.size < 1152921504606846976 → ∀ (S : Snap) (w : World) (cs ds : List Value), Agr S w → RepC S x cs → RepC S y ds →
    Calls Tryz.prog 18 #[.agg cs.toArray, .agg ds.toArray] w fun en w' => en = .returned (.bool (sameC x y)) ∧ Below w.heap.size w w' := by
  intro n
  induction n with
  | zero => intro x y hx; rw [x.size_eq] at hx; omega
  | succ n ih =>
    intro x y hx hn hy S w cs ds hS hr hq
    obtain ⟨A, c, AB, cb, rfl, hc, hcb, hrow, hrowb⟩ := hr.open_
    obtain ⟨B, d, BB, db, rfl, hd, hdb, hrow2, hrow2b⟩ := hq.open_
    have hsz := x.size_eq
    have hsz2 := y.size_eq
    have hl1 := Ex.length_le x.a
    have hl2 := Ex.length_le y.a
    have hl3 := Cn.length_le x.c
    have hl4 := Cn.length_le y.c
    have hx1 : x.a.length < 1152921504606846976 := by omega
    have hy1 : y.a.length < 1152921504606846976 := by omega
    have hx2 : x.c.length < 1152921504606846976 := by omega
    have hy2 : y.c.length < 1152921504606846976 := by omega
    by_cases hno : x.op ≠ y.op ∨ x.a.length ≠ y.a.length ∨ x.c.length ≠ y.c.length
    · rw [sameC_no' x y hno]; exact sameC_no _ _ _ _ _ _ A B AB BB c d cb db hx1 hy1 hx2 hy2 w hno
    simp only [not_or, ne_eq, Decidable.not_not] at hno
    obtain ⟨h1, h2, h4⟩ := hno
    rw [← h1, ← h2, ← h4]
    have HH := Lib.hid h1
    have HLENa := Lib.hid h2
    have HLENc := Lib.hid h4
    have HS := Lib.hid hS
    have HRa := Lib.hid hrow
    have HQa := Lib.hid hrow2
    have HRc := Lib.hid hrowb
    have HQc := Lib.hid hrow2b
    have HSZ := Lib.hid hsz
    have HSZ2 : Hid (y.size < 1152921504606846976 ∧ y.size = 1 + Ex.sizeL y.a + Cn.sizeL y.c) := Lib.hid ⟨hy, hsz2⟩
    have HE := Lib.hid hx
    have HIH := Lib.hid ih
    clear hS hr hq hrow hrow2 hrowb hrow2b hsz hsz2 hx hy ih hl1 hl2 hl3 hl4 h1 h2 h4
    go_enter Tryz.func18, Tryz.ntmps18
    go_wp2_with (first
      | ((with_reducible refine gate_dst (N := 2) rfl ?_); refine box3 rfl (N := 2) rfl (.int .i64 x.op) (.slice A x.a.length c) (.slice AB x.c.length cb) 25 (by go_simp) ?_; intro g1 w1 HG1 HA0 HBE1 q0 q1 q2)
      | ((with_reducible refine gate_dst (N := 3) rfl ?_); refine box3 rfl (N := 3) rfl (.int .i64 x.op) (.slice B x.a.length d) (.slice BB x.c.length db) 25 (by go_simp) ?_; intro g2 w2 HG2 HA2 HBE2 r0 r1 r2; have HA1 := Lib.hid (below_blk HBE2.out HA0.out); have q0' : w2.cell? ⟨g1, 0, none⟩ = some (.int .i64 x.op) := (blk_cell HA1.out 0).trans rfl; have q1' : w2.cell? ⟨g1, 1, none⟩ = some (.slice A x.a.length c) := (blk_cell HA1.out 1).trans rfl; have q2' : w2.cell? ⟨g1, 2, none⟩ = some (.slice AB x.c.length cb) := (blk_cell HA1.out 2).trans rfl; clear q0 q1 q2))
    have HBB := Lib.hid (below_trans HBE1.out HBE2.out)
    clear q0' q1' q2' r0 r1 r2
    go_loopw [5] (fun s5 wr => ∃ k : Nat, k ≤ x.a.length ∧ s5 = .int .i64 k ∧ Hid (x.a.take k = y.a.take k) ∧ Below w2.heap.size w2 wr) (fun s5 _ => x.a.length - (intOf s5).toNat)
    case atStart => exact ⟨0, Nat.zero_le _, rfl, Lib.hid (by simp), Below.refl _ _⟩
    case round =>
      obtain ⟨k, hk, rfl, HTK, hB⟩ := hrel
      have HB1 := Lib.hid hB
      have HK1 := Lib.hid (below_blk hB HA1.out)
      have HK2 := Lib.hid (below_blk hB HA2.out)
      have h3 : wr.cell? ⟨g1, 1, none⟩ = some (.slice A x.a.length c) := (blk_cell HK1.out 1).trans rfl
      clear hB
      by_cases hlt : k < x.a.length
      · have hlt2 : k < y.a.length := by have := HLENa.out; omega
        have hx : x.a[k]? = some x.a[k] := by simp [hlt]
        have hy : y.a[k]? = some y.a[k] := by simp [hlt2]
        have HSW := Lib.hid ((HS.out.below HBB.out).below HB1.out)
        obtain ⟨ad, A3, c3, hA, g0, g1', g2', g3', hrep⟩ := RowE.at_ HSW.out HRa.out k x.a[k] hx
        obtain ⟨bd, B3, d3, hA2, h0, h1', h2', h3', hrep2⟩ := RowE.at_ HSW.out HQa.out k y.a[k] hy
        subst hA hA2
        clear h3
        have HMK : Hid (∀ w', Below wr.heap.size wr w' → Below wr.heap.size wr w' ∧ w'.cell? ⟨g1, 1, none⟩ = some (.slice (some ad) x.a.length c) ∧ w'.cell? ⟨g2, 1, none⟩ = some (.slice (some bd) x.a.length d) ∧ w'.cell? (ad.add (k * 4)) = some (.int .i64 x.a[k].op) ∧ w'.cell? ⟨(ad.add (k * 4)).block, (ad.add (k * 4)).off + 1, none⟩ = some (.int .i64 x.a[k].n) ∧ w'.cell? ⟨(ad.add (k * 4)).block, (ad.add (k * 4)).off + 2, none⟩ = some (.int .i64 x.a[k].v) ∧ w'.cell? ⟨(ad.add (k * 4)).block, (ad.add (k * 4)).off + 3, none⟩ = some (.slice A3 x.a[k].a.length c3) ∧ w'.cell? (bd.add (k * 4)) = some (.int .i64 y.a[k].op) ∧ w'.cell? ⟨(bd.add (k * 4)).block, (bd.add (k * 4)).off + 1, none⟩ = some (.int .i64 y.a[k].n) ∧ w'.cell? ⟨(bd.add (k * 4)).block, (bd.add (k * 4)).off + 2, none⟩ = some (.int .i64 y.a[k].v) ∧ w'.cell? ⟨(bd.add (k * 4)).block, (bd.add (k * 4)).off + 3, none⟩ = some (.slice B3 y.a[k].a.length d3)) := Lib.hid fun w' hb => by
          have hk1 := below_blk hb HK1.out
          have hk2 := below_blk hb HK2.out
          exact ⟨hb, (blk_cell hk1 1).trans rfl, (blk_cell hk2 1).trans rfl, (hb.cell (World.block_lt_of_cell? wr _ g0)).trans g0, (hb.cell (World.block_lt_of_cell? wr _ g1')).trans g1', (hb.cell (World.block_lt_of_cell? wr _ g2')).trans g2', (hb.cell (World.block_lt_of_cell? wr _ g3')).trans g3', (hb.cell (World.block_lt_of_cell? wr _ h0)).trans h0, (hb.cell (World.block_lt_of_cell? wr _ h1')).trans h1', (hb.cell (World.block_lt_of_cell? wr _ h2')).trans h2', (hb.cell (World.block_lt_of_cell? wr _ h3')).trans h3'⟩
        have HX : Hid (∀ W, Below wr.heap.size wr W → Calls Tryz.prog 62 #[.agg #[.int .i64 x.a[k].op, .int .i64 x.a[k].n, .int .i64 x.a[k].v, .slice A3 x.a[k].a.length c3], .agg #[.int .i64 y.a[k].op, .int .i64 y.a[k].n, .int .i64 y.a[k].v, .slice B3 y.a[k].a.length d3]] W fun en w' => en = .returned (.bool (sameE x.a[k] y.a[k])) ∧ Below W.heap.size W w') := Lib.hid fun W hW =>
          same_calls n x.a[k] y.a[k] (by have := HSZ.out; have := HE.out; have h1 := Ex.sizeL_take_succ x.a k _ hx; have h2 := Ex.sizeL_take_le x.a (k + 1); omega) (by omega) (by have := HSZ2.out; have h1 := Ex.sizeL_take_succ y.a k _ hy; have h2 := Ex.sizeL_take_le y.a (k + 1); omega) S W [.int .i64 x.a[k].op, .int .i64 x.a[k].n, .int .i64 x.a[k].v, .slice A3 x.a[k].a.length c3] [.int .i64 y.a[k].op, .int .i64 y.a[k].n, .int .i64 y.a[k].v, .slice B3 y.a[k].a.length d3] (HSW.out.below hW) hrep hrep2
        have HEL : Hid (x.a[k]? = some x.a[k] ∧ y.a[k]? = some y.a[k]) := Lib.hid ⟨hx, hy⟩
        have k0 : (0 : Int) ≤ (k : Int) := by omega
        have k1 : (k : Int) < (x.a.length : Int) := by omega
        have HGS : Hid ((Below wr.heap.size wr wr ∧ wr.cell? ⟨g1, 1, none⟩ = some (.slice (some ad) x.a.length c) ∧ wr.cell? ⟨g2, 1, none⟩ = some (.slice (some bd) x.a.length d) ∧ wr.cell? (ad.add (k * 4)) = some (.int .i64 x.a[k].op) ∧ wr.cell? ⟨(ad.add (k * 4)).block, (ad.add (k * 4)).off + 1, none⟩ = some (.int .i64 x.a[k].n) ∧ wr.cell? ⟨(ad.add (k * 4)).block, (ad.add (k * 4)).off + 2, none⟩ = some (.int .i64 x.a[k].v) ∧ wr.cell? ⟨(ad.add (k * 4)).block, (ad.add (k * 4)).off + 3, none⟩ = some (.slice A3 x.a[k].a.length c3) ∧ wr.cell? (bd.add (k * 4)) = some (.int .i64 y.a[k].op) ∧ wr.cell? ⟨(bd.add (k * 4)).block, (bd.add (k * 4)).off + 1, none⟩ = some (.int .i64 y.a[k].n) ∧ wr.cell? ⟨(bd.add (k * 4)).block, (bd.add (k * 4)).off + 2, none⟩ = some (.int .i64 y.a[k].v) ∧ wr.cell? ⟨(bd.add (k * 4)).block, (bd.add (k * 4)).off + 3, none⟩ = some (.slice B3 y.a[k].a.length d3))) := Lib.hid (HMK.out wr (Below.refl _ _))
        clear hx hy hrep hrep2 g0 g1' g2' g3' h0 h1' h2' h3'
        cases hsm : sameE x.a[k] y.a[k]
        · rw [hsm] at HX
          have HF : Hid (sameC x y = false) := Lib.hid (by
            have h1 : sameEs x.a y.a = false := sameEs_at HEL.out.1 HEL.out.2 hsm
            rw [sameC_eq, h1]; simp)
          clear hsm
          have h3 : wr.cell? ⟨g1, 1, none⟩ = some (.slice (some ad) x.a.length c) := (blk_cell HK1.out 1).trans rfl
          go_wp2_with fail
          clear h3
          go_region_held3 (fun w' => Below wr.heap.size wr w' ∧ w'.cell? ⟨g1, 1, none⟩ = some (.slice (some ad) x.a.length c) ∧ w'.cell? ⟨g2, 1, none⟩ = some (.slice (some bd) x.a.length d) ∧ w'.cell? (ad.add (k * 4)) = some (.int .i64 x.a[k].op) ∧ w'.cell? ⟨(ad.add (k * 4)).block, (ad.add (k * 4)).off + 1, none⟩ = some (.int .i64 x.a[k].n) ∧ w'.cell? ⟨(ad.add (k * 4)).block, (ad.add (k * 4)).off + 2, none⟩ = some (.int .i64 x.a[k].v) ∧ w'.cell? ⟨(ad.add (k * 4)).block, (ad.add (k * 4)).off + 3, none⟩ = some (.slice A3 x.a[k].a.length c3) ∧ w'.cell? (bd.add (k * 4)) = some (.int .i64 y.a[k].op) ∧ w'.cell? ⟨(bd.add (k * 4)).block, (bd.add (k * 4)).off + 1, none⟩ = some (.int .i64 y.a[k].n) ∧ w'.cell? ⟨(bd.add (k * 4)).block, (bd.add (k * 4)).off + 2, none⟩ = some (.int .i64 y.a[k].v) ∧ w'.cell? ⟨(bd.add (k * 4)).block, (bd.add (k * 4)).off + 3, none⟩ = some (.slice B3 y.a[k].a.length d3)) (first | exact HMK.out _ (Below.refl _ _) | exact HMK.out _ (Below.refl _ _).drew | exact HMK.out _ (below_trans (‹Below wr.heap.size wr _ ∧ _›).1 hb5)) (first | (go_at_call 62; with_reducible refine (HX.out _ (‹Below wr.heap.size wr _ ∧ _›).1).mono ?_; rintro en w5 ⟨rfl, hb5⟩))
          all_goals
            have HB5 := Lib.hid (‹Below wr.heap.size wr w5 ∧ _›).1
            go_wp2
            go_ret
            exact ⟨by rw [HF.out]; rfl, below_trans HBB.out (below_trans HB1.out HB5.out)⟩
        · rw [hsm] at HX
          have HEQ := Lib.hid ((sameE_iff _ _).1 hsm)
          clear hsm
          have h3 : wr.cell? ⟨g1, 1, none⟩ = some (.slice (some ad) x.a.length c) := (blk_cell HK1.out 1).trans rfl
          go_wp2_with fail
          clear h3
          go_region_held3 (fun w' => Below wr.heap.size wr w' ∧ w'.cell? ⟨g1, 1, none⟩ = some (.slice (some ad) x.a.length c) ∧ w'.cell? ⟨g2, 1, none⟩ = some (.slice (some bd) x.a.length d) ∧ w'.cell? (ad.add (k * 4)) = some (.int .i64 x.a[k].op) ∧ w'.cell? ⟨(ad.add (k * 4)).block, (ad.add (k * 4)).off + 1, none⟩ = some (.int .i64 x.a[k].n) ∧ w'.cell? ⟨(ad.add (k * 4)).block, (ad.add (k * 4)).off + 2, none⟩ = some (.int .i64 x.a[k].v) ∧ w'.cell? ⟨(ad.add (k * 4)).block, (ad.add (k * 4)).off + 3, none⟩ = some (.slice A3 x.a[k].a.length c3) ∧ w'.cell? (bd.add (k * 4)) = some (.int .i64 y.a[k].op) ∧ w'.cell? ⟨(bd.add (k * 4)).block, (bd.add (k * 4)).off + 1, none⟩ = some (.int .i64 y.a[k].n) ∧ w'.cell? ⟨(bd.add (k * 4)).block, (bd.add (k * 4)).off + 2, none⟩ = some (.int .i64 y.a[k].v) ∧ w'.cell? ⟨(bd.add (k * 4)).block, (bd.add (k * 4)).off + 3, none⟩ = some (.slice B3 y.a[k].a.length d3)) (first | exact HMK.out _ (Below.refl _ _) | exact HMK.out _ (Below.refl _ _).drew | exact HMK.out _ (below_trans (‹Below wr.heap.size wr _ ∧ _›).1 hb5)) (first | (go_at_call 62; with_reducible refine (HX.out _ (‹Below wr.heap.size wr _ ∧ _›).1).mono ?_; rintro en w5 ⟨rfl, hb5⟩))
          all_goals
            have HB5 := Lib.hid (‹Below wr.heap.size wr w5 ∧ _›).1
            go_wp2
            go_roundw
            case rel => exact ⟨k + 1, by omega, by go_num, Lib.hid (by rw [List.take_add_one, List.take_add_one, HEL.out.1, HEL.out.2, HTK.out, HEQ.out]), below_trans HB1.out HB5.out⟩
            case measure => simp [intOf]; omega
      · have hke : k = x.a.length := by omega
        have HFA : Hid (sameEs x.a y.a = true) := Lib.hid (by
          have h := HTK.out
          rw [hke, List.take_length, HLENa.out, List.take_length] at h
          exact (sameEs_iff _ _).2 h)
        clear hke HTK
        obtain ⟨wo, rfl⟩ : ∃ wo : World, wo = wr := ⟨_, rfl⟩
        go_wp2
        clear h3
        go_loopw [6] (fun s5 wr => ∃ k : Nat, k ≤ x.c.length ∧ s5 = .int .i64 k ∧ Hid (x.c.take k = y.c.take k) ∧ Below w2.heap.size w2 wr) (fun s5 _ => x.c.length - (intOf s5).toNat)
        case atStart => exact ⟨0, Nat.zero_le _, rfl, Lib.hid (by simp), HB1.out⟩
        case round =>
          obtain ⟨k, hk, rfl, HTK, hB⟩ := hrel
          have HB1 := Lib.hid hB
          have HK1 := Lib.hid (below_blk hB HA1.out)
          have HK2 := Lib.hid (below_blk hB HA2.out)
          have h3 : wr.cell? ⟨g1, 2, none⟩ = some (.slice AB x.c.length cb) := (blk_cell HK1.out 2).trans rfl
          clear hB
          by_cases hlt : k < x.c.length
          · have hlt2 : k < y.c.length := by have := HLENc.out; omega
            have hx : x.c[k]? = some x.c[k] := by simp [hlt]
            have hy : y.c[k]? = some y.c[k] := by simp [hlt2]
            have HSW := Lib.hid ((HS.out.below HBB.out).below HB1.out)
            obtain ⟨ad, A3, c3, A4, c4, hA, g0, g1', g2', hrep⟩ := RowC.at_ HSW.out HRc.out k x.c[k] hx
            obtain ⟨bd, B3, d3, B4, d4, hA2, h0, h1', h2', hrep2⟩ := RowC.at_ HSW.out HQc.out k y.c[k] hy
            subst hA hA2
            clear h3
            have HMK : Hid (∀ w', Below wr.heap.size wr w' → Below wr.heap.size wr w' ∧ w'.cell? ⟨g1, 2, none⟩ = some (.slice (some ad) x.c.length cb) ∧ w'.cell? ⟨g2, 2, none⟩ = some (.slice (some bd) x.c.length db) ∧ w'.cell? (ad.add (k * 3)) = some (.int .i64 x.c[k].op) ∧ w'.cell? ⟨(ad.add (k * 3)).block, (ad.add (k * 3)).off + 1, none⟩ = some (.slice A3 x.c[k].a.length c3) ∧ w'.cell? ⟨(ad.add (k * 3)).block, (ad.add (k * 3)).off + 2, none⟩ = some (.slice A4 x.c[k].c.length c4) ∧ w'.cell? (bd.add (k * 3)) = some (.int .i64 y.c[k].op) ∧ w'.cell? ⟨(bd.add (k * 3)).block, (bd.add (k * 3)).off + 1, none⟩ = some (.slice B3 y.c[k].a.length d3) ∧ w'.cell? ⟨(bd.add (k * 3)).block, (bd.add (k * 3)).off + 2, none⟩ = some (.slice B4 y.c[k].c.length d4)) := Lib.hid fun w' hb => by
              have hk1 := below_blk hb HK1.out
              have hk2 := below_blk hb HK2.out
              exact ⟨hb, (blk_cell hk1 2).trans rfl, (blk_cell hk2 2).trans rfl, (hb.cell (World.block_lt_of_cell? wr _ g0)).trans g0, (hb.cell (World.block_lt_of_cell? wr _ g1')).trans g1', (hb.cell (World.block_lt_of_cell? wr _ g2')).trans g2', (hb.cell (World.block_lt_of_cell? wr _ h0)).trans h0, (hb.cell (World.block_lt_of_cell? wr _ h1')).trans h1', (hb.cell (World.block_lt_of_cell? wr _ h2')).trans h2'⟩
            have HX : Hid (∀ W, Below wr.heap.size wr W → Calls Tryz.prog 18 #[.agg #[.int .i64 x.c[k].op, .slice A3 x.c[k].a.length c3, .slice A4 x.c[k].c.length c4], .agg #[.int .i64 y.c[k].op, .slice B3 y.c[k].a.length d3, .slice B4 y.c[k].c.length d4]] W fun en w' => en = .returned (.bool (sameC x.c[k] y.c[k])) ∧ Below W.heap.size W w') := Lib.hid fun W hW =>
              HIH.out x.c[k] y.c[k] (by have := HSZ.out; have := HE.out; have h1 := Cn.sizeL_take_succ x.c k _ hx; have h2 := Cn.sizeL_take_le x.c (k + 1); omega) (by omega) (by have := HSZ2.out; have h1 := Cn.sizeL_take_succ y.c k _ hy; have h2 := Cn.sizeL_take_le y.c (k + 1); omega) S W [.int .i64 x.c[k].op, .slice A3 x.c[k].a.length c3, .slice A4 x.c[k].c.length c4] [.int .i64 y.c[k].op, .slice B3 y.c[k].a.length d3, .slice B4 y.c[k].c.length d4] (HSW.out.below hW) hrep hrep2
            have HEL : Hid (x.c[k]? = some x.c[k] ∧ y.c[k]? = some y.c[k]) := Lib.hid ⟨hx, hy⟩
            have k0 : (0 : Int) ≤ (k : Int) := by omega
            have k1 : (k : Int) < (x.c.length : Int) := by omega
            have HGS : Hid ((Below wr.heap.size wr wr ∧ wr.cell? ⟨g1, 2, none⟩ = some (.slice (some ad) x.c.length cb) ∧ wr.cell? ⟨g2, 2, none⟩ = some (.slice (some bd) x.c.length db) ∧ wr.cell? (ad.add (k * 3)) = some (.int .i64 x.c[k].op) ∧ wr.cell? ⟨(ad.add (k * 3)).block, (ad.add (k * 3)).off + 1, none⟩ = some (.slice A3 x.c[k].a.length c3) ∧ wr.cell? ⟨(ad.add (k * 3)).block, (ad.add (k * 3)).off + 2, none⟩ = some (.slice A4 x.c[k].c.length c4) ∧ wr.cell? (bd.add (k * 3)) = some (.int .i64 y.c[k].op) ∧ wr.cell? ⟨(bd.add (k * 3)).block, (bd.add (k * 3)).off + 1, none⟩ = some (.slice B3 y.c[k].a.length d3) ∧ wr.cell? ⟨(bd.add (k * 3)).block, (bd.add (k * 3)).off + 2, none⟩ = some (.slice B4 y.c[k].c.length d4))) := Lib.hid (HMK.out wr (Below.refl _ _))
            clear hx hy hrep hrep2 g0 g1' g2' h0 h1' h2'
            cases hsm : sameC x.c[k] y.c[k]
            · rw [hsm] at HX
              have HF : Hid (sameC x y = false) := Lib.hid (by
                have h1 : sameCs x.c y.c = false := sameCs_at HEL.out.1 HEL.out.2 hsm
                rw [sameC_eq, h1]; simp)
              clear hsm
              have h3 : wr.cell? ⟨g1, 2, none⟩ = some (.slice (some ad) x.c.length cb) := (blk_cell HK1.out 2).trans rfl
              go_wp2_with fail
              clear h3
              go_region_held3 (fun w' => Below wr.heap.size wr w' ∧ w'.cell? ⟨g1, 2, none⟩ = some (.slice (some ad) x.c.length cb) ∧ w'.cell? ⟨g2, 2, none⟩ = some (.slice (some bd) x.c.length db) ∧ w'.cell? (ad.add (k * 3)) = some (.int .i64 x.c[k].op) ∧ w'.cell? ⟨(ad.add (k * 3)).block, (ad.add (k * 3)).off + 1, none⟩ = some (.slice A3 x.c[k].a.length c3) ∧ w'.cell? ⟨(ad.add (k * 3)).block, (ad.add (k * 3)).off + 2, none⟩ = some (.slice A4 x.c[k].c.length c4) ∧ w'.cell? (bd.add (k * 3)) = some (.int .i64 y.c[k].op) ∧ w'.cell? ⟨(bd.add (k * 3)).block, (bd.add (k * 3)).off + 1, none⟩ = some (.slice B3 y.c[k].a.length d3) ∧ w'.cell? ⟨(bd.add (k * 3)).block, (bd.add (k * 3)).off + 2, none⟩ = some (.slice B4 y.c[k].c.length d4)) (first | exact HMK.out _ (Below.refl _ _) | exact HMK.out _ (Below.refl _ _).drew | exact HMK.out _ (below_trans (‹Below wr.heap.size wr _ ∧ _›).1 hb5)) (first | (go_at_call 18; with_reducible refine (HX.out _ (‹Below wr.heap.size wr _ ∧ _›).1).mono ?_; rintro en w5 ⟨rfl, hb5⟩))
              all_goals
                have HB5 := Lib.hid (‹Below wr.heap.size wr w5 ∧ _›).1
                go_wp2
                go_ret
                exact ⟨by rw [HF.out]; rfl, below_trans HBB.out (below_trans HB1.out HB5.out)⟩
            · rw [hsm] at HX
              have HEQ := Lib.hid ((sameC_iff _ _).1 hsm)
              clear hsm
              have h3 : wr.cell? ⟨g1, 2, none⟩ = some (.slice (some ad) x.c.length cb) := (blk_cell HK1.out 2).trans rfl
              go_wp2_with fail
              clear h3
              go_region_held3 (fun w' => Below wr.heap.size wr w' ∧ w'.cell? ⟨g1, 2, none⟩ = some (.slice (some ad) x.c.length cb) ∧ w'.cell? ⟨g2, 2, none⟩ = some (.slice (some bd) x.c.length db) ∧ w'.cell? (ad.add (k * 3)) = some (.int .i64 x.c[k].op) ∧ w'.cell? ⟨(ad.add (k * 3)).block, (ad.add (k * 3)).off + 1, none⟩ = some (.slice A3 x.c[k].a.length c3) ∧ w'.cell? ⟨(ad.add (k * 3)).block, (ad.add (k * 3)).off + 2, none⟩ = some (.slice A4 x.c[k].c.length c4) ∧ w'.cell? (bd.add (k * 3)) = some (.int .i64 y.c[k].op) ∧ w'.cell? ⟨(bd.add (k * 3)).block, (bd.add (k * 3)).off + 1, none⟩ = some (.slice B3 y.c[k].a.length d3) ∧ w'.cell? ⟨(bd.add (k * 3)).block, (bd.add (k * 3)).off + 2, none⟩ = some (.slice B4 y.c[k].c.length d4)) (first | exact HMK.out _ (Below.refl _ _) | exact HMK.out _ (Below.refl _ _).drew | exact HMK.out _ (below_trans (‹Below wr.heap.size wr _ ∧ _›).1 hb5)) (first | (go_at_call 18; with_reducible refine (HX.out _ (‹Below wr.heap.size wr _ ∧ _›).1).mono ?_; rintro en w5 ⟨rfl, hb5⟩))
              all_goals
                have HB5 := Lib.hid (‹Below wr.heap.size wr w5 ∧ _›).1
                go_wp2
                go_roundw
                case rel => exact ⟨k + 1, by omega, by go_num, Lib.hid (by rw [List.take_add_one, List.take_add_one, HEL.out.1, HEL.out.2, HTK.out, HEQ.out]), below_trans HB1.out HB5.out⟩
                case measure => simp [intOf]; omega
          · have hke : k = x.c.length := by omega
            have HF : Hid (sameC x y = true) := Lib.hid (by
              have h := HTK.out
              rw [hke, List.take_length, HLENc.out, List.take_length] at h
              rw [sameC_eq, HFA.out, (sameCs_iff _ _).2 h, HH.out]; simp)
            clear hke
            go_wp2
            go_ret
            exact ⟨by rw [HF.out]; rfl, below_trans HBB.out HB1.out⟩
end Go.Proofs.YtkopmnhngjbmcaaGreatDoor.Sn

/- (predicate.fits), (predicate.plain). -/
import Derived.Test.YtkopmnhngjbmcaaGreatDoorB1
import Derived.Deep.AppendLies
namespace Go.Proofs.YtkopmnhngjbmcaaGreatDoor.Sn
open Go Go.RowKit
set_option linter.unusedVariables false
section
variable {P : Program} {ops : Array Oper} {rest : List Oper} {o : Oper} {a : Act} {Q : Exit → Act → World → Prop}
/-- a new block of a slice's elements -/
theorem slice_at {W : World} (hgd : o.guard = none) {N : Tmp} (_hd : o.dst = some N) (cs : Array Value) (t : TypeId) (n c : Nat)
    (hrun : (execOp a.eval o).run P W = .ok (.value (.slice (some ⟨W.heap.size, 0, none⟩) n c)) (W.alloc (.cells cs t (0, 0))))
    (h : ∀ g w1, Hid (g = W.heap.size) → Hid (w1.heap[g]? = some (.cells cs t (0, 0))) → Hid (Below W.heap.size W w1) → wpList P ops Q rest (a.put o.dst (.slice (some ⟨g, 0, none⟩) n c)) w1) : wpList P ops Q (o :: rest) a W :=
  event_run hgd hrun (h _ _ rfl (blk_new W _) ((Below.refl _ _).alloc (Nat.le_refl _) _))
end
theorem ownsRow_below {w w' : World} {base : Nat} {e : TypeId} {size : Nat} {v : Value} {n : Nat} {xs : List Value} (h : w.ownsRow base e size v n xs) (hb : Below w.heap.size w w') : w'.ownsRow base e size v n xs := by
  refine ⟨h.1, h.2.imp id (fun ⟨g, cap, cur, h1, h2, h3, h4⟩ => ⟨g, cap, cur, h1, h2, below_blk hb h3, h4⟩)⟩
theorem ownsRow_ne {w : World} {base g : Nat} {e : TypeId} {size : Nat} {v : Value} {n : Nat} {xs : List Value} (h : w.ownsRow base e size v n xs) (hg : g < base) : some g ≠ v.ownBlock := by
  rcases h.2 with ⟨rfl, _⟩ | ⟨g', cap, cur, rfl, hb, _⟩
  · simp [Value.ownBlock]
  · simp [Value.ownBlock]; omega
theorem ownsRow_set {w : World} {base g : Nat} {e : TypeId} {size : Nat} {v : Value} {n : Nat} {xs : List Value} (h : w.ownsRow base e size v n xs) (hg : g < base) (j : Nat) (u : Value) : (w.setCell ⟨g, j, none⟩ u).ownsRow base e size v n xs :=
  ⟨h.1, h.2.imp id (fun ⟨g', cap, cur, h1, h2, h3, h4⟩ => ⟨g', cap, cur, h1, h2, blk_far h3 (by simp; omega) u, h4⟩)⟩
/-- what has grown by a row of its own, beyond the start -/
theorem grown_own {w0 w w1 w2 : World} {g : Nat} {e : TypeId} {size : Nat} {v : Value} {n : Nat} {xs : List Value} (h : w0.grownBy w (some g)) (hb : Below w.heap.size w w1) (hg : w1.grownBy w2 v.ownBlock) (ho : w.ownsRow w0.heap.size e size v n xs) : w0.grownBy w2 (some g) :=
  ⟨(hg.os.trans hb.os).trans h.os, (hg.tape.trans hb.tape).trans h.tape, (hg.output.trans hb.output).trans h.output, Nat.le_trans h.size (Nat.le_trans hb.size hg.size), fun k hk hr => by
    have h1 := h.block k hk hr
    have h2 := hb.block k (Nat.lt_of_lt_of_le hk h.size)
    have h3 := hg.block k (Nat.lt_of_lt_of_le hk (Nat.le_trans h.size hb.size)) (ownsRow_ne ho hk)
    exact (h3.trans h2).trans h1⟩
theorem info220 : (Tryz.prog.info? 220).map (fun i => (i.zero, i.size, i.bytes)) = some (some (.agg #[.int .i64 0, .int .i64 0]), 2, 16) := by kernel_rfl
/-- k arrays of one element each -/
def arrCells : Nat → List Value
  | 0 => []
  | k + 1 => arrCells k ++ [.int .i64 1, .int .i64 0]
theorem arrCells_length (k : Nat) : (arrCells k).length = k * 2 := by induction k with | zero => rfl | succ k ih => simp [arrCells, ih]; omega
theorem arrCells_get (R i : Nat) (hi : i < R) (j : Nat) (u : Value) (hj : [Value.int .i64 1, .int .i64 0][j]? = some u) : (arrCells R)[i * 2 + j]? = some u := by
  have hj2 : j < 2 := (List.getElem?_eq_some_iff.1 hj).1
  induction R with
  | zero => omega
  | succ R ih =>
    have hl := arrCells_length R
    by_cases h : i = R
    · subst h
      rw [arrCells, List.getElem?_append_right (by omega), hl, show i * 2 + j - i * 2 = j by omega]; exact hj
    · rw [arrCells, List.getElem?_append_left (by omega)]; exact ih (by omega)
theorem arrRow_of_owns {w : World} {base R : Nat} {v : Value} (h : w.ownsRow base 220 2 v R (arrCells R)) : ∃ A c, v = .slice A R c ∧ ArrRow w A R := by
  rcases h.2 with ⟨rfl, rfl⟩ | ⟨g, cap, cur, rfl, hb, hg, hn, hm, hs, ht⟩
  · exact ⟨none, 0, rfl, fun i hi => absurd hi (Nat.not_lt_zero i)⟩
  · refine ⟨some ⟨g, 0, none⟩, cap, rfl, fun i hi => ⟨_, rfl, fun j u hj => ?_⟩⟩
    have hj2 : j < 2 := (List.getElem?_eq_some_iff.1 hj).1
    rw [add_add, add_plain, blk_cell hg]
    have := arrCells_get R i hi j u hj
    rw [← ht, List.getElem?_take, if_pos (by omega)] at this
    simpa using this
set_option maxRecDepth 100000 in
set_option maxHeartbeats 8000000 in
theorem fits_calls (V : Int) (hV : 0 ≤ V ∧ V ≤ 12) (R : Nat) (hR : R ≤ 4) (e : Cn) (hsz : e.size < 1152921504606846976) (S : Snap) (w : World) (cs : List Value)
    (hS : Agr S w) (hr : RepC S e cs) :
    Calls Tryz.prog 87 #[.int .i64 V, .int .i64 R, .agg cs.toArray] w fun en w' => en = .returned (.bool (okTest V R e)) ∧ Below w.heap.size w w' := by
  obtain ⟨A, c, B, dd, rfl, hc, hdd, hrow, hrow2⟩ := hr.open_
  have HREP := Lib.hid (RepC.close e A B c dd hc hdd hrow hrow2)
  have HS := Lib.hid hS
  clear hS hr hrow hrow2
  go_enter Tryz.func87, Tryz.ntmps87
  go_wp2_with (first
    | ((with_reducible refine gate_dst (N := 5) rfl ?_); refine new_at rfl (N := 5) rfl #[.int .i64 e.op, .slice A e.a.length c, .slice B e.c.length dd] 25 (by go_simp) ?_; intro g5 w1 HG5 HB5 HBE1)
    | ((with_reducible refine gate_dst (N := 9) rfl ?_); refine wpList_load_row rfl 25 (.tmp 5) rfl g5 (by go_simp) 25 _ (0, 0) _ HB5.out Tryz.underlying25 rfl size25 ?_)
    | ((with_reducible refine gate_dst (N := 11) rfl ?_); refine slice_at rfl (N := 11) rfl (stmtCells e.op A e.a.length c B e.c.length dd) 160 1 1 (by go_simp; rfl) ?_; intro gs w2 HGS HBS HBE2)
    | ((with_reducible refine gate_dst (N := 7) rfl ?_); refine new_at rfl (N := 7) rfl #[.int .i64 0, .int .i64 0, .string ⟨#[]⟩, .int .i64 0, .int .i64 0, .slice none 0 0, .slice none 0 0, .int .i64 0, .int .i64 0, .slice none 0 0, .int .i64 0, .slice none 0 0] 99 (by go_simp) ?_; intro g7 w3 HG7 HB7 HBE3)
    | ((with_reducible refine gate_store (t := 99) (p := 7) rfl ?_); refine store_at rfl rfl 99 (.tmp 7) (.tmp 12) rfl g7 #[.int .i64 1, .int .i64 2, .string ⟨#[112]⟩, .int .i64 0, .int .i64 0, .slice none 0 0, .slice none 0 0, .int .i64 V, .int .i64 0, .slice none 0 0, .int .i64 1, .slice (some ⟨gs, 0, none⟩) 1 1] (by go_simp) (by go_simp) 99 HB7.out size99 rfl (by simp [Value.oneCell']) ?_; intro w4 HB8 HBE4))
  have hb4 := below_grown_new HBE3.out HBE4.out (by rw [HG7.out]; exact Nat.le_refl _)
  have HBS4 := Lib.hid (below_blk hb4 HBS.out)
  have HBB := Lib.hid (below_trans (below_trans HBE1.out HBE2.out) hb4)
  have HS4 := Lib.hid (HS.out.below HBB.out)
  have HGW : Hid (w.heap.size ≤ g7) := Lib.hid (by rw [HG7.out]; exact (below_trans HBE1.out HBE2.out).size)
  clear hb4
  obtain ⟨z, hinfo, hz0, hz1, hz2⟩ := info_parts info220
  go_loopw [14] (fun s14 wr => ∃ (k : Nat) (v : Value), k ≤ R ∧ s14 = .int .i64 k ∧ wr.heap[g7]? = some (.cells #[.int .i64 1, .int .i64 2, .string ⟨#[112]⟩, .int .i64 0, .int .i64 0, .slice none 0 0, .slice none 0 0, .int .i64 V, .int .i64 0, v, .int .i64 1, .slice (some ⟨gs, 0, none⟩) 1 1] 99 (0, 0)) ∧ wr.ownsRow w4.heap.size 220 2 v k (arrCells k) ∧ w4.grownBy wr (some g7)) (fun s14 _ => R - (intOf s14).toNat)
  case atStart => exact ⟨0, _, Nat.zero_le _, rfl, HB8.out, World.ownsRow_nil _ _ _ _, grown_refl _ _⟩
  case round =>
    obtain ⟨k, v, hk, rfl, h7, hown, hg⟩ := hrel
    have hgv : g7 < w4.heap.size := blk_lt HB8.out
    have H7 := Lib.hid h7
    have HOWN := Lib.hid hown
    have HG := Lib.hid hg
    have c9 : wr.cell? ⟨g7, 9, none⟩ = some v := (blk_cell h7 9).trans rfl
    have z9 : wr.frozen? ⟨g7, 9, none⟩ = false := blk_frozen h7 9
    clear h7 hown hg
    by_cases hlt : k < R
    · go_wp2_with (first
        | ((with_reducible refine gate_dst (N := 19) rfl ?_); refine slice_at rfl (N := 19) rfl #[.int .i64 1, .int .i64 0] 220 1 1 (by go_simp) ?_; intro gn u1 HGN HBN HBEN)
        | ((with_reducible refine gate_dst (N := 20) rfl ?_); refine wpList_append_lies _ rfl (.tmp 17) (.tmp 19) 96 rfl w4.heap.size 220 z _ 2 16 Tryz.underlying96 hinfo hz0 hz1 hz2 rfl (by decide) v k (arrCells k) (by go_simp) (ownsRow_below HOWN.out HBEN.out) ⟨gn, 0, none⟩ 1 1 [.int .i64 1, .int .i64 0] (by go_simp) rfl (World.news_of_block HBN.out) (by simp [Value.oneCell']) (by decide) (by unfold maxLen; omega) (by omega) (Nat.le_trans HG.out.size HBEN.out.size) _ rfl ?_; intro ga cap u2 hown2 hgrow2 hat2 hlt2; have hne := ownsRow_ne HOWN.out hgv; have H7 := Lib.hid (grown_blk hgrow2 (below_blk HBEN.out H7.out) hne); have HOWN2 := Lib.hid hown2; have HG := Lib.hid (grown_own HG.out HBEN.out hgrow2 HOWN.out); clear hown2 hgrow2 hat2 c9 z9; have z9 : u2.frozen? ⟨g7, 9, none⟩ = false := blk_frozen H7.out 9; have c9 : u2.cell? ⟨g7, 9, none⟩ = some v := (blk_cell H7.out 9).trans rfl)
        | ((with_reducible refine gate_store (t := 96) (p := 21) rfl ?_); refine skip_run rfl rfl (w1 := u2.setCell ⟨g7, 9, none⟩ (.slice (some ⟨ga, 0, none⟩) (k + 1) cap)) (by go_simp) ?_; have H7 := Lib.hid (blk_set H7.out 9 (.slice (some ⟨ga, 0, none⟩) (k + 1) cap)); have HG := Lib.hid (grown_set HG.out 9 (.slice (some ⟨ga, 0, none⟩) (k + 1) cap)); have HOWN2 := Lib.hid (ownsRow_set HOWN2.out hgv 9 (.slice (some ⟨ga, 0, none⟩) (k + 1) cap)); clear c9 z9))
      refine ⟨⟨k + 1, _, by omega, by simp, H7.out, HOWN2.out, HG.out⟩, by simp [intOf]; omega⟩
    · obtain rfl : k = R := by omega
      obtain ⟨AA, cc, rfl, harr⟩ := arrRow_of_owns HOWN.out
      have HARR := Lib.hid harr
      have HBB2 := Lib.hid (below_grown_new HBB.out HG.out HGW.out)
      have HS2 := Lib.hid (HS.out.below HBB2.out)
      have HROW := Lib.hid (grown_other HG.out HBS4.out (fun e => by have h1 := HB8.out; rw [← e, HBS4.out] at h1; cases h1))
      clear harr
      go_wp2_with (first
        | ((with_reducible refine gate_dst (N := 23) rfl ?_); refine wpList_load_row rfl 99 (.tmp 7) rfl g7 (by go_simp) 99 _ (0, 0) _ H7.out Tryz.underlying99 rfl size99 ?_)
        | (go_at_call 124; refine (def_calls V hV k cc hR AA gs 1 e hsz S _ A B c dd HARR.out HS2.out HREP.out HROW.out).mono ?_; rintro en w5 ⟨rfl, hb5⟩; have HB5 := Lib.hid hb5; clear hb5))
      all_goals
        go_ret
        refine ⟨?_, below_trans HBB2.out HB5.out⟩
        simp_all
/-- as many variables and arrays as there may be -/
def okP (e : Cn) : Bool := okTest 12 4 e
set_option maxRecDepth 100000 in
set_option maxHeartbeats 8000000 in
theorem plain_calls (e : Cn) (hsz : e.size < 1152921504606846976) (S : Snap) (w : World) (cs : List Value) (hS : Agr S w) (hr : RepC S e cs) :
    Calls Tryz.prog 99 #[.agg cs.toArray] w fun en w' => en = .returned (.bool (okP e)) ∧ Below w.heap.size w w' := by
  obtain ⟨A, c, B, dd, rfl, hc, hdd, hrow, hrow2⟩ := hr.open_
  have HREP := Lib.hid (RepC.close e A B c dd hc hdd hrow hrow2)
  have HS := Lib.hid hS
  clear hS hr hrow hrow2
  go_enter Tryz.func99, Tryz.ntmps99
  go_wp2_with (first
    | ((with_reducible refine gate_dst (N := 1) rfl ?_); refine new_at rfl (N := 1) rfl #[.int .i64 e.op, .slice A e.a.length c, .slice B e.c.length dd] 25 (by go_simp) ?_; intro g5 w1 HG5 HB5 HBE1)
    | ((with_reducible refine gate_dst (N := 3) rfl ?_); refine wpList_load_row rfl 25 (.tmp 1) rfl g5 (by go_simp) 25 _ (0, 0) _ HB5.out Tryz.underlying25 rfl size25 ?_)
    | (go_at_call 87; refine (fits_calls 12 (by decide) 4 (by decide) e hsz S _ [.int .i64 e.op, .slice A e.a.length c, .slice B e.c.length dd] (HS.out.below HBE1.out) HREP.out).mono ?_; rintro en w5 ⟨rfl, hb5⟩; have HB6 := Lib.hid hb5; clear hb5))
  go_ret
  exact ⟨rfl, below_trans HBE1.out HB6.out⟩
end Go.Proofs.YtkopmnhngjbmcaaGreatDoor.Sn

/- (parser.cond): true, and what is no condition. -/
import Derived.Test.YtkopmnhngjbmcaaGreatDoorD12
namespace Go.Proofs.YtkopmnhngjbmcaaGreatDoor.Sn
open Go Go.RowKit
set_option linter.unusedVariables false
set_option maxRecDepth 100000 in
set_option maxHeartbeats 2000000 in
theorem cond_true (s t : List UInt8) (hT : cutP [116, 114, 117, 101] s = some t) (S : Snap) (g : Nat) (w : World) (hS : Agr S w) (hSg : S g = none) (hg : w.heap[g]? = some (.cells (pcell s) 182 (0, 0))) :
    Calls Tryz.prog 102 #[.pointer (some ⟨g, 0, none⟩)] w (PostC S w g (some (.mk 1 [] [], t))) := by
  have hgw := blk_lt hg
  have HGW := Lib.hid hgw
  have HG := Lib.hid hg
  have HS := Lib.hid hS
  have HSG := Lib.hid hSg
  have HP := Lib.hid (pre_some hT)
  have HK := Lib.hid (skip_some g s [116, 114, 117, 101] t hT)
  clear hg hT hgw hS hSg
  go_enter Tryz.func102, Tryz.ntmps102
  go_wp2_with (first
    | ((with_reducible refine gate_dst (N := 2) rfl ?_); refine new_at rfl (N := 2) rfl zeroC 25 (by go_simp; rfl) ?_; intro gR w1 HGR HB1 HBE1; have HG1 := Lib.hid (below_blk HBE1.out HG.out); have h1 : w1.cell? ⟨g, 0, none⟩ = some (.string ⟨s.toArray⟩) := (blk_cell HG1.out 0).trans rfl)
    | (go_at_call 146; with_reducible refine (HP.out _).mono ?_; rintro en w2 ⟨rfl, rfl⟩)
    | (go_at_call 147; with_reducible refine (HK.out _ HG1.out).mono ?_; rintro en w3 ⟨rfl, hg3, hgr3⟩; clear h1; have HG3 := Lib.hid hg3; have HGR3 := Lib.hid (grown_trans (grown_below (row := some g) HBE1.out) hgr3); have HR3 := Lib.hid (grown_blk hgr3 HB1.out (fun e => by cases e; have := HGW.out; rw [HGR.out] at this; omega)); clear hg3 hgr3)
    | ((with_reducible refine gate_store (t := 25) (p := 2) rfl ?_); refine store_at rfl rfl 25 (.tmp 2) (.tmp 12) rfl gR #[.int .i64 1, .slice none 0 0, .slice none 0 0] (by go_simp) (by go_simp) 25 HR3.out size25 rfl (by simp [Value.oneCell']) ?_; intro w5 HB5 HBE5))
  refine bodyPost_ret (results_cell_row rfl _ _ gR 25 #[.int .i64 1, .slice none 0 0, .slice none 0 0] (0, 0) _ rfl HB5.out Tryz.underlying25 rfl size25) rfl ?_
  refine ⟨[.int .i64 1, .slice none 0 0, .slice none 0 0], S, rfl, RepC.close (.mk 1 [] []) none none 0 0 (Nat.le_refl _) (Nat.le_refl _) (Row.nil _ _ _ _) (Row.nil _ _ _ _), Out.of_grown HS.out (grown_new HGR3.out HBE5.out (by rw [HGR.out]; exact Nat.le_refl _)) (fun k e => by cases e; exact HSG.out), ?_⟩
  exact grown_blk HBE5.out HG3.out (fun e => by cases e; have := HGW.out; rw [HGR.out] at this; omega)
set_option maxRecDepth 100000 in
set_option maxHeartbeats 2000000 in
theorem cond_open (s : List UInt8) (hT : cutP [116, 114, 117, 101] s = none) (h0 : cutP [40] s = none) (S : Snap) (g : Nat) (w : World) (hg : w.heap[g]? = some (.cells (pcell s) 182 (0, 0))) :
    Calls Tryz.prog 102 #[.pointer (some ⟨g, 0, none⟩)] w (PostC S w g none) := by
  have HG := Lib.hid hg
  have HP := Lib.hid (pre_none hT)
  have HK : Hid (∀ W, W.heap[g]? = some (.cells (pcell s) 182 (0, 0)) → Calls Tryz.prog 147 #[.pointer (some ⟨g, 0, none⟩), .string ⟨#[40]⟩] W fun en w' => en = .panicked [{ v := .iface 179 (.agg #[]), recovered := false }] ∧ W = w') := Lib.hid (skip_none g s [40] h0)
  clear hg hT h0
  go_enter Tryz.func102, Tryz.ntmps102
  go_wp2_with (first
    | ((with_reducible refine gate_dst (N := 2) rfl ?_); refine new_at rfl (N := 2) rfl zeroC 25 (by go_simp; rfl) ?_; intro gR w1 HGR HB1 HBE1; have HG1 := Lib.hid (below_blk HBE1.out HG.out); have h1 : w1.cell? ⟨g, 0, none⟩ = some (.string ⟨s.toArray⟩) := (blk_cell HG1.out 0).trans rfl)
    | (go_at_call 146; with_reducible refine (HP.out _).mono ?_; rintro en w2 ⟨rfl, rfl⟩)
    | (go_at_call 147; with_reducible refine (HK.out _ HG1.out).mono ?_; rintro en w3 ⟨rfl, rfl⟩))
  exact ⟨rfl, rfl, grown_below HBE1.out⟩
set_option maxRecDepth 100000 in
set_option maxHeartbeats 2000000 in
theorem cond_op (s s0 : List UInt8) (hT : cutP [116, 114, 117, 101] s = none) (h0 : cutP [40] s = some s0) (hl : s.length ≤ 1073741824) (hop : opOf (wordOf s0) = none) (S : Snap) (g : Nat) (w : World) (hg : w.heap[g]? = some (.cells (pcell s) 182 (0, 0))) :
    Calls Tryz.prog 102 #[.pointer (some ⟨g, 0, none⟩)] w (PostC S w g none) := by
  have HG := Lib.hid hg
  have HP := Lib.hid (pre_none hT)
  have HK := Lib.hid (skip_some g s [40] s0 h0)
  have hl0 := cutP_len h0
  have HO : Hid (∀ W, W.heap[g]? = some (.cells (pcell s0) 182 (0, 0)) → Calls Tryz.prog 148 #[.pointer (some ⟨g, 0, none⟩)] W fun en w' => en = .panicked [{ v := .iface 179 (.agg #[]), recovered := false }] ∧ W.grownBy w' (some g)) := Lib.hid fun W hW => by
    have := operator_calls g s0 (by simp at hl0; omega) W hW
    rw [hop] at this
    exact this.mono fun _ _ h => ⟨h.1, h.2.2⟩
  clear hg h0 hop hl0 hT
  go_enter Tryz.func102, Tryz.ntmps102
  go_wp2_with (first
    | ((with_reducible refine gate_dst (N := 2) rfl ?_); refine new_at rfl (N := 2) rfl zeroC 25 (by go_simp; rfl) ?_; intro gR w1 HGR HB1 HBE1; have HG1 := Lib.hid (below_blk HBE1.out HG.out); have h1 : w1.cell? ⟨g, 0, none⟩ = some (.string ⟨s.toArray⟩) := (blk_cell HG1.out 0).trans rfl)
    | (go_at_call 146; with_reducible refine (HP.out _).mono ?_; rintro en w2 ⟨rfl, rfl⟩)
    | (go_at_call 147; with_reducible refine (HK.out _ HG1.out).mono ?_; rintro en w3 ⟨rfl, hg3, hgr3⟩; clear h1; have HG3 := Lib.hid hg3; have HGR3 := Lib.hid (grown_trans (grown_below HBE1.out) hgr3); clear hg3 hgr3)
    | (go_at_call 148; refine (HO.out _ HG3.out).mono ?_; rintro en w4 ⟨rfl, hgr4⟩; have HGR4 := Lib.hid (grown_trans HGR3.out hgr4); clear hgr4))
  exact ⟨rfl, rfl, HGR4.out⟩
set_option maxRecDepth 100000 in
set_option maxHeartbeats 2000000 in
theorem cond_other (s s0 : List UInt8) (hT : cutP [116, 114, 117, 101] s = none) (h0 : cutP [40] s = some s0) (hl : s.length ≤ 1073741824) (op : Int) (hop : opOf (wordOf s0) = some op) (hq : op ≤ 10) (S : Snap) (g : Nat) (w : World) (hg : w.heap[g]? = some (.cells (pcell s) 182 (0, 0))) :
    Calls Tryz.prog 102 #[.pointer (some ⟨g, 0, none⟩)] w (PostC S w g none) := by
  have HGW := Lib.hid (blk_lt hg)
  have HG := Lib.hid hg
  have HP := Lib.hid (pre_none hT)
  have HK := Lib.hid (skip_some g s [40] s0 h0)
  have hl0 := cutP_len h0
  have hrng := op_rng hop
  have HO : Hid (∀ W, W.heap[g]? = some (.cells (pcell s0) 182 (0, 0)) → Calls Tryz.prog 148 #[.pointer (some ⟨g, 0, none⟩)] W fun en w' => en = .returned (.int .i64 op) ∧ W.grownBy w' (some g)) := Lib.hid fun W hW => by
    have := operator_calls g s0 (by simp at hl0; omega) W hW
    rw [hop] at this
    exact this.mono fun _ _ h => ⟨h.1, h.2.2⟩
  obtain ⟨co, hco⟩ : ∃ co, op - 100 = co := ⟨_, rfl⟩
  have ho1 : (-1000 : Int) ≤ op := by omega
  have ho2 : op ≤ (1000 : Int) := by omega
  have b2 : (co == 2) = false := beq_eq_false_iff_ne.2 (by omega)
  have b3 : (co == 3) = false := beq_eq_false_iff_ne.2 (by omega)
  have b4 : (co == 4) = false := beq_eq_false_iff_ne.2 (by omega)
  have b5 : (co == 5) = false := beq_eq_false_iff_ne.2 (by omega)
  have b6 : (co == 6) = false := beq_eq_false_iff_ne.2 (by omega)
  have b7 : (co == 7) = false := beq_eq_false_iff_ne.2 (by omega)
  clear hg h0 hop hl0 hT hrng hq
  go_enter Tryz.func102, Tryz.ntmps102
  go_wp2_with (first
    | ((with_reducible refine gate_dst (N := 2) rfl ?_); refine new_at rfl (N := 2) rfl zeroC 25 (by go_simp; rfl) ?_; intro gR w1 HGR HB1 HBE1; have HG1 := Lib.hid (below_blk HBE1.out HG.out); have h1 : w1.cell? ⟨g, 0, none⟩ = some (.string ⟨s.toArray⟩) := (blk_cell HG1.out 0).trans rfl)
    | (go_at_call 146; with_reducible refine (HP.out _).mono ?_; rintro en w2 ⟨rfl, rfl⟩)
    | (go_at_call 147; with_reducible refine (HK.out _ HG1.out).mono ?_; rintro en w3 ⟨rfl, hg3, hgr3⟩; clear h1; have HG3 := Lib.hid hg3; have HGR3 := Lib.hid (grown_trans (grown_below HBE1.out) hgr3); clear hg3 hgr3)
    | (go_at_call 148; refine (HO.out _ HG3.out).mono ?_; rintro en w4 ⟨rfl, hgr4⟩; have HGR4 := Lib.hid (grown_trans HGR3.out hgr4); clear hgr4)
    | ((with_reducible refine gate_dst (N := 3) rfl ?_); refine new_at rfl (N := 3) rfl zeroC 25 (by go_simp; rfl) ?_; intro gE w5 HGE HB5 HBE5)
    | ((with_reducible refine gate_store (t := 25) (p := 3) rfl ?_); refine store_at rfl rfl 25 (.tmp 3) (.tmp 18) rfl gE (cellsK co (.slice none 0 0)) (by go_simp) (by go_simp; rfl) 25 HB5.out size25 rfl (by simp [cellsK, Value.oneCell']) ?_; intro w6 HB6 HBE6; have q0 : w6.cell? ⟨gE, 0, none⟩ = some (.int .i64 co) := (blk_cell HB6.out 0).trans rfl))
  exact ⟨rfl, rfl, grown_new (grown_trans HGR4.out (grown_below HBE5.out)) HBE6.out (by rw [HGE.out]; exact HGR4.out.size)⟩
end Go.Proofs.YtkopmnhngjbmcaaGreatDoor.Sn

/- (parser.expr) at a number or a variable. -/
import Derived.Test.YtkopmnhngjbmcaaGreatDoorD8
namespace Go.Proofs.YtkopmnhngjbmcaaGreatDoor.Sn
open Go Go.RowKit
set_option linter.unusedVariables false
theorem grown_new {w W W' : World} {row : Option Nat} {gR : Nat} (h : w.grownBy W row) (k : W.grownBy W' (some gR)) (hn : w.heap.size ≤ gR) : w.grownBy W' row :=
  ⟨k.os.trans h.os, k.tape.trans h.tape, k.output.trans h.output, Nat.le_trans h.size k.size, fun i hi hr => (k.block i (Nat.lt_of_lt_of_le hi h.size) (fun e => by cases e; omega)).trans (h.block i hi hr)⟩
/-- what the parser leaves behind: the tree that it has read, or its panic -/
def PostE (S : Snap) (w : World) (g : Nat) (r : Option (Ex × List UInt8)) (en : Ending) (w' : World) : Prop :=
  match r with
  | some (e, t) => ∃ (cs : List Value) (S' : Snap), en = .returned (.agg cs.toArray) ∧ RepE S' e cs ∧ Out (some g) S w S' w' ∧ w'.heap[g]? = some (.cells (pcell t) 182 (0, 0))
  | none => en = wrongE ∧ w.grownBy w' (some g)
theorem postE_leaf {S : Snap} {w w' : World} {g : Nat} {t : List UInt8} (op n v : Int) (hS : Agr S w) (hSg : S g = none) (hg : w.grownBy w' (some g)) (ht : w'.heap[g]? = some (.cells (pcell t) 182 (0, 0))) :
    PostE S w g (some (.mk op n v [], t)) (.returned (.agg #[.int .i64 op, .int .i64 n, .int .i64 v, .slice none 0 0])) w' :=
  ⟨[.int .i64 op, .int .i64 n, .int .i64 v, .slice none 0 0], S, rfl, RepE.close (.mk op n v []) none 0 (Nat.le_refl _) (Row.nil _ _ _ _), Out.of_grown hS hg (fun k e => by cases e; exact hSg), ht⟩
set_option maxRecDepth 100000 in
set_option maxHeartbeats 2000000 in
theorem leafP_len (S : Snap) (hL : LibOk S) (g : Nat) (s wd : List UInt8) (d : List UInt8) (hl : s.length ≤ 1073741824) (w : World) (hS : Agr S w) (hSg : S g = none) (hg : w.heap[g]? = some (.cells (pcell s) 182 (0, 0))) (h0 : cutP [40] s = none) (hwd : wordOf s = wd)
    (hc1 : cutP [108, 101, 110] wd = some d) (v : Int) (hn : num d = some v) : Calls Tryz.prog 149 #[.pointer (some ⟨g, 0, none⟩)] w (PostE S w g (some (.mk 3 v 0 [], afterW s))) := by
  have HG := Lib.hid hg
  have HS := Lib.hid hS
  have HSG := Lib.hid hSg
  have HP := Lib.hid (pre_none h0)
  have HWD : Hid (wordOf s = wd) := Lib.hid hwd
  have HC1 := Lib.hid (cut_some hc1)
  have HN : Hid (∀ W, Agr S W → Calls Tryz.prog 211 #[.string ⟨d.toArray⟩] W fun en w' => en = .returned (.int .i64 v) ∧ Below W.heap.size W w') := Lib.hid fun W hW => number_some S hL d v hn (by have := congrArg List.length (word_after s); simp only [List.length_append] at this; rw [hwd] at this; have := congrArg List.length (cutP_some hc1); simp only [List.length_append] at this; omega) W hW
  clear hg hS hSg h0 hwd hc1 hn hL
  go_enter Tryz.func149, Tryz.ntmps149
  go_wp2_with (first
    | ((with_reducible refine gate_dst (N := 2) rfl ?_); refine new_at rfl (N := 2) rfl #[.int .i64 0, .int .i64 0, .int .i64 0, .slice none 0 0] 125 (by go_simp) ?_; intro gR w1 HGR HB1 HBE1; have HG1 := Lib.hid (below_blk HBE1.out HG.out); have h1 : w1.cell? ⟨g, 0, none⟩ = some (.string ⟨s.toArray⟩) := (blk_cell HG1.out 0).trans rfl)
    | (go_at_call 146; with_reducible refine (HP.out _).mono ?_; rintro en w2 ⟨rfl, rfl⟩)
    | (go_at_call 210; refine (word_calls g s hl _ HG1.out).mono ?_; rintro en w2 ⟨rfl, hg2, hgr2⟩; rw [HWD.out]; clear h1; have HG2 := Lib.hid hg2; have HGR2 := Lib.hid (grown_trans (grown_below HBE1.out) hgr2); have HR2 := Lib.hid (grown_blk hgr2 HB1.out (fun e => by cases e; have := blk_lt HG.out; rw [HGR.out] at this; omega)); clear hg2 hgr2)
    | (go_at_call 160; with_reducible refine (HC1.out _).mono ?_; rintro en w3 ⟨rfl, rfl⟩)
    | (go_at_call 211; refine (HN.out _ (HS.out.grown HGR2.out (fun k e => by cases e; exact HSG.out))).mono ?_; rintro en w4 ⟨rfl, hb4⟩; have HR4 := Lib.hid (below_blk hb4 HR2.out); have HG4 := Lib.hid (below_blk hb4 HG2.out); have HGR4 := Lib.hid (grown_trans HGR2.out (grown_below hb4)); clear hb4)
    | ((with_reducible refine gate_store (t := 125) (p := 2) rfl ?_); refine store_at rfl rfl 125 (.tmp 2) (.tmp 25) rfl gR #[.int .i64 3, .int .i64 v, .int .i64 0, .slice none 0 0] (by go_simp) (by go_simp) 125 HR4.out size125 rfl (by simp [Value.oneCell']) ?_; intro w5 HB5 HBE5))
  refine bodyPost_ret (results_cell_row rfl _ _ gR 125 #[.int .i64 3, .int .i64 v, .int .i64 0, .slice none 0 0] (0, 0) _ rfl HB5.out Tryz.underlying125 rfl size125) rfl (postE_leaf _ _ _ HS.out HSG.out (grown_new HGR4.out HBE5.out (by rw [HGR.out]; exact Nat.le_refl _)) ?_)
  exact grown_blk HBE5.out HG4.out (fun e => by cases e; have := blk_lt HG.out; rw [HGR.out] at this; omega)
set_option maxRecDepth 100000 in
set_option maxHeartbeats 2000000 in
theorem leafP_len_no (S : Snap) (hL : LibOk S) (g : Nat) (s wd : List UInt8) (d : List UInt8) (hl : s.length ≤ 1073741824) (w : World) (hS : Agr S w) (hSg : S g = none) (hg : w.heap[g]? = some (.cells (pcell s) 182 (0, 0))) (h0 : cutP [40] s = none) (hwd : wordOf s = wd)
    (hc1 : cutP [108, 101, 110] wd = some d) (hn : num d = none) : Calls Tryz.prog 149 #[.pointer (some ⟨g, 0, none⟩)] w (PostE S w g none) := by
  have HG := Lib.hid hg
  have HS := Lib.hid hS
  have HSG := Lib.hid hSg
  have HP := Lib.hid (pre_none h0)
  have HWD : Hid (wordOf s = wd) := Lib.hid hwd
  have HC1 := Lib.hid (cut_some hc1)
  have HN : Hid (∀ W, Agr S W → Calls Tryz.prog 211 #[.string ⟨d.toArray⟩] W fun en w' => en = .panicked [{ v := .iface 179 (.agg #[]), recovered := false }] ∧ Below W.heap.size W w') := Lib.hid fun W hW => number_none S hL d hn (by have := congrArg List.length (word_after s); simp only [List.length_append] at this; rw [hwd] at this; have := congrArg List.length (cutP_some hc1); simp only [List.length_append] at this; omega) W hW
  clear hg hS hSg h0 hwd hc1 hn hL
  go_enter Tryz.func149, Tryz.ntmps149
  go_wp2_with (first
    | ((with_reducible refine gate_dst (N := 2) rfl ?_); refine new_at rfl (N := 2) rfl #[.int .i64 0, .int .i64 0, .int .i64 0, .slice none 0 0] 125 (by go_simp) ?_; intro gR w1 HGR HB1 HBE1; have HG1 := Lib.hid (below_blk HBE1.out HG.out); have h1 : w1.cell? ⟨g, 0, none⟩ = some (.string ⟨s.toArray⟩) := (blk_cell HG1.out 0).trans rfl)
    | (go_at_call 146; with_reducible refine (HP.out _).mono ?_; rintro en w2 ⟨rfl, rfl⟩)
    | (go_at_call 210; refine (word_calls g s hl _ HG1.out).mono ?_; rintro en w2 ⟨rfl, hg2, hgr2⟩; rw [HWD.out]; clear h1; have HG2 := Lib.hid hg2; have HGR2 := Lib.hid (grown_trans (grown_below HBE1.out) hgr2); have HR2 := Lib.hid (grown_blk hgr2 HB1.out (fun e => by cases e; have := blk_lt HG.out; rw [HGR.out] at this; omega)); clear hg2 hgr2)
    | (go_at_call 160; with_reducible refine (HC1.out _).mono ?_; rintro en w3 ⟨rfl, rfl⟩)
    | (go_at_call 211; refine (HN.out _ (HS.out.grown HGR2.out (fun k e => by cases e; exact HSG.out))).mono ?_; rintro en w4 ⟨rfl, hb4⟩; have HR4 := Lib.hid (below_blk hb4 HR2.out); have HG4 := Lib.hid (below_blk hb4 HG2.out); have HGR4 := Lib.hid (grown_trans HGR2.out (grown_below hb4)); clear hb4))
  exact ⟨rfl, rfl, HGR4.out⟩
set_option maxRecDepth 100000 in
set_option maxHeartbeats 2000000 in
theorem leafP_var (S : Snap) (hL : LibOk S) (g : Nat) (s wd : List UInt8) (d : List UInt8) (hl : s.length ≤ 1073741824) (w : World) (hS : Agr S w) (hSg : S g = none) (hg : w.heap[g]? = some (.cells (pcell s) 182 (0, 0))) (h0 : cutP [40] s = none) (hwd : wordOf s = wd)
    (hc1 : cutP [108, 101, 110] wd = none) (hc2 : cutP [118] wd = some d) (v : Int) (hn : num d = some v) : Calls Tryz.prog 149 #[.pointer (some ⟨g, 0, none⟩)] w (PostE S w g (some (.mk 2 v 0 [], afterW s))) := by
  have HG := Lib.hid hg
  have HS := Lib.hid hS
  have HSG := Lib.hid hSg
  have HP := Lib.hid (pre_none h0)
  have HWD : Hid (wordOf s = wd) := Lib.hid hwd
  have HC1 := Lib.hid (cut_none hc1)
  have HC2 := Lib.hid (cut_some hc2)
  have HN : Hid (∀ W, Agr S W → Calls Tryz.prog 211 #[.string ⟨d.toArray⟩] W fun en w' => en = .returned (.int .i64 v) ∧ Below W.heap.size W w') := Lib.hid fun W hW => number_some S hL d v hn (by have := congrArg List.length (word_after s); simp only [List.length_append] at this; rw [hwd] at this; have := congrArg List.length (cutP_some hc2); simp only [List.length_append] at this; omega) W hW
  clear hg hS hSg h0 hwd hc1 hc2 hn hL
  go_enter Tryz.func149, Tryz.ntmps149
  go_wp2_with (first
    | ((with_reducible refine gate_dst (N := 2) rfl ?_); refine new_at rfl (N := 2) rfl #[.int .i64 0, .int .i64 0, .int .i64 0, .slice none 0 0] 125 (by go_simp) ?_; intro gR w1 HGR HB1 HBE1; have HG1 := Lib.hid (below_blk HBE1.out HG.out); have h1 : w1.cell? ⟨g, 0, none⟩ = some (.string ⟨s.toArray⟩) := (blk_cell HG1.out 0).trans rfl)
    | (go_at_call 146; with_reducible refine (HP.out _).mono ?_; rintro en w2 ⟨rfl, rfl⟩)
    | (go_at_call 210; refine (word_calls g s hl _ HG1.out).mono ?_; rintro en w2 ⟨rfl, hg2, hgr2⟩; rw [HWD.out]; clear h1; have HG2 := Lib.hid hg2; have HGR2 := Lib.hid (grown_trans (grown_below HBE1.out) hgr2); have HR2 := Lib.hid (grown_blk hgr2 HB1.out (fun e => by cases e; have := blk_lt HG.out; rw [HGR.out] at this; omega)); clear hg2 hgr2)
    | (go_at_call 160; with_reducible refine (HC1.out _).mono ?_; rintro en w3 ⟨rfl, rfl⟩)
    | (go_at_call 160; with_reducible refine (HC2.out _).mono ?_; rintro en w3 ⟨rfl, rfl⟩)
    | (go_at_call 211; refine (HN.out _ (HS.out.grown HGR2.out (fun k e => by cases e; exact HSG.out))).mono ?_; rintro en w4 ⟨rfl, hb4⟩; have HR4 := Lib.hid (below_blk hb4 HR2.out); have HG4 := Lib.hid (below_blk hb4 HG2.out); have HGR4 := Lib.hid (grown_trans HGR2.out (grown_below hb4)); clear hb4)
    | ((with_reducible refine gate_store (t := 125) (p := 2) rfl ?_); refine store_at rfl rfl 125 (.tmp 2) (.tmp 34) rfl gR #[.int .i64 2, .int .i64 v, .int .i64 0, .slice none 0 0] (by go_simp) (by go_simp) 125 HR4.out size125 rfl (by simp [Value.oneCell']) ?_; intro w5 HB5 HBE5))
  refine bodyPost_ret (results_cell_row rfl _ _ gR 125 #[.int .i64 2, .int .i64 v, .int .i64 0, .slice none 0 0] (0, 0) _ rfl HB5.out Tryz.underlying125 rfl size125) rfl (postE_leaf _ _ _ HS.out HSG.out (grown_new HGR4.out HBE5.out (by rw [HGR.out]; exact Nat.le_refl _)) ?_)
  exact grown_blk HBE5.out HG4.out (fun e => by cases e; have := blk_lt HG.out; rw [HGR.out] at this; omega)
set_option maxRecDepth 100000 in
set_option maxHeartbeats 2000000 in
theorem leafP_var_no (S : Snap) (hL : LibOk S) (g : Nat) (s wd : List UInt8) (d : List UInt8) (hl : s.length ≤ 1073741824) (w : World) (hS : Agr S w) (hSg : S g = none) (hg : w.heap[g]? = some (.cells (pcell s) 182 (0, 0))) (h0 : cutP [40] s = none) (hwd : wordOf s = wd)
    (hc1 : cutP [108, 101, 110] wd = none) (hc2 : cutP [118] wd = some d) (hn : num d = none) : Calls Tryz.prog 149 #[.pointer (some ⟨g, 0, none⟩)] w (PostE S w g none) := by
  have HG := Lib.hid hg
  have HS := Lib.hid hS
  have HSG := Lib.hid hSg
  have HP := Lib.hid (pre_none h0)
  have HWD : Hid (wordOf s = wd) := Lib.hid hwd
  have HC1 := Lib.hid (cut_none hc1)
  have HC2 := Lib.hid (cut_some hc2)
  have HN : Hid (∀ W, Agr S W → Calls Tryz.prog 211 #[.string ⟨d.toArray⟩] W fun en w' => en = .panicked [{ v := .iface 179 (.agg #[]), recovered := false }] ∧ Below W.heap.size W w') := Lib.hid fun W hW => number_none S hL d hn (by have := congrArg List.length (word_after s); simp only [List.length_append] at this; rw [hwd] at this; have := congrArg List.length (cutP_some hc2); simp only [List.length_append] at this; omega) W hW
  clear hg hS hSg h0 hwd hc1 hc2 hn hL
  go_enter Tryz.func149, Tryz.ntmps149
  go_wp2_with (first
    | ((with_reducible refine gate_dst (N := 2) rfl ?_); refine new_at rfl (N := 2) rfl #[.int .i64 0, .int .i64 0, .int .i64 0, .slice none 0 0] 125 (by go_simp) ?_; intro gR w1 HGR HB1 HBE1; have HG1 := Lib.hid (below_blk HBE1.out HG.out); have h1 : w1.cell? ⟨g, 0, none⟩ = some (.string ⟨s.toArray⟩) := (blk_cell HG1.out 0).trans rfl)
    | (go_at_call 146; with_reducible refine (HP.out _).mono ?_; rintro en w2 ⟨rfl, rfl⟩)
    | (go_at_call 210; refine (word_calls g s hl _ HG1.out).mono ?_; rintro en w2 ⟨rfl, hg2, hgr2⟩; rw [HWD.out]; clear h1; have HG2 := Lib.hid hg2; have HGR2 := Lib.hid (grown_trans (grown_below HBE1.out) hgr2); have HR2 := Lib.hid (grown_blk hgr2 HB1.out (fun e => by cases e; have := blk_lt HG.out; rw [HGR.out] at this; omega)); clear hg2 hgr2)
    | (go_at_call 160; with_reducible refine (HC1.out _).mono ?_; rintro en w3 ⟨rfl, rfl⟩)
    | (go_at_call 160; with_reducible refine (HC2.out _).mono ?_; rintro en w3 ⟨rfl, rfl⟩)
    | (go_at_call 211; refine (HN.out _ (HS.out.grown HGR2.out (fun k e => by cases e; exact HSG.out))).mono ?_; rintro en w4 ⟨rfl, hb4⟩; have HR4 := Lib.hid (below_blk hb4 HR2.out); have HG4 := Lib.hid (below_blk hb4 HG2.out); have HGR4 := Lib.hid (grown_trans HGR2.out (grown_below hb4)); clear hb4))
  exact ⟨rfl, rfl, HGR4.out⟩
set_option maxRecDepth 100000 in
set_option maxHeartbeats 2000000 in
theorem leafP_num (S : Snap) (hL : LibOk S) (g : Nat) (s wd : List UInt8) (hl : s.length ≤ 1073741824) (w : World) (hS : Agr S w) (hSg : S g = none) (hg : w.heap[g]? = some (.cells (pcell s) 182 (0, 0))) (h0 : cutP [40] s = none) (hwd : wordOf s = wd)
    (hc1 : cutP [108, 101, 110] wd = none) (hc2 : cutP [118] wd = none) (v : Int) (hn : num wd = some v) : Calls Tryz.prog 149 #[.pointer (some ⟨g, 0, none⟩)] w (PostE S w g (some (.mk 1 0 v [], afterW s))) := by
  have HG := Lib.hid hg
  have HS := Lib.hid hS
  have HSG := Lib.hid hSg
  have HP := Lib.hid (pre_none h0)
  have HWD : Hid (wordOf s = wd) := Lib.hid hwd
  have HC1 := Lib.hid (cut_none hc1)
  have HC2 := Lib.hid (cut_none hc2)
  have HN : Hid (∀ W, Agr S W → Calls Tryz.prog 211 #[.string ⟨wd.toArray⟩] W fun en w' => en = .returned (.int .i64 v) ∧ Below W.heap.size W w') := Lib.hid fun W hW => number_some S hL wd v hn (by have := congrArg List.length (word_after s); simp only [List.length_append] at this; rw [hwd] at this; omega) W hW
  clear hg hS hSg h0 hwd hc1 hc2 hn hL
  go_enter Tryz.func149, Tryz.ntmps149
  go_wp2_with (first
    | ((with_reducible refine gate_dst (N := 2) rfl ?_); refine new_at rfl (N := 2) rfl #[.int .i64 0, .int .i64 0, .int .i64 0, .slice none 0 0] 125 (by go_simp) ?_; intro gR w1 HGR HB1 HBE1; have HG1 := Lib.hid (below_blk HBE1.out HG.out); have h1 : w1.cell? ⟨g, 0, none⟩ = some (.string ⟨s.toArray⟩) := (blk_cell HG1.out 0).trans rfl)
    | (go_at_call 146; with_reducible refine (HP.out _).mono ?_; rintro en w2 ⟨rfl, rfl⟩)
    | (go_at_call 210; refine (word_calls g s hl _ HG1.out).mono ?_; rintro en w2 ⟨rfl, hg2, hgr2⟩; rw [HWD.out]; clear h1; have HG2 := Lib.hid hg2; have HGR2 := Lib.hid (grown_trans (grown_below HBE1.out) hgr2); have HR2 := Lib.hid (grown_blk hgr2 HB1.out (fun e => by cases e; have := blk_lt HG.out; rw [HGR.out] at this; omega)); clear hg2 hgr2)
    | (go_at_call 160; with_reducible refine (HC1.out _).mono ?_; rintro en w3 ⟨rfl, rfl⟩)
    | (go_at_call 160; with_reducible refine (HC2.out _).mono ?_; rintro en w3 ⟨rfl, rfl⟩)
    | (go_at_call 211; refine (HN.out _ (HS.out.grown HGR2.out (fun k e => by cases e; exact HSG.out))).mono ?_; rintro en w4 ⟨rfl, hb4⟩; have HR4 := Lib.hid (below_blk hb4 HR2.out); have HG4 := Lib.hid (below_blk hb4 HG2.out); have HGR4 := Lib.hid (grown_trans HGR2.out (grown_below hb4)); clear hb4)
    | ((with_reducible refine gate_store (t := 125) (p := 2) rfl ?_); refine store_at rfl rfl 125 (.tmp 2) (.tmp 37) rfl gR #[.int .i64 1, .int .i64 0, .int .i64 v, .slice none 0 0] (by go_simp) (by go_simp) 125 HR4.out size125 rfl (by simp [Value.oneCell']) ?_; intro w5 HB5 HBE5))
  refine bodyPost_ret (results_cell_row rfl _ _ gR 125 #[.int .i64 1, .int .i64 0, .int .i64 v, .slice none 0 0] (0, 0) _ rfl HB5.out Tryz.underlying125 rfl size125) rfl (postE_leaf _ _ _ HS.out HSG.out (grown_new HGR4.out HBE5.out (by rw [HGR.out]; exact Nat.le_refl _)) ?_)
  exact grown_blk HBE5.out HG4.out (fun e => by cases e; have := blk_lt HG.out; rw [HGR.out] at this; omega)
set_option maxRecDepth 100000 in
set_option maxHeartbeats 2000000 in
theorem leafP_num_no (S : Snap) (hL : LibOk S) (g : Nat) (s wd : List UInt8) (hl : s.length ≤ 1073741824) (w : World) (hS : Agr S w) (hSg : S g = none) (hg : w.heap[g]? = some (.cells (pcell s) 182 (0, 0))) (h0 : cutP [40] s = none) (hwd : wordOf s = wd)
    (hc1 : cutP [108, 101, 110] wd = none) (hc2 : cutP [118] wd = none) (hn : num wd = none) : Calls Tryz.prog 149 #[.pointer (some ⟨g, 0, none⟩)] w (PostE S w g none) := by
  have HG := Lib.hid hg
  have HS := Lib.hid hS
  have HSG := Lib.hid hSg
  have HP := Lib.hid (pre_none h0)
  have HWD : Hid (wordOf s = wd) := Lib.hid hwd
  have HC1 := Lib.hid (cut_none hc1)
  have HC2 := Lib.hid (cut_none hc2)
  have HN : Hid (∀ W, Agr S W → Calls Tryz.prog 211 #[.string ⟨wd.toArray⟩] W fun en w' => en = .panicked [{ v := .iface 179 (.agg #[]), recovered := false }] ∧ Below W.heap.size W w') := Lib.hid fun W hW => number_none S hL wd hn (by have := congrArg List.length (word_after s); simp only [List.length_append] at this; rw [hwd] at this; omega) W hW
  clear hg hS hSg h0 hwd hc1 hc2 hn hL
  go_enter Tryz.func149, Tryz.ntmps149
  go_wp2_with (first
    | ((with_reducible refine gate_dst (N := 2) rfl ?_); refine new_at rfl (N := 2) rfl #[.int .i64 0, .int .i64 0, .int .i64 0, .slice none 0 0] 125 (by go_simp) ?_; intro gR w1 HGR HB1 HBE1; have HG1 := Lib.hid (below_blk HBE1.out HG.out); have h1 : w1.cell? ⟨g, 0, none⟩ = some (.string ⟨s.toArray⟩) := (blk_cell HG1.out 0).trans rfl)
    | (go_at_call 146; with_reducible refine (HP.out _).mono ?_; rintro en w2 ⟨rfl, rfl⟩)
    | (go_at_call 210; refine (word_calls g s hl _ HG1.out).mono ?_; rintro en w2 ⟨rfl, hg2, hgr2⟩; rw [HWD.out]; clear h1; have HG2 := Lib.hid hg2; have HGR2 := Lib.hid (grown_trans (grown_below HBE1.out) hgr2); have HR2 := Lib.hid (grown_blk hgr2 HB1.out (fun e => by cases e; have := blk_lt HG.out; rw [HGR.out] at this; omega)); clear hg2 hgr2)
    | (go_at_call 160; with_reducible refine (HC1.out _).mono ?_; rintro en w3 ⟨rfl, rfl⟩)
    | (go_at_call 160; with_reducible refine (HC2.out _).mono ?_; rintro en w3 ⟨rfl, rfl⟩)
    | (go_at_call 211; refine (HN.out _ (HS.out.grown HGR2.out (fun k e => by cases e; exact HSG.out))).mono ?_; rintro en w4 ⟨rfl, hb4⟩; have HR4 := Lib.hid (below_blk hb4 HR2.out); have HG4 := Lib.hid (below_blk hb4 HG2.out); have HGR4 := Lib.hid (grown_trans HGR2.out (grown_below hb4)); clear hb4))
  exact ⟨rfl, rfl, HGR4.out⟩
theorem leafP_calls (S : Snap) (hL : LibOk S) (g : Nat) (s : List UInt8) (hl : s.length ≤ 1073741824) (w : World) (hS : Agr S w) (hSg : S g = none) (hg : w.heap[g]? = some (.cells (pcell s) 182 (0, 0))) (h0 : cutP [40] s = none) :
    Calls Tryz.prog 149 #[.pointer (some ⟨g, 0, none⟩)] w (PostE S w g ((leaf (wordOf s)).map fun e => (e, afterW s))) := by
  cases h1 : cutP [108, 101, 110] (wordOf s) with
  | some d =>
    cases hn : num d with
    | some v =>
      have : leaf (wordOf s) = some (.mk 3 v 0 []) := by unfold leaf; rw [h1]; simp [hn]
      rw [this]; exact leafP_len S hL g s _ d hl w hS hSg hg h0 rfl h1 v hn
    | none =>
      have : leaf (wordOf s) = none := by unfold leaf; rw [h1]; simp [hn]
      rw [this]; exact leafP_len_no S hL g s _ d hl w hS hSg hg h0 rfl h1 hn
  | none =>
    cases h2 : cutP [118] (wordOf s) with
    | some d =>
      cases hn : num d with
      | some v =>
        have : leaf (wordOf s) = some (.mk 2 v 0 []) := by unfold leaf; rw [h1]; simp [h2, hn]
        rw [this]; exact leafP_var S hL g s _ d hl w hS hSg hg h0 rfl h1 h2 v hn
      | none =>
        have : leaf (wordOf s) = none := by unfold leaf; rw [h1]; simp [h2, hn]
        rw [this]; exact leafP_var_no S hL g s _ d hl w hS hSg hg h0 rfl h1 h2 hn
    | none =>
      cases hn : num (wordOf s) with
      | some v =>
        have : leaf (wordOf s) = some (.mk 1 0 v []) := by unfold leaf; rw [h1]; simp [h2, hn]
        rw [this]; exact leafP_num S hL g s _ hl w hS hSg hg h0 rfl h1 h2 v hn
      | none =>
        have : leaf (wordOf s) = none := by unfold leaf; rw [h1]; simp [h2, hn]
        rw [this]; exact leafP_num_no S hL g s _ hl w hS hSg hg h0 rfl h1 h2 hn
end Go.Proofs.YtkopmnhngjbmcaaGreatDoor.Sn

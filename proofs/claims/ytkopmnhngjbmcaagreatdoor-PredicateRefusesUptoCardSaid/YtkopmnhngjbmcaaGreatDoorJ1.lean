/- (paroleref01.Var), Num, Two; (parolelaw28.edited). -/
import Derived.Test.YtkopmnhngjbmcaaGreatDoorB2
import Derived.Test.YtkopmnhngjbmcaaGreatDoorD2
import Derived.Deep.RegionHeld3
namespace Go.Proofs.YtkopmnhngjbmcaaGreatDoor.Sn
open Go Go.RowKit
set_option linter.unusedVariables false
set_option maxRecDepth 100000 in
set_option maxHeartbeats 2000000 in
theorem var_calls (n : Int) (w : World) : Calls Tryz.prog 55 #[.int .i64 n] w fun en w' => en = .returned (.agg #[.int .i64 2, .int .i64 n, .int .i64 0, .slice none 0 0]) ∧ Below w.heap.size w w' := by
  go_enter Tryz.func55, Tryz.ntmps55
  go_wp2_with (first
    | ((with_reducible refine gate_dst (N := 2) rfl ?_); refine new_at rfl (N := 2) rfl #[.int .i64 0, .int .i64 0, .int .i64 0, .slice none 0 0] 125 (by go_simp) ?_; intro g1 w1 HG1 HB1 HBE1)
    | ((with_reducible refine gate_store (t := 125) (p := 2) rfl ?_); refine store_at rfl rfl 125 (.tmp 2) (.tmp 4) rfl g1 #[.int .i64 2, .int .i64 n, .int .i64 0, .slice none 0 0] (by go_simp) (by go_simp) 125 HB1.out size125 rfl (by simp [Value.oneCell']) ?_; intro w4 HB8 HBE4))
  refine bodyPost_ret (results_cell_row rfl _ _ g1 125 #[.int .i64 2, .int .i64 n, .int .i64 0, .slice none 0 0] (0, 0) _ rfl HB8.out Tryz.underlying125 rfl size125) rfl ⟨rfl, ?_⟩
  exact below_grown_new HBE1.out HBE4.out (by rw [HG1.out]; exact Nat.le_refl _)
set_option maxRecDepth 100000 in
set_option maxHeartbeats 2000000 in
theorem num_calls (n : Int) (w : World) : Calls Tryz.prog 57 #[.int .i64 n] w fun en w' => en = .returned (.agg #[.int .i64 1, .int .i64 0, .int .i64 n, .slice none 0 0]) ∧ Below w.heap.size w w' := by
  go_enter Tryz.func57, Tryz.ntmps57
  go_wp2_with (first
    | ((with_reducible refine gate_dst (N := 2) rfl ?_); refine new_at rfl (N := 2) rfl #[.int .i64 0, .int .i64 0, .int .i64 0, .slice none 0 0] 125 (by go_simp) ?_; intro g1 w1 HG1 HB1 HBE1)
    | ((with_reducible refine gate_store (t := 125) (p := 2) rfl ?_); refine store_at rfl rfl 125 (.tmp 2) (.tmp 4) rfl g1 #[.int .i64 1, .int .i64 0, .int .i64 n, .slice none 0 0] (by go_simp) (by go_simp) 125 HB1.out size125 rfl (by simp [Value.oneCell']) ?_; intro w4 HB8 HBE4))
  refine bodyPost_ret (results_cell_row rfl _ _ g1 125 #[.int .i64 1, .int .i64 0, .int .i64 n, .slice none 0 0] (0, 0) _ rfl HB8.out Tryz.underlying125 rfl size125) rfl ⟨rfl, ?_⟩
  exact below_grown_new HBE1.out HBE4.out (by rw [HG1.out]; exact Nat.le_refl _)
set_option maxRecDepth 100000 in
set_option maxHeartbeats 2000000 in
theorem two_calls (op : Int) (x0 x1 x2 x3 y0 y1 y2 y3 : Value) (w : World) : Calls Tryz.prog 56 #[.int .i64 op, .agg #[x0, x1, x2, x3], .agg #[y0, y1, y2, y3]] w fun en w' => (∃ g, en = .returned (.agg #[.int .i64 op, .int .i64 0, .int .i64 0, .slice (some ⟨g, 0, none⟩) 2 2]) ∧ w'.heap[g]? = some (.cells #[x0, x1, x2, x3, y0, y1, y2, y3] 125 (0, 0)) ∧ w.heap.size ≤ g) ∧ Below w.heap.size w w' := by
  go_enter Tryz.func56, Tryz.ntmps56
  go_wp2_with (first
    | ((with_reducible refine gate_dst (N := 4) rfl ?_); refine new_at rfl (N := 4) rfl #[x0, x1, x2, x3] 125 (by go_simp) ?_; intro g1 w1 HG1 HB1 HBE1)
    | ((with_reducible refine gate_dst (N := 5) rfl ?_); refine new_at rfl (N := 5) rfl #[y0, y1, y2, y3] 125 (by go_simp) ?_; intro g2 w2 HG2 HB2 HBE2; have HK1 := Lib.hid (below_blk HBE2.out HB1.out))
    | ((with_reducible refine gate_dst (N := 6) rfl ?_); refine new_at rfl (N := 6) rfl #[.int .i64 0, .int .i64 0, .int .i64 0, .slice none 0 0] 125 (by go_simp) ?_; intro g3 w3 HG3 HB3 HBE3; have HK1 := Lib.hid (below_blk HBE3.out HK1.out); have HK2 := Lib.hid (below_blk HBE3.out HB2.out))
    | ((with_reducible refine gate_dst (N := 8) rfl ?_); refine wpList_load_row rfl 125 (.tmp 4) rfl g1 (by go_simp) 125 _ (0, 0) _ HK1.out Tryz.underlying125 rfl size125 ?_)
    | ((with_reducible refine gate_dst (N := 9) rfl ?_); refine wpList_load_row rfl 125 (.tmp 5) rfl g2 (by go_simp) 125 _ (0, 0) _ HK2.out Tryz.underlying125 rfl size125 ?_)
    | ((with_reducible refine gate_dst (N := 10) rfl ?_); refine slice_at rfl (N := 10) rfl #[x0, x1, x2, x3, y0, y1, y2, y3] 125 2 2 (by go_simp <;> rfl) ?_; intro gs w5 HGS HBS HBE5; have HK3 := Lib.hid (below_blk HBE5.out HB3.out))
    | ((with_reducible refine gate_store (t := 125) (p := 6) rfl ?_); refine store_at rfl rfl 125 (.tmp 6) (.tmp 11) rfl g3 #[.int .i64 op, .int .i64 0, .int .i64 0, .slice (some ⟨gs, 0, none⟩) 2 2] (by go_simp) (by go_simp) 125 HK3.out size125 rfl (by simp [Value.oneCell']) ?_; intro w6 HB6 HBE6))
  have hb3 := below_trans (below_trans HBE1.out HBE2.out) HBE3.out
  have hb5 := below_trans hb3 HBE5.out
  refine bodyPost_ret (results_cell_row rfl _ _ g3 125 #[.int .i64 op, .int .i64 0, .int .i64 0, .slice (some ⟨gs, 0, none⟩) 2 2] (0, 0) _ rfl HB6.out Tryz.underlying125 rfl size125) rfl ⟨⟨gs, rfl, grown_blk HBE6.out HBS.out (fun e => ?_), ?_⟩, ?_⟩
  · cases e
    have := blk_lt HB3.out
    have := HGS.out
    omega
  · rw [HGS.out]; exact hb3.size
  · exact below_grown_new hb5 HBE6.out (by rw [HG3.out]; exact (below_trans HBE1.out HBE2.out).size)
/-- what edited answers -/
def editS (s : List UInt8) (at_ by_ : Nat) : List UInt8 := if s = [] then [UInt8.ofNat by_] else s.take (at_ % s.length) ++ [UInt8.ofNat by_] ++ s.drop (at_ % s.length + 1)
theorem editS_length (s : List UInt8) (m b : Nat) : (editS s m b).length ≤ s.length + 1 := by
  unfold editS
  split
  · simp
  · rename_i h
    have : 0 < s.length := List.length_pos_iff.2 h
    have := Nat.mod_lt m this
    simp
    omega
theorem conv1 (W : World) (g : Nat) (c : Nat) (hc : c < 256) (hg : W.heap[g]? = some (.cells #[.int .u8 (c : Int)] 5 (0, 0))) : (convert 79 9 (.slice (some ⟨g, 0, none⟩) 1 1)).run Tryz.prog W = .ok (.string ⟨#[UInt8.ofNat c]⟩) W := by
  have hx : ((UInt8.ofNat c).toNat : Int) = c := by
    rw [UInt8.toNat_ofNat']
    omega
  refine run_convert_bytes_back (P := Tryz.prog) W 79 9 5 ⟨g, 0, none⟩ 1 [UInt8.ofNat c] (by kernel_rfl) (by kernel_rfl) (by kernel_rfl) (fun j hj => ?_)
  have : j = 0 := by simpa using hj
  subst this
  rw [add_plain, blk_cell hg]
  simp only [List.getElem_cons_zero, hx]
  rfl
theorem conv1_new (W : World) (c : Nat) (hc : c < 256) : (convert 79 9 (.slice (some ⟨W.heap.size, 0, none⟩) 1 1)).run Tryz.prog (W.alloc (.cells #[.int .u8 (c : Int)] 5 (0, 0))) = .ok (.string ⟨#[UInt8.ofNat c]⟩) (W.alloc (.cells #[.int .u8 (c : Int)] 5 (0, 0))) :=
  conv1 _ _ c hc (blk_new W _)
theorem ext_take (s : List UInt8) (j : Nat) : (⟨s.toArray⟩ : ByteArray).extract 0 j = ⟨(s.take j).toArray⟩ := by
  apply ByteArray.ext
  simp [ByteArray.data_extract]
theorem ext_drop (s : List UInt8) (j n : Nat) (hn : s.length = n) : (⟨s.toArray⟩ : ByteArray).extract j n = ⟨(s.drop j).toArray⟩ := by
  apply ByteArray.ext
  subst hn
  simp [ByteArray.data_extract]
  rw [List.take_of_length_le (by simp)]
section
variable {P : Program} {ops : Array Oper} {rest : List Oper} {o : Oper} {a : Act} {Q : Exit → Act → World → Prop}
theorem conv_w {W : World} (hgd : o.guard = none) (s t : TypeId) (x : Operand) (v u : Value) (ho : o.op = .convert s t x) (hx : a.eval x = v)
    (hr : (convert s t v).run P W = .ok u W) (h : wpList P ops Q rest (a.put o.dst u) W) : wpList P ops Q (o :: rest) a W := by
  refine event_run hgd (v := u) (w1 := W) ?_ h
  unfold execOp
  simp only [ho, hx, hr, Sem.run_bind, Sem.run_pure, Result.andThen_ok]
end
set_option maxRecDepth 100000 in
set_option maxHeartbeats 2000000 in
theorem edited_calls (s : List UInt8) (hl : s.length ≤ 1073741824) (v0 v1 : Value) (m b : Nat) (hm : m < 256) (hb : b < 256) (w : World) :
    Calls Tryz.prog 19 #[.string ⟨s.toArray⟩, .agg #[v0, v1, .int .u8 m, .int .u8 b]] w fun en w' => en = .returned (.string ⟨(editS s m b).toArray⟩) ∧ Below w.heap.size w w' := by
  by_cases hs : s = []
  · subst hs
    go_enter Tryz.func19, Tryz.ntmps19
    go_wp2_with (first
      | ((with_reducible refine gate_dst (N := 3) rfl ?_); refine box4 rfl (N := 3) rfl v0 v1 (.int .u8 m) (.int .u8 b) 27 (by go_simp) ?_; intro g1 w1 HG1 HB1 HBE1 q0 q1 q2 q3)
      | ((with_reducible refine gate_dst (N := 10) rfl ?_); refine slice_at rfl (N := 10) rfl #[.int .u8 b] 5 1 1 (by go_simp <;> rfl) ?_; intro gs w2 HGS HBS HBE2)
      | ((with_reducible refine gate_dst (N := 11) rfl ?_); refine conv_w rfl 79 9 _ _ _ rfl rfl (conv1 _ _ b hb HBS.out) ?_))
    go_ret
    exact ⟨rfl, below_trans HBE1.out HBE2.out⟩
  · obtain ⟨n, hn⟩ : ∃ n, s.length = n := ⟨_, rfl⟩
    have hn0 : 0 < n := by rw [← hn]; exact List.length_pos_iff.2 hs
    have hem : (s.toArray.toList.isEmpty) = false := by cases s with | nil => exact absurd rfl hs | cons _ _ => rfl
    obtain ⟨j, hj⟩ : ∃ j, m % n = j := ⟨_, rfl⟩
    have hjn : j < n := by rw [← hj]; exact Nat.mod_lt m hn0
    have hji : (m : Int) % (n : Int) = (j : Int) := by omega
    have hsz : (⟨s.toArray⟩ : ByteArray).size = n := hn
    go_enter Tryz.func19, Tryz.ntmps19
    go_wp2_with (first
      | ((with_reducible refine gate_dst (N := 3) rfl ?_); refine box4 rfl (N := 3) rfl v0 v1 (.int .u8 m) (.int .u8 b) 27 (by go_simp) ?_; intro g1 w1 HG1 HB1 HBE1 q0 q1 q2 q3))
    have b0 : (0 : Int) ≤ (j : Int) := by omega
    have b1 : (j : Int) ≤ (n : Int) := by omega
    have b2 : (j : Int) + 1 ≤ (n : Int) := by omega
    have b3 : (0 : Int) ≤ (j : Int) + 1 := by omega
    have b4 : IntKind.i64.wrap ((j : Int) + 1) = (j : Int) + 1 := by
      simp [IntKind.wrap, IntKind.bits, IntKind.signed]; omega
    have hcv : (convert 79 9 (.slice (some ⟨w1.heap.size, 0, none⟩) 1 1)).run Tryz.prog (w1.alloc (.cells #[.int .u8 (b : Int)] 5 (0, 0))).drew = .ok (.string ⟨#[UInt8.ofNat b]⟩) (w1.alloc (.cells #[.int .u8 (b : Int)] 5 (0, 0))).drew := conv1 _ _ b hb (blk_new w1 _)
    have hcw : (convert 79 9 (.slice (some ⟨w1.drew.heap.size, 0, none⟩) 1 1)).run Tryz.prog (w1.drew.alloc (.cells #[.int .u8 (b : Int)] 5 (0, 0))) = .ok (.string ⟨#[UInt8.ofNat b]⟩) (w1.drew.alloc (.cells #[.int .u8 (b : Int)] 5 (0, 0))) := conv1 _ _ b hb (blk_new w1.drew _)
    have HMK : Hid (∀ W, Below w1.heap.size w1 W → Below w1.heap.size w1 W ∧ W.cell? ⟨g1, 3, none⟩ = some (.int .u8 b)) := Lib.hid fun W hW =>
      ⟨hW, (blk_cell (below_blk hW HB1.out) 3).trans rfl⟩
    go_region_held (fun w' => Below w1.heap.size w1 w' ∧ w'.cell? ⟨g1, 3, none⟩ = some (.int .u8 b))
      (first | exact HMK.out _ (Below.refl _ _).drew | exact HMK.out _ ((Below.refl _ w1).alloc (Nat.le_refl _) _).drew | exact HMK.out _ ((Below.refl _ w1).alloc (Nat.le_refl _) _) | exact HMK.out _ ((Below.refl _ w1).drew.alloc (Nat.le_refl _) _))
      (fail)
    all_goals
      have HBZ := (‹Below w1.heap.size w1 _ ∧ _›).1
      go_wp2
      go_ret
      refine ⟨?_, below_trans HBE1.out HBZ⟩
      show Ending.returned (.string ((⟨s.toArray⟩ : ByteArray).extract 0 j ++ ⟨[UInt8.ofNat b].toArray⟩ ++ (⟨s.toArray⟩ : ByteArray).extract (j + 1) n)) = _
      rw [ext_take s j, ext_drop s (j + 1) n hn, ba_append, ba_append]
      unfold editS
      rw [if_neg hs, hn, hj]
end Go.Proofs.YtkopmnhngjbmcaaGreatDoor.Sn

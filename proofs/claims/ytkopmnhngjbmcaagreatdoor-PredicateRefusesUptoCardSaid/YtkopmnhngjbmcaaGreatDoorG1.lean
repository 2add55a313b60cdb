/- parsed; (paroleref01.Same). -/
import Derived.Test.YtkopmnhngjbmcaaGreatDoorF3
import Derived.Lib.QuietBelow
namespace Go.Proofs.YtkopmnhngjbmcaaGreatDoor.Sn
open Go Go.RowKit
set_option linter.unusedVariables false
theorem size36 : (Tryz.prog.info? 36).map (·.size) = some 4 := by kernel_rfl
/-- what parsed answers -/
def PostQ (S : Snap) (w : World) (r : Option Cn) (en : Ending) (w' : World) : Prop :=
  match r with
  | some e => ∃ (A B : Option Addr) (c d : Nat) (S' : Snap), en = .returned (.agg #[.int .i64 e.op, .slice A e.a.length c, .slice B e.c.length d, .int .i64 0]) ∧ RepC S' e [.int .i64 e.op, .slice A e.a.length c, .slice B e.c.length d] ∧ Out none S w S' w'
  | none => en = .returned (.agg #[.int .i64 0, .slice none 0 0, .slice none 0 0, .int .i64 3]) ∧ Below w.heap.size w w'
set_option maxRecDepth 100000 in
set_option maxHeartbeats 2000000 in
theorem parsed_calls (s : List UInt8) (hl : s.length ≤ 1073741824) (S : Snap) (hL : LibOk S) (w : World) (hS : Agr S w) : Calls Tryz.prog 17 #[.string ⟨s.toArray⟩] w (PostQ S w (parseL s)) := by
  have HX : Hid (∀ W, Agr S W → Calls Tryz.prog 61 #[.string ⟨s.toArray⟩] W (PostP S W (parseL s))) := Lib.hid fun W hW => parse_calls s hl S hL W hW
  have HS := Lib.hid hS
  clear hS hL
  cases hp : parseL s with
  | none =>
    have HX2 : Hid (∀ W, Agr S W → Calls Tryz.prog 61 #[.string ⟨s.toArray⟩] W fun en w' => en = .returned (.tuple #[.agg #[.int .i64 0, .slice none 0 0, .slice none 0 0], .int .i64 3]) ∧ Below W.heap.size W w') := Lib.hid fun W hW => by
      have := HX.out W hW
      rw [hp] at this; exact this
    clear hp HX
    go_enter Tryz.func17, Tryz.ntmps17
    go_wp2_with (first
      | ((with_reducible refine gate_dst (N := 2) rfl ?_); refine new_at rfl (N := 2) rfl #[.int .i64 0, .slice none 0 0, .slice none 0 0, .int .i64 0] 36 (by go_simp) ?_; intro gR w1 HGR HBR HBE1)
      | (go_at_call 61; refine (HX2.out _ (HS.out.below HBE1.out)).mono ?_; rintro en w2 ⟨rfl, hb2⟩; have HR2 := Lib.hid (below_blk hb2 HBR.out); have HB2 := Lib.hid (below_trans HBE1.out hb2); clear hb2)
      | ((with_reducible refine gate_dst (N := 3) rfl ?_); refine new_at rfl (N := 3) rfl #[.int .i64 0, .slice none 0 0, .slice none 0 0] 25 (by go_simp) ?_; intro g3 w3 HG3 HB3 HBE3; have HR3 := Lib.hid (below_blk HBE3.out HR2.out))
      | ((with_reducible refine gate_store (t := 25) (p := 3) rfl ?_); refine store_at rfl rfl 25 (.tmp 3) (.tmp 8) rfl g3 #[.int .i64 0, .slice none 0 0, .slice none 0 0] (by go_simp) (by go_simp) 25 HB3.out size25 rfl (by simp [Value.oneCell']) ?_; intro w4 HB4 HBE4; have HR4 := Lib.hid (grown_blk HBE4.out HR3.out (fun e => by cases e; have := blk_lt HR2.out; have := HG3.out; omega)))
      | ((with_reducible refine gate_dst (N := 10) rfl ?_); refine wpList_load_row rfl 25 (.tmp 3) rfl g3 (by go_simp) 25 _ (0, 0) _ HB4.out Tryz.underlying25 rfl size25 ?_)
      | ((with_reducible refine gate_store (t := 36) (p := 2) rfl ?_); refine store_at rfl rfl 36 (.tmp 2) (.tmp 12) rfl gR #[.int .i64 0, .slice none 0 0, .slice none 0 0, .int .i64 3] (by go_simp) (by go_simp) 36 HR4.out size36 rfl (by simp [Value.oneCell']) ?_; intro w5 HB5 HBE5))
    refine bodyPost_ret (results_cell_row rfl _ _ gR 36 #[.int .i64 0, .slice none 0 0, .slice none 0 0, .int .i64 3] (0, 0) _ rfl HB5.out Tryz.underlying36 rfl size36) rfl ⟨rfl, ?_⟩
    exact below_grown_new (below_grown_new (below_trans HB2.out HBE3.out) HBE4.out (by rw [HG3.out]; exact HB2.out.size)) HBE5.out (by rw [HGR.out]; exact Nat.le_refl _)
  | some e =>
    have HX2 : Hid (∀ W, Agr S W → Calls Tryz.prog 61 #[.string ⟨s.toArray⟩] W fun en w' => ∃ (cs : List Value) (S' : Snap), en = .returned (.tuple #[.agg cs.toArray, .int .i64 0]) ∧ RepC S' e cs ∧ Out none S W S' w') := Lib.hid fun W hW => by
      have := HX.out W hW
      rw [hp] at this; exact this
    clear hp HX
    go_enter Tryz.func17, Tryz.ntmps17
    go_wp2_with (first
      | ((with_reducible refine gate_dst (N := 2) rfl ?_); refine new_at rfl (N := 2) rfl #[.int .i64 0, .slice none 0 0, .slice none 0 0, .int .i64 0] 36 (by go_simp) ?_; intro gR w1 HGR HBR HBE1)
      | (go_at_call 61; refine (HX2.out _ (HS.out.below HBE1.out)).mono ?_; rintro en w2 ⟨cs, S', rfl, hrep, hout⟩; obtain ⟨A, c, B, dd, rfl, hc, hdd, hrow, hrow2⟩ := hrep.open_; have HREP := Lib.hid (RepC.close e A B c dd hc hdd hrow hrow2); have HOUT := Lib.hid hout; have hb2 := hout.below; have HR2 := Lib.hid (below_blk hb2 HBR.out); have HB2 := Lib.hid (below_trans HBE1.out hb2); clear hb2 hrep hout hc hdd hrow hrow2)
      | ((with_reducible refine gate_dst (N := 3) rfl ?_); refine new_at rfl (N := 3) rfl #[.int .i64 0, .slice none 0 0, .slice none 0 0] 25 (by go_simp) ?_; intro g3 w3 HG3 HB3 HBE3; have HR3 := Lib.hid (below_blk HBE3.out HR2.out))
      | ((with_reducible refine gate_store (t := 25) (p := 3) rfl ?_); refine store_at rfl rfl 25 (.tmp 3) (.tmp 8) rfl g3 #[.int .i64 e.op, .slice A e.a.length c, .slice B e.c.length dd] (by go_simp) (by go_simp) 25 HB3.out size25 rfl (by simp [Value.oneCell']) ?_; intro w4 HB4 HBE4; have HR4 := Lib.hid (grown_blk HBE4.out HR3.out (fun e => by cases e; have := blk_lt HR2.out; have := HG3.out; omega)))
      | ((with_reducible refine gate_dst (N := 10) rfl ?_); refine wpList_load_row rfl 25 (.tmp 3) rfl g3 (by go_simp) 25 _ (0, 0) _ HB4.out Tryz.underlying25 rfl size25 ?_)
      | ((with_reducible refine gate_store (t := 36) (p := 2) rfl ?_); refine store_at rfl rfl 36 (.tmp 2) (.tmp 12) rfl gR #[.int .i64 e.op, .slice A e.a.length c, .slice B e.c.length dd, .int .i64 0] (by go_simp) (by go_simp) 36 HR4.out size36 rfl (by simp [Value.oneCell']) ?_; intro w5 HB5 HBE5))
    refine bodyPost_ret (results_cell_row rfl _ _ gR 36 #[.int .i64 e.op, .slice A e.a.length c, .slice B e.c.length dd, .int .i64 0] (0, 0) _ rfl HB5.out Tryz.underlying36 rfl size36) rfl ?_
    have hgS : S' gR = none := HOUT.out.new gR (HS.out.new (by rw [HGR.out]; exact Nat.le_refl _)) (blk_lt HBR.out)
    have h3S : S' g3 = none := HOUT.out.agr.new (by rw [HG3.out]; exact Nat.le_refl _)
    refine ⟨A, B, c, dd, S', rfl, HREP.out, HOUT.out.le, ((HOUT.out.agr.below HBE3.out).grown HBE4.out (fun k e => by cases e; exact h3S)).grown HBE5.out (fun k e => by cases e; exact hgS), fun b hb hlt => HOUT.out.new b hb (Nat.lt_of_lt_of_le hlt HBE1.out.size), ?_⟩
    exact grown_below (below_grown_new (below_grown_new (below_trans HB2.out HBE3.out) HBE4.out (by rw [HG3.out]; exact HB2.out.size)) HBE5.out (by rw [HGR.out]; exact Nat.le_refl _))
end Go.Proofs.YtkopmnhngjbmcaaGreatDoor.Sn

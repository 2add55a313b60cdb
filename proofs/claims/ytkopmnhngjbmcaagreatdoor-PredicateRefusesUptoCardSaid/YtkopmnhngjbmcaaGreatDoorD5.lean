/- (predicate.Text), written; (parser.skip), number. -/
import Derived.Test.YtkopmnhngjbmcaaGreatDoorD4
namespace Go.Proofs.YtkopmnhngjbmcaaGreatDoor.Sn
open Go Go.RowKit
set_option linter.unusedVariables false
theorem size32 : (Tryz.prog.info? 32).map (·.size) = some 2 := by kernel_rfl
/-- what Text answers: the text, and the error -/
def textS (e : Cn) : List UInt8 := if okP e = true then txC e else []
def textE (e : Cn) : Int := if okP e = true then 0 else 3
set_option maxRecDepth 100000 in
set_option maxHeartbeats 2000000 in
theorem text_calls (e : Cn) (hsz : e.size < 1073741824) (S : Snap) (hL : LibOk S) (w : World) (cs : List Value) (hS : Agr S w) (hr : RepC S e cs) :
    Calls Tryz.prog 59 #[.agg cs.toArray] w fun en w' => en = .returned (.tuple #[.string ⟨(textS e).toArray⟩, .int .i64 (textE e)]) ∧ Below w.heap.size w w' := by
  obtain ⟨A, c, B, dd, rfl, hc, hdd, hrow, hrow2⟩ := hr.open_
  have HREP := Lib.hid (RepC.close e A B c dd hc hdd hrow hrow2)
  have HS := Lib.hid hS
  have HLL := Lib.hid hL
  have HP : Hid (∀ W, Below w.heap.size w W → Calls Tryz.prog 99 #[.agg #[.int .i64 e.op, .slice A e.a.length c, .slice B e.c.length dd]] W fun en w' => en = .returned (.bool (okP e)) ∧ Below W.heap.size W w') := Lib.hid fun W hW =>
    plain_calls e (by omega) S W [.int .i64 e.op, .slice A e.a.length c, .slice B e.c.length dd] (hS.below hW) HREP.out
  have HC : Hid (okP e = true → ∀ W, Below w.heap.size w W → Calls Tryz.prog 100 #[.agg #[.int .i64 e.op, .slice A e.a.length c, .slice B e.c.length dd]] W fun en w' => en = .returned (.string ⟨(txC e).toArray⟩) ∧ Below W.heap.size W w') := Lib.hid fun ho W hW =>
    condT_calls 12 4 (by decide) (by decide) e.size e (Nat.le_refl _) hsz 1 (okTest_c ho) S hL W [.int .i64 e.op, .slice A e.a.length c, .slice B e.c.length dd] (hS.below hW) HREP.out
  clear hS hr hrow hrow2 hL
  cases hO : okP e
  · have HT : Hid (textS e = [] ∧ textE e = 3) := Lib.hid (by unfold textS textE; rw [hO]; exact ⟨rfl, rfl⟩)
    rw [HT.out.1, HT.out.2]
    rw [hO] at HP
    clear hO HC
    go_enter Tryz.func59, Tryz.ntmps59
    go_wp2_with (first
      | ((with_reducible refine gate_dst (N := 1) rfl ?_); refine new_at rfl (N := 1) rfl #[.int .i64 e.op, .slice A e.a.length c, .slice B e.c.length dd] 25 (by go_simp) ?_; intro g1 w1 HG1 HB1 HBE1)
      | ((with_reducible refine gate_dst (N := 4) rfl ?_); refine wpList_load_row rfl 25 (.tmp 1) rfl g1 (by go_simp) 25 _ (0, 0) _ HB1.out Tryz.underlying25 rfl size25 ?_)
      | (go_at_call 99; refine (HP.out _ HBE1.out).mono ?_; rintro en w2 ⟨rfl, hb2⟩; have HB2 := Lib.hid (below_trans HBE1.out hb2); clear hb2))
    go_ret2
    exact ⟨rfl, HB2.out⟩
  · have HT : Hid (textS e = txC e ∧ textE e = 0) := Lib.hid (by unfold textS textE; rw [hO]; exact ⟨rfl, rfl⟩)
    have HC2 := Lib.hid (HC.out hO)
    rw [HT.out.1, HT.out.2]
    rw [hO] at HP
    clear hO HC
    go_enter Tryz.func59, Tryz.ntmps59
    go_wp2_with (first
      | ((with_reducible refine gate_dst (N := 1) rfl ?_); refine new_at rfl (N := 1) rfl #[.int .i64 e.op, .slice A e.a.length c, .slice B e.c.length dd] 25 (by go_simp) ?_; intro g1 w1 HG1 HB1 HBE1)
      | ((with_reducible refine gate_dst (N := 4) rfl ?_); refine wpList_load_row rfl 25 (.tmp 1) rfl g1 (by go_simp) 25 _ (0, 0) _ HB1.out Tryz.underlying25 rfl size25 ?_)
      | ((with_reducible refine gate_dst (N := 7) rfl ?_); refine wpList_load_row rfl 25 (.tmp 1) rfl g1 (by go_simp) 25 _ (0, 0) _ HK1.out Tryz.underlying25 rfl size25 ?_)
      | (go_at_call 99; refine (HP.out _ HBE1.out).mono ?_; rintro en w2 ⟨rfl, hb2⟩; have HK1 := Lib.hid (below_blk hb2 HB1.out); have HB2 := Lib.hid (below_trans HBE1.out hb2); clear hb2)
      | (go_at_call 100; refine (HC2.out _ HB2.out).mono ?_; rintro en w3 ⟨rfl, hb3⟩; have HB3 := Lib.hid (below_trans HB2.out hb3); clear hb3))
    go_ret2
    exact ⟨rfl, HB3.out⟩
set_option maxRecDepth 100000 in
set_option maxHeartbeats 2000000 in
theorem written_calls (e : Cn) (hsz : e.size < 1073741824) (S : Snap) (hL : LibOk S) (w : World) (cs : List Value) (hS : Agr S w) (hr : RepC S e cs) :
    Calls Tryz.prog 15 #[.agg cs.toArray] w fun en w' => en = .returned (.agg #[.string ⟨(textS e).toArray⟩, .int .i64 (textE e)]) ∧ Below w.heap.size w w' := by
  obtain ⟨A, c, B, dd, rfl, hc, hdd, hrow, hrow2⟩ := hr.open_
  have HREP := Lib.hid (RepC.close e A B c dd hc hdd hrow hrow2)
  have HT : Hid (∀ W, Below w.heap.size w W → Calls Tryz.prog 59 #[.agg #[.int .i64 e.op, .slice A e.a.length c, .slice B e.c.length dd]] W fun en w' => en = .returned (.tuple #[.string ⟨(textS e).toArray⟩, .int .i64 (textE e)]) ∧ Below W.heap.size W w') := Lib.hid fun W hW =>
    text_calls e hsz S hL W [.int .i64 e.op, .slice A e.a.length c, .slice B e.c.length dd] (hS.below hW) HREP.out
  clear hS hr hrow hrow2 hL
  go_enter Tryz.func15, Tryz.ntmps15
  go_wp2_with (first
    | ((with_reducible refine gate_dst (N := 1) rfl ?_); refine new_at rfl (N := 1) rfl #[.int .i64 e.op, .slice A e.a.length c, .slice B e.c.length dd] 25 (by go_simp) ?_; intro g1 w1 HG1 HB1 HBE1)
    | ((with_reducible refine gate_dst (N := 2) rfl ?_); refine new_at rfl (N := 2) rfl #[.string ⟨#[]⟩, .int .i64 0] 32 (by go_simp) ?_; intro g2 w2 HG2 HB2 HBE2; have HK1 := Lib.hid (below_blk HBE2.out HB1.out))
    | ((with_reducible refine gate_dst (N := 6) rfl ?_); refine wpList_load_row rfl 25 (.tmp 1) rfl g1 (by go_simp) 25 _ (0, 0) _ HK1.out Tryz.underlying25 rfl size25 ?_)
    | (go_at_call 59; refine (HT.out _ (below_trans HBE1.out HBE2.out)).mono ?_; rintro en w3 ⟨rfl, hb3⟩; have HB3 := Lib.hid hb3; have HK2 := Lib.hid (below_blk hb3 HB2.out); clear hb3)
    | ((with_reducible refine gate_store (t := 32) (p := 2) rfl ?_); refine store_at rfl rfl 32 (.tmp 2) (.tmp 12) rfl g2 #[.string ⟨(textS e).toArray⟩, .int .i64 (textE e)] (by go_simp) (by go_simp) 32 HK2.out size32 rfl (by simp [Value.oneCell']) ?_; intro w4 HB4 HBE4))
  refine bodyPost_ret (results_cell_row rfl _ _ g2 32 #[.string ⟨(textS e).toArray⟩, .int .i64 (textE e)] (0, 0) _ rfl HB4.out Tryz.underlying32 rfl size32) rfl ⟨rfl, ?_⟩
  exact below_grown_new (below_trans (below_trans HBE1.out HBE2.out) HB3.out) HBE4.out (by rw [HG2.out]; exact HBE1.out.size)
end Go.Proofs.YtkopmnhngjbmcaaGreatDoor.Sn

/- What (paroleref06.Stmt) asks of an assertion, but for its condition. -/
import Derived.Test.YtkopmnhngjbmcaaGreatDoorC3
import Derived.Test.YtkopmnhngjbmcaaGreatDoorB2
import Derived.Laws.ResultCell
namespace Go.Proofs.YtkopmnhngjbmcaaGreatDoor.Sn
open Go Go.RowKit
set_option linter.unusedVariables false
theorem size234 : (Tryz.prog.info? 234).map (·.size) = some 9 := by kernel_rfl
theorem results_row_tmp {P : Program} {fn : Func} {p u : Tmp} {ty : TypeId} (h : fn.results = #[.cell p ty, .tmp u]) (tmps : Array Value) (w : World) (g : Nat) (t : TypeId) (cs : Array Value) (fr : Nat × Nat) (d : TypeDesc)
    (hp : tmps.getD p undef = .pointer (some ⟨g, 0, none⟩)) (hg : w.heap[g]? = some (.cells cs t fr))
    (hu : P.underlying ty = some d) (hd : (match d with | .struct _ | .array _ _ => true | _ => false) = true) (hi : (P.info? ty).map (·.size) = some cs.size) :
    (results fn tmps).run P w = .ok (.tuple #[.agg cs, tmps.getD u undef]) w := by
  rw [results_cell_tmp h, hp]
  simp only [asAddr, Sem.run_pure, Result.andThen_ok, run_loadVar_row w g t ty cs fr d hg hu hd hi]
def use23 : Array Value := #[.int .i64 0, .int .i64 0, .bool false, .bool false, .bool false, .bool true, .bool false, .bool false, .bool false]
set_option maxRecDepth 100000 in
set_option maxHeartbeats 4000000 in
theorem control23_calls (w : World) : Calls Tryz.prog 188 #[.int .i64 23] w fun en w' => en = .returned (.tuple #[.agg use23, .bool true]) ∧ Below w.heap.size w w' := by
  go_enter Tryz.func188, Tryz.ntmps188
  go_wp2_with (first
    | ((with_reducible refine gate_dst (N := 2) rfl ?_); refine new_at rfl (N := 2) rfl #[.int .i64 0, .int .i64 0, .bool false, .bool false, .bool false, .bool false, .bool false, .bool false, .bool false] 234 (by go_simp) ?_; intro g1 w1 HG1 HB1 HBE1)
    | ((with_reducible refine gate_store (t := 234) (p := 2) rfl ?_); refine store_at rfl rfl 234 (.tmp 2) (.tmp 29) rfl g1 use23 (by go_simp) (by go_simp; rfl) 234 HB1.out size234 rfl (by simp [use23, Value.oneCell']) ?_; intro w2 HB2 HBE2))
  refine bodyPost_ret (results_row_tmp rfl _ _ g1 234 use23 (0, 0) _ rfl HB2.out Tryz.underlying234 rfl size234) rfl ⟨rfl, below_grown_new HBE1.out HBE2.out (by rw [HG1.out]; exact Nat.le_refl _)⟩
set_option maxRecDepth 100000 in
set_option maxHeartbeats 4000000 in
theorem use23_calls (w : World) : Calls Tryz.prog 130 #[.int .i64 23] w fun en w' => en = .returned (.tuple #[.agg use23, .bool true]) ∧ Below w.heap.size w w' := by
  go_enter Tryz.func130, Tryz.ntmps130
  go_wp2_with (first
    | ((with_reducible refine gate_dst (N := 2) rfl ?_); refine new_at rfl (N := 2) rfl #[.int .i64 0, .int .i64 0, .bool false, .bool false, .bool false, .bool false, .bool false, .bool false, .bool false] 234 (by go_simp) ?_; intro g1 w1 HG1 HB1 HBE1)
    | (go_at_call 188; refine (control23_calls _).mono ?_; rintro en w2 ⟨rfl, hb2⟩; have HBE2 := Lib.hid hb2; clear hb2; have HK1 := Lib.hid (below_blk HBE2.out HB1.out))
    | ((with_reducible refine gate_store (t := 234) (p := 2) rfl ?_); refine store_at rfl rfl 234 (.tmp 2) (.tmp 47) rfl g1 use23 (by go_simp) (by go_simp) 234 HK1.out size234 rfl (by simp [use23, Value.oneCell']) ?_; intro w3 HB3 HBE3))
  refine bodyPost_ret (results_row_tmp rfl _ _ g1 234 use23 (0, 0) _ rfl HB3.out Tryz.underlying234 rfl size234) rfl ⟨rfl, below_grown_new (below_trans HBE1.out HBE2.out) HBE3.out (by rw [HG1.out]; exact Nat.le_refl _)⟩
set_option maxRecDepth 100000 in
set_option maxHeartbeats 4000000 in
theorem number6_calls (x y : Array Value) (n : Int) (w : World) :
    Calls Tryz.prog 132 #[.agg x, .agg y, .int .i64 0, .int .i64 n] w fun en w' => en = .returned (.bool (n == 0)) ∧ Below w.heap.size w w' := by
  go_enter Tryz.func132, Tryz.ntmps132
  go_wp2_with (first
    | ((with_reducible refine gate_dst (N := 4) rfl ?_); refine new_at rfl (N := 4) rfl x 99 (by go_simp) ?_; intro g1 w1 HG1 HB1 HBE1)
    | ((with_reducible refine gate_dst (N := 5) rfl ?_); refine new_at rfl (N := 5) rfl y 86 (by go_simp) ?_; intro g2 w2 HG2 HB2 HBE2))
  go_ret
  exact ⟨rfl, below_trans HBE1.out HBE2.out⟩
set_option maxRecDepth 100000 in
set_option maxHeartbeats 4000000 in
theorem noExpr0_calls (w : World) :
    Calls Tryz.prog 134 #[.agg #[.int .i64 0, .int .i64 0, .int .i64 0, .slice none 0 0]] w fun en w' => en = .returned (.bool true) ∧ Below w.heap.size w w' := by
  go_enter Tryz.func134, Tryz.ntmps134
  go_wp2_with (first
    | ((with_reducible refine gate_dst (N := 1) rfl ?_); refine box4 rfl (N := 1) rfl (.int .i64 0) (.int .i64 0) (.int .i64 0) (.slice none 0 0) 125 (by go_simp) ?_; intro g1 w1 HG1 HB1 HBE1 q0 q1 q2 q3))
  go_ret
  exact ⟨rfl, HBE1.out⟩
theorem okTest_sz {V R : Int} (e : Cn) : okTest V R e = inR 1 (szC V R 1 e) 60 := by
  unfold okTest szC
  cases h : okC V R 1 e
  · rw [if_neg (by simp)]; simp [inR]
  · have := e.size_eq
    rw [if_pos rfl]
    by_cases h6 : e.size ≤ 60
    · rw [inR_true.2 ⟨by omega, by omega⟩]; simp [h6]
    · rw [inR_false.2 (by omega)]; simp [h6]
set_option maxRecDepth 100000 in
set_option maxHeartbeats 4000000 in
theorem test6_calls (V : Int) (hV : 0 ≤ V ∧ V ≤ 1000) (R Rc : Nat) (hR : R ≤ 1000) (AR : Option Addr) (k0 k1 k2 k3 k4 k5 k6 k8 k10 k11 : Value) (e : Cn) (hsz : e.size < 1152921504606846976) (S : Snap) (w : World) (cs : List Value) (hS : Agr S w) (hr : RepC S e cs) :
    Calls Tryz.prog 135 #[.agg #[k0, k1, k2, k3, k4, k5, k6, .int .i64 V, k8, .slice AR R Rc, k10, k11], .agg cs.toArray] w fun en w' => en = .returned (.bool (okTest V R e)) ∧ Below w.heap.size w w' := by
  obtain ⟨A, c, B, dd, rfl, hc, hdd, hrow, hrow2⟩ := hr.open_
  have HREP := Lib.hid (RepC.close e A B c dd hc hdd hrow hrow2)
  have HS := Lib.hid hS
  clear hS hr hrow hrow2
  go_enter Tryz.func135, Tryz.ntmps135
  go_wp2_with (first
    | ((with_reducible refine gate_dst (N := 2) rfl ?_); refine new_at rfl (N := 2) rfl #[k0, k1, k2, k3, k4, k5, k6, .int .i64 V, k8, .slice AR R Rc, k10, k11] 99 (by go_simp) ?_; intro g1 w1 HG1 HB1 HBE1)
    | ((with_reducible refine gate_dst (N := 3) rfl ?_); refine new_at rfl (N := 3) rfl #[.int .i64 e.op, .slice A e.a.length c, .slice B e.c.length dd] 25 (by go_simp) ?_; intro g2 w2 HG2 HB2 HBE2; have HK1 := Lib.hid (below_blk HBE2.out HB1.out))
    | ((with_reducible refine gate_dst (N := 5) rfl ?_); refine wpList_load_row rfl 99 (.tmp 2) rfl g1 (by go_simp) 99 _ (0, 0) _ HK1.out Tryz.underlying99 rfl size99 ?_)
    | ((with_reducible refine gate_dst (N := 6) rfl ?_); refine wpList_load_row rfl 25 (.tmp 3) rfl g2 (by go_simp) 25 _ (0, 0) _ HB2.out Tryz.underlying25 rfl size25 ?_)
    | (go_at_call 190; refine (cond6_calls V hV R Rc hR AR k0 k1 k2 k3 k4 k5 k6 k8 k10 k11 e.size e (Nat.le_refl _) hsz 1 S w2 [.int .i64 e.op, .slice A e.a.length c, .slice B e.c.length dd] ((HS.out.below HBE1.out).below HBE2.out) HREP.out).mono ?_; rintro en w3 ⟨rfl, hb3⟩; have HB3 := Lib.hid hb3; clear hb3)
    | (go_at_call 131; refine (in6_calls _ _ _ _).mono ?_; rintro en w4 ⟨rfl, rfl⟩))
  go_ret
  exact ⟨by rw [okTest_sz]; rfl, below_trans (below_trans HBE1.out HBE2.out) HB3.out⟩
end Go.Proofs.YtkopmnhngjbmcaaGreatDoor.Sn

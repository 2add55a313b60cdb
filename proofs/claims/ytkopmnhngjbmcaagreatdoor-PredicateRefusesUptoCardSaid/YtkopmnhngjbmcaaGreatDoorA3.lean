/- (shape.checker).expr at the binary operators. -/
import Derived.Test.YtkopmnhngjbmcaaGreatDoorA2
namespace Go.Proofs.YtkopmnhngjbmcaaGreatDoor.Sn
open Go Go.RowKit
set_option linter.unusedVariables false
set_option maxHeartbeats 4000000 in
/-- the binary operators, where something is wrong -/
theorem expr_no (e : Ex) (d : Nat) (hd : d < 1000) (V : Int) (R Rc : Nat) (AR : Option Addr) (k0 k1 k2 k3 k4 k5 k6 k8 k10 k11 k12 k13 k14 k15 k16 k17 k18 : Value) (w : World) (A : Option Addr) (c : Nat) (h1 : e.op ≠ 1) (h2 : e.op ≠ 2) (h3 : e.op ≠ 3)
    (hno : inR 4 e.op 10 = false ∨ e.n ≠ 0 ∨ e.v ≠ 0 ∨ e.a.length ≠ 2 ∨ ¬ d < 10) :
    Calls Tryz.prog 284 #[.agg #[k0, k1, k2, k3, k4, k5, k6, .int .i64 V, k8, .slice AR R Rc, k10, k11, k12, k13, k14, k15, k16, k17, k18], .agg #[.int .i64 e.op, .int .i64 e.n, .int .i64 e.v, .slice A e.a.length c], .int .i64 d] w
      fun en w' => ExprOut (okE V R d e) e.size en ∧ Below w.heap.size w w' := by
  have HT : Hid (okE V R d e = false) := Lib.hid (by
    rw [okE_4 V R d e h1 h2 h3]
    rcases hno with h | h | h | h | h <;> simp [h])
  have b1 : (e.op == 1) = false := beq_eq_false_iff_ne.2 h1
  have b2 : (e.op == 2) = false := beq_eq_false_iff_ne.2 h2
  have b3 : (e.op == 3) = false := beq_eq_false_iff_ne.2 h3
  clear h1 h2 h3
  by_cases h0 : e.a.length = 0 <;> by_cases hd10 : d ≤ 10
  all_goals
    first | have hl0 : ((e.a.length : Int) == 0) = true := by simp [h0] | have hl0 : ((e.a.length : Int) == 0) = false := beq_eq_false_iff_ne.2 (by omega)
    by_cases c1 : inR 4 e.op 10 = true
    · by_cases c2 : e.n = 0
      · have c2' : (e.n != 0) = false := by simp [c2]
        by_cases c3 : e.v = 0
        · have c3' : (e.v != 0) = false := by simp [c3]
          by_cases c4 : e.a.length = 2
          · have c4' : ((e.a.length : Int) != 2) = false := by simp [c4]
            have c5 : ¬ d < 10 := by
              rcases hno with h | h | h | h | h
              · rw [c1] at h; cases h
              · exact absurd c2 h
              · exact absurd c3 h
              · exact absurd c4 h
              · exact h
            have c5' : ¬ (d : Int) < 10 := by omega
            clear hno c2 c3 c4
            go_enter Tryz.func284, Tryz.ntmps284
            go_wp2_with (first | ((with_reducible refine gate_dst (N := 3) rfl ?_); refine box19 rfl (N := 3) rfl k0 k1 k2 k3 k4 k5 k6 (.int .i64 V) k8 (.slice AR R Rc) k10 k11 k12 k13 k14 k15 k16 k17 k18 280 (by go_simp) ?_; intro g1 w1 HG1 HB1 HBE1 kc0 kc1 kc2 kc3 kc4 kc5 kc6 kc7 kc8 kc9 kc10 kc11 kc12 kc13 kc14 kc15 kc16 kc17 kc18; clear kc0 kc1 kc2 kc3 kc4 kc5 kc6 kc7 kc8 kc9 kc10 kc11 kc12 kc13 kc14 kc15 kc16 kc17 kc18) | ((with_reducible refine gate_dst (N := 4) rfl ?_); refine box4 rfl (N := 4) rfl (.int .i64 e.op) (.int .i64 e.n) (.int .i64 e.v) (.slice A e.a.length c) 125 (by go_simp) ?_; intro g2 w2 HG2 HB2 HBE2 q0 q1 q2 q3) | (go_at_call 175; refine (in_calls _ _ _ _).mono ?_; rintro en w3 ⟨rfl, rfl⟩))
            go_ret2
            refine ⟨⟨0, by rw [HT.out]; rfl, fun h => by rw [HT.out] at h; cases h⟩, below_trans HBE1.out HBE2.out⟩
          · have c4' : ((e.a.length : Int) != 2) = true := bne_iff_ne.2 (by omega)
            clear hno c2 c3 c4
            go_enter Tryz.func284, Tryz.ntmps284
            go_wp2_with (first | ((with_reducible refine gate_dst (N := 3) rfl ?_); refine box19 rfl (N := 3) rfl k0 k1 k2 k3 k4 k5 k6 (.int .i64 V) k8 (.slice AR R Rc) k10 k11 k12 k13 k14 k15 k16 k17 k18 280 (by go_simp) ?_; intro g1 w1 HG1 HB1 HBE1 kc0 kc1 kc2 kc3 kc4 kc5 kc6 kc7 kc8 kc9 kc10 kc11 kc12 kc13 kc14 kc15 kc16 kc17 kc18; clear kc0 kc1 kc2 kc3 kc4 kc5 kc6 kc7 kc8 kc9 kc10 kc11 kc12 kc13 kc14 kc15 kc16 kc17 kc18) | ((with_reducible refine gate_dst (N := 4) rfl ?_); refine box4 rfl (N := 4) rfl (.int .i64 e.op) (.int .i64 e.n) (.int .i64 e.v) (.slice A e.a.length c) 125 (by go_simp) ?_; intro g2 w2 HG2 HB2 HBE2 q0 q1 q2 q3) | (go_at_call 175; refine (in_calls _ _ _ _).mono ?_; rintro en w3 ⟨rfl, rfl⟩))
            go_ret2
            refine ⟨⟨0, by rw [HT.out]; rfl, fun h => by rw [HT.out] at h; cases h⟩, below_trans HBE1.out HBE2.out⟩
        · have c3' : (e.v != 0) = true := bne_iff_ne.2 c3
          clear hno c2 c3
          go_enter Tryz.func284, Tryz.ntmps284
          go_wp2_with (first | ((with_reducible refine gate_dst (N := 3) rfl ?_); refine box19 rfl (N := 3) rfl k0 k1 k2 k3 k4 k5 k6 (.int .i64 V) k8 (.slice AR R Rc) k10 k11 k12 k13 k14 k15 k16 k17 k18 280 (by go_simp) ?_; intro g1 w1 HG1 HB1 HBE1 kc0 kc1 kc2 kc3 kc4 kc5 kc6 kc7 kc8 kc9 kc10 kc11 kc12 kc13 kc14 kc15 kc16 kc17 kc18; clear kc0 kc1 kc2 kc3 kc4 kc5 kc6 kc7 kc8 kc9 kc10 kc11 kc12 kc13 kc14 kc15 kc16 kc17 kc18) | ((with_reducible refine gate_dst (N := 4) rfl ?_); refine box4 rfl (N := 4) rfl (.int .i64 e.op) (.int .i64 e.n) (.int .i64 e.v) (.slice A e.a.length c) 125 (by go_simp) ?_; intro g2 w2 HG2 HB2 HBE2 q0 q1 q2 q3) | (go_at_call 175; refine (in_calls _ _ _ _).mono ?_; rintro en w3 ⟨rfl, rfl⟩))
          go_ret2
          refine ⟨⟨0, by rw [HT.out]; rfl, fun h => by rw [HT.out] at h; cases h⟩, below_trans HBE1.out HBE2.out⟩
      · have c2' : (e.n != 0) = true := bne_iff_ne.2 c2
        clear hno c2
        go_enter Tryz.func284, Tryz.ntmps284
        go_wp2_with (first | ((with_reducible refine gate_dst (N := 3) rfl ?_); refine box19 rfl (N := 3) rfl k0 k1 k2 k3 k4 k5 k6 (.int .i64 V) k8 (.slice AR R Rc) k10 k11 k12 k13 k14 k15 k16 k17 k18 280 (by go_simp) ?_; intro g1 w1 HG1 HB1 HBE1 kc0 kc1 kc2 kc3 kc4 kc5 kc6 kc7 kc8 kc9 kc10 kc11 kc12 kc13 kc14 kc15 kc16 kc17 kc18; clear kc0 kc1 kc2 kc3 kc4 kc5 kc6 kc7 kc8 kc9 kc10 kc11 kc12 kc13 kc14 kc15 kc16 kc17 kc18) | ((with_reducible refine gate_dst (N := 4) rfl ?_); refine box4 rfl (N := 4) rfl (.int .i64 e.op) (.int .i64 e.n) (.int .i64 e.v) (.slice A e.a.length c) 125 (by go_simp) ?_; intro g2 w2 HG2 HB2 HBE2 q0 q1 q2 q3) | (go_at_call 175; refine (in_calls _ _ _ _).mono ?_; rintro en w3 ⟨rfl, rfl⟩))
        go_ret2
        refine ⟨⟨0, by rw [HT.out]; rfl, fun h => by rw [HT.out] at h; cases h⟩, below_trans HBE1.out HBE2.out⟩
    · have c1' : inR 4 e.op 10 = false := by simpa using c1
      clear hno c1
      go_enter Tryz.func284, Tryz.ntmps284
      go_wp2_with (first | ((with_reducible refine gate_dst (N := 3) rfl ?_); refine box19 rfl (N := 3) rfl k0 k1 k2 k3 k4 k5 k6 (.int .i64 V) k8 (.slice AR R Rc) k10 k11 k12 k13 k14 k15 k16 k17 k18 280 (by go_simp) ?_; intro g1 w1 HG1 HB1 HBE1 kc0 kc1 kc2 kc3 kc4 kc5 kc6 kc7 kc8 kc9 kc10 kc11 kc12 kc13 kc14 kc15 kc16 kc17 kc18; clear kc0 kc1 kc2 kc3 kc4 kc5 kc6 kc7 kc8 kc9 kc10 kc11 kc12 kc13 kc14 kc15 kc16 kc17 kc18) | ((with_reducible refine gate_dst (N := 4) rfl ?_); refine box4 rfl (N := 4) rfl (.int .i64 e.op) (.int .i64 e.n) (.int .i64 e.v) (.slice A e.a.length c) 125 (by go_simp) ?_; intro g2 w2 HG2 HB2 HBE2 q0 q1 q2 q3) | (go_at_call 175; refine (in_calls _ _ _ _).mono ?_; rintro en w3 ⟨rfl, rfl⟩))
      go_ret2
      refine ⟨⟨0, by rw [HT.out]; rfl, fun h => by rw [HT.out] at h; cases h⟩, below_trans HBE1.out HBE2.out⟩
end Go.Proofs.YtkopmnhngjbmcaaGreatDoor.Sn

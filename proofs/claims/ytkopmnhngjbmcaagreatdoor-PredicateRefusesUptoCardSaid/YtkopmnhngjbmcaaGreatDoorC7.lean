/- (paroleref28.wide), Fits, Plain. -/
import Derived.Test.YtkopmnhngjbmcaaGreatDoorC6
import Derived.Test.YtkopmnhngjbmcaaGreatDoorC5
import Derived.Deep.RegionHeld3
namespace Go.Proofs.YtkopmnhngjbmcaaGreatDoor.Sn
open Go Go.RowKit
set_option linter.unusedVariables false
section
variable {P : Program} {ops : Array Oper} {Q : Exit → Act → World → Prop} {rest : List Oper} {a : Act} {o : Oper}
theorem mkslice_w {W : World} (hgd : o.guard = none) (t e : TypeId) (x y : Operand) (ho : o.op = .makeSlice t x y) (n : Nat) (cs : Array Value)
    (hx : a.eval x = .int .i64 (n : Int)) (hy : a.eval y = .int .i64 (n : Int))
    (hr : ∀ w : World, (Instr.makeSlice t (.int .i64 (n : Int)) (.int .i64 (n : Int))).run P w = .ok (.slice (some ⟨w.heap.size, 0, none⟩) n n) (w.alloc (.cells cs e)))
    (h : ∀ g w1, Hid (g = W.heap.size) → Hid (w1.heap[g]? = some (.cells cs e)) → Hid (Below W.heap.size W w1) → wpList P ops Q rest (a.put o.dst (.slice (some ⟨g, 0, none⟩) n n)) w1) : wpList P ops Q (o :: rest) a W := by
  refine event_run hgd (v := .slice (some ⟨W.heap.size, 0, none⟩) n n) (w1 := W.alloc (.cells cs e)) ?_ (h _ _ rfl (blk_new W _) ((Below.refl _ _).alloc (Nat.le_refl _) _))
  unfold execOp
  simp only [ho, hx, hy, hr, Sem.run_bind, Sem.run_pure, Result.andThen_ok]
end
theorem make96 (w : World) : (Instr.makeSlice 96 (.int .i64 ((4 : Nat) : Int)) (.int .i64 ((4 : Nat) : Int))).run Tryz.prog w = .ok (.slice (some ⟨w.heap.size, 0, none⟩) 4 4) (w.alloc (.cells (Array.replicate 8 (.int .i64 0)) 220)) := by
  obtain ⟨i, hi, hz, hs, hb⟩ : ∃ i, Tryz.prog.info? 220 = some i ∧ i.zero = some (.agg #[.int .i64 0, .int .i64 0]) ∧ i.size = 2 ∧ i.bytes ≤ 1000 := by
    cases h : Tryz.prog.info? 220 with
    | none =>
      have : (Tryz.prog.info? 220).isSome = true := by kernel_rfl
      rw [h] at this; cases this
    | some i =>
      have h1 : (Tryz.prog.info? 220).map (fun i => (i.zero, i.size, i.bytes)) = some (some (.agg #[.int .i64 0, .int .i64 0]), 2, 16) := by kernel_rfl
      rw [h] at h1
      simp only [Option.map_some, Option.some.injEq, Prod.mk.injEq] at h1
      exact ⟨i, rfl, h1.1, h1.2.1, by omega⟩
  have hr := run_makeSlice (P := Tryz.prog) (w := w) 96 220 i (.agg #[.int .i64 0, .int .i64 0]) (by kernel_rfl) hi hz .i64 .i64 4 4 (by decide) (by decide) (by rw [hs]; decide) (by omega) (by decide)
  rw [hs] at hr
  have e1 : madeCells (Value.agg #[.int .i64 0, .int .i64 0]).cells (Int.toNat 4 * 2) = Array.replicate 8 (.int .i64 0) := by kernel_rfl
  rw [e1] at hr
  exact hr
set_option maxRecDepth 100000 in
set_option maxHeartbeats 2000000 in
theorem wide_calls (w : World) : Calls Tryz.prog 60 #[] w fun en w' => (∃ AR, en = .returned (.agg #[.int .i64 0, .int .i64 0, .string ⟨#[]⟩, .int .i64 0, .int .i64 0, .slice none 0 0, .slice none 0 0, .int .i64 12, .int .i64 0, .slice AR 4 4, .int .i64 0, .slice none 0 0])) ∧ Below w.heap.size w w' := by
  go_enter Tryz.func60, Tryz.ntmps60
  go_wp2_with (first
    | ((with_reducible refine gate_dst (N := 0) rfl ?_); refine new_at rfl (N := 0) rfl #[.int .i64 0, .int .i64 0, .string ⟨#[]⟩, .int .i64 0, .int .i64 0, .slice none 0 0, .slice none 0 0, .int .i64 0, .int .i64 0, .slice none 0 0, .int .i64 0, .slice none 0 0] 99 (by go_simp) ?_; intro g7 w3 HG7 HB7 HBE3)
    | ((with_reducible refine gate_dst (N := 1) rfl ?_); refine mkslice_w rfl 96 220 _ _ rfl 4 (Array.replicate 8 (.int .i64 0)) rfl rfl make96 ?_; intro gs w2 HGS HBS HBE2; have HK7 := Lib.hid (below_blk HBE2.out HB7.out))
    | ((with_reducible refine gate_store (t := 99) (p := 0) rfl ?_); refine store_at rfl rfl 99 (.tmp 0) (.tmp 2) rfl g7 #[.int .i64 0, .int .i64 0, .string ⟨#[]⟩, .int .i64 0, .int .i64 0, .slice none 0 0, .slice none 0 0, .int .i64 12, .int .i64 0, .slice (some ⟨gs, 0, none⟩) 4 4, .int .i64 0, .slice none 0 0] (by go_simp) (by go_simp) 99 HK7.out size99 rfl (by simp [Value.oneCell']) ?_; intro w4 HB8 HBE4))
  refine bodyPost_ret (results_cell_row rfl _ _ g7 99 #[.int .i64 0, .int .i64 0, .string ⟨#[]⟩, .int .i64 0, .int .i64 0, .slice none 0 0, .slice none 0 0, .int .i64 12, .int .i64 0, .slice (some ⟨gs, 0, none⟩) 4 4, .int .i64 0, .slice none 0 0] (0, 0) _ rfl HB8.out Tryz.underlying99 rfl size99) rfl ⟨⟨_, rfl⟩, ?_⟩
  exact below_grown_new (below_trans HBE3.out HBE2.out) HBE4.out (by rw [HG7.out]; exact Nat.le_refl _)
set_option maxRecDepth 100000 in
set_option maxHeartbeats 4000000 in
theorem fits28_calls (V : Int) (hV : 0 ≤ V ∧ V ≤ 1000) (R Rc : Nat) (hR : R ≤ 1000) (AR : Option Addr) (k0 k1 k2 k3 k4 k5 k6 k8 k10 k11 : Value) (e : Cn) (hsz : e.size < 1152921504606846976) (S : Snap) (w : World) (hS : Agr S w) (A B : Option Addr) (c dd : Nat)
    (hr : RepC S e [.int .i64 e.op, .slice A e.a.length c, .slice B e.c.length dd]) :
    Calls Tryz.prog 49 #[.agg #[k0, k1, k2, k3, k4, k5, k6, .int .i64 V, k8, .slice AR R Rc, k10, k11], .agg #[.int .i64 e.op, .slice A e.a.length c, .slice B e.c.length dd]] w fun en w' => en = .returned (.bool (okTest V R e)) ∧ Below w.heap.size w w' := by
  have HC : Hid (∀ W, Below w.heap.size w W → ∀ y0 y1 y2 y3 y4 y5 y6 : Value, Calls Tryz.prog 92 #[.agg #[k0, k1, k2, k3, k4, k5, k6, .int .i64 V, k8, .slice AR R Rc, k10, k11], .agg #[y0, y1, y2, y3, y4, y5, y6], .agg #[.int .i64 1, .int .i64 23, .int .i64 0, .int .i64 0, .int .i64 0, .int .i64 0, .int .i64 0, .int .i64 0, .slice none 0 0, .int .i64 0, .int .i64 0, .int .i64 0, .slice none 0 0, .int .i64 e.op, .slice A e.a.length c, .slice B e.c.length dd, .slice none 0 0, .slice none 0 0, .slice none 0 0, .slice none 0 0]] W fun en w' => en = .returned (.bool (okTest V R e)) ∧ Below W.heap.size W w') := by
    refine Lib.hid fun W hW y0 y1 y2 y3 y4 y5 y6 => ?_
    by_cases hO : okTest V R e = true
    · exact stmt6_yes V hV R Rc hR AR k0 k1 k2 k3 k4 k5 k6 k8 k10 k11 y0 y1 y2 y3 y4 y5 y6 e hsz S W (hS.below hW) A B c dd hO hr
    · exact stmt6_no V hV R Rc hR AR k0 k1 k2 k3 k4 k5 k6 k8 k10 k11 y0 y1 y2 y3 y4 y5 y6 e hsz S W (hS.below hW) A B c dd hO hr
  clear hS hr
  go_enter Tryz.func49, Tryz.ntmps49
  go_wp2_with (first
    | ((with_reducible refine gate_dst (N := 2) rfl ?_); refine new_at rfl (N := 2) rfl #[k0, k1, k2, k3, k4, k5, k6, .int .i64 V, k8, .slice AR R Rc, k10, k11] 99 (by go_simp) ?_; intro g1 w1 HG1 HB1 HBE1)
    | ((with_reducible refine gate_dst (N := 3) rfl ?_); refine new_at rfl (N := 3) rfl #[.int .i64 e.op, .slice A e.a.length c, .slice B e.c.length dd] 25 (by go_simp) ?_; intro g2 w2 HG2 HB2 HBE2; have HK1 := Lib.hid (below_blk HBE2.out HB1.out))
    | ((with_reducible refine gate_dst (N := 5) rfl ?_); refine wpList_load_row rfl 99 (.tmp 2) rfl g1 (by go_simp) 99 _ (0, 0) _ HK1.out Tryz.underlying99 rfl size99 ?_)
    | ((with_reducible refine gate_dst (N := 7) rfl ?_); refine wpList_load_row rfl 25 (.tmp 3) rfl g2 (by go_simp) 25 _ (0, 0) _ HB2.out Tryz.underlying25 rfl size25 ?_)
    | (go_at_call 92; refine (HC.out _ (below_trans HBE1.out HBE2.out) _ _ _ _ _ _ _).mono ?_; rintro en w3 ⟨rfl, hb3⟩; have HB3 := Lib.hid hb3; clear hb3))
  go_ret
  exact ⟨rfl, below_trans (below_trans HBE1.out HBE2.out) HB3.out⟩
set_option maxRecDepth 100000 in
set_option maxHeartbeats 4000000 in
theorem plain28_calls (e : Cn) (hsz : e.size < 1152921504606846976) (S : Snap) (w : World) (cs : List Value) (hS : Agr S w) (hr : RepC S e cs) :
    Calls Tryz.prog 16 #[.agg cs.toArray] w fun en w' => en = .returned (.bool (okP e)) ∧ Below w.heap.size w w' := by
  obtain ⟨A, c, B, dd, rfl, hc, hdd, hrow, hrow2⟩ := hr.open_
  have HREP := Lib.hid (RepC.close e A B c dd hc hdd hrow hrow2)
  have HS := Lib.hid hS
  clear hS hr hrow hrow2
  have HF : Hid (∀ W, Below w.heap.size w W → ∀ (AR : Option Addr) (k0 k1 k2 k3 k4 k5 k6 k8 k10 k11 : Value), Calls Tryz.prog 49 #[.agg #[k0, k1, k2, k3, k4, k5, k6, .int .i64 12, k8, .slice AR 4 4, k10, k11], .agg #[.int .i64 e.op, .slice A e.a.length c, .slice B e.c.length dd]] W fun en w' => en = .returned (.bool (okP e)) ∧ Below W.heap.size W w') := Lib.hid fun W hW AR k0 k1 k2 k3 k4 k5 k6 k8 k10 k11 =>
    fits28_calls 12 (by decide) 4 4 (by decide) AR k0 k1 k2 k3 k4 k5 k6 k8 k10 k11 e hsz S W (HS.out.below hW) A B c dd HREP.out
  generalize okP e = ok at HF ⊢
  go_enter Tryz.func16, Tryz.ntmps16
  go_wp2_with (first
    | ((with_reducible refine gate_dst (N := 1) rfl ?_); refine box3 rfl (N := 1) rfl (.int .i64 e.op) (.slice A e.a.length c) (.slice B e.c.length dd) 25 (by go_simp) ?_; intro g1 w1 HG1 HA1 HBE1 q0 q1 q2))
  have HMK : Hid (∀ W, Below w1.heap.size w1 W → Below w1.heap.size w1 W ∧ W.cell? ⟨g1, 0, none⟩ = some (.int .i64 e.op) ∧ W.cell? ⟨g1, 1, none⟩ = some (.slice A e.a.length c) ∧ W.cell? ⟨g1, 2, none⟩ = some (.slice B e.c.length dd)) := Lib.hid fun W hW =>
    have hB := below_blk hW HA1.out
    ⟨hW, (blk_cell hB 0).trans rfl, (blk_cell hB 1).trans rfl, (blk_cell hB 2).trans rfl⟩
  go_region_held3 (fun w' => Below w1.heap.size w1 w' ∧ w'.cell? ⟨g1, 0, none⟩ = some (.int .i64 e.op) ∧ w'.cell? ⟨g1, 1, none⟩ = some (.slice A e.a.length c) ∧ w'.cell? ⟨g1, 2, none⟩ = some (.slice B e.c.length dd))
    (first | exact HMK.out _ (Below.refl _ _).drew | exact HMK.out _ (below_trans (‹Below w1.heap.size w1 _ ∧ _›).1 hb5))
    (first
      | (go_at_call 60; refine (wide_calls _).mono ?_; rintro en w5 ⟨⟨AR, rfl⟩, hb5⟩)
      | (go_at_call 49; refine (HF.out _ (below_trans HBE1.out (‹Below w1.heap.size w1 _ ∧ _›).1) _ _ _ _ _ _ _ _ _ _ _).mono ?_; rintro en w6 ⟨rfl, hb5⟩))
  all_goals
    have HBZ := (‹Below w1.heap.size w1 _ ∧ _›).1
    go_wp2
    go_ret
    exact ⟨rfl, below_trans HBE1.out HBZ⟩
end Go.Proofs.YtkopmnhngjbmcaaGreatDoor.Sn

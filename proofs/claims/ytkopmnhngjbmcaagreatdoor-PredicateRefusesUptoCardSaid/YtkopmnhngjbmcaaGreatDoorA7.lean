/- The iterator over the statements of a definition (shape.all, shape.walk) where there is one statement, with nothing in it. -/
import Derived.Test.YtkopmnhngjbmcaaGreatDoorSi
import Derived.Test.YtkopmnhngjbmcaaGreatDoorA6
namespace Go.Proofs.YtkopmnhngjbmcaaGreatDoor.Sn
open Go Go.RowKit Go.Shelf
set_option linter.unusedVariables false
attribute [local go_sem] Oper.semAt_some
theorem size218 : (Tryz.prog.info? 218).map (·.size) = some 21 := by kernel_rfl
/-- What is cells stays as it is. -/
def KeepsCells (W W' : World) : Prop := W.heap.size ≤ W'.heap.size ∧ ∀ (b : Nat) (c : Array Value) (t : TypeId) (f : Nat × Nat), W.heap[b]? = some (Obj.cells c t f) → W'.heap[b]? = some (Obj.cells c t f)
theorem KeepsCells.refl (W : World) : KeepsCells W W := ⟨Nat.le_refl _, fun _ _ _ _ h => h⟩
theorem KeepsCells.trans {A B C : World} (h : KeepsCells A B) (k : KeepsCells B C) : KeepsCells A C := ⟨Nat.le_trans h.1 k.1, fun b c t f hb => k.2 b c t f (h.2 b c t f hb)⟩
set_option maxRecDepth 100000 in
set_option maxHeartbeats 2000000 in
theorem walk_nil (n : Nat) (d : Int) (l : Nat) (W : World) :
    CallsIn Fence.wide n Tryz.prog 173 #[.slice none 0 0, .int .i64 d, .func (.yield l) #[] #[]] W fun e W' => e = .returned (.bool true) ∧ W = W' := by
  refine callsIn_of_wp Tryz.func173 rfl trivial ?_ rfl
  simp only [Tryz.ntmps173, List.size_toArray, List.length_cons, List.length_nil, Nat.reduceAdd, Nat.reduceSub, Array.replicate_succ, Array.replicate_zero, List.push_toArray, List.append_toArray, List.nil_append, List.cons_append]
  gi_wp2
  gi_loopw [11] (fun i wr => i = .int .i64 0 ∧ wr = W) (fun _ _ => 0)
  case atStart => exact ⟨rfl, rfl⟩
  case round =>
    obtain ⟨rfl, rfl⟩ := hrel
    gi_wp2
    go_ret
    exact ⟨rfl, rfl⟩
set_option maxRecDepth 100000 in
set_option maxHeartbeats 4000000 in
theorem walk_one (n l gs cap : Nat) (op : Int) (A B : Option Addr) (la c lc dd : Nat) (J Jx : List Unit → World → Prop) (W : World)
    (hJ : AbidesFrom W.heap.size J)
    (hY : ∀ m pre x W1, J pre W1 → pre.length < 1 → YieldAt Fence.wide m Tryz.prog l #[.agg #[.int .i64 1, .int .i64 23, .int .i64 0, .int .i64 0, .int .i64 0, .int .i64 0, .int .i64 0, .int .i64 0, .slice none 0 0, .int .i64 0, .int .i64 0, .int .i64 0, .slice none 0 0, .int .i64 op, .slice A la c, .slice B lc dd, .slice none 0 0, .slice none 0 0, .slice none 0 0, .slice none 0 0, .int .i64 1]] W1 fun e W' =>
      (e = .returned (.bool true) ∧ J (pre ++ [x]) W' ∧ KeepsCells W1 W') ∨ (e = .returned (.bool false) ∧ Jx (pre ++ [x]) W'))
    (hrow : W.heap[gs]? = some (.cells #[.int .i64 1, .int .i64 23, .int .i64 0, .int .i64 0, .int .i64 0, .int .i64 0, .int .i64 0, .int .i64 0, .slice none 0 0, .int .i64 0, .int .i64 0, .int .i64 0, .slice none 0 0, .int .i64 op, .slice A la c, .slice B lc dd, .slice none 0 0, .slice none 0 0, .slice none 0 0, .slice none 0 0] 160 (0, 0))) (h0 : J [] W) :
    CallsIn Fence.wide n Tryz.prog 173 #[.slice (some ⟨gs, 0, none⟩) 1 cap, .int .i64 1, .func (.yield l) #[] #[]] W fun e W' =>
      (e = .returned (.bool true) ∧ J [()] W') ∨ (e = .returned (.bool false) ∧ Jx [()] W') := by
  have HJ := Lib.hid hJ
  have HROW := Lib.hid hrow
  have HY := Lib.hid hY
  have H0 := Lib.hid h0
  clear hJ hrow hY h0
  have hdd : ∀ k : Nat, (Fence.wide.depth.isSome = true → 1 ≤ k) := fun k h => by cases h
  have hF173 : Fence.wide.fn 173 := trivial
  refine callsIn_of_wp Tryz.func173 rfl trivial ?_ rfl
  simp only [Tryz.ntmps173, List.size_toArray, List.length_cons, List.length_nil, Nat.reduceAdd, Nat.reduceSub, Array.replicate_succ, Array.replicate_zero, List.push_toArray, List.append_toArray, List.nil_append, List.cons_append]
  gi_wp2
  gi_loopw [11] (fun i wr => (i = .int .i64 0 ∧ wr = W) ∨ (i = .int .i64 1 ∧ J [()] wr)) (fun i _ => 1 - (intOf i).toNat)
  case atStart => exact .inl ⟨rfl, rfl⟩
  case round =>
    rcases hrel with ⟨rfl, rfl⟩ | ⟨rfl, hj⟩
    · gi_wp2_with (first
        | ((with_reducible refine gate_in (N := 14) rfl ?_); refine load_row_in rfl 160 (.tmp 13) rfl gs (by go_simp) 160 _ (0, 0) _ HROW.out Tryz.underlying160 rfl size160 ?_)
        | ((with_reducible refine gate_in (N := 8) rfl ?_); refine new_in rfl (fun c e => by cases e) rfl #[.int .i64 0, .int .i64 0, .int .i64 0, .int .i64 0, .int .i64 0, .int .i64 0, .int .i64 0, .int .i64 0, .slice none 0 0, .int .i64 0, .int .i64 0, .int .i64 0, .slice none 0 0, .int .i64 0, .slice none 0 0, .slice none 0 0, .slice none 0 0, .slice none 0 0, .slice none 0 0, .slice none 0 0] 160 (by go_simp) ?_; intro g1 w1 HG1 HB1 HBE1)
        | ((with_reducible refine gate_store_in (t := 160) (p := 8) rfl ?_); refine store_at_in rfl rfl 160 (.tmp 8) (.tmp 14) rfl g1 #[.int .i64 1, .int .i64 23, .int .i64 0, .int .i64 0, .int .i64 0, .int .i64 0, .int .i64 0, .int .i64 0, .slice none 0 0, .int .i64 0, .int .i64 0, .int .i64 0, .slice none 0 0, .int .i64 op, .slice A la c, .slice B lc dd, .slice none 0 0, .slice none 0 0, .slice none 0 0, .slice none 0 0] (by go_simp) (by go_simp) 160 HB1.out size160 rfl (by simp [Value.oneCell']) ?_; intro w2 HB2 HBE2; have hj2 := HJ.out [] _ w2 none H0.out (grown_below (below_grown_new HBE1.out HBE2.out (by rw [HG1.out]; exact Nat.le_refl _))) (fun r e => by cases e); obtain ⟨fn, tmps, assign, body, hy, hR⟩ := HY.out (n - 1) [] () w2 hj2 (by simp); have HRR := Lib.hid hR; clear hR hj2)
        | ((with_reducible refine gate_in (N := 16) rfl ?_); refine load_row_in rfl 160 (.tmp 8) rfl g1 (by go_simp) 160 _ (0, 0) _ HB2.out Tryz.underlying160 rfl size160 ?_)
        | ((try refine ⟨hdd _, ?_⟩); refine HRR.out.mono ?_; clear hy HRR; rintro e W3 (⟨rfl, hJ3, hk3⟩ | ⟨rfl, hx3⟩); focus (have HJ3 := Lib.hid hJ3; have c18 : W3.cell? ⟨g1, 18, none⟩ = some (.slice none 0 0) := (blk_cell (hk3.2 _ _ _ _ HB2.out) 18).trans rfl; have c19 : W3.cell? ⟨g1, 19, none⟩ = some (.slice none 0 0) := (blk_cell (hk3.2 _ _ _ _ HB2.out) 19).trans rfl; clear hJ3 hk3))
        | ((try refine ⟨hdd _, ?_⟩); gi_at_call 173; refine (walk_nil _ _ _ _).mono ?_; rintro e W4 ⟨rfl, rfl⟩))
      · exact ⟨.inr ⟨rfl, HJ3.out⟩, by simp [intOf]⟩
      · go_ret
        exact .inr ⟨rfl, hx3⟩
    · gi_wp2
      go_ret
      exact .inl ⟨rfl, hj⟩
/-- a statement of an assertion, as it is handed to a loop's body -/
def placedCells (op : Int) (A : Option Addr) (la c : Nat) (B : Option Addr) (lc dd : Nat) : Array Value := #[.int .i64 1, .int .i64 23, .int .i64 0, .int .i64 0, .int .i64 0, .int .i64 0, .int .i64 0, .int .i64 0, .slice none 0 0, .int .i64 0, .int .i64 0, .int .i64 0, .slice none 0 0, .int .i64 op, .slice A la c, .slice B lc dd, .slice none 0 0, .slice none 0 0, .slice none 0 0, .slice none 0 0, .int .i64 1]
def stmtCells (op : Int) (A : Option Addr) (la c : Nat) (B : Option Addr) (lc dd : Nat) : Array Value := #[.int .i64 1, .int .i64 23, .int .i64 0, .int .i64 0, .int .i64 0, .int .i64 0, .int .i64 0, .int .i64 0, .slice none 0 0, .int .i64 0, .int .i64 0, .int .i64 0, .slice none 0 0, .int .i64 op, .slice A la c, .slice B lc dd, .slice none 0 0, .slice none 0 0, .slice none 0 0, .slice none 0 0]
set_option maxRecDepth 100000 in
set_option maxHeartbeats 2000000 in
theorem all1_one (n l g1 g2 gs cap : Nat) (op : Int) (A B : Option Addr) (la c lc dd : Nat) (J Jx : List Unit → World → Prop) (W : World)
    (hJ : AbidesFrom W.heap.size J)
    (hY : ∀ m pre x W1, J pre W1 → pre.length < 1 → YieldAt Fence.wide m Tryz.prog l #[.agg (placedCells op A la c B lc dd)] W1 fun e W' =>
      (e = .returned (.bool true) ∧ J (pre ++ [x]) W' ∧ KeepsCells W1 W') ∨ (e = .returned (.bool false) ∧ Jx (pre ++ [x]) W'))
    (h1 : W.cell? ⟨g1, 0, none⟩ = some (.slice (some ⟨gs, 0, none⟩) 1 cap)) (h2 : W.cell? ⟨g2, 0, none⟩ = some (.int .i64 1))
    (hrow : W.heap[gs]? = some (.cells (stmtCells op A la c B lc dd) 160 (0, 0))) (h0 : J [] W) :
    CallsIn Fence.wide n Tryz.prog 172 #[.func (.yield l) #[] #[], .pointer (some ⟨g1, 0, none⟩), .pointer (some ⟨g2, 0, none⟩)] W fun e W' => (∃ v, e = .returned v) ∧
      ((∃ xs, xs = [()] ∧ J xs W') ∨ (∃ pre, pre = [()] ∧ Jx pre W')) := by
  have hdd : ∀ k : Nat, (Fence.wide.depth.isSome = true → 1 ≤ k) := fun k h => by cases h
  have hF173 : Fence.wide.fn 173 := trivial
  have hp := Lib.hid (walk_one (n - 1) l gs cap op A B la c lc dd J Jx W hJ hY hrow h0)
  clear hJ hY hrow h0
  refine callsIn_of_wp Tryz.func172 rfl trivial ?_ rfl
  simp only [Tryz.ntmps172, List.size_toArray, List.length_cons, List.length_nil, Nat.reduceAdd, Nat.reduceSub, Array.replicate_succ, Array.replicate_zero, List.push_toArray, List.append_toArray, List.nil_append, List.cons_append]
  gi_wp2_with ((try refine ⟨hdd _, ?_⟩); gi_at_call 173; refine hp.out.mono ?_; clear hp; rintro e W1 (⟨rfl, hJ1⟩ | ⟨rfl, hx⟩))
  · go_end0
    exact ⟨⟨_, rfl⟩, .inl ⟨_, rfl, hJ1⟩⟩
  · go_end0
    exact ⟨⟨_, rfl⟩, .inr ⟨_, rfl, hx⟩⟩
theorem all_calls (A : Option Addr) (len cap : Nat) (d : Int) (w : World) :
    Calls Tryz.prog 123 #[.slice A len cap, .int .i64 d] w fun e w' => ∃ g1 g2, e = .returned (.func (.func 172) #[] #[.pointer (some ⟨g1, 0, none⟩), .pointer (some ⟨g2, 0, none⟩)]) ∧ w.heap.size ≤ g1 ∧ w.heap.size ≤ g2 ∧
      w'.heap[g1]? = some (.cells #[.slice A len cap] 97 (0, 0)) ∧ w'.heap[g2]? = some (.cells #[.int .i64 d] 3 (0, 0)) ∧ Below w.heap.size w w' := by
  have hmf : ∀ (fn : Fn) (first cap : Array Value) (w : World), (Instr.makeFunc fn first cap).run Tryz.prog w = .ok (.func fn first cap) w := fun _ _ _ _ => rfl
  go_enter Tryz.func123, Tryz.ntmps123
  go_wp2_with (first
    | ((with_reducible refine gate_dst (N := 2) rfl ?_); refine new_at rfl (N := 2) rfl #[.slice A len cap] 97 (by go_simp) ?_; intro g1 w1 HG1 HB1 HBE1)
    | ((with_reducible refine gate_dst (N := 3) rfl ?_); refine new_at rfl (N := 3) rfl #[.int .i64 d] 3 (by go_simp) ?_; intro g2 w2 HG2 HB2 HBE2))
  go_ret
  exact ⟨g1, g2, rfl, by rw [HG1.out]; exact Nat.le_refl _, by rw [HG2.out]; exact HBE1.out.size, below_blk HBE2.out HB1.out, HB2.out, below_trans HBE1.out HBE2.out⟩
end Go.Proofs.YtkopmnhngjbmcaaGreatDoor.Sn

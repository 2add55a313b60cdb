/- (predicate.Parse)'s deferred function. -/
import Derived.Test.YtkopmnhngjbmcaaGreatDoorD12
import Derived.Recover
import Derived.Test.YtkopmnhngjbmcaaGreatDoorE2
import Derived.Test.YtkopmnhngjbmcaaGreatDoorE3
import Derived.Test.YtkopmnhngjbmcaaGreatDoorE4
import Derived.Test.YtkopmnhngjbmcaaGreatDoorE5
import Derived.Test.YtkopmnhngjbmcaaGreatDoorE6
namespace Go.Proofs.YtkopmnhngjbmcaaGreatDoor.Sn
open Go Go.RowKit
set_option linter.unusedVariables false
def caughtW (w : World) (gc ge : Nat) : World := (((w.setCell ⟨gc, 0, none⟩ (.int .i64 0)).setCell ⟨gc, 1, none⟩ (.slice none 0 0)).setCell ⟨gc, 2, none⟩ (.slice none 0 0)).setCell ⟨ge, 0, none⟩ (.int .i64 3)
set_option maxRecDepth 100000 in
set_option maxHeartbeats 2000000 in
theorem catch_panic (gc ge : Nat) (hne : gc ≠ ge) (a0 a1 a2 x : Value) (older : List PanicEntry) (w : World) (hc : w.heap[gc]? = some (.cells #[a0, a1, a2] 25 (0, 0))) (he : w.heap[ge]? = some (.cells #[x] 30 (0, 0))) :
    CallsD Tryz.prog 101 #[.pointer (some ⟨gc, 0, none⟩), .pointer (some ⟨ge, 0, none⟩)] (.panicking ({ v := .iface 179 (.agg #[]), recovered := false } :: older)) w fun e u' w' =>
      e = .returned (.tuple #[]) ∧ u' = .panicking ({ v := .iface 179 (.agg #[]), recovered := true } :: older) ∧ w' = caughtW w gc ge := by
  have c0 : w.cell? ⟨gc, 0, none⟩ = some a0 := (blk_cell hc 0).trans rfl
  have c1 : w.cell? ⟨gc, 1, none⟩ = some a1 := (blk_cell hc 1).trans rfl
  have c2 : w.cell? ⟨gc, 2, none⟩ = some a2 := (blk_cell hc 2).trans rfl
  have z0 := blk_frozen hc 0
  have z1 := blk_frozen hc 1
  have z2 := blk_frozen hc 2
  have x0 : w.cell? ⟨ge, 0, none⟩ = some x := (blk_cell he 0).trans rfl
  have y0 := blk_frozen he 0
  have hneq : ∀ w : World, (binOp BinOp.neq 20 (.iface 179 (.agg #[])) (.iface 179 (.agg #[]))).run Tryz.prog w = .ok (.bool false) w := fun _ => by kernel_rfl
  refine callsD_of_wpS Tryz.func101 rfl fun c₀ cs hu => ?_
  apply wpS_seq
  apply wpS_region
  simp [wpOpsS, go_sem, recoverD, hu, Tryz.ntmps101, Exit.thenS]
  refine wpS_of_wp ?_
  go_wp2
  exact ⟨rfl, _, rfl, _, results_none rfl _ _ _, rfl, rfl, rfl⟩
set_option maxRecDepth 100000 in
set_option maxHeartbeats 2000000 in
theorem catch_idle (gc ge : Nat) (w : World) :
    CallsD Tryz.prog 101 #[.pointer (some ⟨gc, 0, none⟩), .pointer (some ⟨ge, 0, none⟩)] .returning w fun e u' w' => e = .returned (.tuple #[]) ∧ u' = .returning ∧ w' = w := by
  have hneq : ∀ w : World, (binOp BinOp.neq 20 .nilIface .nilIface).run Tryz.prog w = .ok (.bool false) w := fun _ => by kernel_rfl
  refine callsD_of_wpS Tryz.func101 rfl fun c₀ cs hu => ?_
  apply wpS_seq
  apply wpS_region
  simp [wpOpsS, go_sem, recoverD, hu, Tryz.ntmps101, Exit.thenS]
  refine wpS_of_wp ?_
  go_wp2
  refine ⟨rfl, _, ?_, _, results_none rfl _ _ _, rfl, hu, rfl⟩
  cases c₀; simp_all
theorem results_cell2 {P : Program} {fn : Func} {p q : Tmp} {ty tq : TypeId} (h : fn.results = #[.cell p ty, .cell q tq]) (tmps : Array Value) (w : World) (g : Nat) (t : TypeId) (cs : Array Value) (fr : Nat × Nat) (d : TypeDesc)
    (hp : tmps.getD p undef = .pointer (some ⟨g, 0, none⟩)) (hg : w.heap[g]? = some (.cells cs t fr)) (hu : P.underlying ty = some d) (hd : (match d with | .struct _ | .array _ _ => true | _ => false) = true) (hi : (P.info? ty).map (·.size) = some cs.size)
    (a : Addr) (x : Value) (hq : tmps.getD q undef = .pointer (some a)) (hx : (loadVar tq a).run P w = .ok x w) :
    (results fn tmps).run P w = .ok (.tuple #[.agg cs, x]) w := by
  rw [Array.getD_eq_getD_getElem?] at hp hq
  unfold results
  rw [h]
  simp [hp, hq, asAddr, run_loadVar_row w g t ty cs fr d hg hu hd hi, hx]
end Go.Proofs.YtkopmnhngjbmcaaGreatDoor.Sn
/- (predicate.Parse), parsed. -/
namespace Go.Proofs.YtkopmnhngjbmcaaGreatDoor.Sn
open Go Go.RowKit
set_option linter.unusedVariables false
theorem cond_at : ∀ (n : Nat), CondAt n := by
  intro n
  induction n with
  | zero => intro s h; omega
  | succ n ih =>
    intro s hls hl S hL g w hS hSg hg
    have ihe := expr_at n
    cases hT : cutP [116, 114, 117, 101] s with
    | some t =>
      have : pC (n + 1) s = some (.mk 1 [] [], t) := by rw [pC, hT]
      rw [this]; exact cond_true s t hT S g w hS hSg hg
    | none =>
      cases h0 : cutP [40] s with
      | none =>
        have : pC (n + 1) s = none := by rw [pC, hT, h0]; rfl
        rw [this]; exact cond_open s hT h0 S g w hg
      | some s0 =>
        cases hop : opOf (wordOf s0) with
        | none =>
          have : pC (n + 1) s = none := by rw [pC, hT, h0]; simp [hop]
          rw [this]; exact cond_op s s0 hT h0 hl hop S g w hg
        | some op =>
          have hr := op_rng hop
          by_cases hq : op ≤ 10
          · have : pC (n + 1) s = none := by
              rw [pC, hT, h0]
              simp only [Option.bind_some, hop]
              rw [if_neg (by omega), if_neg (by omega), if_neg (by omega)]
            rw [this]; exact cond_other s s0 hT h0 hl op hop hq S g w hg
          by_cases h2 : op = 102
          · exact cond_2 n ihe ih s s0 hT h0 hls hl op hop h2 _ rfl S hL g w hS hSg hg
          by_cases h3 : op = 103
          · exact cond_3 n ihe ih s s0 hT h0 hls hl op hop h3 _ rfl S hL g w hS hSg hg
          by_cases h4 : op = 104
          · exact cond_4 n ihe ih s s0 hT h0 hls hl op hop h4 _ rfl S hL g w hS hSg hg
          by_cases h5 : op = 105
          · exact cond_5 n ihe ih s s0 hT h0 hls hl op hop h5 _ rfl S hL g w hS hSg hg
          by_cases h6 : op = 106
          · exact cond_6 n ihe ih s s0 hT h0 hls hl op hop h6 _ rfl S hL g w hS hSg hg
          · exact cond_7 n ihe ih s s0 hT h0 hls hl op hop (by omega) _ rfl S hL g w hS hSg hg
/-- what Parse answers -/
def PostP (S : Snap) (w : World) (r : Option Cn) (en : Ending) (w' : World) : Prop :=
  match r with
  | some e => ∃ (cs : List Value) (S' : Snap), en = .returned (.tuple #[.agg cs.toArray, .int .i64 0]) ∧ RepC S' e cs ∧ Out none S w S' w'
  | none => en = .returned (.tuple #[.agg zeroC, .int .i64 3]) ∧ Below w.heap.size w w'
theorem caught_blk {w : World} {gc ge : Nat} (hne : gc ≠ ge) {a0 a1 a2 x : Value} (hc : w.heap[gc]? = some (.cells #[a0, a1, a2] 25 (0, 0))) (he : w.heap[ge]? = some (.cells #[x] 30 (0, 0))) :
    (caughtW w gc ge).heap[gc]? = some (.cells zeroC 25 (0, 0)) ∧ (caughtW w gc ge).heap[ge]? = some (.cells #[.int .i64 3] 30 (0, 0)) := by
  unfold caughtW
  refine ⟨blk_far (blk_set (blk_set (blk_set hc 0 _) 1 _) 2 _) (by exact hne) _, ?_⟩
  exact blk_set (blk_far (blk_far (blk_far he (fun e => hne e.symm) _) (fun e => hne e.symm) _) (fun e => hne e.symm) _) 0 _
theorem caught_below {w0 w : World} {gc ge : Nat} (h : Below w0.heap.size w0 w) (h1 : w0.heap.size ≤ gc) (h2 : w0.heap.size ≤ ge) : Below w0.heap.size w0 (caughtW w gc ge) := by
  unfold caughtW
  exact below_grown_new (below_grown_new h (grown_set (grown_set (grown_set (grown_refl w (some gc)) 0 _) 1 _) 2 _) h1) (grown_set (grown_refl _ (some ge)) 0 _) h2
def dfr (gc ge : Nat) : List Deferred := [{ target := Target.fn (Fn.func 101) #[.pointer (some ⟨gc, 0, none⟩), .pointer (some ⟨ge, 0, none⟩)], args := #[] }]
theorem door_panic (S : Snap) (w w4 : World) (gc ge : Nat) (tmps : Array Value) (ht2 : tmps.getD 2 undef = .pointer (some ⟨gc, 0, none⟩)) (ht3 : tmps.getD 3 undef = .pointer (some ⟨ge, 0, none⟩)) {a0 a1 a2 x : Value}
    (hc : w4.heap[gc]? = some (.cells #[a0, a1, a2] 25 (0, 0))) (he : w4.heap[ge]? = some (.cells #[x] 30 (0, 0))) (hB : Below w.heap.size w w4) (h1 : w.heap.size ≤ gc) (h2 : w.heap.size ≤ ge) :
    bodyPostD Tryz.prog Tryz.f61 (PostP S w none) (Exit.panic [{ v := .iface 179 (.agg #[]), recovered := false }]) { tmps := tmps, defers := dfr gc ge } w4 := by
  have hne : gc ≠ ge := fun e => by subst e; rw [hc] at he; cases he
  refine leaves_cons (f := 101) (args := #[.pointer (some ⟨gc, 0, none⟩), .pointer (some ⟨ge, 0, none⟩)]) (by simp) (by simp [go_sem]) ?_
  refine (catch_panic gc ge hne a0 a1 a2 x [] w4 hc he).mono ?_
  rintro e u' w'' ⟨rfl, rfl, rfl⟩
  have hk := caught_blk hne hc he
  have hx : (loadVar 30 ⟨ge, 0, none⟩).run Tryz.prog (caughtW w4 gc ge) = .ok (.int .i64 3) (caughtW w4 gc ge) := by
    have := (blk_cell hk.2 0)
    simp only [List.getElem?_toArray, List.getElem?_cons_zero] at this
    simp [go_sem, loadVar, this]
  exact ⟨_, results_cell2 rfl tmps _ gc 25 zeroC (0, 0) _ ht2 hk.1 Tryz.underlying25 rfl size25 _ _ ht3 hx, rfl, caught_below hB h1 h2⟩
set_option maxRecDepth 100000 in
set_option maxHeartbeats 2000000 in
theorem parse_bad1 (s : List UInt8) (hl : s.length ≤ 1073741824) (hp : pC (s.length + 1) s = none) (S : Snap) (hL : LibOk S) (w : World) (hS : Agr S w) :
    Calls Tryz.prog 61 #[.string ⟨s.toArray⟩] w (PostP S w none) := by
  have hmf : ∀ (fn : Fn) (first cap : Array Value) (w : World), (Instr.makeFunc fn first cap).run Tryz.prog w = .ok (.func fn first cap) w := fun _ _ _ _ => rfl
  have HX : Hid (∀ (W : World) (gp : Nat), Agr S W → S gp = none → W.heap[gp]? = some (.cells (pcell s) 182 (0, 0)) → Calls Tryz.prog 102 #[.pointer (some ⟨gp, 0, none⟩)] W fun en w' => en = .panicked [{ v := .iface 179 (.agg #[]), recovered := false }] ∧ W.grownBy w' (some gp)) := Lib.hid fun W gp hW hgp hWg => by
    have := cond_at (s.length + 1) s (Nat.lt_succ_self _) hl S hL gp W hW hgp hWg
    rw [hp] at this
    exact this
  have HS := Lib.hid hS
  clear hS hp hL
  go_enter_defers Tryz.func61, Tryz.ntmps61
  go_wp2_with (first
    | ((with_reducible refine gate_dst (N := 2) rfl ?_); refine new_at rfl (N := 2) rfl zeroC 25 (by go_simp; rfl) ?_; intro gc w1 HGC HBC HBE1)
    | ((with_reducible refine gate_dst (N := 3) rfl ?_); refine new_at rfl (N := 3) rfl #[.int .i64 0] 30 (by go_simp) ?_; intro ge w2 HGE HBE HBE2)
    | ((with_reducible refine gate_dst (N := 8) rfl ?_); refine new_at rfl (N := 8) rfl (pcell s) 182 (by go_simp; rfl) ?_; intro gp w3 HGP HBP HBE3)
    | (go_at_call 102; refine (HX.out _ gp (((HS.out.below HBE1.out).below HBE2.out).below HBE3.out) (HS.out.new (by rw [HGP.out]; exact (below_trans HBE1.out HBE2.out).size)) HBP.out).mono ?_; rintro en w4 ⟨rfl, hgr4⟩; have HGR4 := Lib.hid hgr4; clear hgr4))
  have HBB := Lib.hid (below_trans (below_trans HBE1.out HBE2.out) HBE3.out)
  exact door_panic S w w4 gc ge _ rfl rfl (grown_blk HGR4.out (below_blk HBE3.out (below_blk HBE2.out HBC.out)) (fun e => by cases e; rw [HGP.out] at HBC; have := blk_lt HBC.out; have := HBE2.out.size; omega)) (grown_blk HGR4.out (below_blk HBE3.out HBE.out) (fun e => by cases e; have := blk_lt HBE.out; have := HGP.out; omega))
    (below_grown_new HBB.out HGR4.out (by rw [HGP.out]; exact (below_trans HBE1.out HBE2.out).size)) (by rw [HGC.out]; exact Nat.le_refl _) (by rw [HGE.out]; exact HBE1.out.size)
end Go.Proofs.YtkopmnhngjbmcaaGreatDoor.Sn

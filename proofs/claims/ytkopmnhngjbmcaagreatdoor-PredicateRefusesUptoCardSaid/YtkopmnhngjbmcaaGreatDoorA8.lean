/- What shape.Def asks of the head of a definition that is made for one condition. -/
import Derived.Test.YtkopmnhngjbmcaaGreatDoorSn
import Derived.Test.YtkopmnhngjbmcaaGreatDoorA2
namespace Go.Proofs.YtkopmnhngjbmcaaGreatDoor.Sn
open Go Go.RowKit
set_option linter.unusedVariables false
theorem size220 : (Tryz.prog.info? 220).map (·.size) = some 2 := by kernel_rfl
theorem size224 : (Tryz.prog.info? 224).map (·.size) = some 3 := by kernel_rfl
/-- 'R' arrays of one element -/
def ArrRow (w : World) (A : Option Addr) (R : Nat) : Prop := ∀ i, i < R → ∃ ad, A = some ad ∧ ∀ j u, [Value.int .i64 1, .int .i64 0][j]? = some u → w.cell? ((ad.add (i * 2)).add j) = some u
theorem ArrRow.below {w w' : World} {A : Option Addr} {R : Nat} (h : ArrRow w A R) (hb : Below w.heap.size w w') : ArrRow w' A R := fun i hi => by
  obtain ⟨ad, ha, hc⟩ := h i hi
  exact ⟨ad, ha, fun j u hj => (hb.cell (World.block_lt_of_cell? w _ (hc j u hj))).trans (hc j u hj)⟩
set_option maxRecDepth 100000 in
set_option maxHeartbeats 2000000 in
theorem def1_calls (g : Nat) (w : World) (h5 : w.cell? ⟨g, 5, none⟩ = some (.slice none 0 0)) :
    Calls Tryz.prog 174 #[.agg #[.int .i64 1, .int .i64 0], .pointer (some ⟨g, 0, none⟩)] w fun e w' => e = .returned (.bool true) ∧ Below w.heap.size w w' := by
  have i1 : inR 1 1 64 = true := rfl
  have i2 : inR 0 0 0 = true := rfl
  go_enter Tryz.func174, Tryz.ntmps174
  go_wp2_with (first
    | ((with_reducible refine gate_dst (N := 2) rfl ?_); refine box2 rfl (N := 2) rfl (.int .i64 1) (.int .i64 0) 220 (by go_simp) ?_; intro g2 w2 HG2 HB2 HBE2 q0 q1; have h5' : w2.cell? ⟨g, 5, none⟩ = some (.slice none 0 0) := (HBE2.out.cell (World.block_lt_of_cell? w _ h5)).trans h5)
    | (go_at_call 175; refine (in_calls _ _ _ _).mono ?_; rintro en w3 ⟨rfl, rfl⟩))
  go_ret
  exact ⟨rfl, HBE2.out⟩
set_option maxRecDepth 100000 in
set_option maxHeartbeats 2000000 in
theorem ev1_calls (g g5 : Nat) (w : World) (h5 : w.cell? ⟨g, 5, none⟩ = some (.slice none 0 0)) (hf : w.cell? ⟨g5, 0, none⟩ = some (.func (.func 174) #[] #[.pointer (some ⟨g, 0, none⟩)])) :
    Calls Tryz.prog 229 #[.agg #[.int .i64 1, .int .i64 0], .pointer (some ⟨g5, 0, none⟩)] w fun e w' => e = .returned (.bool false) ∧ Below w.heap.size w w' := by
  go_enter Tryz.func229, Tryz.ntmps229
  go_wp2_with (first
    | ((with_reducible refine gate_dst (N := 2) rfl ?_); refine box2 rfl (N := 2) rfl (.int .i64 1) (.int .i64 0) 220 (by go_simp) ?_; intro g2 w2 HG2 HB2 HBE2 q0 q1; have h5' : w2.cell? ⟨g, 5, none⟩ = some (.slice none 0 0) := (HBE2.out.cell (World.block_lt_of_cell? w _ h5)).trans h5; have hf' : w2.cell? ⟨g5, 0, none⟩ = some (.func (.func 174) #[] #[.pointer (some ⟨g, 0, none⟩)]) := (HBE2.out.cell (World.block_lt_of_cell? w _ hf)).trans hf)
    | (go_at_call 174; refine (def1_calls g _ h5').mono ?_; rintro en w3 ⟨rfl, hb3⟩; have HB3 := Lib.hid hb3; clear hb3))
  go_ret
  exact ⟨rfl, below_trans HBE2.out HB3.out⟩
set_option maxRecDepth 100000 in
set_option maxHeartbeats 2000000 in
theorem idxArr_calls (g g5 : Nat) (A : Option Addr) (R c : Nat) (hR : R ≤ 4) (w : World) (h5 : w.cell? ⟨g, 5, none⟩ = some (.slice none 0 0)) (hf : w.cell? ⟨g5, 0, none⟩ = some (.func (.func 174) #[] #[.pointer (some ⟨g, 0, none⟩)]))
    (ha : ArrRow w A R) : Calls Tryz.prog 282 #[.slice A R c, .func (.func 229) #[] #[.pointer (some ⟨g5, 0, none⟩)]] w fun e w' => e = .returned (.int .i64 (-1)) ∧ Below w.heap.size w w' := by
  have HA := Lib.hid ha
  have H5 := Lib.hid h5
  have HF := Lib.hid hf
  clear ha h5 hf
  go_enter Tryz.func282, Tryz.ntmps282
  go_wp2
  go_loopw [8] (fun s8 wr => ∃ k : Nat, k ≤ R ∧ s8 = .int .i64 k ∧ Below w.heap.size w wr) (fun s8 _ => R - (intOf s8).toNat)
  case atStart => exact ⟨0, Nat.zero_le _, rfl, Below.refl _ _⟩
  case round =>
    obtain ⟨k, hk, rfl, hB⟩ := hrel
    have HB := Lib.hid hB
    clear hB
    by_cases hlt : k < R
    · obtain ⟨ad, rfl, hc⟩ := HA.out.below HB.out k hlt
      have HC := Lib.hid hc
      have H5' := Lib.hid ((HB.out.cell (World.block_lt_of_cell? w _ H5.out)).trans H5.out)
      have HF' := Lib.hid ((HB.out.cell (World.block_lt_of_cell? w _ HF.out)).trans HF.out)
      clear hc
      go_wp2_with (first
        | ((with_reducible refine gate_dst (N := 15) rfl ?_); refine load_at rfl 220 (.tmp 14) rfl (ad.add (k * 2)) (by go_simp) [.int .i64 1, .int .i64 0] HC.out _ Tryz.underlying220 rfl size220 ?_)
        | (go_at_call 229; refine (ev1_calls g g5 _ H5'.out HF'.out).mono ?_; rintro en w3 ⟨rfl, hb3⟩; have HB3 := Lib.hid hb3; clear hb3))
      go_roundw
      case rel => exact ⟨k + 1, by omega, by go_num, below_trans HB.out HB3.out⟩
      case measure => simp [intOf]; omega
    · go_wp2
      go_ret
      exact ⟨rfl, HB.out⟩
set_option maxRecDepth 100000 in
set_option maxHeartbeats 2000000 in
theorem conArr_calls (g g5 : Nat) (A : Option Addr) (R c : Nat) (hR : R ≤ 4) (w : World) (h5 : w.cell? ⟨g, 5, none⟩ = some (.slice none 0 0)) (hf : w.cell? ⟨g5, 0, none⟩ = some (.func (.func 174) #[] #[.pointer (some ⟨g, 0, none⟩)]))
    (ha : ArrRow w A R) : Calls Tryz.prog 228 #[.slice A R c, .func (.func 229) #[] #[.pointer (some ⟨g5, 0, none⟩)]] w fun e w' => e = .returned (.bool false) ∧ Below w.heap.size w w' := by
  have HC := Lib.hid (idxArr_calls g g5 A R c hR w h5 hf ha)
  clear h5 hf ha
  go_enter Tryz.func228, Tryz.ntmps228
  go_wp2_with (go_at_call 282; refine HC.out.mono ?_; rintro en w3 ⟨rfl, hb3⟩; have HB3 := Lib.hid hb3; clear hb3)
  go_ret
  exact ⟨rfl, HB3.out⟩
set_option maxRecDepth 100000 in
set_option maxHeartbeats 2000000 in
theorem everyArr_calls (g : Nat) (A : Option Addr) (R c : Nat) (hR : R ≤ 4) (w : World) (h5 : w.cell? ⟨g, 5, none⟩ = some (.slice none 0 0))
    (ha : ArrRow w A R) : Calls Tryz.prog 179 #[.slice A R c, .int .i64 4, .func (.func 174) #[] #[.pointer (some ⟨g, 0, none⟩)]] w fun e w' => e = .returned (.bool true) ∧ Below w.heap.size w w' := by
  have hmf : ∀ (fn : Fn) (first cap : Array Value) (w : World), (Instr.makeFunc fn first cap).run Tryz.prog w = .ok (.func fn first cap) w := fun _ _ _ _ => rfl
  have HA := Lib.hid ha
  have H5 := Lib.hid h5
  clear ha h5
  go_enter Tryz.func179, Tryz.ntmps179
  go_wp2_with (first
    | ((with_reducible refine gate_dst (N := 5) rfl ?_); refine new_at rfl (N := 5) rfl #[.func (.func 174) #[] #[.pointer (some ⟨g, 0, none⟩)]] 281 (by go_simp) ?_; intro g5 w2 HG2 HB2 HBE2)
    | (go_at_call 228; refine (conArr_calls g g5 A R c hR _ ((HBE2.out.cell (World.block_lt_of_cell? w _ H5.out)).trans H5.out) ((blk_cell HB2.out 0).trans rfl) (HA.out.below HBE2.out)).mono ?_; rintro en w3 ⟨rfl, hb3⟩; have HB3 := Lib.hid hb3; clear hb3))
  go_ret
  exact ⟨rfl, below_trans HBE2.out HB3.out⟩
set_option maxRecDepth 100000 in
set_option maxHeartbeats 2000000 in
theorem idxRange_calls (f : Value) (w : World) : Calls Tryz.prog 281 #[.slice none 0 0, f] w fun e w' => e = .returned (.int .i64 (-1)) ∧ w = w' := by
  go_enter Tryz.func281, Tryz.ntmps281
  go_wp2
  go_loop [8] (fun s8 => s8 = .int .i64 0) (fun _ => 0)
  case atStart => rfl
  case round =>
    obtain rfl := hrel
    go_wp2
    go_ret
    exact ⟨rfl, rfl⟩
set_option maxRecDepth 100000 in
set_option maxHeartbeats 2000000 in
theorem everyRange_calls (m : Int) (hm : 0 ≤ m) (fn : Fn) (fa fb : Array Value) (w : World) : Calls Tryz.prog 177 #[.slice none 0 0, .int .i64 m, .func fn fa fb] w fun e w' => e = .returned (.bool true) ∧ Below w.heap.size w w' := by
  have hmf : ∀ (fn : Fn) (first cap : Array Value) (w : World), (Instr.makeFunc fn first cap).run Tryz.prog w = .ok (.func fn first cap) w := fun _ _ _ _ => rfl
  go_enter Tryz.func177, Tryz.ntmps177
  go_wp2_with (first
    | ((with_reducible refine gate_dst (N := 5) rfl ?_); refine new_at rfl (N := 5) rfl #[.func fn fa fb] 284 (by go_simp) ?_; intro g5 w2 HG2 HB2 HBE2)
    | (go_at_call 226; go_in)
    | (go_at_call 281; refine (idxRange_calls _ _).mono ?_; rintro en w3 ⟨rfl, rfl⟩))
  go_ret
  exact ⟨rfl, HBE2.out⟩
set_option maxRecDepth 100000 in
set_option maxHeartbeats 2000000 in
theorem named_p_calls (w : World) : Calls Tryz.prog 176 #[.string ⟨#[112]⟩] w fun e w' => e = .returned (.bool true) ∧ w = w' := by
  have i1 : inR 1 1 20 = true := rfl
  go_enter Tryz.func176, Tryz.ntmps176
  go_wp2
  go_loop [8] (fun s8 => s8 = .int .i64 0 ∨ s8 = .int .i64 1) (fun s8 => 1 - (intOf s8).toNat)
  case atStart => exact .inl rfl
  case round =>
    rcases hrel with rfl | rfl
    · go_wp2
      go_round
      case rel => exact .inr rfl
      case measure => simp [intOf]
    · go_wp2_with (go_at_call 175; refine (in_calls _ _ _ _).mono ?_; rintro en w3 ⟨rfl, rfl⟩)
      go_ret
      exact ⟨rfl, rfl⟩
end Go.Proofs.YtkopmnhngjbmcaaGreatDoor.Sn

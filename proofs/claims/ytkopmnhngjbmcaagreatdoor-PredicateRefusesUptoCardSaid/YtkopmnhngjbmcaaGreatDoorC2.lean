/- (paroleref06.expr): all expressions. -/
import Derived.Test.YtkopmnhngjbmcaaGreatDoorC1
namespace Go.Proofs.YtkopmnhngjbmcaaGreatDoor.Sn
open Go Go.RowKit
set_option linter.unusedVariables false
theorem szE_two (V R : Int) (d : Nat) (e x0 x1 : Ex) (hT : okE V R d e = (decide (d < 10) && (okE V R (d + 1) x0 && okE V R (d + 1) x1))) (hS : e.size = 1 + x0.size + x1.size) :
    (szE V R (d + 1) x0 < 0 ∨ szE V R (d + 1) x1 < 0 → szE V R d e = -1) ∧ (0 ≤ szE V R (d + 1) x0 → 0 ≤ szE V R (d + 1) x1 → szE V R d e = 1 + szE V R (d + 1) x0 + szE V R (d + 1) x1) := by
  cases h0 : okE V R (d + 1) x0
  · have z0 := szE_false h0
    exact ⟨fun _ => szE_false (by rw [hT, h0]; simp), fun h => by omega⟩
  · cases h1 : okE V R (d + 1) x1
    · have z1 := szE_false h1
      exact ⟨fun _ => szE_false (by rw [hT, h1]; simp), fun _ h => by omega⟩
    · have z0 : szE V R (d + 1) x0 = x0.size := by rw [szE, h0]; rfl
      have z1 : szE V R (d + 1) x1 = x1.size := by rw [szE, h1]; rfl
      have hd : d < 10 := by
        by_cases hd : d + 1 ≤ 10
        · omega
        · rw [okE_deep hd] at h0; cases h0
      refine ⟨fun h => by omega, fun _ _ => ?_⟩
      rw [z0, z1, szE, hT, h0, h1, if_pos (by simp [hd]), hS]; omega
theorem szE_bounds (V R : Int) (d : Nat) (e : Ex) (h : e.size < 1152921504606846976) : -1 ≤ szE V R d e ∧ szE V R d e < 1152921504606846976 := by
  unfold szE; split <;> omega
set_option maxRecDepth 100000 in
set_option maxHeartbeats 2000000 in
theorem expr6_no (e : Ex) (d : Nat) (hd : d ≤ 10) (V : Int) (R Rc : Nat) (AR : Option Addr) (k0 k1 k2 k3 k4 k5 k6 k8 k10 k11 : Value) (w : World) (A : Option Addr) (c : Nat) (h1 : e.op ≠ 1) (h2 : e.op ≠ 2) (h3 : e.op ≠ 3)
    (hno : inR 4 e.op 10 = false ∨ e.n ≠ 0 ∨ e.v ≠ 0 ∨ e.a.length ≠ 2) :
    Calls Tryz.prog 189 #[.agg #[k0, k1, k2, k3, k4, k5, k6, .int .i64 V, k8, .slice AR R Rc, k10, k11], .agg #[.int .i64 e.op, .int .i64 e.n, .int .i64 e.v, .slice A e.a.length c], .int .i64 d] w
      fun en w' => en = .returned (.int .i64 (szE V R d e)) ∧ Below w.heap.size w w' := by
  have HZ : Hid (szE V R d e = -1) := Lib.hid (szE_false (by
    rw [okE_4 V R d e h1 h2 h3]
    rcases hno with h | h | h | h <;> simp [h]))
  have b1 : (e.op == 1) = false := beq_eq_false_iff_ne.2 h1
  have b2 : (e.op == 2) = false := beq_eq_false_iff_ne.2 h2
  have b3 : (e.op == 3) = false := beq_eq_false_iff_ne.2 h3
  by_cases c1 : inR 4 e.op 10 = false
  · clear hno h1 h2 h3
    go_enter Tryz.func189, Tryz.ntmps189
    go_wp2_with (first | ((with_reducible refine gate_dst (N := 3) rfl ?_); refine new_at rfl (N := 3) rfl #[k0, k1, k2, k3, k4, k5, k6, .int .i64 V, k8, .slice AR R Rc, k10, k11] 99 (by go_simp) ?_; intro g1 w1 HG1 HB1 HBE1) | ((with_reducible refine gate_dst (N := 4) rfl ?_); refine box4 rfl (N := 4) rfl (.int .i64 e.op) (.int .i64 e.n) (.int .i64 e.v) (.slice A e.a.length c) 125 (by go_simp) ?_; intro g2 w2 HG2 HB2 HBE2 q0 q1 q2 q3; have r7 : w2.cell? ⟨g1, 7, none⟩ = some (.int .i64 V) := (blk_cell (below_blk HBE2.out HB1.out) 7).trans rfl; have r9 : w2.cell? ⟨g1, 9, none⟩ = some (.slice AR R Rc) := (blk_cell (below_blk HBE2.out HB1.out) 9).trans rfl) | (go_at_call 131; refine (in6_calls _ _ _ _).mono ?_; rintro en w3 ⟨rfl, rfl⟩))
    go_ret
    exact ⟨ret_eq HZ.out, below_trans HBE1.out HBE2.out⟩
  have c1' : inR 4 e.op 10 = true := by simpa using c1
  clear c1
  by_cases c2 : e.n = 0
  · have c2' : (e.n != 0) = false := by simp [c2]
    by_cases c3 : e.v = 0
    · have c3' : (e.v != 0) = false := by simp [c3]
      have c4 : e.a.length ≠ 2 := by
        rcases hno with h | h | h | h
        · rw [c1'] at h; cases h
        · exact absurd c2 h
        · exact absurd c3 h
        · exact h
      have c4' : ((e.a.length : Int) != 2) = true := by simp; omega
      clear hno c2 c3 c4 h1 h2 h3
      go_enter Tryz.func189, Tryz.ntmps189
      go_wp2_with (first | ((with_reducible refine gate_dst (N := 3) rfl ?_); refine new_at rfl (N := 3) rfl #[k0, k1, k2, k3, k4, k5, k6, .int .i64 V, k8, .slice AR R Rc, k10, k11] 99 (by go_simp) ?_; intro g1 w1 HG1 HB1 HBE1) | ((with_reducible refine gate_dst (N := 4) rfl ?_); refine box4 rfl (N := 4) rfl (.int .i64 e.op) (.int .i64 e.n) (.int .i64 e.v) (.slice A e.a.length c) 125 (by go_simp) ?_; intro g2 w2 HG2 HB2 HBE2 q0 q1 q2 q3; have r7 : w2.cell? ⟨g1, 7, none⟩ = some (.int .i64 V) := (blk_cell (below_blk HBE2.out HB1.out) 7).trans rfl; have r9 : w2.cell? ⟨g1, 9, none⟩ = some (.slice AR R Rc) := (blk_cell (below_blk HBE2.out HB1.out) 9).trans rfl) | (go_at_call 131; refine (in6_calls _ _ _ _).mono ?_; rintro en w3 ⟨rfl, rfl⟩))
      go_ret
      exact ⟨ret_eq HZ.out, below_trans HBE1.out HBE2.out⟩
    · have c3' : (e.v != 0) = true := by simp [c3]
      clear hno c2 c3 h1 h2 h3
      go_enter Tryz.func189, Tryz.ntmps189
      go_wp2_with (first | ((with_reducible refine gate_dst (N := 3) rfl ?_); refine new_at rfl (N := 3) rfl #[k0, k1, k2, k3, k4, k5, k6, .int .i64 V, k8, .slice AR R Rc, k10, k11] 99 (by go_simp) ?_; intro g1 w1 HG1 HB1 HBE1) | ((with_reducible refine gate_dst (N := 4) rfl ?_); refine box4 rfl (N := 4) rfl (.int .i64 e.op) (.int .i64 e.n) (.int .i64 e.v) (.slice A e.a.length c) 125 (by go_simp) ?_; intro g2 w2 HG2 HB2 HBE2 q0 q1 q2 q3; have r7 : w2.cell? ⟨g1, 7, none⟩ = some (.int .i64 V) := (blk_cell (below_blk HBE2.out HB1.out) 7).trans rfl; have r9 : w2.cell? ⟨g1, 9, none⟩ = some (.slice AR R Rc) := (blk_cell (below_blk HBE2.out HB1.out) 9).trans rfl) | (go_at_call 131; refine (in6_calls _ _ _ _).mono ?_; rintro en w3 ⟨rfl, rfl⟩))
      go_ret
      exact ⟨ret_eq HZ.out, below_trans HBE1.out HBE2.out⟩
  · have c2' : (e.n != 0) = true := by simp [c2]
    clear hno c2 h1 h2 h3
    go_enter Tryz.func189, Tryz.ntmps189
    go_wp2_with (first | ((with_reducible refine gate_dst (N := 3) rfl ?_); refine new_at rfl (N := 3) rfl #[k0, k1, k2, k3, k4, k5, k6, .int .i64 V, k8, .slice AR R Rc, k10, k11] 99 (by go_simp) ?_; intro g1 w1 HG1 HB1 HBE1) | ((with_reducible refine gate_dst (N := 4) rfl ?_); refine box4 rfl (N := 4) rfl (.int .i64 e.op) (.int .i64 e.n) (.int .i64 e.v) (.slice A e.a.length c) 125 (by go_simp) ?_; intro g2 w2 HG2 HB2 HBE2 q0 q1 q2 q3; have r7 : w2.cell? ⟨g1, 7, none⟩ = some (.int .i64 V) := (blk_cell (below_blk HBE2.out HB1.out) 7).trans rfl; have r9 : w2.cell? ⟨g1, 9, none⟩ = some (.slice AR R Rc) := (blk_cell (below_blk HBE2.out HB1.out) 9).trans rfl) | (go_at_call 131; refine (in6_calls _ _ _ _).mono ?_; rintro en w3 ⟨rfl, rfl⟩))
    go_ret
    exact ⟨ret_eq HZ.out, below_trans HBE1.out HBE2.out⟩
set_option maxRecDepth 100000 in
set_option maxHeartbeats 8000000 in
theorem expr6_calls (V : Int) (hV : 0 ≤ V ∧ V ≤ 1000) (R Rc : Nat) (hR : R ≤ 1000) (AR : Option Addr) (k0 k1 k2 k3 k4 k5 k6 k8 k10 k11 : Value) :
    ∀ (n : Nat) (e : Ex), e.size ≤ n → n < 1152921504606846976 → ∀ (d : Nat) (S : Snap) (w : World) (cs : List Value), Agr S w → RepE S e cs →
    Calls Tryz.prog 189 #[.agg #[k0, k1, k2, k3, k4, k5, k6, .int .i64 V, k8, .slice AR R Rc, k10, k11], .agg cs.toArray, .int .i64 d] w
      fun en w' => en = .returned (.int .i64 (szE V R d e)) ∧ Below w.heap.size w w' := by
  intro n
  induction n with
  | zero => intro e he; rw [e.size_eq] at he; omega
  | succ n ih =>
    intro e he hn d S w cs hS hr
    obtain ⟨A, c, rfl, hc, hrow⟩ := hr.open_
    have hs0 : e.a.length = 0 → e.size = 1 := fun h => by
      rw [e.size_eq, List.eq_nil_of_length_eq_zero h]; simp [Ex.sizeL]
    by_cases hd : d ≤ 10
    case neg => exact expr6_deep e d hd V R Rc AR k0 k1 k2 k3 k4 k5 k6 k8 k10 k11 w A c
    by_cases h1 : e.op = 1
    · exact expr6_1 e d hd V hV R Rc hR AR k0 k1 k2 k3 k4 k5 k6 k8 k10 k11 w A c h1 hs0
    by_cases h2 : e.op = 2
    · exact expr6_2 e d hd V hV R Rc hR AR k0 k1 k2 k3 k4 k5 k6 k8 k10 k11 w A c h2 hs0
    by_cases h3 : e.op = 3
    · exact expr6_3 e d hd V hV R Rc hR AR k0 k1 k2 k3 k4 k5 k6 k8 k10 k11 w A c h3 hs0
    by_cases hno : inR 4 e.op 10 = false ∨ e.n ≠ 0 ∨ e.v ≠ 0 ∨ e.a.length ≠ 2
    · exact expr6_no e d hd V R Rc AR k0 k1 k2 k3 k4 k5 k6 k8 k10 k11 w A c h1 h2 h3 hno
    simp only [not_or, ne_eq, Decidable.not_not, Bool.not_eq_false] at hno
    obtain ⟨c1, c2, c3, c4⟩ := hno
    obtain ⟨x0, x1, hx⟩ : ∃ x0 x1, e.a = [x0, x1] := by
      match e.a, c4 with
      | [x0, x1], _ => exact ⟨x0, x1, rfl⟩
    have HT : Hid (okE V R d e = (decide (d < 10) && (okE V R (d + 1) x0 && okE V R (d + 1) x1))) := Lib.hid (by
      rw [okE_4 V R d e h1 h2 h3, hx]; simp [c1, c2, c3, okEs])
    have HSZ : Hid (e.size = 1 + x0.size + x1.size) := Lib.hid (by rw [e.size_eq, hx]; simp [Ex.sizeL]; omega)
    have b1 : (e.op == 1) = false := beq_eq_false_iff_ne.2 h1
    have b2 : (e.op == 2) = false := beq_eq_false_iff_ne.2 h2
    have b3 : (e.op == 3) = false := beq_eq_false_iff_ne.2 h3
    have c2' : (e.n != 0) = false := by simp [c2]
    have c3' : (e.v != 0) = false := by simp [c3]
    have HL2 : Hid (e.a.length = 2) := Lib.hid c4
    have d10 : (d : Int) ≤ 10 := by omega
    have HWR : Hid (IntKind.i64.wrap ((d : Int) + 1) = (d : Int) + 1) := Lib.hid (by rw [IntKind.wrap_i64]; omega)
    have HS := Lib.hid hS
    have HE := Lib.hid he
    have HIH := Lib.hid ih
    have hr0 := RowE.whole hS hrow 0 x0 (by rw [hx]; rfl)
    have hr1 := RowE.whole hS hrow 1 x1 (by rw [hx]; rfl)
    obtain ⟨ad, A0, e0, rfl, HC0, HR0⟩ := hr0
    obtain ⟨ad', A1, e1, hrfl, HC1, HR1⟩ := hr1
    obtain rfl : ad = ad' := by simpa using hrfl
    clear hS hrow he ih h1 h2 h3 c2 c3 c4 hs0 hr hx hd hrfl
    rw [HL2.out]
    go_enter Tryz.func189, Tryz.ntmps189
    go_wp2_with (first | ((with_reducible refine gate_dst (N := 3) rfl ?_); refine new_at rfl (N := 3) rfl #[k0, k1, k2, k3, k4, k5, k6, .int .i64 V, k8, .slice AR R Rc, k10, k11] 99 (by go_simp) ?_; intro g1 w1 HG1 HB1 HBE1) | ((with_reducible refine gate_dst (N := 4) rfl ?_); refine box4 rfl (N := 4) rfl (.int .i64 e.op) (.int .i64 e.n) (.int .i64 e.v) (.slice (some ad) 2 c) 125 (by go_simp) ?_; intro g2 w2 HG2 HB2 HBE2 q0 q1 q2 q3; have r7 : w2.cell? ⟨g1, 7, none⟩ = some (.int .i64 V) := (blk_cell (below_blk HBE2.out HB1.out) 7).trans rfl; have r9 : w2.cell? ⟨g1, 9, none⟩ = some (.slice AR R Rc) := (blk_cell (below_blk HBE2.out HB1.out) 9).trans rfl) | (go_at_call 131; refine (in6_calls _ _ _ _).mono ?_; rintro en w3 ⟨rfl, rfl⟩))
    clear q0 q1 q2 q3 r7 r9 c2' c3' b1 b2 b3
    have HB02 := Lib.hid (below_trans HBE1.out HBE2.out)
    have HMK : Hid (∀ w', Below w2.heap.size w2 w' → Below w2.heap.size w2 w' ∧ w'.cell? ⟨g1, 0, none⟩ = some k0 ∧ w'.cell? ⟨g1, 1, none⟩ = some k1 ∧ w'.cell? ⟨g1, 2, none⟩ = some k2 ∧ w'.cell? ⟨g1, 3, none⟩ = some k3 ∧ w'.cell? ⟨g1, 4, none⟩ = some k4 ∧ w'.cell? ⟨g1, 5, none⟩ = some k5 ∧ w'.cell? ⟨g1, 6, none⟩ = some k6 ∧ w'.cell? ⟨g1, 7, none⟩ = some (.int .i64 V) ∧ w'.cell? ⟨g1, 8, none⟩ = some k8 ∧ w'.cell? ⟨g1, 9, none⟩ = some (.slice AR R Rc) ∧ w'.cell? ⟨g1, 10, none⟩ = some k10 ∧ w'.cell? ⟨g1, 11, none⟩ = some k11 ∧ w'.cell? ⟨g2, 3, none⟩ = some (.slice (some ad) 2 c) ∧ w'.cell? ad = some (.int .i64 x0.op) ∧ w'.cell? ⟨ad.block, ad.off + 1, none⟩ = some (.int .i64 x0.n) ∧ w'.cell? ⟨ad.block, ad.off + 2, none⟩ = some (.int .i64 x0.v) ∧ w'.cell? ⟨ad.block, ad.off + 3, none⟩ = some (.slice A0 x0.a.length e0) ∧ w'.cell? ⟨ad.block, ad.off + 4, none⟩ = some (.int .i64 x1.op) ∧ w'.cell? ⟨ad.block, ad.off + 4 + 1, none⟩ = some (.int .i64 x1.n) ∧ w'.cell? ⟨ad.block, ad.off + 4 + 2, none⟩ = some (.int .i64 x1.v) ∧ w'.cell? ⟨ad.block, ad.off + 4 + 3, none⟩ = some (.slice A1 x1.a.length e1)) := Lib.hid (fun w' hb => by
        have hbb := below_trans HB02.out hb
        have hg1 := below_blk hb (below_blk HBE2.out HB1.out)
        have hx1 : ∀ j u, [Value.int .i64 x1.op, .int .i64 x1.n, .int .i64 x1.v, .slice A1 x1.a.length e1][j]? = some u → w'.cell? ⟨ad.block, ad.off + 4 + j, none⟩ = some u := fun j u hj => by
          have h := (hbb.cell (World.block_lt_of_cell? w _ (HC1.out j u hj))).trans (HC1.out j u hj)
          rw [add_add, show 1 * 4 + j = 4 + j by omega] at h
          unfold Addr.add at h
          rw [if_neg (by omega)] at h
          rw [← h, Nat.add_assoc]
        have hx0 : ∀ j u, [Value.int .i64 x0.op, .int .i64 x0.n, .int .i64 x0.v, .slice A0 x0.a.length e0][j]? = some u → w'.cell? (if j = 0 then ad else ⟨ad.block, ad.off + j, none⟩) = some u := fun j u hj => by
          have h := (hbb.cell (World.block_lt_of_cell? w _ (HC0.out j u hj))).trans (HC0.out j u hj)
          rw [add_add, show 0 * 4 + j = j by omega] at h
          unfold Addr.add at h
          exact h
        exact ⟨hb, (blk_cell hg1 0).trans rfl, (blk_cell hg1 1).trans rfl, (blk_cell hg1 2).trans rfl, (blk_cell hg1 3).trans rfl, (blk_cell hg1 4).trans rfl, (blk_cell hg1 5).trans rfl, (blk_cell hg1 6).trans rfl, (blk_cell hg1 7).trans rfl, (blk_cell hg1 8).trans rfl, (blk_cell hg1 9).trans rfl, (blk_cell hg1 10).trans rfl, (blk_cell hg1 11).trans rfl, (blk_cell (below_blk hb HB2.out) 3).trans rfl, hx0 0 _ rfl, hx0 1 _ rfl, hx0 2 _ rfl, hx0 3 _ rfl, hx1 0 _ rfl, hx1 1 _ rfl, hx1 2 _ rfl, hx1 3 _ rfl⟩)
    have Hx0 : Hid (∀ W, Below w2.heap.size w2 W → Calls Tryz.prog 189 #[.agg #[k0, k1, k2, k3, k4, k5, k6, .int .i64 V, k8, .slice AR R Rc, k10, k11], .agg #[.int .i64 x0.op, .int .i64 x0.n, .int .i64 x0.v, .slice A0 x0.a.length e0], .int .i64 (↑d + 1)] W (fun en w' => en = .returned (.int .i64 (szE V R (d + 1) x0)) ∧ Below W.heap.size W w')) := Lib.hid (fun W hb =>
      HIH.out x0 (by have := HSZ.out; have := HE.out; have := x0.size_eq; have := x0.size_eq; have := x1.size_eq; omega) (by omega) (d + 1) S _ [.int .i64 x0.op, .int .i64 x0.n, .int .i64 x0.v, .slice A0 x0.a.length e0] (HS.out.below (below_trans HB02.out hb)) HR0.out)
    have Hx1 : Hid (∀ W, Below w2.heap.size w2 W → Calls Tryz.prog 189 #[.agg #[k0, k1, k2, k3, k4, k5, k6, .int .i64 V, k8, .slice AR R Rc, k10, k11], .agg #[.int .i64 x1.op, .int .i64 x1.n, .int .i64 x1.v, .slice A1 x1.a.length e1], .int .i64 (↑d + 1)] W (fun en w' => en = .returned (.int .i64 (szE V R (d + 1) x1)) ∧ Below W.heap.size W w')) := Lib.hid (fun W hb =>
      HIH.out x1 (by have := HSZ.out; have := HE.out; have := x1.size_eq; have := x0.size_eq; have := x1.size_eq; omega) (by omega) (d + 1) S _ [.int .i64 x1.op, .int .i64 x1.n, .int .i64 x1.v, .slice A1 x1.a.length e1] (HS.out.below (below_trans HB02.out hb)) HR1.out)
    have F := Lib.hid (szE_two V R d e x0 x1 HT.out HSZ.out)
    have hz0 := szE_bounds V R (d + 1) x0 (by have := HSZ.out; have := HE.out; omega)
    have hz1 := szE_bounds V R (d + 1) x1 (by have := HSZ.out; have := HE.out; omega)
    go_region_held3 (fun w' => Below w2.heap.size w2 w' ∧ w'.cell? ⟨g1, 0, none⟩ = some k0 ∧ w'.cell? ⟨g1, 1, none⟩ = some k1 ∧ w'.cell? ⟨g1, 2, none⟩ = some k2 ∧ w'.cell? ⟨g1, 3, none⟩ = some k3 ∧ w'.cell? ⟨g1, 4, none⟩ = some k4 ∧ w'.cell? ⟨g1, 5, none⟩ = some k5 ∧ w'.cell? ⟨g1, 6, none⟩ = some k6 ∧ w'.cell? ⟨g1, 7, none⟩ = some (.int .i64 V) ∧ w'.cell? ⟨g1, 8, none⟩ = some k8 ∧ w'.cell? ⟨g1, 9, none⟩ = some (.slice AR R Rc) ∧ w'.cell? ⟨g1, 10, none⟩ = some k10 ∧ w'.cell? ⟨g1, 11, none⟩ = some k11 ∧ w'.cell? ⟨g2, 3, none⟩ = some (.slice (some ad) 2 c) ∧ w'.cell? ad = some (.int .i64 x0.op) ∧ w'.cell? ⟨ad.block, ad.off + 1, none⟩ = some (.int .i64 x0.n) ∧ w'.cell? ⟨ad.block, ad.off + 2, none⟩ = some (.int .i64 x0.v) ∧ w'.cell? ⟨ad.block, ad.off + 3, none⟩ = some (.slice A0 x0.a.length e0) ∧ w'.cell? ⟨ad.block, ad.off + 4, none⟩ = some (.int .i64 x1.op) ∧ w'.cell? ⟨ad.block, ad.off + 4 + 1, none⟩ = some (.int .i64 x1.n) ∧ w'.cell? ⟨ad.block, ad.off + 4 + 2, none⟩ = some (.int .i64 x1.v) ∧ w'.cell? ⟨ad.block, ad.off + 4 + 3, none⟩ = some (.slice A1 x1.a.length e1)) (first | exact HMK.out _ (Below.refl _ _) | exact HMK.out _ (Below.refl _ _).drew | exact HMK.out _ (below_trans (‹Below w2.heap.size w2 _ ∧ _›).1 hb5)) (first | (go_at_call 189; (try rw [HWR.out]); with_reducible refine (Hx0.out _ (‹Below w2.heap.size w2 _ ∧ _›).1).mono ?_; rintro en w5 ⟨rfl, hb5⟩) | (go_at_call 189; (try rw [HWR.out]); with_reducible refine (Hx1.out _ (‹Below w2.heap.size w2 _ ∧ _›).1).mono ?_; rintro en w5 ⟨rfl, hb5⟩))
    all_goals
      have HB5 := Lib.hid (‹Below w2.heap.size w2 w5 ∧ _›).1
      go_wp2
      all_goals go_ret
      all_goals refine ⟨?_, below_trans HB02.out HB5.out⟩
      all_goals first
        | exact ret_eq (F.out.1 (by omega))
        | exact ret_eq (F.out.2 (by omega) (by omega))
end Go.Proofs.YtkopmnhngjbmcaaGreatDoor.Sn

/- (shape.checker).expr: every expression. -/
import Derived.Test.YtkopmnhngjbmcaaGreatDoorA3
namespace Go.Proofs.YtkopmnhngjbmcaaGreatDoor.Sn
open Go Go.RowKit
set_option linter.unusedVariables false
theorem size125 : (Tryz.prog.info? 125).map (·.size) = some 4 := by kernel_rfl
theorem size280 : (Tryz.prog.info? 280).map (·.size) = some 19 := by kernel_rfl
set_option maxRecDepth 100000 in
set_option maxHeartbeats 4000000 in
theorem expr_calls (V : Int) (hV : 0 ≤ V ∧ V ≤ 1000) (R Rc : Nat) (hR : R ≤ 1000) (AR : Option Addr) (k0 k1 k2 k3 k4 k5 k6 k8 k10 k11 k12 k13 k14 k15 k16 k17 k18 : Value) :
    ∀ (n : Nat) (e : Ex), e.size ≤ n → n < 1152921504606846976 → ∀ (d : Nat), d < 1000 → ∀ (S : Snap) (w : World) (cs : List Value), Agr S w → RepE S e cs →
    Calls Tryz.prog 284 #[.agg #[k0, k1, k2, k3, k4, k5, k6, .int .i64 V, k8, .slice AR R Rc, k10, k11, k12, k13, k14, k15, k16, k17, k18], .agg cs.toArray, .int .i64 d] w
      fun en w' => ExprOut (okE V R d e) e.size en ∧ Below w.heap.size w w' := by
  intro n
  induction n with
  | zero => intro e he; rw [e.size_eq] at he; omega
  | succ n ih =>
    intro e he hn d hd S w cs hS hr
    obtain ⟨A, c, rfl, hc, hrow⟩ := hr.open_
    have hs0 : e.a.length = 0 → e.size = 1 := fun h => by
      rw [e.size_eq, List.eq_nil_of_length_eq_zero h]; simp [Ex.sizeL]
    by_cases h1 : e.op = 1
    · exact expr_1 e d hd V hV R Rc hR AR k0 k1 k2 k3 k4 k5 k6 k8 k10 k11 k12 k13 k14 k15 k16 k17 k18 w A c h1 hs0
    by_cases h2 : e.op = 2
    · exact expr_2 e d hd V hV R Rc hR AR k0 k1 k2 k3 k4 k5 k6 k8 k10 k11 k12 k13 k14 k15 k16 k17 k18 w A c h2 hs0
    by_cases h3 : e.op = 3
    · exact expr_3 e d hd V hV R Rc hR AR k0 k1 k2 k3 k4 k5 k6 k8 k10 k11 k12 k13 k14 k15 k16 k17 k18 w A c h3 hs0
    by_cases hno : inR 4 e.op 10 = false ∨ e.n ≠ 0 ∨ e.v ≠ 0 ∨ e.a.length ≠ 2 ∨ ¬ d < 10
    · exact expr_no e d hd V R Rc AR k0 k1 k2 k3 k4 k5 k6 k8 k10 k11 k12 k13 k14 k15 k16 k17 k18 w A c h1 h2 h3 hno
    simp only [not_or, ne_eq, Decidable.not_not, Bool.not_eq_false] at hno
    obtain ⟨c1, c2, c3, c4, c5⟩ := hno
    have HT : Hid (okE V R d e = okEs V R (d + 1) e.a) := Lib.hid (by
      rw [okE_4 V R d e h1 h2 h3]; simp [c1, c2, c3, c4, c5])
    have HSZ : Hid (e.size = 1 + Ex.sizeL e.a) := Lib.hid e.size_eq
    have b1 : (e.op == 1) = false := beq_eq_false_iff_ne.2 h1
    have b2 : (e.op == 2) = false := beq_eq_false_iff_ne.2 h2
    have b3 : (e.op == 3) = false := beq_eq_false_iff_ne.2 h3
    have hl0 : ((e.a.length : Int) == 0) = false := beq_eq_false_iff_ne.2 (by omega)
    have c2' : (e.n != 0) = false := by simp [c2]
    have c3' : (e.v != 0) = false := by simp [c3]
    have c4' : ((e.a.length : Int) != 2) = false := by simp [c4]
    have c5' : (d : Int) < 10 := by omega
    have HS := Lib.hid hS
    have HR := Lib.hid hrow
    have HE := Lib.hid he
    have HIH := Lib.hid ih
    have HL : Hid (e.a.length = 2) := Lib.hid c4
    have hl2 : e.a.length ≤ 2 := by omega
    clear hS hrow he ih h1 h2 h3 c2 c3 c4 c5 hs0 hr
    go_enter Tryz.func284, Tryz.ntmps284
    go_wp2_with (first | ((with_reducible refine gate_dst (N := 3) rfl ?_); refine box19 rfl (N := 3) rfl k0 k1 k2 k3 k4 k5 k6 (.int .i64 V) k8 (.slice AR R Rc) k10 k11 k12 k13 k14 k15 k16 k17 k18 280 (by go_simp) ?_; intro g1 w1 HG1 HB1 HBE1 kc0 kc1 kc2 kc3 kc4 kc5 kc6 kc7 kc8 kc9 kc10 kc11 kc12 kc13 kc14 kc15 kc16 kc17 kc18; clear kc0 kc1 kc2 kc3 kc4 kc5 kc6 kc7 kc8 kc9 kc10 kc11 kc12 kc13 kc14 kc15 kc16 kc17 kc18) | ((with_reducible refine gate_dst (N := 4) rfl ?_); refine box4 rfl (N := 4) rfl (.int .i64 e.op) (.int .i64 e.n) (.int .i64 e.v) (.slice A e.a.length c) 125 (by go_simp) ?_; intro g2 w2 HG2 HB2 HBE2 q0 q1 q2 q3) | (go_at_call 175; refine (in_calls _ _ _ _).mono ?_; rintro en w3 ⟨rfl, rfl⟩))
    clear q0 q1 q2 q3 c2' c3' c4' c5' b1 b2 b3 hl0 c1
    go_loopw [9, 99] (fun s9 s99 wr => ∃ k : Nat, k ≤ e.a.length ∧ s9 = .int .i64 ((1 + Ex.sizeL (e.a.take k) : Nat) : Int) ∧ s99 = .int .i64 k ∧ okEs V R (d + 1) (e.a.take k) = true ∧ Below w2.heap.size w2 wr) (fun _ s99 _ => e.a.length - (intOf s99).toNat)
    case atStart => exact ⟨0, Nat.zero_le _, by simp [Ex.sizeL], rfl, by simp [okEs], Below.refl _ _⟩
    case round =>
      obtain ⟨k, hk, rfl, rfl, hok, hB⟩ := hrel
      have HOK := Lib.hid hok
      have HB := Lib.hid hB
      clear hok hB
      by_cases hlt : k < e.a.length
      · have hx : e.a[k]? = some e.a[k] := by simp [hlt]
        obtain ⟨ad, A3, c3, rfl, HC, HREP⟩ := RowE.whole (((HS.out.below HBE1.out).below HBE2.out).below HB.out) HR.out k e.a[k] hx
        have hts := Ex.sizeL_take_succ e.a k _ hx
        have htl2 := Ex.sizeL_take_le e.a (k + 1)
        have HX := Lib.hid hx
        have hsx : 1 + Ex.sizeL (e.a.take k) + e.a[k].size < 1152921504606846976 := by have := HSZ.out; have := HE.out; omega
        have hxn : e.a[k].size ≤ n := by have := HSZ.out; have := HE.out; omega
        have HTS := Lib.hid hts
        have HB1'' := Lib.hid (below_blk (HB.out) (below_blk HBE2.out HB1.out))
        clear hx hts htl2
        by_cases ho2 : okE V R (d + 1) e.a[k] = true
        · have HO2 : Hid (okE V R (d + 1) e.a[k] = true) := Lib.hid ho2
          clear ho2
          go_wp2_with (first
            | ((with_reducible refine gate_dst (N := 102) rfl ?_); refine load_at rfl 125 (.tmp 101) rfl (ad.add (k * 4)) (by go_simp) [.int .i64 e.a[k].op, .int .i64 e.a[k].n, .int .i64 e.a[k].v, .slice A3 e.a[k].a.length c3] HC.out _ Tryz.underlying125 rfl size125 ?_)
            | ((with_reducible refine gate_dst (N := 11) rfl ?_); refine new_at rfl (N := 11) rfl #[.int .i64 0, .int .i64 0, .int .i64 0, .slice none 0 0] 125 (by go_simp) ?_; intro g3 w3 HG3 HB3 HBE3)
            | ((with_reducible refine gate_store (t := 125) (p := 11) rfl ?_); refine store_at rfl rfl 125 (.tmp 11) (.tmp 102) rfl g3 #[.int .i64 e.a[k].op, .int .i64 e.a[k].n, .int .i64 e.a[k].v, .slice A3 e.a[k].a.length c3] (by go_simp) (by go_simp) 125 HB3.out size125 rfl (by simp [Value.oneCell']) ?_; intro w4 HB4 HBE4; have HW4 := Lib.hid (below_grown_new HBE3.out HBE4.out (by rw [HG3.out]; exact Nat.le_refl _)); have HK4 := Lib.hid (below_blk HW4.out HB1''.out))
            | ((with_reducible refine gate_dst (N := 104) rfl ?_); refine wpList_load_row rfl 280 (.tmp 3) rfl g1 (by go_simp) 280 _ (0, 0) _ HK4.out Tryz.underlying280 rfl size280 ?_)
            | ((with_reducible refine gate_dst (N := 105) rfl ?_); refine wpList_load_row rfl 125 (.tmp 11) rfl g3 (by go_simp) 125 _ (0, 0) _ HB4.out Tryz.underlying125 rfl size125 ?_)
            | (go_at_call 284; refine (HIH.out e.a[k] hxn (by omega) (d + 1) (by omega) S w4 _ ((((HS.out.below HBE1.out).below HBE2.out).below HB.out).below HW4.out) HREP.out).mono ?_; rintro en w5 ⟨⟨m, rfl, hm⟩, hb5⟩; rw [HO2.out] at hm ⊢; obtain rfl := hm rfl; have HB5 := Lib.hid hb5; clear hb5 hm))
          go_roundw
          case rel =>
            refine ⟨k + 1, by omega, by rw [HTS.out]; go_num, by go_num, ?_, below_trans (below_trans HB.out HW4.out) HB5.out⟩
            rw [okEs_take V R (d + 1) e.a k _ HX.out, HOK.out, HO2.out]
            rfl
          case measure => simp [intOf]; omega
        · have HO2 : Hid (okE V R (d + 1) e.a[k] = false) := Lib.hid (by simpa using ho2)
          clear ho2
          go_wp2_with (first
            | ((with_reducible refine gate_dst (N := 102) rfl ?_); refine load_at rfl 125 (.tmp 101) rfl (ad.add (k * 4)) (by go_simp) [.int .i64 e.a[k].op, .int .i64 e.a[k].n, .int .i64 e.a[k].v, .slice A3 e.a[k].a.length c3] HC.out _ Tryz.underlying125 rfl size125 ?_)
            | ((with_reducible refine gate_dst (N := 11) rfl ?_); refine new_at rfl (N := 11) rfl #[.int .i64 0, .int .i64 0, .int .i64 0, .slice none 0 0] 125 (by go_simp) ?_; intro g3 w3 HG3 HB3 HBE3)
            | ((with_reducible refine gate_store (t := 125) (p := 11) rfl ?_); refine store_at rfl rfl 125 (.tmp 11) (.tmp 102) rfl g3 #[.int .i64 e.a[k].op, .int .i64 e.a[k].n, .int .i64 e.a[k].v, .slice A3 e.a[k].a.length c3] (by go_simp) (by go_simp) 125 HB3.out size125 rfl (by simp [Value.oneCell']) ?_; intro w4 HB4 HBE4; have HW4 := Lib.hid (below_grown_new HBE3.out HBE4.out (by rw [HG3.out]; exact Nat.le_refl _)); have HK4 := Lib.hid (below_blk HW4.out HB1''.out))
            | ((with_reducible refine gate_dst (N := 104) rfl ?_); refine wpList_load_row rfl 280 (.tmp 3) rfl g1 (by go_simp) 280 _ (0, 0) _ HK4.out Tryz.underlying280 rfl size280 ?_)
            | ((with_reducible refine gate_dst (N := 105) rfl ?_); refine wpList_load_row rfl 125 (.tmp 11) rfl g3 (by go_simp) 125 _ (0, 0) _ HB4.out Tryz.underlying125 rfl size125 ?_)
            | (go_at_call 284; refine (HIH.out e.a[k] hxn (by omega) (d + 1) (by omega) S w4 _ ((((HS.out.below HBE1.out).below HBE2.out).below HB.out).below HW4.out) HREP.out).mono ?_; rintro en w5 ⟨⟨m, rfl, hm⟩, hb5⟩; rw [HO2.out]; have HB5 := Lib.hid hb5; clear hb5 hm))
          go_ret2
          have hT : okE V R d e = false := by rw [HT.out]; exact okEs_false V R (d + 1) e.a k _ HX.out HO2.out
          refine ⟨⟨0, by rw [hT]; rfl, fun h => by rw [hT] at h; cases h⟩, below_trans (below_trans (below_trans (below_trans HBE1.out HBE2.out) HB.out) HW4.out) HB5.out⟩
      · have HK : Hid (k = e.a.length) := Lib.hid (by omega)
        go_wp2
        go_ret2
        have e1 : e.a.take k = e.a := by rw [HK.out, List.take_length]
        have hT : okE V R d e = true := by rw [HT.out, ← e1]; exact HOK.out
        refine ⟨⟨_, by rw [hT]; rfl, fun _ => by rw [HSZ.out]; simp [e1]⟩, below_trans (below_trans HBE1.out HBE2.out) HB.out⟩
end Go.Proofs.YtkopmnhngjbmcaaGreatDoor.Sn

/- (shape.checker).cond: every condition. -/
import Derived.Test.YtkopmnhngjbmcaaGreatDoorA4
namespace Go.Proofs.YtkopmnhngjbmcaaGreatDoor.Sn
open Go Go.RowKit
set_option linter.unusedVariables false
/-- how many expressions and conditions a condition's operator wants -/
def wantA (op : Int) : Nat := if op = 2 ∨ op = 3 ∨ op = 4 then 2 else 0
def wantC (op : Int) : Nat := if op = 5 then 1 else if op = 6 ∨ op = 7 then 2 else 0
mutual
def okC (V R : Int) : Nat → Cn → Bool
  | d, .mk op a c => inR 1 op 7 && decide (a.length = wantA op) && decide (c.length = wantC op) && decide (d ≤ 10) && okEs V R (d + 1) a && okCs V R (d + 1) c
def okCs (V R : Int) : Nat → List Cn → Bool
  | _, [] => true
  | d, x :: l => okC V R d x && okCs V R d l
end
theorem okC_eq (V R : Int) (d : Nat) (e : Cn) : okC V R d e = (inR 1 e.op 7 && decide (e.a.length = wantA e.op) && decide (e.c.length = wantC e.op) && decide (d ≤ 10) && okEs V R (d + 1) e.a && okCs V R (d + 1) e.c) := by
  obtain ⟨op, a, c⟩ := e
  simp only [okC, Cn.op, Cn.a, Cn.c]; rfl
theorem okCs_take (V R : Int) (d : Nat) (l : List Cn) (k : Nat) (x : Cn) (h : l[k]? = some x) : okCs V R d (l.take (k + 1)) = (okCs V R d (l.take k) && okC V R d x) := by
  induction l generalizing k with
  | nil => simp at h
  | cons y l ih =>
    cases k with
    | zero => simp at h; subst h; simp [okCs]
    | succ k => simp at h; simp only [List.take_succ_cons, okCs]; rw [ih k h, Bool.and_assoc]
theorem okCs_false (V R : Int) (d : Nat) (l : List Cn) (k : Nat) (x : Cn) (h : l[k]? = some x) (hx : okC V R d x = false) : okCs V R d l = false := by
  induction l generalizing k with
  | nil => simp at h
  | cons y l ih =>
    cases k with
    | zero => simp at h; subst h; simp [okCs, hx]
    | succ k => simp at h; simp only [okCs]; rw [ih k h, Bool.and_false]
theorem size25 : (Tryz.prog.info? 25).map (·.size) = some 3 := by kernel_rfl
theorem size404 : (Tryz.prog.info? 404).map (·.size) = some 2 := by kernel_rfl

set_option maxRecDepth 100000 in
set_option maxHeartbeats 4000000 in
theorem cond_calls (V : Int) (hV : 0 ≤ V ∧ V ≤ 1000) (R Rc : Nat) (hR : R ≤ 1000) (AR : Option Addr) (k0 k1 k2 k3 k4 k5 k6 k8 k10 k11 k12 k13 k14 k15 k16 k17 k18 : Value) :
    ∀ (n : Nat) (e : Cn), e.size ≤ n → n < 1152921504606846976 → ∀ (d : Nat), d < 1000 → ∀ (S : Snap) (w : World) (cs : List Value), Agr S w → RepC S e cs →
    Calls Tryz.prog 285 #[.agg #[k0, k1, k2, k3, k4, k5, k6, .int .i64 V, k8, .slice AR R Rc, k10, k11, k12, k13, k14, k15, k16, k17, k18], .agg cs.toArray, .int .i64 d] w
      fun en w' => ExprOut (okC V R d e) e.size en ∧ Below w.heap.size w w' := by
  intro n
  induction n with
  | zero => intro e he; rw [e.size_eq] at he; omega
  | succ n ih =>
    intro e he hn d hd S w cs hS hr
    obtain ⟨A, c, B, dd, rfl, hc, hdd, hrow, hrow2⟩ := hr.open_
    have HO := Lib.hid (okC_eq V R d e)
    have HSZ : Hid (e.size = 1 + Ex.sizeL e.a + Cn.sizeL e.c) := Lib.hid e.size_eq
    have HS := Lib.hid hS
    have HR := Lib.hid hrow
    have HR2 := Lib.hid hrow2
    have HE := Lib.hid he
    have HIH := Lib.hid ih
    have hla := Ex.length_le e.a
    have hlc := Cn.length_le e.c
    have hl1 : e.a.length < 1152921504606846976 := by have := e.size_eq; omega
    have hl2 : e.c.length < 1152921504606846976 := by have := e.size_eq; omega
    clear hS hrow he ih hr hrow2 hla hlc
    go_enter Tryz.func285, Tryz.ntmps285
    go_upto_block 0 with (first
      | ((with_reducible refine gate_dst (N := 3) rfl ?_); refine new_at rfl (N := 3) rfl #[k0, k1, k2, k3, k4, k5, k6, .int .i64 V, k8, .slice AR R Rc, k10, k11, k12, k13, k14, k15, k16, k17, k18] 280 (by go_simp) ?_; intro g1 w1 HG1 HB1 HBE1)
      | ((with_reducible refine gate_dst (N := 4) rfl ?_); refine box3 rfl (N := 4) rfl (.int .i64 e.op) (.slice A e.a.length c) (.slice B e.c.length dd) 25 (by go_simp) ?_; intro g2 w2 HG2 HB2 HBE2 q0 q1 q2)
      | ((with_reducible refine gate_dst (N := 8) rfl ?_); refine new_at rfl (N := 8) rfl #[.int .i64 0, .int .i64 0] 404 (by go_simp) ?_; intro g3 w3 HG3 HB3 HBE3)
      | ((with_reducible refine gate_store (t := 404) (p := 8) rfl ?_); refine store_at rfl rfl 404 (.tmp 8) (.tmp 25) rfl g3 #[.int .i64 e.a.length, .int .i64 e.c.length] (by go_simp) (by go_simp) 404 HB3.out size404 rfl (by simp [Value.oneCell']) ?_; intro w4 HB4 HBE4)
      | ((with_reducible refine gate_dst (N := 9) rfl ?_); refine new_at rfl (N := 9) rfl #[.int .i64 0, .int .i64 0] 404 (by go_simp) ?_; intro g4 w5 HG4 HB5 HBE5)
      | ((with_reducible refine gate_store (t := 404) (p := 9) rfl ?_); refine store_at rfl rfl 404 (.tmp 9) (.tmp 26) rfl g4 #[.int .i64 0, .int .i64 0] (by go_simp) (by go_simp) 404 HB5.out size404 rfl (by simp [Value.oneCell']) ?_; intro w6 HB6 HBE6; have HW4 := Lib.hid (below_grown_new HBE3.out HBE4.out (by rw [HG3.out]; exact Nat.le_refl _)); have HW6 := Lib.hid (below_grown_new HBE5.out HBE6.out (by rw [HG4.out]; exact Nat.le_refl _)); have HK1 := Lib.hid (below_blk HW6.out (below_blk HW4.out (below_blk HBE2.out HB1.out))); have HK2 := Lib.hid (below_blk HW6.out (below_blk HW4.out HB2.out)); have HK3 := Lib.hid (below_blk HW6.out HB4.out); have q0' : w6.cell? ⟨g2, 0, none⟩ = some (.int .i64 e.op) := (blk_cell HK2.out 0).trans rfl))
    clear q0 q1 q2 q0'
    have z0 : w6.cell? ⟨g4, 0, none⟩ = some (.int .i64 0) := (blk_cell HB6.out 0).trans rfl
    have z1 : w6.cell? ⟨g4, 1, none⟩ = some (.int .i64 0) := (blk_cell HB6.out 1).trans rfl
    have z2 := blk_frozen HB6.out 0
    have z3 := blk_frozen HB6.out 1
    go_cut [] (fun wr => inR 1 e.op 7 = true ∧ wr.heap[g4]? = some (.cells #[.int .i64 (wantA e.op : Nat), .int .i64 (wantC e.op : Nat)] 404 (0, 0)) ∧ w6.grownBy wr (some g4))
    case first =>
      by_cases h1 : e.op = 1
      · go_wp2
        go_meet
        case rel => exact ⟨by rw [h1]; rfl, by rw [h1]; exact HB6.out, grown_refl _ _⟩
      by_cases h2 : e.op = 2
      · go_wp2
        go_meet
        case rel => exact ⟨by rw [h2]; rfl, by rw [h2]; exact blk_set HB6.out 0 _, grown_set (grown_refl _ _) _ _⟩
      by_cases h3 : e.op = 3
      · go_wp2
        go_meet
        case rel => exact ⟨by rw [h3]; rfl, by rw [h3]; exact blk_set HB6.out 0 _, grown_set (grown_refl _ _) _ _⟩
      by_cases h4 : e.op = 4
      · go_wp2
        go_meet
        case rel => exact ⟨by rw [h4]; rfl, by rw [h4]; exact blk_set HB6.out 0 _, grown_set (grown_refl _ _) _ _⟩
      by_cases h5 : e.op = 5
      · go_wp2
        go_meet
        case rel => exact ⟨by rw [h5]; rfl, by rw [h5]; exact blk_set HB6.out 1 _, grown_set (grown_refl _ _) _ _⟩
      by_cases h6 : e.op = 6
      · go_wp2
        go_meet
        case rel => exact ⟨by rw [h6]; rfl, by rw [h6]; exact blk_set HB6.out 1 _, grown_set (grown_refl _ _) _ _⟩
      by_cases h7 : e.op = 7
      · go_wp2
        go_meet
        case rel => exact ⟨by rw [h7]; rfl, by rw [h7]; exact blk_set HB6.out 1 _, grown_set (grown_refl _ _) _ _⟩
      · have HT : Hid (okC V R d e = false) := Lib.hid (by
          rw [HO.out, (show inR 1 e.op 7 = false from inR_false.2 (by omega))]; rfl)
        have b1 : (e.op == 1) = false := beq_eq_false_iff_ne.2 h1
        have b2 : (e.op == 2) = false := beq_eq_false_iff_ne.2 h2
        have b3 : (e.op == 3) = false := beq_eq_false_iff_ne.2 h3
        have b4 : (e.op == 4) = false := beq_eq_false_iff_ne.2 h4
        have b5 : (e.op == 5) = false := beq_eq_false_iff_ne.2 h5
        have b6 : (e.op == 6) = false := beq_eq_false_iff_ne.2 h6
        have b7 : (e.op == 7) = false := beq_eq_false_iff_ne.2 h7
        clear h1 h2 h3 h4 h5 h6 h7
        go_wp2
        go_ret2
        exact ⟨⟨0, by rw [HT.out]; rfl, fun h => by rw [HT.out] at h; cases h⟩, below_trans (below_trans (below_trans HBE1.out HBE2.out) HW4.out) HW6.out⟩
    case rest =>
      clear z0 z1 z2 z3
      obtain ⟨hin, hw, hg⟩ := hcut
      have HIN := Lib.hid hin
      have HWB := Lib.hid hw
      have HWG := Lib.hid hg
      clear hin hw hg
      obtain ⟨wx, rfl⟩ : ∃ wx : World, wx = wc := ⟨_, rfl⟩
      have HL1 := Lib.hid (grown_blk HWG.out HK1.out (by have := blk_lt HK1.out; have := HG4.out; have := blk_lt HB1.out; have := HBE2.out.size; have := HW4.out.size; simp; omega))
      have HL2 := Lib.hid (grown_blk HWG.out HK2.out (by have := blk_lt HB2.out; have := HG4.out; have := HW4.out.size; simp; omega))
      have HL3 := Lib.hid (grown_blk HWG.out HK3.out (by have := blk_lt HB4.out; have := HG4.out; simp; omega))
      have HWX : Hid (Below w.heap.size w wx) := Lib.hid (below_grown_new (below_trans (below_trans (below_trans HBE1.out HBE2.out) HW4.out) HW6.out) HWG.out (by have := HG4.out; have := HBE1.out.size; have := HBE2.out.size; have := HW4.out.size; omega))
      have q1 : wx.cell? ⟨g2, 1, none⟩ = some (.slice A e.a.length c) := (blk_cell HL2.out 1).trans rfl
      have hno : e.a.length ≠ wantA e.op ∨ e.c.length ≠ wantC e.op ∨ ¬ d ≤ 10 → okC V R d e = false := fun h => by
        rw [HO.out]
        rcases h with h | h | h <;> simp [h]
      have HNO := Lib.hid hno
      clear hno
      by_cases hA : e.a.length = wantA e.op
      rotate_left
      · have HT0 : Hid (okC V R d e = false) := Lib.hid (HNO.out (.inl hA))
        have tA : ((e.a.length : Int) = (wantA e.op : Nat)) = False := eq_false (by omega)
        clear hA
        go_wp2_with (first
          | ((with_reducible refine gate_dst (N := 43) rfl ?_); refine wpList_load_row rfl 404 (.tmp 8) rfl g3 (by go_simp) 404 _ (0, 0) _ HL3.out Tryz.underlying404 rfl size404 ?_)
          | ((with_reducible refine gate_dst (N := 44) rfl ?_); refine wpList_load_row rfl 404 (.tmp 9) rfl g4 (by go_simp) 404 _ (0, 0) _ HWB.out Tryz.underlying404 rfl size404 ?_))
        go_ret2
        exact ⟨⟨0, by rw [HT0.out]; rfl, fun h => by rw [HT0.out] at h; cases h⟩, HWX.out⟩
      have tA : ((e.a.length : Int) = (wantA e.op : Nat)) = True := eq_true (by omega)
      have HA := Lib.hid hA
      clear hA
      by_cases hC : e.c.length = wantC e.op
      rotate_left
      · have HT0 : Hid (okC V R d e = false) := Lib.hid (HNO.out (.inr (.inl hC)))
        have tC : ((e.c.length : Int) = (wantC e.op : Nat)) = False := eq_false (by omega)
        clear hC
        go_wp2_with (first
          | ((with_reducible refine gate_dst (N := 43) rfl ?_); refine wpList_load_row rfl 404 (.tmp 8) rfl g3 (by go_simp) 404 _ (0, 0) _ HL3.out Tryz.underlying404 rfl size404 ?_)
          | ((with_reducible refine gate_dst (N := 44) rfl ?_); refine wpList_load_row rfl 404 (.tmp 9) rfl g4 (by go_simp) 404 _ (0, 0) _ HWB.out Tryz.underlying404 rfl size404 ?_))
        go_ret2
        exact ⟨⟨0, by rw [HT0.out]; rfl, fun h => by rw [HT0.out] at h; cases h⟩, HWX.out⟩
      have tC : ((e.c.length : Int) = (wantC e.op : Nat)) = True := eq_true (by omega)
      have HC' := Lib.hid hC
      clear hC
      by_cases hD : d ≤ 10
      rotate_left
      · have HT0 : Hid (okC V R d e = false) := Lib.hid (HNO.out (.inr (.inr hD)))
        have tD : ((d : Int) ≤ 10) = False := eq_false (by omega)
        have tD' : (10 : Int) < d := by omega
        go_wp2_with (first
          | ((with_reducible refine gate_dst (N := 43) rfl ?_); refine wpList_load_row rfl 404 (.tmp 8) rfl g3 (by go_simp) 404 _ (0, 0) _ HL3.out Tryz.underlying404 rfl size404 ?_)
          | ((with_reducible refine gate_dst (N := 44) rfl ?_); refine wpList_load_row rfl 404 (.tmp 9) rfl g4 (by go_simp) 404 _ (0, 0) _ HWB.out Tryz.underlying404 rfl size404 ?_))
        go_ret2
        exact ⟨⟨0, by rw [HT0.out]; rfl, fun h => by rw [HT0.out] at h; cases h⟩, HWX.out⟩
      have tD : (d : Int) ≤ 10 := by omega
      have HT : Hid (okC V R d e = (okEs V R (d + 1) e.a && okCs V R (d + 1) e.c)) := Lib.hid (by
        rw [HO.out, HIN.out]; simp [HA.out, HC'.out, hD])
      clear HNO
      go_wp2_with (first
        | ((with_reducible refine gate_dst (N := 43) rfl ?_); refine wpList_load_row rfl 404 (.tmp 8) rfl g3 (by go_simp) 404 _ (0, 0) _ HL3.out Tryz.underlying404 rfl size404 ?_)
        | ((with_reducible refine gate_dst (N := 44) rfl ?_); refine wpList_load_row rfl 404 (.tmp 9) rfl g4 (by go_simp) 404 _ (0, 0) _ HWB.out Tryz.underlying404 rfl size404 ?_))
      clear tA tC tD q1
      go_loopw [10, 53] (fun s10 s53 wr => ∃ k : Nat, k ≤ e.a.length ∧ s10 = .int .i64 ((1 + Ex.sizeL (e.a.take k) : Nat) : Int) ∧ s53 = .int .i64 k ∧ okEs V R (d + 1) (e.a.take k) = true ∧ Below wx.heap.size wx wr) (fun _ s53 _ => e.a.length - (intOf s53).toNat)
      case atStart => exact ⟨0, Nat.zero_le _, by simp [Ex.sizeL], rfl, by simp [okEs], Below.refl _ _⟩
      case round =>
        obtain ⟨k, hk, rfl, rfl, hok, hB⟩ := hrel
        have HOK := Lib.hid hok
        have HB := Lib.hid hB
        clear hok hB
        have HK1r := Lib.hid (below_blk HB.out HL1.out)
        have HWR : Hid (Below w.heap.size w wr) := Lib.hid (below_trans HWX.out HB.out)
        by_cases hlt : k < e.a.length
        · have hx : e.a[k]? = some e.a[k] := by simp [hlt]
          obtain ⟨ad, A3, c3, rfl, HC, HREP⟩ := RowE.whole (HS.out.below HWR.out) HR.out k e.a[k] hx
          have hts := Ex.sizeL_take_succ e.a k _ hx
          have htl2 := Ex.sizeL_take_le e.a (k + 1)
          have HX := Lib.hid hx
          have hsx : 1 + Ex.sizeL (e.a.take k) + e.a[k].size < 1152921504606846976 := by have := HSZ.out; have := HE.out; omega
          have hxn : e.a[k].size ≤ n := by have := HSZ.out; have := HE.out; omega
          have HTS := Lib.hid hts
          clear hx hts htl2
          by_cases ho2 : okE V R (d + 1) e.a[k] = true
          · have HO2 : Hid (okE V R (d + 1) e.a[k] = true) := Lib.hid ho2
            clear ho2
            go_wp2_with (first
              | ((with_reducible refine gate_dst (N := 56) rfl ?_); refine load_at rfl 125 (.tmp 55) rfl (ad.add (k * 4)) (by go_simp) [.int .i64 e.a[k].op, .int .i64 e.a[k].n, .int .i64 e.a[k].v, .slice A3 e.a[k].a.length c3] HC.out _ Tryz.underlying125 rfl size125 ?_)
              | ((with_reducible refine gate_dst (N := 12) rfl ?_); refine new_at rfl (N := 12) rfl #[.int .i64 0, .int .i64 0, .int .i64 0, .slice none 0 0] 125 (by go_simp) ?_; intro g5 w7 HG5 HB7 HBE7)
              | ((with_reducible refine gate_store (t := 125) (p := 12) rfl ?_); refine store_at rfl rfl 125 (.tmp 12) (.tmp 56) rfl g5 #[.int .i64 e.a[k].op, .int .i64 e.a[k].n, .int .i64 e.a[k].v, .slice A3 e.a[k].a.length c3] (by go_simp) (by go_simp) 125 HB7.out size125 rfl (by simp [Value.oneCell']) ?_; intro w8 HB8 HBE8; have HW8 := Lib.hid (below_grown_new HBE7.out HBE8.out (by rw [HG5.out]; exact Nat.le_refl _)); have HK8 := Lib.hid (below_blk HW8.out HK1r.out))
              | ((with_reducible refine gate_dst (N := 58) rfl ?_); refine wpList_load_row rfl 280 (.tmp 3) rfl g1 (by go_simp) 280 _ (0, 0) _ HK8.out Tryz.underlying280 rfl size280 ?_)
              | ((with_reducible refine gate_dst (N := 59) rfl ?_); refine wpList_load_row rfl 125 (.tmp 12) rfl g5 (by go_simp) 125 _ (0, 0) _ HB8.out Tryz.underlying125 rfl size125 ?_)
              | (go_at_call 284; refine (expr_calls V hV R Rc hR AR k0 k1 k2 k3 k4 k5 k6 k8 k10 k11 k12 k13 k14 k15 k16 k17 k18 n e.a[k] hxn (by omega) (d + 1) (by omega) S w8 _ ((HS.out.below HWR.out).below HW8.out) HREP.out).mono ?_; rintro en w9 ⟨⟨m, rfl, hm⟩, hb9⟩; rw [HO2.out] at hm ⊢; obtain rfl := hm rfl; have HB9 := Lib.hid hb9; clear hb9 hm))
            go_roundw
            case rel =>
              refine ⟨k + 1, by omega, by rw [HTS.out]; go_num, by go_num, ?_, below_trans (below_trans HB.out HW8.out) HB9.out⟩
              rw [okEs_take V R (d + 1) e.a k _ HX.out, HOK.out, HO2.out]
              rfl
            case measure => simp [intOf]; omega
          · have HO2 : Hid (okE V R (d + 1) e.a[k] = false) := Lib.hid (by simpa using ho2)
            clear ho2
            go_wp2_with (first
              | ((with_reducible refine gate_dst (N := 56) rfl ?_); refine load_at rfl 125 (.tmp 55) rfl (ad.add (k * 4)) (by go_simp) [.int .i64 e.a[k].op, .int .i64 e.a[k].n, .int .i64 e.a[k].v, .slice A3 e.a[k].a.length c3] HC.out _ Tryz.underlying125 rfl size125 ?_)
              | ((with_reducible refine gate_dst (N := 12) rfl ?_); refine new_at rfl (N := 12) rfl #[.int .i64 0, .int .i64 0, .int .i64 0, .slice none 0 0] 125 (by go_simp) ?_; intro g5 w7 HG5 HB7 HBE7)
              | ((with_reducible refine gate_store (t := 125) (p := 12) rfl ?_); refine store_at rfl rfl 125 (.tmp 12) (.tmp 56) rfl g5 #[.int .i64 e.a[k].op, .int .i64 e.a[k].n, .int .i64 e.a[k].v, .slice A3 e.a[k].a.length c3] (by go_simp) (by go_simp) 125 HB7.out size125 rfl (by simp [Value.oneCell']) ?_; intro w8 HB8 HBE8; have HW8 := Lib.hid (below_grown_new HBE7.out HBE8.out (by rw [HG5.out]; exact Nat.le_refl _)); have HK8 := Lib.hid (below_blk HW8.out HK1r.out))
              | ((with_reducible refine gate_dst (N := 58) rfl ?_); refine wpList_load_row rfl 280 (.tmp 3) rfl g1 (by go_simp) 280 _ (0, 0) _ HK8.out Tryz.underlying280 rfl size280 ?_)
              | ((with_reducible refine gate_dst (N := 59) rfl ?_); refine wpList_load_row rfl 125 (.tmp 12) rfl g5 (by go_simp) 125 _ (0, 0) _ HB8.out Tryz.underlying125 rfl size125 ?_)
              | (go_at_call 284; refine (expr_calls V hV R Rc hR AR k0 k1 k2 k3 k4 k5 k6 k8 k10 k11 k12 k13 k14 k15 k16 k17 k18 n e.a[k] hxn (by omega) (d + 1) (by omega) S w8 _ ((HS.out.below HWR.out).below HW8.out) HREP.out).mono ?_; rintro en w9 ⟨⟨m, rfl, hm⟩, hb9⟩; rw [HO2.out]; have HB9 := Lib.hid hb9; clear hb9 hm))
            go_ret2
            have hT : okC V R d e = false := by rw [HO.out, okEs_false V R (d + 1) e.a k _ HX.out HO2.out]; simp
            refine ⟨⟨0, by rw [hT]; rfl, fun h => by rw [hT] at h; cases h⟩, below_trans (below_trans HWR.out HW8.out) HB9.out⟩
        · have HK : Hid (k = e.a.length) := Lib.hid (by omega)
          have HE1 : Hid (okEs V R (d + 1) e.a = true) := Lib.hid (by have := HOK.out; rw [HK.out, List.take_length] at this; exact this)
          have HS1 : Hid (((1 + Ex.sizeL (e.a.take k) : Nat) : Int) = ((1 + Ex.sizeL e.a : Nat) : Int)) := Lib.hid (by rw [HK.out, List.take_length])
          obtain ⟨wo, rfl⟩ : ∃ wo : World, wo = wr := ⟨_, rfl⟩
          have q2 : wo.cell? ⟨g2, 2, none⟩ = some (.slice B e.c.length dd) := (blk_cell (below_blk HB.out HL2.out) 2).trans rfl
          go_wp2
          clear q2
          go_loopw [10, 74] (fun s10 s74 wr => ∃ k : Nat, k ≤ e.c.length ∧ s10 = .int .i64 ((1 + Ex.sizeL e.a + Cn.sizeL (e.c.take k) : Nat) : Int) ∧ s74 = .int .i64 k ∧ okCs V R (d + 1) (e.c.take k) = true ∧ Below wx.heap.size wx wr) (fun _ s74 _ => e.c.length - (intOf s74).toNat)
          case atStart => exact ⟨0, Nat.zero_le _, by have := HS1.out; simp [Cn.sizeL]; simpa using this, rfl, by simp [okCs], HB.out⟩
          case round =>
            clear HB HOK HK1r HWR
            obtain ⟨k, hk, rfl, rfl, hok, hB⟩ := hrel
            have HOK := Lib.hid hok
            have HB := Lib.hid hB
            clear hok hB
            have HK1r := Lib.hid (below_blk HB.out HL1.out)
            have HWR : Hid (Below w.heap.size w wr) := Lib.hid (below_trans HWX.out HB.out)
            by_cases hlt : k < e.c.length
            · have hx : e.c[k]? = some e.c[k] := by simp [hlt]
              obtain ⟨ad, A1, c1, A2, c2, rfl, HC, HREP⟩ := RowC.whole (HS.out.below HWR.out) HR2.out k e.c[k] hx
              have hts := Cn.sizeL_take_succ e.c k _ hx
              have htl2 := Cn.sizeL_take_le e.c (k + 1)
              have HX := Lib.hid hx
              have hsx : 1 + Ex.sizeL e.a + Cn.sizeL (e.c.take k) + e.c[k].size < 1152921504606846976 := by have := HSZ.out; have := HE.out; omega
              have hxn : e.c[k].size ≤ n := by have := HSZ.out; have := HE.out; omega
              have HTS := Lib.hid hts
              clear hx hts htl2
              by_cases ho2 : okC V R (d + 1) e.c[k] = true
              · have HO2 : Hid (okC V R (d + 1) e.c[k] = true) := Lib.hid ho2
                clear ho2
                go_wp2_with (first
                  | ((with_reducible refine gate_dst (N := 77) rfl ?_); refine load_at rfl 25 (.tmp 76) rfl (ad.add (k * 3)) (by go_simp) [.int .i64 e.c[k].op, .slice A1 e.c[k].a.length c1, .slice A2 e.c[k].c.length c2] HC.out _ Tryz.underlying25 rfl size25 ?_)
                  | ((with_reducible refine gate_dst (N := 16) rfl ?_); refine new_at rfl (N := 16) rfl #[.int .i64 0, .slice none 0 0, .slice none 0 0] 25 (by go_simp) ?_; intro g5 w7 HG5 HB7 HBE7)
                  | ((with_reducible refine gate_store (t := 25) (p := 16) rfl ?_); refine store_at rfl rfl 25 (.tmp 16) (.tmp 77) rfl g5 #[.int .i64 e.c[k].op, .slice A1 e.c[k].a.length c1, .slice A2 e.c[k].c.length c2] (by go_simp) (by go_simp) 25 HB7.out size25 rfl (by simp [Value.oneCell']) ?_; intro w8 HB8 HBE8; have HW8 := Lib.hid (below_grown_new HBE7.out HBE8.out (by rw [HG5.out]; exact Nat.le_refl _)); have HK8 := Lib.hid (below_blk HW8.out HK1r.out))
                  | ((with_reducible refine gate_dst (N := 79) rfl ?_); refine wpList_load_row rfl 280 (.tmp 3) rfl g1 (by go_simp) 280 _ (0, 0) _ HK8.out Tryz.underlying280 rfl size280 ?_)
                  | ((with_reducible refine gate_dst (N := 80) rfl ?_); refine wpList_load_row rfl 25 (.tmp 16) rfl g5 (by go_simp) 25 _ (0, 0) _ HB8.out Tryz.underlying25 rfl size25 ?_)
                  | (go_at_call 285; refine (HIH.out e.c[k] hxn (by omega) (d + 1) (by omega) S w8 _ ((HS.out.below HWR.out).below HW8.out) HREP.out).mono ?_; rintro en w9 ⟨⟨m, rfl, hm⟩, hb9⟩; rw [HO2.out] at hm ⊢; obtain rfl := hm rfl; have HB9 := Lib.hid hb9; clear hb9 hm))
                go_roundw
                case rel =>
                  refine ⟨k + 1, by omega, by rw [HTS.out]; go_num, by go_num, ?_, below_trans (below_trans HB.out HW8.out) HB9.out⟩
                  rw [okCs_take V R (d + 1) e.c k _ HX.out, HOK.out, HO2.out]
                  rfl
                case measure => simp [intOf]; omega
              · have HO2 : Hid (okC V R (d + 1) e.c[k] = false) := Lib.hid (by simpa using ho2)
                clear ho2
                go_wp2_with (first
                  | ((with_reducible refine gate_dst (N := 77) rfl ?_); refine load_at rfl 25 (.tmp 76) rfl (ad.add (k * 3)) (by go_simp) [.int .i64 e.c[k].op, .slice A1 e.c[k].a.length c1, .slice A2 e.c[k].c.length c2] HC.out _ Tryz.underlying25 rfl size25 ?_)
                  | ((with_reducible refine gate_dst (N := 16) rfl ?_); refine new_at rfl (N := 16) rfl #[.int .i64 0, .slice none 0 0, .slice none 0 0] 25 (by go_simp) ?_; intro g5 w7 HG5 HB7 HBE7)
                  | ((with_reducible refine gate_store (t := 25) (p := 16) rfl ?_); refine store_at rfl rfl 25 (.tmp 16) (.tmp 77) rfl g5 #[.int .i64 e.c[k].op, .slice A1 e.c[k].a.length c1, .slice A2 e.c[k].c.length c2] (by go_simp) (by go_simp) 25 HB7.out size25 rfl (by simp [Value.oneCell']) ?_; intro w8 HB8 HBE8; have HW8 := Lib.hid (below_grown_new HBE7.out HBE8.out (by rw [HG5.out]; exact Nat.le_refl _)); have HK8 := Lib.hid (below_blk HW8.out HK1r.out))
                  | ((with_reducible refine gate_dst (N := 79) rfl ?_); refine wpList_load_row rfl 280 (.tmp 3) rfl g1 (by go_simp) 280 _ (0, 0) _ HK8.out Tryz.underlying280 rfl size280 ?_)
                  | ((with_reducible refine gate_dst (N := 80) rfl ?_); refine wpList_load_row rfl 25 (.tmp 16) rfl g5 (by go_simp) 25 _ (0, 0) _ HB8.out Tryz.underlying25 rfl size25 ?_)
                  | (go_at_call 285; refine (HIH.out e.c[k] hxn (by omega) (d + 1) (by omega) S w8 _ ((HS.out.below HWR.out).below HW8.out) HREP.out).mono ?_; rintro en w9 ⟨⟨m, rfl, hm⟩, hb9⟩; rw [HO2.out]; have HB9 := Lib.hid hb9; clear hb9 hm))
                go_ret2
                have hT : okC V R d e = false := by rw [HO.out, okCs_false V R (d + 1) e.c k _ HX.out HO2.out]; simp
                refine ⟨⟨0, by rw [hT]; rfl, fun h => by rw [hT] at h; cases h⟩, below_trans (below_trans HWR.out HW8.out) HB9.out⟩
            · have HK2 : Hid (k = e.c.length) := Lib.hid (by omega)
              go_wp2
              go_ret2
              have e1 : e.c.take k = e.c := by rw [HK2.out, List.take_length]
              have hT : okC V R d e = true := by rw [HT.out, HE1.out, ← e1, HOK.out]; rfl
              refine ⟨⟨_, by rw [hT]; rfl, fun _ => by rw [HSZ.out]; simp [e1]⟩, HWR.out⟩
end Go.Proofs.YtkopmnhngjbmcaaGreatDoor.Sn

/- (paroleref06.cond): all conditions. -/
import Derived.Test.YtkopmnhngjbmcaaGreatDoorC2
namespace Go.Proofs.YtkopmnhngjbmcaaGreatDoor.Sn
open Go Go.RowKit
set_option linter.unusedVariables false
/-- the size of a right condition, or -1 -/
def szC (V R : Int) (d : Nat) (e : Cn) : Int := if okC V R d e = true then (e.size : Int) else -1
theorem szC_false {V R : Int} {d : Nat} {e : Cn} (h : okC V R d e = false) : szC V R d e = -1 := by rw [szC, h]; rfl
theorem szC_true {V R : Int} {d : Nat} {e : Cn} (h : okC V R d e = true) : szC V R d e = e.size := by rw [szC, h]; rfl
theorem szE_true {V R : Int} {d : Nat} {e : Ex} (h : okE V R d e = true) : szE V R d e = e.size := by rw [szE, h]; rfl
set_option maxRecDepth 100000 in
set_option maxHeartbeats 8000000 in
theorem cond6_calls (V : Int) (hV : 0 ≤ V ∧ V ≤ 1000) (R Rc : Nat) (hR : R ≤ 1000) (AR : Option Addr) (k0 k1 k2 k3 k4 k5 k6 k8 k10 k11 : Value) :
    ∀ (n : Nat) (e : Cn), e.size ≤ n → n < 1152921504606846976 → ∀ (d : Nat) (S : Snap) (w : World) (cs : List Value), Agr S w → RepC S e cs →
    Calls Tryz.prog 190 #[.agg #[k0, k1, k2, k3, k4, k5, k6, .int .i64 V, k8, .slice AR R Rc, k10, k11], .agg cs.toArray, .int .i64 d] w
      fun en w' => en = .returned (.int .i64 (szC V R d e)) ∧ Below w.heap.size w w' := by
  intro n
  induction n with
  | zero => intro e he; rw [e.size_eq] at he; omega
  | succ n ih =>
    intro e he hn d S w cs hS hr
    obtain ⟨A, c, B, dd, rfl, hc, hdd, hrow, hrow2⟩ := hr.open_
    have HO := Lib.hid (okC_eq V R d e)
    have HSZ : Hid (e.size = 1 + Ex.sizeL e.a + Cn.sizeL e.c) := Lib.hid e.size_eq
    have HS := Lib.hid hS
    have HR := Lib.hid hrow
    have HR2 := Lib.hid hrow2
    have HE := Lib.hid he
    have HIH := Lib.hid ih
    have hla := Ex.length_le e.a
    have hlc := Cn.length_le e.c
    have hl1 : e.a.length < 1152921504606846976 := by have := e.size_eq; omega
    have hl2 : e.c.length < 1152921504606846976 := by have := e.size_eq; omega
    clear hS hrow he ih hr hrow2 hla hlc
    by_cases hD : d ≤ 10
    rotate_left
    · have HT0 : Hid (szC V R d e = -1) := Lib.hid (szC_false (by rw [HO.out]; simp [hD]))
      have hd' : (10 : Int) < d := by omega
      go_enter Tryz.func190, Tryz.ntmps190
      go_wp2_with (first | ((with_reducible refine gate_dst (N := 3) rfl ?_); refine new_at rfl (N := 3) rfl #[k0, k1, k2, k3, k4, k5, k6, .int .i64 V, k8, .slice AR R Rc, k10, k11] 99 (by go_simp) ?_; intro g1 w1 HG1 HB1 HBE1) | ((with_reducible refine gate_dst (N := 4) rfl ?_); refine box3 rfl (N := 4) rfl (.int .i64 e.op) (.slice A e.a.length c) (.slice B e.c.length dd) 25 (by go_simp) ?_; intro g2 w2 HG2 HB2 HBE2 q0 q1 q2))
      go_ret
      exact ⟨ret_eq HT0.out, below_trans HBE1.out HBE2.out⟩
    have d10 : (d : Int) ≤ 10 := by omega
    have HD := Lib.hid hD
    have HWR0 : Hid (IntKind.i64.wrap ((d : Int) + 1) = (d : Int) + 1) := Lib.hid (by rw [IntKind.wrap_i64]; omega)
    clear hD
    go_enter Tryz.func190, Tryz.ntmps190
    go_upto_block 0 with (first | ((with_reducible refine gate_dst (N := 3) rfl ?_); refine new_at rfl (N := 3) rfl #[k0, k1, k2, k3, k4, k5, k6, .int .i64 V, k8, .slice AR R Rc, k10, k11] 99 (by go_simp) ?_; intro g1 w1 HG1 HB1 HBE1) | ((with_reducible refine gate_dst (N := 4) rfl ?_); refine box3 rfl (N := 4) rfl (.int .i64 e.op) (.slice A e.a.length c) (.slice B e.c.length dd) 25 (by go_simp) ?_; intro g2 w2 HG2 HB2 HBE2 q0 q1 q2))
    go_cut [7, 8] (fun s7 s8 wr => inR 1 e.op 7 = true ∧ s7 = .int .i64 (wantA e.op : Nat) ∧ s8 = .int .i64 (wantC e.op : Nat) ∧ wr = w2)
    case first =>
      by_cases h1 : e.op = 1
      · go_wp2
        go_meet
        case rel => exact ⟨by rw [h1]; rfl, by rw [h1]; rfl, by rw [h1]; rfl, rfl⟩
      by_cases h2 : e.op = 2
      · go_wp2
        go_meet
        case rel => exact ⟨by rw [h2]; rfl, by rw [h2]; rfl, by rw [h2]; rfl, rfl⟩
      by_cases h3 : e.op = 3
      · go_wp2
        go_meet
        case rel => exact ⟨by rw [h3]; rfl, by rw [h3]; rfl, by rw [h3]; rfl, rfl⟩
      by_cases h4 : e.op = 4
      · go_wp2
        go_meet
        case rel => exact ⟨by rw [h4]; rfl, by rw [h4]; rfl, by rw [h4]; rfl, rfl⟩
      by_cases h5 : e.op = 5
      · go_wp2
        go_meet
        case rel => exact ⟨by rw [h5]; rfl, by rw [h5]; rfl, by rw [h5]; rfl, rfl⟩
      by_cases h6 : e.op = 6
      · go_wp2
        go_meet
        case rel => exact ⟨by rw [h6]; rfl, by rw [h6]; rfl, by rw [h6]; rfl, rfl⟩
      by_cases h7 : e.op = 7
      · go_wp2
        go_meet
        case rel => exact ⟨by rw [h7]; rfl, by rw [h7]; rfl, by rw [h7]; rfl, rfl⟩
      · have HT : Hid (szC V R d e = -1) := Lib.hid (szC_false (by
          rw [HO.out, (show inR 1 e.op 7 = false from inR_false.2 (by omega))]; rfl))
        have b1 : (e.op == 1) = false := beq_eq_false_iff_ne.2 h1
        have b2 : (e.op == 2) = false := beq_eq_false_iff_ne.2 h2
        have b3 : (e.op == 3) = false := beq_eq_false_iff_ne.2 h3
        have b4 : (e.op == 4) = false := beq_eq_false_iff_ne.2 h4
        have b5 : (e.op == 5) = false := beq_eq_false_iff_ne.2 h5
        have b6 : (e.op == 6) = false := beq_eq_false_iff_ne.2 h6
        have b7 : (e.op == 7) = false := beq_eq_false_iff_ne.2 h7
        clear h1 h2 h3 h4 h5 h6 h7
        go_wp2
        go_ret
        exact ⟨ret_eq HT.out, below_trans HBE1.out HBE2.out⟩
    case rest =>
      obtain ⟨hin, rfl, rfl, rfl⟩ := hcut
      have HIN := Lib.hid hin
      clear hin
      obtain ⟨wx, rfl⟩ : ∃ wx : World, wx = wc := ⟨_, rfl⟩
      have HL1 := Lib.hid (below_blk HBE2.out HB1.out)
      have HL2 := HB2
      have HWX : Hid (Below w.heap.size w wx) := Lib.hid (below_trans HBE1.out HBE2.out)
      have hno : e.a.length ≠ wantA e.op ∨ e.c.length ≠ wantC e.op → szC V R d e = -1 := fun h => szC_false (by
        rw [HO.out]
        rcases h with h | h <;> simp [h])
      have HNO := Lib.hid hno
      clear hno
      by_cases hA : e.a.length = wantA e.op
      rotate_left
      · have HT0 : Hid (szC V R d e = -1) := Lib.hid (HNO.out (.inl hA))
        have tA : ((e.a.length : Int) != (wantA e.op : Nat)) = true := by simp; omega
        clear hA
        go_wp2
        go_ret
        exact ⟨ret_eq HT0.out, HWX.out⟩
      by_cases hC : e.c.length = wantC e.op
      rotate_left
      · have HT0 : Hid (szC V R d e = -1) := Lib.hid (HNO.out (.inr hC))
        have tA : ((e.a.length : Int) != (wantA e.op : Nat)) = false := by simp; omega
        have tC : ((e.c.length : Int) != (wantC e.op : Nat)) = true := by simp; omega
        clear hC hA
        go_wp2
        go_ret
        exact ⟨ret_eq HT0.out, HWX.out⟩
      have HT : Hid (okC V R d e = (okEs V R (d + 1) e.a && okCs V R (d + 1) e.c)) := Lib.hid (by
        rw [HO.out, HIN.out]; simp [hA, hC, HD.out])
      clear HNO
      rw [← hA, ← hC]
      clear hA hC
      go_wp2
      clear q0 q1 q2
      go_loopw [9, 10] (fun s9 s10 wr => ∃ k : Nat, k ≤ e.a.length ∧ s9 = .int .i64 ((1 + Ex.sizeL (e.a.take k) : Nat) : Int) ∧ s10 = .int .i64 k ∧ okEs V R (d + 1) (e.a.take k) = true ∧ Below wx.heap.size wx wr) (fun _ s10 _ => e.a.length - (intOf s10).toNat)
      case atStart => exact ⟨0, Nat.zero_le _, by simp [Ex.sizeL], rfl, by simp [okEs], Below.refl _ _⟩
      case round =>
        obtain ⟨k, hk, rfl, rfl, hok, hB⟩ := hrel
        have HOK := Lib.hid hok
        have HB := Lib.hid hB
        clear hok hB
        by_cases hlt : k < e.a.length
        · have hx : e.a[k]? = some e.a[k] := by simp [hlt]
          obtain ⟨ad, A3, c3, rfl, HC, HREP⟩ := RowE.whole HS.out HR.out k e.a[k] hx
          have hts := Ex.sizeL_take_succ e.a k _ hx
          have htl2 := Ex.sizeL_take_le e.a (k + 1)
          have HX := Lib.hid hx
          have hsx : 1 + Ex.sizeL (e.a.take k) + e.a[k].size < 1152921504606846976 := by have := HSZ.out; have := HE.out; omega
          have hxn : e.a[k].size ≤ n := by have := HSZ.out; have := HE.out; omega
          have HTS := Lib.hid hts
          have hk0 : (0 : Int) ≤ (k : Int) := by omega
          have hk1 : (k : Int) < (e.a.length : Int) := by omega
          clear hx hts htl2
          by_cases ho2 : okE V R (d + 1) e.a[k] = true
          · have HO2 : Hid (okE V R (d + 1) e.a[k] = true) := Lib.hid ho2
            have HZ : Hid (szE V R (d + 1) e.a[k] = e.a[k].size) := Lib.hid (szE_true ho2)
            have hpos : (0 : Int) ≤ (e.a[k].size : Int) := by omega
            clear ho2
            go_wp2
            have HMK : Hid (∀ w', Below wx.heap.size wx w' → Below wx.heap.size wx w' ∧ w'.cell? ⟨g1, 0, none⟩ = some k0 ∧ w'.cell? ⟨g1, 1, none⟩ = some k1 ∧ w'.cell? ⟨g1, 2, none⟩ = some k2 ∧ w'.cell? ⟨g1, 3, none⟩ = some k3 ∧ w'.cell? ⟨g1, 4, none⟩ = some k4 ∧ w'.cell? ⟨g1, 5, none⟩ = some k5 ∧ w'.cell? ⟨g1, 6, none⟩ = some k6 ∧ w'.cell? ⟨g1, 7, none⟩ = some (.int .i64 V) ∧ w'.cell? ⟨g1, 8, none⟩ = some k8 ∧ w'.cell? ⟨g1, 9, none⟩ = some (.slice AR R Rc) ∧ w'.cell? ⟨g1, 10, none⟩ = some k10 ∧ w'.cell? ⟨g1, 11, none⟩ = some k11 ∧ w'.cell? ⟨g2, 1, none⟩ = some (.slice (some ad) e.a.length c) ∧ w'.cell? (ad.add (k * 4)) = some (.int .i64 e.a[k].op) ∧ w'.cell? ⟨(ad.add (k * 4)).block, (ad.add (k * 4)).off + 1, none⟩ = some (.int .i64 e.a[k].n) ∧ w'.cell? ⟨(ad.add (k * 4)).block, (ad.add (k * 4)).off + 2, none⟩ = some (.int .i64 e.a[k].v) ∧ w'.cell? ⟨(ad.add (k * 4)).block, (ad.add (k * 4)).off + 3, none⟩ = some (.slice A3 e.a[k].a.length c3)) := Lib.hid (fun w' hb => by
              have hbb := below_trans HWX.out hb
              have hg1 := below_blk hb HL1.out
              have hx0 : ∀ j u, [Value.int .i64 e.a[k].op, .int .i64 e.a[k].n, .int .i64 e.a[k].v, .slice A3 e.a[k].a.length c3][j]? = some u → w'.cell? (if j = 0 then ad.add (k * 4) else ⟨(ad.add (k * 4)).block, (ad.add (k * 4)).off + j, none⟩) = some u := fun j u hj => by
                have h := (hbb.cell (World.block_lt_of_cell? w _ (HC.out j u hj))).trans (HC.out j u hj)
                unfold Addr.add at h ⊢
                exact h
              exact ⟨hb, (blk_cell hg1 0).trans rfl, (blk_cell hg1 1).trans rfl, (blk_cell hg1 2).trans rfl, (blk_cell hg1 3).trans rfl, (blk_cell hg1 4).trans rfl, (blk_cell hg1 5).trans rfl, (blk_cell hg1 6).trans rfl, (blk_cell hg1 7).trans rfl, (blk_cell hg1 8).trans rfl, (blk_cell hg1 9).trans rfl, (blk_cell hg1 10).trans rfl, (blk_cell hg1 11).trans rfl, (blk_cell (below_blk hb HL2.out) 1).trans rfl, hx0 0 _ rfl, hx0 1 _ rfl, hx0 2 _ rfl, hx0 3 _ rfl⟩)
            have HX0 : Hid (∀ W, Below wx.heap.size wx W → Calls Tryz.prog 189 #[.agg #[k0, k1, k2, k3, k4, k5, k6, .int .i64 V, k8, .slice AR R Rc, k10, k11], .agg #[Value.int .i64 e.a[k].op, .int .i64 e.a[k].n, .int .i64 e.a[k].v, .slice A3 e.a[k].a.length c3], .int .i64 (↑d + 1)] W (fun en w' => en = .returned (.int .i64 ((e.a[k].size : Int))) ∧ Below W.heap.size W w')) := Lib.hid (fun W hb => by
              rw [← HZ.out]
              exact expr6_calls V hV R Rc hR AR k0 k1 k2 k3 k4 k5 k6 k8 k10 k11 n e.a[k] hxn (by omega) (d + 1) S W [Value.int .i64 e.a[k].op, .int .i64 e.a[k].n, .int .i64 e.a[k].v, .slice A3 e.a[k].a.length c3] (HS.out.below (below_trans HWX.out hb)) HREP.out)
            go_region_held3 (fun w' => Below wx.heap.size wx w' ∧ w'.cell? ⟨g1, 0, none⟩ = some k0 ∧ w'.cell? ⟨g1, 1, none⟩ = some k1 ∧ w'.cell? ⟨g1, 2, none⟩ = some k2 ∧ w'.cell? ⟨g1, 3, none⟩ = some k3 ∧ w'.cell? ⟨g1, 4, none⟩ = some k4 ∧ w'.cell? ⟨g1, 5, none⟩ = some k5 ∧ w'.cell? ⟨g1, 6, none⟩ = some k6 ∧ w'.cell? ⟨g1, 7, none⟩ = some (.int .i64 V) ∧ w'.cell? ⟨g1, 8, none⟩ = some k8 ∧ w'.cell? ⟨g1, 9, none⟩ = some (.slice AR R Rc) ∧ w'.cell? ⟨g1, 10, none⟩ = some k10 ∧ w'.cell? ⟨g1, 11, none⟩ = some k11 ∧ w'.cell? ⟨g2, 1, none⟩ = some (.slice (some ad) e.a.length c) ∧ w'.cell? (ad.add (k * 4)) = some (.int .i64 e.a[k].op) ∧ w'.cell? ⟨(ad.add (k * 4)).block, (ad.add (k * 4)).off + 1, none⟩ = some (.int .i64 e.a[k].n) ∧ w'.cell? ⟨(ad.add (k * 4)).block, (ad.add (k * 4)).off + 2, none⟩ = some (.int .i64 e.a[k].v) ∧ w'.cell? ⟨(ad.add (k * 4)).block, (ad.add (k * 4)).off + 3, none⟩ = some (.slice A3 e.a[k].a.length c3)) (first | exact HMK.out _ HB.out.drew | exact HMK.out _ (below_trans (‹Below wx.heap.size wx _ ∧ _›).1 hb5)) (first | (go_at_call 189; (try rw [HWR0.out]); with_reducible refine (HX0.out _ (‹Below wx.heap.size wx _ ∧ _›).1).mono ?_; rintro en w5 ⟨rfl, hb5⟩))
            have HB5 := Lib.hid (‹Below wx.heap.size wx w5 ∧ _›).1
            go_wp2
            go_roundw
            case rel =>
              refine ⟨k + 1, by omega, by rw [HTS.out]; go_num, by go_num, ?_, HB5.out⟩
              rw [okEs_take V R (d + 1) e.a k _ HX.out, HOK.out, HO2.out]
              rfl
            case measure => simp [intOf]; omega
          · have HO2 : Hid (okE V R (d + 1) e.a[k] = false) := Lib.hid (by simpa using ho2)
            have HZ : Hid (szE V R (d + 1) e.a[k] = -1) := Lib.hid (szE_false HO2.out)
            clear ho2
            go_wp2
            have HMK : Hid (∀ w', Below wx.heap.size wx w' → Below wx.heap.size wx w' ∧ w'.cell? ⟨g1, 0, none⟩ = some k0 ∧ w'.cell? ⟨g1, 1, none⟩ = some k1 ∧ w'.cell? ⟨g1, 2, none⟩ = some k2 ∧ w'.cell? ⟨g1, 3, none⟩ = some k3 ∧ w'.cell? ⟨g1, 4, none⟩ = some k4 ∧ w'.cell? ⟨g1, 5, none⟩ = some k5 ∧ w'.cell? ⟨g1, 6, none⟩ = some k6 ∧ w'.cell? ⟨g1, 7, none⟩ = some (.int .i64 V) ∧ w'.cell? ⟨g1, 8, none⟩ = some k8 ∧ w'.cell? ⟨g1, 9, none⟩ = some (.slice AR R Rc) ∧ w'.cell? ⟨g1, 10, none⟩ = some k10 ∧ w'.cell? ⟨g1, 11, none⟩ = some k11 ∧ w'.cell? ⟨g2, 1, none⟩ = some (.slice (some ad) e.a.length c) ∧ w'.cell? (ad.add (k * 4)) = some (.int .i64 e.a[k].op) ∧ w'.cell? ⟨(ad.add (k * 4)).block, (ad.add (k * 4)).off + 1, none⟩ = some (.int .i64 e.a[k].n) ∧ w'.cell? ⟨(ad.add (k * 4)).block, (ad.add (k * 4)).off + 2, none⟩ = some (.int .i64 e.a[k].v) ∧ w'.cell? ⟨(ad.add (k * 4)).block, (ad.add (k * 4)).off + 3, none⟩ = some (.slice A3 e.a[k].a.length c3)) := Lib.hid (fun w' hb => by
              have hbb := below_trans HWX.out hb
              have hg1 := below_blk hb HL1.out
              have hx0 : ∀ j u, [Value.int .i64 e.a[k].op, .int .i64 e.a[k].n, .int .i64 e.a[k].v, .slice A3 e.a[k].a.length c3][j]? = some u → w'.cell? (if j = 0 then ad.add (k * 4) else ⟨(ad.add (k * 4)).block, (ad.add (k * 4)).off + j, none⟩) = some u := fun j u hj => by
                have h := (hbb.cell (World.block_lt_of_cell? w _ (HC.out j u hj))).trans (HC.out j u hj)
                unfold Addr.add at h ⊢
                exact h
              exact ⟨hb, (blk_cell hg1 0).trans rfl, (blk_cell hg1 1).trans rfl, (blk_cell hg1 2).trans rfl, (blk_cell hg1 3).trans rfl, (blk_cell hg1 4).trans rfl, (blk_cell hg1 5).trans rfl, (blk_cell hg1 6).trans rfl, (blk_cell hg1 7).trans rfl, (blk_cell hg1 8).trans rfl, (blk_cell hg1 9).trans rfl, (blk_cell hg1 10).trans rfl, (blk_cell hg1 11).trans rfl, (blk_cell (below_blk hb HL2.out) 1).trans rfl, hx0 0 _ rfl, hx0 1 _ rfl, hx0 2 _ rfl, hx0 3 _ rfl⟩)
            have HX0 : Hid (∀ W, Below wx.heap.size wx W → Calls Tryz.prog 189 #[.agg #[k0, k1, k2, k3, k4, k5, k6, .int .i64 V, k8, .slice AR R Rc, k10, k11], .agg #[Value.int .i64 e.a[k].op, .int .i64 e.a[k].n, .int .i64 e.a[k].v, .slice A3 e.a[k].a.length c3], .int .i64 (↑d + 1)] W (fun en w' => en = .returned (.int .i64 (-1)) ∧ Below W.heap.size W w')) := Lib.hid (fun W hb => by
              rw [← HZ.out]
              exact expr6_calls V hV R Rc hR AR k0 k1 k2 k3 k4 k5 k6 k8 k10 k11 n e.a[k] hxn (by omega) (d + 1) S W [Value.int .i64 e.a[k].op, .int .i64 e.a[k].n, .int .i64 e.a[k].v, .slice A3 e.a[k].a.length c3] (HS.out.below (below_trans HWX.out hb)) HREP.out)
            go_region_held3 (fun w' => Below wx.heap.size wx w' ∧ w'.cell? ⟨g1, 0, none⟩ = some k0 ∧ w'.cell? ⟨g1, 1, none⟩ = some k1 ∧ w'.cell? ⟨g1, 2, none⟩ = some k2 ∧ w'.cell? ⟨g1, 3, none⟩ = some k3 ∧ w'.cell? ⟨g1, 4, none⟩ = some k4 ∧ w'.cell? ⟨g1, 5, none⟩ = some k5 ∧ w'.cell? ⟨g1, 6, none⟩ = some k6 ∧ w'.cell? ⟨g1, 7, none⟩ = some (.int .i64 V) ∧ w'.cell? ⟨g1, 8, none⟩ = some k8 ∧ w'.cell? ⟨g1, 9, none⟩ = some (.slice AR R Rc) ∧ w'.cell? ⟨g1, 10, none⟩ = some k10 ∧ w'.cell? ⟨g1, 11, none⟩ = some k11 ∧ w'.cell? ⟨g2, 1, none⟩ = some (.slice (some ad) e.a.length c) ∧ w'.cell? (ad.add (k * 4)) = some (.int .i64 e.a[k].op) ∧ w'.cell? ⟨(ad.add (k * 4)).block, (ad.add (k * 4)).off + 1, none⟩ = some (.int .i64 e.a[k].n) ∧ w'.cell? ⟨(ad.add (k * 4)).block, (ad.add (k * 4)).off + 2, none⟩ = some (.int .i64 e.a[k].v) ∧ w'.cell? ⟨(ad.add (k * 4)).block, (ad.add (k * 4)).off + 3, none⟩ = some (.slice A3 e.a[k].a.length c3)) (first | exact HMK.out _ HB.out.drew | exact HMK.out _ (below_trans (‹Below wx.heap.size wx _ ∧ _›).1 hb5)) (first | (go_at_call 189; (try rw [HWR0.out]); with_reducible refine (HX0.out _ (‹Below wx.heap.size wx _ ∧ _›).1).mono ?_; rintro en w5 ⟨rfl, hb5⟩))
            have HB5 := Lib.hid (‹Below wx.heap.size wx w5 ∧ _›).1
            go_wp2
            go_ret
            have hT : szC V R d e = -1 := szC_false (by rw [HO.out, okEs_false V R (d + 1) e.a k _ HX.out HO2.out]; simp)
            exact ⟨ret_eq hT, below_trans HWX.out HB5.out⟩
        · have HK : Hid (k = e.a.length) := Lib.hid (by omega)
          have HE1 : Hid (okEs V R (d + 1) e.a = true) := Lib.hid (by have := HOK.out; rw [HK.out, List.take_length] at this; exact this)
          have HS1 : Hid (((1 + Ex.sizeL (e.a.take k) : Nat) : Int) = ((1 + Ex.sizeL e.a : Nat) : Int)) := Lib.hid (by rw [HK.out, List.take_length])
          obtain ⟨wo, rfl⟩ : ∃ wo : World, wo = wr := ⟨_, rfl⟩
          go_wp2
          go_loopw [9, 12] (fun s9 s12 wr => ∃ k : Nat, k ≤ e.c.length ∧ s9 = .int .i64 ((1 + Ex.sizeL e.a + Cn.sizeL (e.c.take k) : Nat) : Int) ∧ s12 = .int .i64 k ∧ okCs V R (d + 1) (e.c.take k) = true ∧ Below wx.heap.size wx wr) (fun _ s12 _ => e.c.length - (intOf s12).toNat)
          case atStart => exact ⟨0, Nat.zero_le _, by have := HS1.out; simp [Cn.sizeL]; simpa using this, rfl, by simp [okCs], HB.out⟩
          case round =>
            clear HB HOK
            obtain ⟨k, hk, rfl, rfl, hok, hB⟩ := hrel
            have HOK := Lib.hid hok
            have HB := Lib.hid hB
            clear hok hB
            by_cases hlt : k < e.c.length
            · have hx : e.c[k]? = some e.c[k] := by simp [hlt]
              obtain ⟨ad, A1, c1, A2, c2, rfl, HC, HREP⟩ := RowC.whole HS.out HR2.out k e.c[k] hx
              have hts := Cn.sizeL_take_succ e.c k _ hx
              have htl2 := Cn.sizeL_take_le e.c (k + 1)
              have HX := Lib.hid hx
              have hsx : 1 + Ex.sizeL e.a + Cn.sizeL (e.c.take k) + e.c[k].size < 1152921504606846976 := by have := HSZ.out; have := HE.out; omega
              have hxn : e.c[k].size ≤ n := by have := HSZ.out; have := HE.out; omega
              have HTS := Lib.hid hts
              have hk0 : (0 : Int) ≤ (k : Int) := by omega
              have hk1 : (k : Int) < (e.c.length : Int) := by omega
              clear hx hts htl2
              by_cases ho2 : okC V R (d + 1) e.c[k] = true
              · have HO2 : Hid (okC V R (d + 1) e.c[k] = true) := Lib.hid ho2
                have HZ : Hid (szC V R (d + 1) e.c[k] = e.c[k].size) := Lib.hid (szC_true ho2)
                have hpos : (0 : Int) ≤ (e.c[k].size : Int) := by omega
                clear ho2
                go_wp2
                have HMK : Hid (∀ w', Below wx.heap.size wx w' → Below wx.heap.size wx w' ∧ w'.cell? ⟨g1, 0, none⟩ = some k0 ∧ w'.cell? ⟨g1, 1, none⟩ = some k1 ∧ w'.cell? ⟨g1, 2, none⟩ = some k2 ∧ w'.cell? ⟨g1, 3, none⟩ = some k3 ∧ w'.cell? ⟨g1, 4, none⟩ = some k4 ∧ w'.cell? ⟨g1, 5, none⟩ = some k5 ∧ w'.cell? ⟨g1, 6, none⟩ = some k6 ∧ w'.cell? ⟨g1, 7, none⟩ = some (.int .i64 V) ∧ w'.cell? ⟨g1, 8, none⟩ = some k8 ∧ w'.cell? ⟨g1, 9, none⟩ = some (.slice AR R Rc) ∧ w'.cell? ⟨g1, 10, none⟩ = some k10 ∧ w'.cell? ⟨g1, 11, none⟩ = some k11 ∧ w'.cell? ⟨g2, 2, none⟩ = some (.slice (some ad) e.c.length dd) ∧ w'.cell? (ad.add (k * 3)) = some (.int .i64 e.c[k].op) ∧ w'.cell? ⟨(ad.add (k * 3)).block, (ad.add (k * 3)).off + 1, none⟩ = some (.slice A1 e.c[k].a.length c1) ∧ w'.cell? ⟨(ad.add (k * 3)).block, (ad.add (k * 3)).off + 2, none⟩ = some (.slice A2 e.c[k].c.length c2)) := Lib.hid (fun w' hb => by
                  have hbb := below_trans HWX.out hb
                  have hg1 := below_blk hb HL1.out
                  have hx0 : ∀ j u, [Value.int .i64 e.c[k].op, .slice A1 e.c[k].a.length c1, .slice A2 e.c[k].c.length c2][j]? = some u → w'.cell? (if j = 0 then ad.add (k * 3) else ⟨(ad.add (k * 3)).block, (ad.add (k * 3)).off + j, none⟩) = some u := fun j u hj => by
                    have h := (hbb.cell (World.block_lt_of_cell? w _ (HC.out j u hj))).trans (HC.out j u hj)
                    unfold Addr.add at h ⊢
                    exact h
                  exact ⟨hb, (blk_cell hg1 0).trans rfl, (blk_cell hg1 1).trans rfl, (blk_cell hg1 2).trans rfl, (blk_cell hg1 3).trans rfl, (blk_cell hg1 4).trans rfl, (blk_cell hg1 5).trans rfl, (blk_cell hg1 6).trans rfl, (blk_cell hg1 7).trans rfl, (blk_cell hg1 8).trans rfl, (blk_cell hg1 9).trans rfl, (blk_cell hg1 10).trans rfl, (blk_cell hg1 11).trans rfl, (blk_cell (below_blk hb HL2.out) 2).trans rfl, hx0 0 _ rfl, hx0 1 _ rfl, hx0 2 _ rfl⟩)
                have HX0 : Hid (∀ W, Below wx.heap.size wx W → Calls Tryz.prog 190 #[.agg #[k0, k1, k2, k3, k4, k5, k6, .int .i64 V, k8, .slice AR R Rc, k10, k11], .agg #[Value.int .i64 e.c[k].op, .slice A1 e.c[k].a.length c1, .slice A2 e.c[k].c.length c2], .int .i64 (↑d + 1)] W (fun en w' => en = .returned (.int .i64 ((e.c[k].size : Int))) ∧ Below W.heap.size W w')) := Lib.hid (fun W hb => by
                  rw [← HZ.out]
                  exact HIH.out e.c[k] hxn (by omega) (d + 1) S W [Value.int .i64 e.c[k].op, .slice A1 e.c[k].a.length c1, .slice A2 e.c[k].c.length c2] (HS.out.below (below_trans HWX.out hb)) HREP.out)
                go_region_held3 (fun w' => Below wx.heap.size wx w' ∧ w'.cell? ⟨g1, 0, none⟩ = some k0 ∧ w'.cell? ⟨g1, 1, none⟩ = some k1 ∧ w'.cell? ⟨g1, 2, none⟩ = some k2 ∧ w'.cell? ⟨g1, 3, none⟩ = some k3 ∧ w'.cell? ⟨g1, 4, none⟩ = some k4 ∧ w'.cell? ⟨g1, 5, none⟩ = some k5 ∧ w'.cell? ⟨g1, 6, none⟩ = some k6 ∧ w'.cell? ⟨g1, 7, none⟩ = some (.int .i64 V) ∧ w'.cell? ⟨g1, 8, none⟩ = some k8 ∧ w'.cell? ⟨g1, 9, none⟩ = some (.slice AR R Rc) ∧ w'.cell? ⟨g1, 10, none⟩ = some k10 ∧ w'.cell? ⟨g1, 11, none⟩ = some k11 ∧ w'.cell? ⟨g2, 2, none⟩ = some (.slice (some ad) e.c.length dd) ∧ w'.cell? (ad.add (k * 3)) = some (.int .i64 e.c[k].op) ∧ w'.cell? ⟨(ad.add (k * 3)).block, (ad.add (k * 3)).off + 1, none⟩ = some (.slice A1 e.c[k].a.length c1) ∧ w'.cell? ⟨(ad.add (k * 3)).block, (ad.add (k * 3)).off + 2, none⟩ = some (.slice A2 e.c[k].c.length c2)) (first | exact HMK.out _ HB.out.drew | exact HMK.out _ (below_trans (‹Below wx.heap.size wx _ ∧ _›).1 hb5)) (first | (go_at_call 190; (try rw [HWR0.out]); with_reducible refine (HX0.out _ (‹Below wx.heap.size wx _ ∧ _›).1).mono ?_; rintro en w5 ⟨rfl, hb5⟩))
                have HB5 := Lib.hid (‹Below wx.heap.size wx w5 ∧ _›).1
                go_wp2
                go_roundw
                case rel =>
                  refine ⟨k + 1, by omega, by rw [HTS.out]; go_num, by go_num, ?_, HB5.out⟩
                  rw [okCs_take V R (d + 1) e.c k _ HX.out, HOK.out, HO2.out]
                  rfl
                case measure => simp [intOf]; omega
              · have HO2 : Hid (okC V R (d + 1) e.c[k] = false) := Lib.hid (by simpa using ho2)
                have HZ : Hid (szC V R (d + 1) e.c[k] = -1) := Lib.hid (szC_false HO2.out)
                clear ho2
                go_wp2
                have HMK : Hid (∀ w', Below wx.heap.size wx w' → Below wx.heap.size wx w' ∧ w'.cell? ⟨g1, 0, none⟩ = some k0 ∧ w'.cell? ⟨g1, 1, none⟩ = some k1 ∧ w'.cell? ⟨g1, 2, none⟩ = some k2 ∧ w'.cell? ⟨g1, 3, none⟩ = some k3 ∧ w'.cell? ⟨g1, 4, none⟩ = some k4 ∧ w'.cell? ⟨g1, 5, none⟩ = some k5 ∧ w'.cell? ⟨g1, 6, none⟩ = some k6 ∧ w'.cell? ⟨g1, 7, none⟩ = some (.int .i64 V) ∧ w'.cell? ⟨g1, 8, none⟩ = some k8 ∧ w'.cell? ⟨g1, 9, none⟩ = some (.slice AR R Rc) ∧ w'.cell? ⟨g1, 10, none⟩ = some k10 ∧ w'.cell? ⟨g1, 11, none⟩ = some k11 ∧ w'.cell? ⟨g2, 2, none⟩ = some (.slice (some ad) e.c.length dd) ∧ w'.cell? (ad.add (k * 3)) = some (.int .i64 e.c[k].op) ∧ w'.cell? ⟨(ad.add (k * 3)).block, (ad.add (k * 3)).off + 1, none⟩ = some (.slice A1 e.c[k].a.length c1) ∧ w'.cell? ⟨(ad.add (k * 3)).block, (ad.add (k * 3)).off + 2, none⟩ = some (.slice A2 e.c[k].c.length c2)) := Lib.hid (fun w' hb => by
                  have hbb := below_trans HWX.out hb
                  have hg1 := below_blk hb HL1.out
                  have hx0 : ∀ j u, [Value.int .i64 e.c[k].op, .slice A1 e.c[k].a.length c1, .slice A2 e.c[k].c.length c2][j]? = some u → w'.cell? (if j = 0 then ad.add (k * 3) else ⟨(ad.add (k * 3)).block, (ad.add (k * 3)).off + j, none⟩) = some u := fun j u hj => by
                    have h := (hbb.cell (World.block_lt_of_cell? w _ (HC.out j u hj))).trans (HC.out j u hj)
                    unfold Addr.add at h ⊢
                    exact h
                  exact ⟨hb, (blk_cell hg1 0).trans rfl, (blk_cell hg1 1).trans rfl, (blk_cell hg1 2).trans rfl, (blk_cell hg1 3).trans rfl, (blk_cell hg1 4).trans rfl, (blk_cell hg1 5).trans rfl, (blk_cell hg1 6).trans rfl, (blk_cell hg1 7).trans rfl, (blk_cell hg1 8).trans rfl, (blk_cell hg1 9).trans rfl, (blk_cell hg1 10).trans rfl, (blk_cell hg1 11).trans rfl, (blk_cell (below_blk hb HL2.out) 2).trans rfl, hx0 0 _ rfl, hx0 1 _ rfl, hx0 2 _ rfl⟩)
                have HX0 : Hid (∀ W, Below wx.heap.size wx W → Calls Tryz.prog 190 #[.agg #[k0, k1, k2, k3, k4, k5, k6, .int .i64 V, k8, .slice AR R Rc, k10, k11], .agg #[Value.int .i64 e.c[k].op, .slice A1 e.c[k].a.length c1, .slice A2 e.c[k].c.length c2], .int .i64 (↑d + 1)] W (fun en w' => en = .returned (.int .i64 (-1)) ∧ Below W.heap.size W w')) := Lib.hid (fun W hb => by
                  rw [← HZ.out]
                  exact HIH.out e.c[k] hxn (by omega) (d + 1) S W [Value.int .i64 e.c[k].op, .slice A1 e.c[k].a.length c1, .slice A2 e.c[k].c.length c2] (HS.out.below (below_trans HWX.out hb)) HREP.out)
                go_region_held3 (fun w' => Below wx.heap.size wx w' ∧ w'.cell? ⟨g1, 0, none⟩ = some k0 ∧ w'.cell? ⟨g1, 1, none⟩ = some k1 ∧ w'.cell? ⟨g1, 2, none⟩ = some k2 ∧ w'.cell? ⟨g1, 3, none⟩ = some k3 ∧ w'.cell? ⟨g1, 4, none⟩ = some k4 ∧ w'.cell? ⟨g1, 5, none⟩ = some k5 ∧ w'.cell? ⟨g1, 6, none⟩ = some k6 ∧ w'.cell? ⟨g1, 7, none⟩ = some (.int .i64 V) ∧ w'.cell? ⟨g1, 8, none⟩ = some k8 ∧ w'.cell? ⟨g1, 9, none⟩ = some (.slice AR R Rc) ∧ w'.cell? ⟨g1, 10, none⟩ = some k10 ∧ w'.cell? ⟨g1, 11, none⟩ = some k11 ∧ w'.cell? ⟨g2, 2, none⟩ = some (.slice (some ad) e.c.length dd) ∧ w'.cell? (ad.add (k * 3)) = some (.int .i64 e.c[k].op) ∧ w'.cell? ⟨(ad.add (k * 3)).block, (ad.add (k * 3)).off + 1, none⟩ = some (.slice A1 e.c[k].a.length c1) ∧ w'.cell? ⟨(ad.add (k * 3)).block, (ad.add (k * 3)).off + 2, none⟩ = some (.slice A2 e.c[k].c.length c2)) (first | exact HMK.out _ HB.out.drew | exact HMK.out _ (below_trans (‹Below wx.heap.size wx _ ∧ _›).1 hb5)) (first | (go_at_call 190; (try rw [HWR0.out]); with_reducible refine (HX0.out _ (‹Below wx.heap.size wx _ ∧ _›).1).mono ?_; rintro en w5 ⟨rfl, hb5⟩))
                have HB5 := Lib.hid (‹Below wx.heap.size wx w5 ∧ _›).1
                go_wp2
                go_ret
                have hT : szC V R d e = -1 := szC_false (by rw [HO.out, okCs_false V R (d + 1) e.c k _ HX.out HO2.out]; simp)
                exact ⟨ret_eq hT, below_trans HWX.out HB5.out⟩
            · have HK2 : Hid (k = e.c.length) := Lib.hid (by omega)
              go_wp2
              go_ret
              have e1 : e.c.take k = e.c := by rw [HK2.out, List.take_length]
              have hT : okC V R d e = true := by rw [HT.out, HE1.out, ← e1, HOK.out]; rfl
              refine ⟨ret_eq ?_, below_trans HWX.out HB.out⟩
              rw [szC_true hT, HSZ.out]; simp [e1]
end Go.Proofs.YtkopmnhngjbmcaaGreatDoor.Sn

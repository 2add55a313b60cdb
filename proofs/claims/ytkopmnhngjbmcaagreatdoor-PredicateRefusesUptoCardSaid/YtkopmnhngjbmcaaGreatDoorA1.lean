/- The sizes of expressions and conditions (R01.Size, R01.SizeC). -/
import Derived.Test.YtkopmnhngjbmcaaGreatDoorSn
namespace Go.Proofs.YtkopmnhngjbmcaaGreatDoor.Sn
open Go Go.RowKit
mutual
def Ex.size : Ex → Nat
  | .mk _ _ _ a => 1 + Ex.sizeL a
def Ex.sizeL : List Ex → Nat
  | [] => 0
  | x :: l => x.size + Ex.sizeL l
end
theorem Ex.size_eq (e : Ex) : e.size = 1 + Ex.sizeL e.a := by cases e; simp [Ex.size, Ex.a]
theorem Ex.sizeL_take_succ (l : List Ex) (k : Nat) (x : Ex) (h : l[k]? = some x) : Ex.sizeL (l.take (k + 1)) = Ex.sizeL (l.take k) + x.size := by
  induction l generalizing k with
  | nil => simp at h
  | cons y l ih =>
    cases k with
    | zero => simp at h; subst h; simp [Ex.sizeL]
    | succ k => simp at h; simp only [List.take_succ_cons, Ex.sizeL]; rw [ih k h]; omega
theorem Ex.sizeL_take_le (l : List Ex) (k : Nat) : Ex.sizeL (l.take k) ≤ Ex.sizeL l := by
  induction l generalizing k with
  | nil => simp
  | cons y l ih => cases k with
    | zero => simp [Ex.sizeL]
    | succ k => simp only [List.take_succ_cons, Ex.sizeL]; have := ih k; omega
theorem Ex.length_le (l : List Ex) : l.length ≤ Ex.sizeL l := by
  induction l with
  | nil => simp [Ex.sizeL]
  | cons x l ih => simp only [List.length_cons, Ex.sizeL]; have := x.size_eq; omega

set_option maxHeartbeats 1000000 in
theorem size_calls : ∀ (n : Nat) (e : Ex), e.size ≤ n → n < 1152921504606846976 → ∀ (S : Snap) (w : World) (cs : List Value), Agr S w → RepE S e cs →
    Calls Tryz.prog 58 #[.agg cs.toArray] w fun en w' => en = .returned (.int .i64 e.size) ∧ Below w.heap.size w w' := by
  intro n
  induction n with
  | zero => intro e he; rw [e.size_eq] at he; omega
  | succ n ih =>
    intro e he hn S w cs hS hr
    obtain ⟨A, c, rfl, hc, hrow⟩ := hr.open_
    have hsz := e.size_eq
    have hlen := Ex.length_le e.a
    have HS := Lib.hid hS
    have HR := Lib.hid hrow
    have HSZ := Lib.hid hsz
    have HE := Lib.hid he
    have HIH := Lib.hid ih
    have h1 : e.a.length < 1152921504606846976 := by omega
    clear hS hrow hsz he ih hlen
    go_enter Tryz.func58, Tryz.ntmps58
    go_wp2_with ((with_reducible refine gate_dst (N := 1) rfl ?_); refine box_event rfl (N := 1) rfl (cs := #[.int .i64 e.op, .int .i64 e.n, .int .i64 e.v, .slice A e.a.length c]) (t := 125) (by go_simp) ?_; intro g hg w1 hb hB; have HB := Lib.hid hb; have HBE := Lib.hid hB; have HG := Lib.hid hg; clear hb hB hg)
    go_loopw [3, 4] (fun s3 s4 wr => ∃ k : Nat, k ≤ e.a.length ∧ s3 = .int .i64 ((1 + Ex.sizeL (e.a.take k) : Nat) : Int) ∧ s4 = .int .i64 k ∧ Below w1.heap.size w1 wr) (fun _ s4 _ => e.a.length - (intOf s4).toNat)
    case atStart => exact ⟨0, Nat.zero_le _, by simp [Ex.sizeL], rfl, Below.refl _ _⟩
    case round =>
      obtain ⟨k, hk, rfl, rfl, hB⟩ := hrel
      have hb := below_blk hB HB.out
      have h3 : wr.cell? ⟨g, 3, none⟩ = some (.slice A e.a.length c) := (blk_cell hb 3).trans rfl
      have htl := Ex.sizeL_take_le e.a k
      have hsz := HSZ.out
      have he := HE.out
      have hb1 : 1 + Ex.sizeL (e.a.take k) < 1152921504606846976 := by omega
      have HB1 := Lib.hid hB
      clear hb hB htl hsz he
      by_cases hlt : k < e.a.length
      · have hx : e.a[k]? = some e.a[k] := by simp [hlt]
        obtain ⟨ad, A3, c3, rfl, g0, g1, g2, g3, hrep⟩ := RowE.at_ ((HS.out.below HBE.out).below HB1.out) HR.out k e.a[k] hx
        have hts := Ex.sizeL_take_succ e.a k _ hx
        have htl2 := Ex.sizeL_take_le e.a (k + 1)
        have hsx : 1 + Ex.sizeL (e.a.take k) + e.a[k].size < 1152921504606846976 := by have := HSZ.out; have := HE.out; omega
        have hxn : e.a[k].size ≤ n := by have := HSZ.out; have := HE.out; omega
        have HTS := Lib.hid hts
        clear hx hts htl2
        go_wp2_with (go_at_call 58; refine (HIH.out e.a[k] hxn (by omega) S wr _ ((HS.out.below HBE.out).below HB1.out) hrep).mono ?_; rintro en w2 ⟨rfl, hb2⟩; have HB2 := Lib.hid hb2; clear hb2)
        go_roundw
        case rel => exact ⟨k + 1, by omega, by rw [HTS.out]; go_num, by go_num, below_trans HB1.out HB2.out⟩
        case measure => simp [intOf]; omega
      · have hke : k = e.a.length := by omega
        have HK : Hid (k = e.a.length) := Lib.hid hke
        clear hke
        go_wp2
        go_ret
        refine ⟨?_, below_trans HBE.out HB1.out⟩
        rw [HSZ.out, ← List.take_length (l := e.a), ← HK.out, List.take_take, Nat.min_self]
        rfl

mutual
def Cn.size : Cn → Nat
  | .mk _ a c => 1 + Ex.sizeL a + Cn.sizeL c
def Cn.sizeL : List Cn → Nat
  | [] => 0
  | x :: l => x.size + Cn.sizeL l
end
theorem Cn.size_eq (e : Cn) : e.size = 1 + Ex.sizeL e.a + Cn.sizeL e.c := by cases e; simp [Cn.size, Cn.a, Cn.c]
theorem Cn.sizeL_take_succ (l : List Cn) (k : Nat) (x : Cn) (h : l[k]? = some x) : Cn.sizeL (l.take (k + 1)) = Cn.sizeL (l.take k) + x.size := by
  induction l generalizing k with
  | nil => simp at h
  | cons y l ih =>
    cases k with
    | zero => simp at h; subst h; simp [Cn.sizeL]
    | succ k => simp at h; simp only [List.take_succ_cons, Cn.sizeL]; rw [ih k h]; omega
theorem Cn.sizeL_take_le (l : List Cn) (k : Nat) : Cn.sizeL (l.take k) ≤ Cn.sizeL l := by
  induction l generalizing k with
  | nil => simp
  | cons y l ih => cases k with
    | zero => simp [Cn.sizeL]
    | succ k => simp only [List.take_succ_cons, Cn.sizeL]; have := ih k; omega
theorem Cn.length_le (l : List Cn) : l.length ≤ Cn.sizeL l := by
  induction l with
  | nil => simp [Cn.sizeL]
  | cons x l ih => simp only [List.length_cons, Cn.sizeL]; have := x.size_eq; omega

set_option maxHeartbeats 1000000 in
theorem sizeC_calls : ∀ (n : Nat) (e : Cn), e.size ≤ n → n < 1152921504606846976 → ∀ (S : Snap) (w : World) (cs : List Value), Agr S w → RepC S e cs →
    Calls Tryz.prog 14 #[.agg cs.toArray] w fun en w' => en = .returned (.int .i64 e.size) ∧ Below w.heap.size w w' := by
  intro n
  induction n with
  | zero => intro e he; rw [e.size_eq] at he; omega
  | succ n ih =>
    intro e he hn S w cs hS hr
    obtain ⟨A, c, B, d, rfl, hc, hd, hrow, hrow2⟩ := hr.open_
    have hsz := e.size_eq
    have hlen := Ex.length_le e.a
    have hlen2 := Cn.length_le e.c
    have HS := Lib.hid hS
    have HR := Lib.hid hrow
    have HR2 := Lib.hid hrow2
    have HSZ := Lib.hid hsz
    have HE := Lib.hid he
    have HIH := Lib.hid ih
    have h1 : e.a.length < 1152921504606846976 := by omega
    have h2 : e.c.length < 1152921504606846976 := by omega
    clear hS hrow hsz he ih hlen hlen2 hr hrow2
    go_enter Tryz.func14, Tryz.ntmps14
    go_wp2_with ((with_reducible refine gate_dst (N := 1) rfl ?_); refine box_event rfl (N := 1) rfl (cs := #[.int .i64 e.op, .slice A e.a.length c, .slice B e.c.length d]) (t := 25) (by go_simp) ?_; intro g hg w1 hb hB; have HB := Lib.hid hb; have HBE := Lib.hid hB; have HG := Lib.hid hg; clear hb hB hg)
    go_loopw [3, 4] (fun s3 s4 wr => ∃ k : Nat, k ≤ e.a.length ∧ s3 = .int .i64 ((1 + Ex.sizeL (e.a.take k) : Nat) : Int) ∧ s4 = .int .i64 k ∧ Below w1.heap.size w1 wr) (fun _ s4 _ => e.a.length - (intOf s4).toNat)
    case atStart => exact ⟨0, Nat.zero_le _, by simp [Ex.sizeL], rfl, Below.refl _ _⟩
    case round =>
      obtain ⟨k, hk, rfl, rfl, hB⟩ := hrel
      have hb := below_blk hB HB.out
      have h3 : wr.cell? ⟨g, 1, none⟩ = some (.slice A e.a.length c) := (blk_cell hb 1).trans rfl
      have htl := Ex.sizeL_take_le e.a k
      have hsz := HSZ.out
      have he := HE.out
      have hb1 : 1 + Ex.sizeL (e.a.take k) < 1152921504606846976 := by omega
      have HB1 := Lib.hid hB
      clear hb hB htl hsz he
      by_cases hlt : k < e.a.length
      · have hx : e.a[k]? = some e.a[k] := by simp [hlt]
        obtain ⟨ad, A3, c3, rfl, g0, g1, g2, g3, hrep⟩ := RowE.at_ ((HS.out.below HBE.out).below HB1.out) HR.out k e.a[k] hx
        have hts := Ex.sizeL_take_succ e.a k _ hx
        have htl2 := Ex.sizeL_take_le e.a (k + 1)
        have hsx : 1 + Ex.sizeL (e.a.take k) + e.a[k].size < 1152921504606846976 := by have := HSZ.out; have := HE.out; omega
        have hxn : e.a[k].size ≤ n := by have := HSZ.out; have := HE.out; omega
        have HTS := Lib.hid hts
        clear hx hts htl2
        go_wp2_with (go_at_call 58; refine (size_calls n e.a[k] hxn (by omega) S wr _ ((HS.out.below HBE.out).below HB1.out) hrep).mono ?_; rintro en w2 ⟨rfl, hb2⟩; have HB2 := Lib.hid hb2; clear hb2)
        go_roundw
        case rel => exact ⟨k + 1, by omega, by rw [HTS.out]; go_num, by go_num, below_trans HB1.out HB2.out⟩
        case measure => simp [intOf]; omega
      · have hke : k = e.a.length := by omega
        have HK : Hid (k = e.a.length) := Lib.hid hke
        clear hke h3
        obtain ⟨wo, rfl⟩ : ∃ wo : World, wo = wr := ⟨_, rfl⟩
        have h3 : wo.cell? ⟨g, 1, none⟩ = some (.slice A e.a.length c) := (blk_cell (below_blk HB1.out HB.out) 1).trans rfl
        go_wp2
        clear h3
        go_loopw [3, 5] (fun s3 s5 wr => ∃ m : Nat, m ≤ e.c.length ∧ s3 = .int .i64 ((1 + Ex.sizeL (e.a.take k) + Cn.sizeL (e.c.take m) : Nat) : Int) ∧ s5 = .int .i64 m ∧ Below w1.heap.size w1 wr) (fun _ s5 _ => e.c.length - (intOf s5).toNat)
        case atStart => exact ⟨0, Nat.zero_le _, by simp [Cn.sizeL], rfl, HB1.out⟩
        case round =>
          obtain ⟨m, hm, rfl, rfl, hB⟩ := hrel
          have hb := below_blk hB HB.out
          have h3 : wr.cell? ⟨g, 2, none⟩ = some (.slice B e.c.length d) := (blk_cell hb 2).trans rfl
          have htl := Cn.sizeL_take_le e.c m
          have htl0 := Ex.sizeL_take_le e.a k
          have hsz := HSZ.out
          have he := HE.out
          have hb2 : 1 + Ex.sizeL (e.a.take k) + Cn.sizeL (e.c.take m) < 1152921504606846976 := by omega
          have HB2 := Lib.hid hB
          clear hb hB htl hsz he
          by_cases hlt2 : m < e.c.length
          · have hx : e.c[m]? = some e.c[m] := by simp [hlt2]
            obtain ⟨ad, A1, c1, A2, c2, rfl, g0, g1, g2, hrep⟩ := RowC.at_ ((HS.out.below HBE.out).below HB2.out) HR2.out m e.c[m] hx
            have hts := Cn.sizeL_take_succ e.c m _ hx
            have htl2 := Cn.sizeL_take_le e.c (m + 1)
            have hsx : 1 + Ex.sizeL (e.a.take k) + Cn.sizeL (e.c.take m) + e.c[m].size < 1152921504606846976 := by have := HSZ.out; have := HE.out; omega
            have hxn : e.c[m].size ≤ n := by have := HSZ.out; have := HE.out; omega
            have HTS := Lib.hid hts
            clear hx hts htl2 htl0
            go_wp2_with (go_at_call 14; refine (HIH.out e.c[m] hxn (by omega) S wr _ ((HS.out.below HBE.out).below HB2.out) hrep).mono ?_; rintro en w2 ⟨rfl, hb3⟩; have HB3 := Lib.hid hb3; clear hb3)
            go_roundw
            case rel => exact ⟨m + 1, by omega, by rw [HTS.out]; go_num, by go_num, below_trans HB2.out HB3.out⟩
            case measure => simp [intOf]; omega
          · have hme : m = e.c.length := by omega
            have HM : Hid (m = e.c.length) := Lib.hid hme
            clear hme htl0
            go_wp2
            go_ret
            refine ⟨?_, below_trans HBE.out HB2.out⟩
            have e1 : e.a.take k = e.a := by rw [HK.out, List.take_length]
            have e2 : e.c.take m = e.c := by rw [HM.out, List.take_length]
            rw [HSZ.out, ← e1, ← e2]
            rw [e1, e2]
            simp [e1, e2]
end Go.Proofs.YtkopmnhngjbmcaaGreatDoor.Sn

/- (paroleref06.expr): its leaves. -/
import Derived.Test.YtkopmnhngjbmcaaGreatDoorA5
import Derived.Test.YtkopmnhngjbmcaaGreatDoorSn
import Derived.Deep.RegionHeld3
namespace Go.Proofs.YtkopmnhngjbmcaaGreatDoor.Sn
open Go Go.RowKit
set_option linter.unusedVariables false
set_option maxHeartbeats 400000 in
theorem in6_calls (n a b : Int) (w : World) : Calls Tryz.prog 131 #[.int .i64 n, .int .i64 a, .int .i64 b] w fun e w' => e = .returned (.bool (inR a n b)) ∧ w = w' := by
  by_cases h1 : a ≤ n
  · by_cases h2 : n ≤ b
    · have H : Hid (inR a n b = true) := Lib.hid (inR_true.2 ⟨h1, h2⟩)
      go_enter Tryz.func131, Tryz.ntmps131
      go_wp2
      go_ret
      exact ⟨by rw [H.out]; simp, rfl⟩
    · have H : Hid (inR a n b = false) := Lib.hid (inR_false.2 fun h => h2 h.2)
      go_enter Tryz.func131, Tryz.ntmps131
      go_wp2
      go_ret
      exact ⟨by rw [H.out]; simp, rfl⟩
  · have H : Hid (inR a n b = false) := Lib.hid (inR_false.2 fun h => h1 h.1)
    go_enter Tryz.func131, Tryz.ntmps131
    go_wp2
    go_ret
    exact ⟨by rw [H.out]; simp, rfl⟩
theorem ret_eq {z m : Int} (h : z = m) : Ending.returned (.int .i64 m) = Ending.returned (.int .i64 z) := by rw [h]
/-- the size of a right expression, or -1 -/
def szE (V R : Int) (d : Nat) (e : Ex) : Int := if okE V R d e = true then (e.size : Int) else -1
theorem szE_false {V R : Int} {d : Nat} {e : Ex} (h : okE V R d e = false) : szE V R d e = -1 := by rw [szE, h]; rfl
theorem okE_deep {V R : Int} {d : Nat} {e : Ex} (h : ¬ d ≤ 10) : okE V R d e = false := by
  by_cases h1 : e.op = 1
  · rw [okE_1 _ _ _ _ h1]; simp [h]
  by_cases h2 : e.op = 2
  · rw [okE_2 _ _ _ _ h2]; simp [h]
  by_cases h3 : e.op = 3
  · rw [okE_3 _ _ _ _ h3]; simp [h]
  rw [okE_4 _ _ _ _ h1 h2 h3]
  have : ¬ d < 10 := by omega
  simp [this]
set_option maxRecDepth 100000 in
set_option maxHeartbeats 2000000 in
theorem expr6_deep (e : Ex) (d : Nat) (hd : ¬ d ≤ 10) (V : Int) (R Rc : Nat) (AR : Option Addr) (k0 k1 k2 k3 k4 k5 k6 k8 k10 k11 : Value) (w : World) (A : Option Addr) (c : Nat) :
    Calls Tryz.prog 189 #[.agg #[k0, k1, k2, k3, k4, k5, k6, .int .i64 V, k8, .slice AR R Rc, k10, k11], .agg #[.int .i64 e.op, .int .i64 e.n, .int .i64 e.v, .slice A e.a.length c], .int .i64 d] w
      fun en w' => en = .returned (.int .i64 (szE V R d e)) ∧ Below w.heap.size w w' := by
  have hd' : (10 : Int) < d := by omega
  go_enter Tryz.func189, Tryz.ntmps189
  go_wp2_with (first | ((with_reducible refine gate_dst (N := 3) rfl ?_); refine new_at rfl (N := 3) rfl #[k0, k1, k2, k3, k4, k5, k6, .int .i64 V, k8, .slice AR R Rc, k10, k11] 99 (by go_simp) ?_; intro g1 w1 HG1 HB1 HBE1) | ((with_reducible refine gate_dst (N := 4) rfl ?_); refine box4 rfl (N := 4) rfl (.int .i64 e.op) (.int .i64 e.n) (.int .i64 e.v) (.slice A e.a.length c) 125 (by go_simp) ?_; intro g2 w2 HG2 HB2 HBE2 q0 q1 q2 q3; have r7 : w2.cell? ⟨g1, 7, none⟩ = some (.int .i64 V) := (blk_cell (below_blk HBE2.out HB1.out) 7).trans rfl; have r9 : w2.cell? ⟨g1, 9, none⟩ = some (.slice AR R Rc) := (blk_cell (below_blk HBE2.out HB1.out) 9).trans rfl) | (go_at_call 131; refine (in6_calls _ _ _ _).mono ?_; rintro en w3 ⟨rfl, rfl⟩))
  go_ret
  exact ⟨ret_eq (szE_false (okE_deep hd)), below_trans HBE1.out HBE2.out⟩

set_option maxRecDepth 100000 in
set_option maxHeartbeats 2000000 in
theorem expr6_1 (e : Ex) (d : Nat) (hd : d ≤ 10) (V : Int) (hV : 0 ≤ V ∧ V ≤ 1000) (R Rc : Nat) (hR : R ≤ 1000) (AR : Option Addr) (k0 k1 k2 k3 k4 k5 k6 k8 k10 k11 : Value) (w : World) (A : Option Addr) (c : Nat) (hop : e.op = 1) (hsz : e.a.length = 0 → e.size = 1) :
    Calls Tryz.prog 189 #[.agg #[k0, k1, k2, k3, k4, k5, k6, .int .i64 V, k8, .slice AR R Rc, k10, k11], .agg #[.int .i64 e.op, .int .i64 e.n, .int .i64 e.v, .slice A e.a.length c], .int .i64 d] w
      fun en w' => en = .returned (.int .i64 (szE V R d e)) ∧ Below w.heap.size w w' := by
  have HS := Lib.hid hsz
  have HO := Lib.hid (okE_1 V R d e hop)
  clear hsz
  have HF : e.n ≠ 0 ∨ e.a.length ≠ 0 → Hid (szE V R d e = -1) := fun h => Lib.hid (szE_false (by
    rw [HO.out]
    rcases h with h | h
    · simp [h]
    · have : e.a.isEmpty = false := by cases he : e.a with | nil => simp [he] at h | cons x l => rfl
      rw [this]; rfl))
  by_cases h3 : e.n = 0
  · have h3' : (e.n == 0) = true := by simp [h3]
    by_cases h1 : e.a.length = 0
    · have h1' : ((e.a.length : Int) == 0) = true := by simp [h1]
      have HIE : e.a.isEmpty = true := by cases he : e.a with | nil => rfl | cons x l => simp [he] at h1
      have HT : Hid (okE V R d e = inR (-2147483648) e.v 2147483647) := Lib.hid (by rw [HO.out, HIE]; simp [hd, h3])
      have HE : Hid (e.size = 1) := Lib.hid (HS.out h1)
      by_cases hi : inR (-2147483648) e.v 2147483647 = true
      · have HZ : Hid (szE V R d e = 1) := Lib.hid (by rw [szE, HT.out, if_pos hi, HE.out]; rfl)
        clear h1 h3 HF HT HIE
        go_enter Tryz.func189, Tryz.ntmps189
        go_wp2_with (first | ((with_reducible refine gate_dst (N := 3) rfl ?_); refine new_at rfl (N := 3) rfl #[k0, k1, k2, k3, k4, k5, k6, .int .i64 V, k8, .slice AR R Rc, k10, k11] 99 (by go_simp) ?_; intro g1 w1 HG1 HB1 HBE1) | ((with_reducible refine gate_dst (N := 4) rfl ?_); refine box4 rfl (N := 4) rfl (.int .i64 e.op) (.int .i64 e.n) (.int .i64 e.v) (.slice A e.a.length c) 125 (by go_simp) ?_; intro g2 w2 HG2 HB2 HBE2 q0 q1 q2 q3; have r7 : w2.cell? ⟨g1, 7, none⟩ = some (.int .i64 V) := (blk_cell (below_blk HBE2.out HB1.out) 7).trans rfl; have r9 : w2.cell? ⟨g1, 9, none⟩ = some (.slice AR R Rc) := (blk_cell (below_blk HBE2.out HB1.out) 9).trans rfl) | (go_at_call 131; refine (in6_calls _ _ _ _).mono ?_; rintro en w3 ⟨rfl, rfl⟩))
        go_ret
        exact ⟨ret_eq HZ.out, below_trans HBE1.out HBE2.out⟩
      · have hi' : inR (-2147483648) e.v 2147483647 = false := by simpa using hi
        have HZ : Hid (szE V R d e = -1) := Lib.hid (szE_false (by rw [HT.out, hi']))
        clear h1 h3 HF HT HIE hi
        go_enter Tryz.func189, Tryz.ntmps189
        go_wp2_with (first | ((with_reducible refine gate_dst (N := 3) rfl ?_); refine new_at rfl (N := 3) rfl #[k0, k1, k2, k3, k4, k5, k6, .int .i64 V, k8, .slice AR R Rc, k10, k11] 99 (by go_simp) ?_; intro g1 w1 HG1 HB1 HBE1) | ((with_reducible refine gate_dst (N := 4) rfl ?_); refine box4 rfl (N := 4) rfl (.int .i64 e.op) (.int .i64 e.n) (.int .i64 e.v) (.slice A e.a.length c) 125 (by go_simp) ?_; intro g2 w2 HG2 HB2 HBE2 q0 q1 q2 q3; have r7 : w2.cell? ⟨g1, 7, none⟩ = some (.int .i64 V) := (blk_cell (below_blk HBE2.out HB1.out) 7).trans rfl; have r9 : w2.cell? ⟨g1, 9, none⟩ = some (.slice AR R Rc) := (blk_cell (below_blk HBE2.out HB1.out) 9).trans rfl) | (go_at_call 131; refine (in6_calls _ _ _ _).mono ?_; rintro en w3 ⟨rfl, rfl⟩))
        go_ret
        exact ⟨ret_eq HZ.out, below_trans HBE1.out HBE2.out⟩
    · have h1' : ((e.a.length : Int) == 0) = false := beq_eq_false_iff_ne.2 (by omega)
      have HZ := HF (.inr h1)
      clear h1 h3 HF
      go_enter Tryz.func189, Tryz.ntmps189
      go_wp2_with (first | ((with_reducible refine gate_dst (N := 3) rfl ?_); refine new_at rfl (N := 3) rfl #[k0, k1, k2, k3, k4, k5, k6, .int .i64 V, k8, .slice AR R Rc, k10, k11] 99 (by go_simp) ?_; intro g1 w1 HG1 HB1 HBE1) | ((with_reducible refine gate_dst (N := 4) rfl ?_); refine box4 rfl (N := 4) rfl (.int .i64 e.op) (.int .i64 e.n) (.int .i64 e.v) (.slice A e.a.length c) 125 (by go_simp) ?_; intro g2 w2 HG2 HB2 HBE2 q0 q1 q2 q3; have r7 : w2.cell? ⟨g1, 7, none⟩ = some (.int .i64 V) := (blk_cell (below_blk HBE2.out HB1.out) 7).trans rfl; have r9 : w2.cell? ⟨g1, 9, none⟩ = some (.slice AR R Rc) := (blk_cell (below_blk HBE2.out HB1.out) 9).trans rfl) | (go_at_call 131; refine (in6_calls _ _ _ _).mono ?_; rintro en w3 ⟨rfl, rfl⟩))
      go_ret
      exact ⟨ret_eq HZ.out, below_trans HBE1.out HBE2.out⟩
  · have h3' : (e.n == 0) = false := by simp [h3]
    have HZ := HF (.inl h3)
    clear h3 HF
    go_enter Tryz.func189, Tryz.ntmps189
    go_wp2_with (first | ((with_reducible refine gate_dst (N := 3) rfl ?_); refine new_at rfl (N := 3) rfl #[k0, k1, k2, k3, k4, k5, k6, .int .i64 V, k8, .slice AR R Rc, k10, k11] 99 (by go_simp) ?_; intro g1 w1 HG1 HB1 HBE1) | ((with_reducible refine gate_dst (N := 4) rfl ?_); refine box4 rfl (N := 4) rfl (.int .i64 e.op) (.int .i64 e.n) (.int .i64 e.v) (.slice A e.a.length c) 125 (by go_simp) ?_; intro g2 w2 HG2 HB2 HBE2 q0 q1 q2 q3; have r7 : w2.cell? ⟨g1, 7, none⟩ = some (.int .i64 V) := (blk_cell (below_blk HBE2.out HB1.out) 7).trans rfl; have r9 : w2.cell? ⟨g1, 9, none⟩ = some (.slice AR R Rc) := (blk_cell (below_blk HBE2.out HB1.out) 9).trans rfl) | (go_at_call 131; refine (in6_calls _ _ _ _).mono ?_; rintro en w3 ⟨rfl, rfl⟩))
    go_ret
    exact ⟨ret_eq HZ.out, below_trans HBE1.out HBE2.out⟩
set_option maxRecDepth 100000 in
set_option maxHeartbeats 2000000 in
theorem expr6_2 (e : Ex) (d : Nat) (hd : d ≤ 10) (V : Int) (hV : 0 ≤ V ∧ V ≤ 1000) (R Rc : Nat) (hR : R ≤ 1000) (AR : Option Addr) (k0 k1 k2 k3 k4 k5 k6 k8 k10 k11 : Value) (w : World) (A : Option Addr) (c : Nat) (hop : e.op = 2) (hsz : e.a.length = 0 → e.size = 1) :
    Calls Tryz.prog 189 #[.agg #[k0, k1, k2, k3, k4, k5, k6, .int .i64 V, k8, .slice AR R Rc, k10, k11], .agg #[.int .i64 e.op, .int .i64 e.n, .int .i64 e.v, .slice A e.a.length c], .int .i64 d] w
      fun en w' => en = .returned (.int .i64 (szE V R d e)) ∧ Below w.heap.size w w' := by
  have HS := Lib.hid hsz
  have HO := Lib.hid (okE_2 V R d e hop)
  clear hsz
  have HF : e.v ≠ 0 ∨ e.a.length ≠ 0 → Hid (szE V R d e = -1) := fun h => Lib.hid (szE_false (by
    rw [HO.out]
    rcases h with h | h
    · simp [h]
    · have : e.a.isEmpty = false := by cases he : e.a with | nil => simp [he] at h | cons x l => rfl
      rw [this]; rfl))
  by_cases h3 : e.v = 0
  · have h3' : (e.v == 0) = true := by simp [h3]
    by_cases h1 : e.a.length = 0
    · have h1' : ((e.a.length : Int) == 0) = true := by simp [h1]
      have HIE : e.a.isEmpty = true := by cases he : e.a with | nil => rfl | cons x l => simp [he] at h1
      have HT : Hid (okE V R d e = inR 0 e.n (V - 1)) := Lib.hid (by rw [HO.out, HIE]; simp [hd, h3])
      have HE : Hid (e.size = 1) := Lib.hid (HS.out h1)
      by_cases hi : inR 0 e.n (V - 1) = true
      · have HZ : Hid (szE V R d e = 1) := Lib.hid (by rw [szE, HT.out, if_pos hi, HE.out]; rfl)
        clear h1 h3 HF HT HIE
        go_enter Tryz.func189, Tryz.ntmps189
        go_wp2_with (first | ((with_reducible refine gate_dst (N := 3) rfl ?_); refine new_at rfl (N := 3) rfl #[k0, k1, k2, k3, k4, k5, k6, .int .i64 V, k8, .slice AR R Rc, k10, k11] 99 (by go_simp) ?_; intro g1 w1 HG1 HB1 HBE1) | ((with_reducible refine gate_dst (N := 4) rfl ?_); refine box4 rfl (N := 4) rfl (.int .i64 e.op) (.int .i64 e.n) (.int .i64 e.v) (.slice A e.a.length c) 125 (by go_simp) ?_; intro g2 w2 HG2 HB2 HBE2 q0 q1 q2 q3; have r7 : w2.cell? ⟨g1, 7, none⟩ = some (.int .i64 V) := (blk_cell (below_blk HBE2.out HB1.out) 7).trans rfl; have r9 : w2.cell? ⟨g1, 9, none⟩ = some (.slice AR R Rc) := (blk_cell (below_blk HBE2.out HB1.out) 9).trans rfl) | (go_at_call 131; refine (in6_calls _ _ _ _).mono ?_; rintro en w3 ⟨rfl, rfl⟩))
        go_ret
        exact ⟨ret_eq HZ.out, below_trans HBE1.out HBE2.out⟩
      · have hi' : inR 0 e.n (V - 1) = false := by simpa using hi
        have HZ : Hid (szE V R d e = -1) := Lib.hid (szE_false (by rw [HT.out, hi']))
        clear h1 h3 HF HT HIE hi
        go_enter Tryz.func189, Tryz.ntmps189
        go_wp2_with (first | ((with_reducible refine gate_dst (N := 3) rfl ?_); refine new_at rfl (N := 3) rfl #[k0, k1, k2, k3, k4, k5, k6, .int .i64 V, k8, .slice AR R Rc, k10, k11] 99 (by go_simp) ?_; intro g1 w1 HG1 HB1 HBE1) | ((with_reducible refine gate_dst (N := 4) rfl ?_); refine box4 rfl (N := 4) rfl (.int .i64 e.op) (.int .i64 e.n) (.int .i64 e.v) (.slice A e.a.length c) 125 (by go_simp) ?_; intro g2 w2 HG2 HB2 HBE2 q0 q1 q2 q3; have r7 : w2.cell? ⟨g1, 7, none⟩ = some (.int .i64 V) := (blk_cell (below_blk HBE2.out HB1.out) 7).trans rfl; have r9 : w2.cell? ⟨g1, 9, none⟩ = some (.slice AR R Rc) := (blk_cell (below_blk HBE2.out HB1.out) 9).trans rfl) | (go_at_call 131; refine (in6_calls _ _ _ _).mono ?_; rintro en w3 ⟨rfl, rfl⟩))
        go_ret
        exact ⟨ret_eq HZ.out, below_trans HBE1.out HBE2.out⟩
    · have h1' : ((e.a.length : Int) == 0) = false := beq_eq_false_iff_ne.2 (by omega)
      have HZ := HF (.inr h1)
      clear h1 h3 HF
      go_enter Tryz.func189, Tryz.ntmps189
      go_wp2_with (first | ((with_reducible refine gate_dst (N := 3) rfl ?_); refine new_at rfl (N := 3) rfl #[k0, k1, k2, k3, k4, k5, k6, .int .i64 V, k8, .slice AR R Rc, k10, k11] 99 (by go_simp) ?_; intro g1 w1 HG1 HB1 HBE1) | ((with_reducible refine gate_dst (N := 4) rfl ?_); refine box4 rfl (N := 4) rfl (.int .i64 e.op) (.int .i64 e.n) (.int .i64 e.v) (.slice A e.a.length c) 125 (by go_simp) ?_; intro g2 w2 HG2 HB2 HBE2 q0 q1 q2 q3; have r7 : w2.cell? ⟨g1, 7, none⟩ = some (.int .i64 V) := (blk_cell (below_blk HBE2.out HB1.out) 7).trans rfl; have r9 : w2.cell? ⟨g1, 9, none⟩ = some (.slice AR R Rc) := (blk_cell (below_blk HBE2.out HB1.out) 9).trans rfl) | (go_at_call 131; refine (in6_calls _ _ _ _).mono ?_; rintro en w3 ⟨rfl, rfl⟩))
      go_ret
      exact ⟨ret_eq HZ.out, below_trans HBE1.out HBE2.out⟩
  · have h3' : (e.v == 0) = false := by simp [h3]
    have HZ := HF (.inl h3)
    clear h3 HF
    go_enter Tryz.func189, Tryz.ntmps189
    go_wp2_with (first | ((with_reducible refine gate_dst (N := 3) rfl ?_); refine new_at rfl (N := 3) rfl #[k0, k1, k2, k3, k4, k5, k6, .int .i64 V, k8, .slice AR R Rc, k10, k11] 99 (by go_simp) ?_; intro g1 w1 HG1 HB1 HBE1) | ((with_reducible refine gate_dst (N := 4) rfl ?_); refine box4 rfl (N := 4) rfl (.int .i64 e.op) (.int .i64 e.n) (.int .i64 e.v) (.slice A e.a.length c) 125 (by go_simp) ?_; intro g2 w2 HG2 HB2 HBE2 q0 q1 q2 q3; have r7 : w2.cell? ⟨g1, 7, none⟩ = some (.int .i64 V) := (blk_cell (below_blk HBE2.out HB1.out) 7).trans rfl; have r9 : w2.cell? ⟨g1, 9, none⟩ = some (.slice AR R Rc) := (blk_cell (below_blk HBE2.out HB1.out) 9).trans rfl) | (go_at_call 131; refine (in6_calls _ _ _ _).mono ?_; rintro en w3 ⟨rfl, rfl⟩))
    go_ret
    exact ⟨ret_eq HZ.out, below_trans HBE1.out HBE2.out⟩
set_option maxRecDepth 100000 in
set_option maxHeartbeats 2000000 in
theorem expr6_3 (e : Ex) (d : Nat) (hd : d ≤ 10) (V : Int) (hV : 0 ≤ V ∧ V ≤ 1000) (R Rc : Nat) (hR : R ≤ 1000) (AR : Option Addr) (k0 k1 k2 k3 k4 k5 k6 k8 k10 k11 : Value) (w : World) (A : Option Addr) (c : Nat) (hop : e.op = 3) (hsz : e.a.length = 0 → e.size = 1) :
    Calls Tryz.prog 189 #[.agg #[k0, k1, k2, k3, k4, k5, k6, .int .i64 V, k8, .slice AR R Rc, k10, k11], .agg #[.int .i64 e.op, .int .i64 e.n, .int .i64 e.v, .slice A e.a.length c], .int .i64 d] w
      fun en w' => en = .returned (.int .i64 (szE V R d e)) ∧ Below w.heap.size w w' := by
  have HS := Lib.hid hsz
  have HO := Lib.hid (okE_3 V R d e hop)
  clear hsz
  have HF : e.v ≠ 0 ∨ e.a.length ≠ 0 → Hid (szE V R d e = -1) := fun h => Lib.hid (szE_false (by
    rw [HO.out]
    rcases h with h | h
    · simp [h]
    · have : e.a.isEmpty = false := by cases he : e.a with | nil => simp [he] at h | cons x l => rfl
      rw [this]; rfl))
  by_cases h3 : e.v = 0
  · have h3' : (e.v == 0) = true := by simp [h3]
    by_cases h1 : e.a.length = 0
    · have h1' : ((e.a.length : Int) == 0) = true := by simp [h1]
      have HIE : e.a.isEmpty = true := by cases he : e.a with | nil => rfl | cons x l => simp [he] at h1
      have HT : Hid (okE V R d e = inR 0 e.n (R - 1)) := Lib.hid (by rw [HO.out, HIE]; simp [hd, h3])
      have HE : Hid (e.size = 1) := Lib.hid (HS.out h1)
      by_cases hi : inR 0 e.n (R - 1) = true
      · have HZ : Hid (szE V R d e = 1) := Lib.hid (by rw [szE, HT.out, if_pos hi, HE.out]; rfl)
        clear h1 h3 HF HT HIE
        go_enter Tryz.func189, Tryz.ntmps189
        go_wp2_with (first | ((with_reducible refine gate_dst (N := 3) rfl ?_); refine new_at rfl (N := 3) rfl #[k0, k1, k2, k3, k4, k5, k6, .int .i64 V, k8, .slice AR R Rc, k10, k11] 99 (by go_simp) ?_; intro g1 w1 HG1 HB1 HBE1) | ((with_reducible refine gate_dst (N := 4) rfl ?_); refine box4 rfl (N := 4) rfl (.int .i64 e.op) (.int .i64 e.n) (.int .i64 e.v) (.slice A e.a.length c) 125 (by go_simp) ?_; intro g2 w2 HG2 HB2 HBE2 q0 q1 q2 q3; have r7 : w2.cell? ⟨g1, 7, none⟩ = some (.int .i64 V) := (blk_cell (below_blk HBE2.out HB1.out) 7).trans rfl; have r9 : w2.cell? ⟨g1, 9, none⟩ = some (.slice AR R Rc) := (blk_cell (below_blk HBE2.out HB1.out) 9).trans rfl) | (go_at_call 131; refine (in6_calls _ _ _ _).mono ?_; rintro en w3 ⟨rfl, rfl⟩))
        go_ret
        exact ⟨ret_eq HZ.out, below_trans HBE1.out HBE2.out⟩
      · have hi' : inR 0 e.n (R - 1) = false := by simpa using hi
        have HZ : Hid (szE V R d e = -1) := Lib.hid (szE_false (by rw [HT.out, hi']))
        clear h1 h3 HF HT HIE hi
        go_enter Tryz.func189, Tryz.ntmps189
        go_wp2_with (first | ((with_reducible refine gate_dst (N := 3) rfl ?_); refine new_at rfl (N := 3) rfl #[k0, k1, k2, k3, k4, k5, k6, .int .i64 V, k8, .slice AR R Rc, k10, k11] 99 (by go_simp) ?_; intro g1 w1 HG1 HB1 HBE1) | ((with_reducible refine gate_dst (N := 4) rfl ?_); refine box4 rfl (N := 4) rfl (.int .i64 e.op) (.int .i64 e.n) (.int .i64 e.v) (.slice A e.a.length c) 125 (by go_simp) ?_; intro g2 w2 HG2 HB2 HBE2 q0 q1 q2 q3; have r7 : w2.cell? ⟨g1, 7, none⟩ = some (.int .i64 V) := (blk_cell (below_blk HBE2.out HB1.out) 7).trans rfl; have r9 : w2.cell? ⟨g1, 9, none⟩ = some (.slice AR R Rc) := (blk_cell (below_blk HBE2.out HB1.out) 9).trans rfl) | (go_at_call 131; refine (in6_calls _ _ _ _).mono ?_; rintro en w3 ⟨rfl, rfl⟩))
        go_ret
        exact ⟨ret_eq HZ.out, below_trans HBE1.out HBE2.out⟩
    · have h1' : ((e.a.length : Int) == 0) = false := beq_eq_false_iff_ne.2 (by omega)
      have HZ := HF (.inr h1)
      clear h1 h3 HF
      go_enter Tryz.func189, Tryz.ntmps189
      go_wp2_with (first | ((with_reducible refine gate_dst (N := 3) rfl ?_); refine new_at rfl (N := 3) rfl #[k0, k1, k2, k3, k4, k5, k6, .int .i64 V, k8, .slice AR R Rc, k10, k11] 99 (by go_simp) ?_; intro g1 w1 HG1 HB1 HBE1) | ((with_reducible refine gate_dst (N := 4) rfl ?_); refine box4 rfl (N := 4) rfl (.int .i64 e.op) (.int .i64 e.n) (.int .i64 e.v) (.slice A e.a.length c) 125 (by go_simp) ?_; intro g2 w2 HG2 HB2 HBE2 q0 q1 q2 q3; have r7 : w2.cell? ⟨g1, 7, none⟩ = some (.int .i64 V) := (blk_cell (below_blk HBE2.out HB1.out) 7).trans rfl; have r9 : w2.cell? ⟨g1, 9, none⟩ = some (.slice AR R Rc) := (blk_cell (below_blk HBE2.out HB1.out) 9).trans rfl) | (go_at_call 131; refine (in6_calls _ _ _ _).mono ?_; rintro en w3 ⟨rfl, rfl⟩))
      go_ret
      exact ⟨ret_eq HZ.out, below_trans HBE1.out HBE2.out⟩
  · have h3' : (e.v == 0) = false := by simp [h3]
    have HZ := HF (.inl h3)
    clear h3 HF
    go_enter Tryz.func189, Tryz.ntmps189
    go_wp2_with (first | ((with_reducible refine gate_dst (N := 3) rfl ?_); refine new_at rfl (N := 3) rfl #[k0, k1, k2, k3, k4, k5, k6, .int .i64 V, k8, .slice AR R Rc, k10, k11] 99 (by go_simp) ?_; intro g1 w1 HG1 HB1 HBE1) | ((with_reducible refine gate_dst (N := 4) rfl ?_); refine box4 rfl (N := 4) rfl (.int .i64 e.op) (.int .i64 e.n) (.int .i64 e.v) (.slice A e.a.length c) 125 (by go_simp) ?_; intro g2 w2 HG2 HB2 HBE2 q0 q1 q2 q3; have r7 : w2.cell? ⟨g1, 7, none⟩ = some (.int .i64 V) := (blk_cell (below_blk HBE2.out HB1.out) 7).trans rfl; have r9 : w2.cell? ⟨g1, 9, none⟩ = some (.slice AR R Rc) := (blk_cell (below_blk HBE2.out HB1.out) 9).trans rfl) | (go_at_call 131; refine (in6_calls _ _ _ _).mono ?_; rintro en w3 ⟨rfl, rfl⟩))
    go_ret
    exact ⟨ret_eq HZ.out, below_trans HBE1.out HBE2.out⟩
end Go.Proofs.YtkopmnhngjbmcaaGreatDoor.Sn

/- Right expressions and conditions: (shape.checker).expr, cond, test. -/
import Derived.Test.YtkopmnhngjbmcaaGreatDoorA1
namespace Go.Proofs.YtkopmnhngjbmcaaGreatDoor.Sn
open Go Go.RowKit
set_option linter.unusedVariables false
/-- from a to b -/
def inR (a n b : Int) : Bool := decide (a ≤ n) && decide (n ≤ b)
theorem inR_true {a n b : Int} : inR a n b = true ↔ a ≤ n ∧ n ≤ b := by simp [inR]
theorem inR_false {a n b : Int} : inR a n b = false ↔ ¬ (a ≤ n ∧ n ≤ b) := by rw [← inR_true]; simp
mutual
/-- a right expression at a depth (V variables, R arrays) -/
def okE (V R : Int) : Nat → Ex → Bool
  | d, .mk op n v a =>
    if op = 1 then a.isEmpty && decide (d ≤ 10) && decide (n = 0) && inR (-2147483648) v (2147483647)
    else if op = 2 then a.isEmpty && decide (d ≤ 10) && decide (v = 0) && inR (0) n (V - 1)
    else if op = 3 then a.isEmpty && decide (d ≤ 10) && decide (v = 0) && inR (0) n (R - 1)
    else inR (4) op (10) && decide (n = 0) && decide (v = 0) && decide (a.length = 2) && decide (d < 10) && okEs V R (d + 1) a
def okEs (V R : Int) : Nat → List Ex → Bool
  | _, [] => true
  | d, x :: l => okE V R d x && okEs V R d l
end
theorem okE_1 (V R : Int) (d : Nat) (e : Ex) (h : e.op = 1) : okE V R d e = (e.a.isEmpty && decide (d ≤ 10) && decide (e.n = 0) && inR (-2147483648) e.v (2147483647)) := by
  obtain ⟨op, n, v, a⟩ := e
  simp only [Ex.op] at h
  simp only [okE, h, if_true, Ex.a, Ex.n, Ex.v]; rfl
theorem okE_2 (V R : Int) (d : Nat) (e : Ex) (h : e.op = 2) : okE V R d e = (e.a.isEmpty && decide (d ≤ 10) && decide (e.v = 0) && inR (0) e.n (V - 1)) := by
  obtain ⟨op, n, v, a⟩ := e
  simp only [Ex.op] at h
  subst h
  simp only [okE, Ex.a, Ex.n, Ex.v]
  rw [if_neg (by decide), if_pos trivial]; rfl
theorem okE_3 (V R : Int) (d : Nat) (e : Ex) (h : e.op = 3) : okE V R d e = (e.a.isEmpty && decide (d ≤ 10) && decide (e.v = 0) && inR (0) e.n (R - 1)) := by
  obtain ⟨op, n, v, a⟩ := e
  simp only [Ex.op] at h
  subst h
  simp only [okE, Ex.a, Ex.n, Ex.v]
  rw [if_neg (by decide), if_neg (by decide), if_pos trivial]; rfl
theorem okE_4 (V R : Int) (d : Nat) (e : Ex) (h1 : e.op ≠ 1) (h2 : e.op ≠ 2) (h3 : e.op ≠ 3) :
    okE V R d e = (inR (4) e.op (10) && decide (e.n = 0) && decide (e.v = 0) && decide (e.a.length = 2) && decide (d < 10) && okEs V R (d + 1) e.a) := by
  obtain ⟨op, n, v, a⟩ := e
  simp only [Ex.op] at h1 h2 h3
  simp only [okE, Ex.a, Ex.n, Ex.v, Ex.op]
  rw [if_neg h1, if_neg h2, if_neg h3]; rfl
theorem okEs_take (V R : Int) (d : Nat) (l : List Ex) (k : Nat) (x : Ex) (h : l[k]? = some x) : okEs V R d (l.take (k + 1)) = (okEs V R d (l.take k) && okE V R d x) := by
  induction l generalizing k with
  | nil => simp at h
  | cons y l ih =>
    cases k with
    | zero => simp at h; subst h; simp [okEs]
    | succ k => simp at h; simp only [List.take_succ_cons, okEs]; rw [ih k h, Bool.and_assoc]
theorem okEs_false (V R : Int) (d : Nat) (l : List Ex) (k : Nat) (x : Ex) (h : l[k]? = some x) (hx : okE V R d x = false) : okEs V R d l = false := by
  induction l generalizing k with
  | nil => simp at h
  | cons y l ih =>
    cases k with
    | zero => simp at h; subst h; simp [okEs, hx]
    | succ k => simp at h; simp only [okEs]; rw [ih k h, Bool.and_false]

set_option maxHeartbeats 400000 in
theorem in_calls (n a b : Int) (w : World) : Calls Tryz.prog 175 #[.int .i64 n, .int .i64 a, .int .i64 b] w fun e w' => e = .returned (.bool (inR a n b)) ∧ w = w' := by
  by_cases h1 : a ≤ n
  · by_cases h2 : n ≤ b
    · have H : Hid (inR a n b = true) := Lib.hid (inR_true.2 ⟨h1, h2⟩)
      go_enter Tryz.func175, Tryz.ntmps175
      go_wp2
      go_ret
      exact ⟨by rw [H.out]; simp, rfl⟩
    · have H : Hid (inR a n b = false) := Lib.hid (inR_false.2 fun h => h2 h.2)
      go_enter Tryz.func175, Tryz.ntmps175
      go_wp2
      go_ret
      exact ⟨by rw [H.out]; simp, rfl⟩
  · have H : Hid (inR a n b = false) := Lib.hid (inR_false.2 fun h => h1 h.1)
    go_enter Tryz.func175, Tryz.ntmps175
    go_wp2
    go_ret
    exact ⟨by rw [H.out]; simp, rfl⟩

/-- what (shape.checker).expr answers -/
def ExprOut (ok : Bool) (sz : Nat) (en : Ending) : Prop := ∃ m : Int, en = .returned (.tuple #[.int .i64 m, .bool ok]) ∧ (ok = true → m = sz)
set_option maxHeartbeats 2000000 in
theorem expr_1 (e : Ex) (d : Nat) (hd : d < 1000) (V : Int) (hV : 0 ≤ V ∧ V ≤ 1000) (R Rc : Nat) (hR : R ≤ 1000) (AR : Option Addr) (k0 k1 k2 k3 k4 k5 k6 k8 k10 k11 k12 k13 k14 k15 k16 k17 k18 : Value) (w : World) (A : Option Addr) (c : Nat) (hop : e.op = 1) (hsz : e.a.length = 0 → e.size = 1) :
    Calls Tryz.prog 284 #[.agg #[k0, k1, k2, k3, k4, k5, k6, .int .i64 V, k8, .slice AR R Rc, k10, k11, k12, k13, k14, k15, k16, k17, k18], .agg #[.int .i64 e.op, .int .i64 e.n, .int .i64 e.v, .slice A e.a.length c], .int .i64 d] w
      fun en w' => ExprOut (okE V R d e) e.size en ∧ Below w.heap.size w w' := by
  have HS := Lib.hid hsz
  have HO := Lib.hid (okE_1 V R d e hop)
  clear hsz
  have HF : e.a.length ≠ 0 ∨ ¬ d ≤ 10 ∨ e.n ≠ 0 → Hid (okE V R d e = false) := fun h => Lib.hid (by
    rw [HO.out]
    rcases h with h | h | h
    · have : e.a.isEmpty = false := by cases he : e.a with | nil => simp [he] at h | cons x l => rfl
      rw [this]; rfl
    · simp [h]
    · simp [h])
  by_cases h1 : e.a.length = 0
  · have h1' : ((e.a.length : Int) == 0) = true := by simp [h1]
    have HE : Hid (e.size = 1) := Lib.hid (HS.out h1)
    have HIE : Hid (e.a.isEmpty = true) := Lib.hid (by cases he : e.a with | nil => rfl | cons x l => simp [he] at h1)
    clear h1
    by_cases h2 : d ≤ 10
    · by_cases h3 : e.n = 0
      · have h3' : (e.n == 0) = true := by simp [h3]
        have HT : Hid (okE V R d e = inR (-2147483648) e.v 2147483647) := Lib.hid (by rw [HO.out, HIE.out]; simp [h2, h3])
        clear h3 HF
        go_enter Tryz.func284, Tryz.ntmps284
        go_wp2_with (first | ((with_reducible refine gate_dst (N := 3) rfl ?_); refine box19 rfl (N := 3) rfl k0 k1 k2 k3 k4 k5 k6 (.int .i64 V) k8 (.slice AR R Rc) k10 k11 k12 k13 k14 k15 k16 k17 k18 280 (by go_simp) ?_; intro g1 w1 HG1 HB1 HBE1 kc0 kc1 kc2 kc3 kc4 kc5 kc6 kc7 kc8 kc9 kc10 kc11 kc12 kc13 kc14 kc15 kc16 kc17 kc18; have kk7 := kc7; have kk9 := kc9; clear kc0 kc1 kc2 kc3 kc4 kc5 kc6 kc7 kc8 kc9 kc10 kc11 kc12 kc13 kc14 kc15 kc16 kc17 kc18) | ((with_reducible refine gate_dst (N := 4) rfl ?_); refine box4 rfl (N := 4) rfl (.int .i64 e.op) (.int .i64 e.n) (.int .i64 e.v) (.slice A e.a.length c) 125 (by go_simp) ?_; intro g2 w2 HG2 HB2 HBE2 q0 q1 q2 q3; have r7 : w2.cell? ⟨g1, 7, none⟩ = some (.int .i64 V) := (blk_cell (below_blk HBE2.out HB1.out) 7).trans rfl; have r9 : w2.cell? ⟨g1, 9, none⟩ = some (.slice AR R Rc) := (blk_cell (below_blk HBE2.out HB1.out) 9).trans rfl; clear kk7 kk9) | (go_at_call 175; refine (in_calls _ _ _ _).mono ?_; rintro en w3 ⟨rfl, rfl⟩))
        go_ret2
        refine ⟨⟨1, by rw [HT.out]; rfl, fun _ => by rw [HE.out]; rfl⟩, below_trans HBE1.out HBE2.out⟩
      · have h3' : (e.n == 0) = false := by simp [h3]
        have HT := HF (.inr (.inr h3))
        clear h3 HF
        go_enter Tryz.func284, Tryz.ntmps284
        go_wp2_with (first | ((with_reducible refine gate_dst (N := 3) rfl ?_); refine box19 rfl (N := 3) rfl k0 k1 k2 k3 k4 k5 k6 (.int .i64 V) k8 (.slice AR R Rc) k10 k11 k12 k13 k14 k15 k16 k17 k18 280 (by go_simp) ?_; intro g1 w1 HG1 HB1 HBE1 kc0 kc1 kc2 kc3 kc4 kc5 kc6 kc7 kc8 kc9 kc10 kc11 kc12 kc13 kc14 kc15 kc16 kc17 kc18; have kk7 := kc7; have kk9 := kc9; clear kc0 kc1 kc2 kc3 kc4 kc5 kc6 kc7 kc8 kc9 kc10 kc11 kc12 kc13 kc14 kc15 kc16 kc17 kc18) | ((with_reducible refine gate_dst (N := 4) rfl ?_); refine box4 rfl (N := 4) rfl (.int .i64 e.op) (.int .i64 e.n) (.int .i64 e.v) (.slice A e.a.length c) 125 (by go_simp) ?_; intro g2 w2 HG2 HB2 HBE2 q0 q1 q2 q3; have r7 : w2.cell? ⟨g1, 7, none⟩ = some (.int .i64 V) := (blk_cell (below_blk HBE2.out HB1.out) 7).trans rfl; have r9 : w2.cell? ⟨g1, 9, none⟩ = some (.slice AR R Rc) := (blk_cell (below_blk HBE2.out HB1.out) 9).trans rfl; clear kk7 kk9) | (go_at_call 175; refine (in_calls _ _ _ _).mono ?_; rintro en w3 ⟨rfl, rfl⟩))
        go_ret2
        refine ⟨⟨1, by rw [HT.out]; rfl, fun h => by rw [HT.out] at h; cases h⟩, below_trans HBE1.out HBE2.out⟩
    · have HT := HF (.inr (.inl h2))
      clear HF
      go_enter Tryz.func284, Tryz.ntmps284
      go_wp2_with (first | ((with_reducible refine gate_dst (N := 3) rfl ?_); refine box19 rfl (N := 3) rfl k0 k1 k2 k3 k4 k5 k6 (.int .i64 V) k8 (.slice AR R Rc) k10 k11 k12 k13 k14 k15 k16 k17 k18 280 (by go_simp) ?_; intro g1 w1 HG1 HB1 HBE1 kc0 kc1 kc2 kc3 kc4 kc5 kc6 kc7 kc8 kc9 kc10 kc11 kc12 kc13 kc14 kc15 kc16 kc17 kc18; have kk7 := kc7; have kk9 := kc9; clear kc0 kc1 kc2 kc3 kc4 kc5 kc6 kc7 kc8 kc9 kc10 kc11 kc12 kc13 kc14 kc15 kc16 kc17 kc18) | ((with_reducible refine gate_dst (N := 4) rfl ?_); refine box4 rfl (N := 4) rfl (.int .i64 e.op) (.int .i64 e.n) (.int .i64 e.v) (.slice A e.a.length c) 125 (by go_simp) ?_; intro g2 w2 HG2 HB2 HBE2 q0 q1 q2 q3; have r7 : w2.cell? ⟨g1, 7, none⟩ = some (.int .i64 V) := (blk_cell (below_blk HBE2.out HB1.out) 7).trans rfl; have r9 : w2.cell? ⟨g1, 9, none⟩ = some (.slice AR R Rc) := (blk_cell (below_blk HBE2.out HB1.out) 9).trans rfl; clear kk7 kk9) | (go_at_call 175; refine (in_calls _ _ _ _).mono ?_; rintro en w3 ⟨rfl, rfl⟩))
      go_ret2
      refine ⟨⟨1, by rw [HT.out]; rfl, fun h => by rw [HT.out] at h; cases h⟩, below_trans HBE1.out HBE2.out⟩
  · have h1' : ((e.a.length : Int) == 0) = false := beq_eq_false_iff_ne.2 (by omega)
    have HT := HF (.inl h1)
    clear h1 HF
    go_enter Tryz.func284, Tryz.ntmps284
    go_wp2_with (first | ((with_reducible refine gate_dst (N := 3) rfl ?_); refine box19 rfl (N := 3) rfl k0 k1 k2 k3 k4 k5 k6 (.int .i64 V) k8 (.slice AR R Rc) k10 k11 k12 k13 k14 k15 k16 k17 k18 280 (by go_simp) ?_; intro g1 w1 HG1 HB1 HBE1 kc0 kc1 kc2 kc3 kc4 kc5 kc6 kc7 kc8 kc9 kc10 kc11 kc12 kc13 kc14 kc15 kc16 kc17 kc18; have kk7 := kc7; have kk9 := kc9; clear kc0 kc1 kc2 kc3 kc4 kc5 kc6 kc7 kc8 kc9 kc10 kc11 kc12 kc13 kc14 kc15 kc16 kc17 kc18) | ((with_reducible refine gate_dst (N := 4) rfl ?_); refine box4 rfl (N := 4) rfl (.int .i64 e.op) (.int .i64 e.n) (.int .i64 e.v) (.slice A e.a.length c) 125 (by go_simp) ?_; intro g2 w2 HG2 HB2 HBE2 q0 q1 q2 q3; have r7 : w2.cell? ⟨g1, 7, none⟩ = some (.int .i64 V) := (blk_cell (below_blk HBE2.out HB1.out) 7).trans rfl; have r9 : w2.cell? ⟨g1, 9, none⟩ = some (.slice AR R Rc) := (blk_cell (below_blk HBE2.out HB1.out) 9).trans rfl; clear kk7 kk9) | (go_at_call 175; refine (in_calls _ _ _ _).mono ?_; rintro en w3 ⟨rfl, rfl⟩))
    go_ret2
    refine ⟨⟨1, by rw [HT.out]; rfl, fun h => by rw [HT.out] at h; cases h⟩, below_trans HBE1.out HBE2.out⟩
set_option maxHeartbeats 2000000 in
theorem expr_2 (e : Ex) (d : Nat) (hd : d < 1000) (V : Int) (hV : 0 ≤ V ∧ V ≤ 1000) (R Rc : Nat) (hR : R ≤ 1000) (AR : Option Addr) (k0 k1 k2 k3 k4 k5 k6 k8 k10 k11 k12 k13 k14 k15 k16 k17 k18 : Value) (w : World) (A : Option Addr) (c : Nat) (hop : e.op = 2) (hsz : e.a.length = 0 → e.size = 1) :
    Calls Tryz.prog 284 #[.agg #[k0, k1, k2, k3, k4, k5, k6, .int .i64 V, k8, .slice AR R Rc, k10, k11, k12, k13, k14, k15, k16, k17, k18], .agg #[.int .i64 e.op, .int .i64 e.n, .int .i64 e.v, .slice A e.a.length c], .int .i64 d] w
      fun en w' => ExprOut (okE V R d e) e.size en ∧ Below w.heap.size w w' := by
  have HS := Lib.hid hsz
  have HO := Lib.hid (okE_2 V R d e hop)
  clear hsz
  have HF : e.a.length ≠ 0 ∨ ¬ d ≤ 10 ∨ e.v ≠ 0 → Hid (okE V R d e = false) := fun h => Lib.hid (by
    rw [HO.out]
    rcases h with h | h | h
    · have : e.a.isEmpty = false := by cases he : e.a with | nil => simp [he] at h | cons x l => rfl
      rw [this]; rfl
    · simp [h]
    · simp [h])
  by_cases h1 : e.a.length = 0
  · have h1' : ((e.a.length : Int) == 0) = true := by simp [h1]
    have HE : Hid (e.size = 1) := Lib.hid (HS.out h1)
    have HIE : Hid (e.a.isEmpty = true) := Lib.hid (by cases he : e.a with | nil => rfl | cons x l => simp [he] at h1)
    clear h1
    by_cases h2 : d ≤ 10
    · by_cases h3 : e.v = 0
      · have h3' : (e.v == 0) = true := by simp [h3]
        have HT : Hid (okE V R d e = inR 0 e.n (V - 1)) := Lib.hid (by rw [HO.out, HIE.out]; simp [h2, h3])
        clear h3 HF
        go_enter Tryz.func284, Tryz.ntmps284
        go_wp2_with (first | ((with_reducible refine gate_dst (N := 3) rfl ?_); refine box19 rfl (N := 3) rfl k0 k1 k2 k3 k4 k5 k6 (.int .i64 V) k8 (.slice AR R Rc) k10 k11 k12 k13 k14 k15 k16 k17 k18 280 (by go_simp) ?_; intro g1 w1 HG1 HB1 HBE1 kc0 kc1 kc2 kc3 kc4 kc5 kc6 kc7 kc8 kc9 kc10 kc11 kc12 kc13 kc14 kc15 kc16 kc17 kc18; have kk7 := kc7; have kk9 := kc9; clear kc0 kc1 kc2 kc3 kc4 kc5 kc6 kc7 kc8 kc9 kc10 kc11 kc12 kc13 kc14 kc15 kc16 kc17 kc18) | ((with_reducible refine gate_dst (N := 4) rfl ?_); refine box4 rfl (N := 4) rfl (.int .i64 e.op) (.int .i64 e.n) (.int .i64 e.v) (.slice A e.a.length c) 125 (by go_simp) ?_; intro g2 w2 HG2 HB2 HBE2 q0 q1 q2 q3; have r7 : w2.cell? ⟨g1, 7, none⟩ = some (.int .i64 V) := (blk_cell (below_blk HBE2.out HB1.out) 7).trans rfl; have r9 : w2.cell? ⟨g1, 9, none⟩ = some (.slice AR R Rc) := (blk_cell (below_blk HBE2.out HB1.out) 9).trans rfl; clear kk7 kk9) | (go_at_call 175; refine (in_calls _ _ _ _).mono ?_; rintro en w3 ⟨rfl, rfl⟩))
        go_ret2
        refine ⟨⟨1, by rw [HT.out]; rfl, fun _ => by rw [HE.out]; rfl⟩, below_trans HBE1.out HBE2.out⟩
      · have h3' : (e.v == 0) = false := by simp [h3]
        have HT := HF (.inr (.inr h3))
        clear h3 HF
        go_enter Tryz.func284, Tryz.ntmps284
        go_wp2_with (first | ((with_reducible refine gate_dst (N := 3) rfl ?_); refine box19 rfl (N := 3) rfl k0 k1 k2 k3 k4 k5 k6 (.int .i64 V) k8 (.slice AR R Rc) k10 k11 k12 k13 k14 k15 k16 k17 k18 280 (by go_simp) ?_; intro g1 w1 HG1 HB1 HBE1 kc0 kc1 kc2 kc3 kc4 kc5 kc6 kc7 kc8 kc9 kc10 kc11 kc12 kc13 kc14 kc15 kc16 kc17 kc18; have kk7 := kc7; have kk9 := kc9; clear kc0 kc1 kc2 kc3 kc4 kc5 kc6 kc7 kc8 kc9 kc10 kc11 kc12 kc13 kc14 kc15 kc16 kc17 kc18) | ((with_reducible refine gate_dst (N := 4) rfl ?_); refine box4 rfl (N := 4) rfl (.int .i64 e.op) (.int .i64 e.n) (.int .i64 e.v) (.slice A e.a.length c) 125 (by go_simp) ?_; intro g2 w2 HG2 HB2 HBE2 q0 q1 q2 q3; have r7 : w2.cell? ⟨g1, 7, none⟩ = some (.int .i64 V) := (blk_cell (below_blk HBE2.out HB1.out) 7).trans rfl; have r9 : w2.cell? ⟨g1, 9, none⟩ = some (.slice AR R Rc) := (blk_cell (below_blk HBE2.out HB1.out) 9).trans rfl; clear kk7 kk9) | (go_at_call 175; refine (in_calls _ _ _ _).mono ?_; rintro en w3 ⟨rfl, rfl⟩))
        go_ret2
        refine ⟨⟨1, by rw [HT.out]; rfl, fun h => by rw [HT.out] at h; cases h⟩, below_trans HBE1.out HBE2.out⟩
    · have HT := HF (.inr (.inl h2))
      clear HF
      go_enter Tryz.func284, Tryz.ntmps284
      go_wp2_with (first | ((with_reducible refine gate_dst (N := 3) rfl ?_); refine box19 rfl (N := 3) rfl k0 k1 k2 k3 k4 k5 k6 (.int .i64 V) k8 (.slice AR R Rc) k10 k11 k12 k13 k14 k15 k16 k17 k18 280 (by go_simp) ?_; intro g1 w1 HG1 HB1 HBE1 kc0 kc1 kc2 kc3 kc4 kc5 kc6 kc7 kc8 kc9 kc10 kc11 kc12 kc13 kc14 kc15 kc16 kc17 kc18; have kk7 := kc7; have kk9 := kc9; clear kc0 kc1 kc2 kc3 kc4 kc5 kc6 kc7 kc8 kc9 kc10 kc11 kc12 kc13 kc14 kc15 kc16 kc17 kc18) | ((with_reducible refine gate_dst (N := 4) rfl ?_); refine box4 rfl (N := 4) rfl (.int .i64 e.op) (.int .i64 e.n) (.int .i64 e.v) (.slice A e.a.length c) 125 (by go_simp) ?_; intro g2 w2 HG2 HB2 HBE2 q0 q1 q2 q3; have r7 : w2.cell? ⟨g1, 7, none⟩ = some (.int .i64 V) := (blk_cell (below_blk HBE2.out HB1.out) 7).trans rfl; have r9 : w2.cell? ⟨g1, 9, none⟩ = some (.slice AR R Rc) := (blk_cell (below_blk HBE2.out HB1.out) 9).trans rfl; clear kk7 kk9) | (go_at_call 175; refine (in_calls _ _ _ _).mono ?_; rintro en w3 ⟨rfl, rfl⟩))
      go_ret2
      refine ⟨⟨1, by rw [HT.out]; rfl, fun h => by rw [HT.out] at h; cases h⟩, below_trans HBE1.out HBE2.out⟩
  · have h1' : ((e.a.length : Int) == 0) = false := beq_eq_false_iff_ne.2 (by omega)
    have HT := HF (.inl h1)
    clear h1 HF
    go_enter Tryz.func284, Tryz.ntmps284
    go_wp2_with (first | ((with_reducible refine gate_dst (N := 3) rfl ?_); refine box19 rfl (N := 3) rfl k0 k1 k2 k3 k4 k5 k6 (.int .i64 V) k8 (.slice AR R Rc) k10 k11 k12 k13 k14 k15 k16 k17 k18 280 (by go_simp) ?_; intro g1 w1 HG1 HB1 HBE1 kc0 kc1 kc2 kc3 kc4 kc5 kc6 kc7 kc8 kc9 kc10 kc11 kc12 kc13 kc14 kc15 kc16 kc17 kc18; have kk7 := kc7; have kk9 := kc9; clear kc0 kc1 kc2 kc3 kc4 kc5 kc6 kc7 kc8 kc9 kc10 kc11 kc12 kc13 kc14 kc15 kc16 kc17 kc18) | ((with_reducible refine gate_dst (N := 4) rfl ?_); refine box4 rfl (N := 4) rfl (.int .i64 e.op) (.int .i64 e.n) (.int .i64 e.v) (.slice A e.a.length c) 125 (by go_simp) ?_; intro g2 w2 HG2 HB2 HBE2 q0 q1 q2 q3; have r7 : w2.cell? ⟨g1, 7, none⟩ = some (.int .i64 V) := (blk_cell (below_blk HBE2.out HB1.out) 7).trans rfl; have r9 : w2.cell? ⟨g1, 9, none⟩ = some (.slice AR R Rc) := (blk_cell (below_blk HBE2.out HB1.out) 9).trans rfl; clear kk7 kk9) | (go_at_call 175; refine (in_calls _ _ _ _).mono ?_; rintro en w3 ⟨rfl, rfl⟩))
    go_ret2
    refine ⟨⟨1, by rw [HT.out]; rfl, fun h => by rw [HT.out] at h; cases h⟩, below_trans HBE1.out HBE2.out⟩
set_option maxHeartbeats 2000000 in
theorem expr_3 (e : Ex) (d : Nat) (hd : d < 1000) (V : Int) (hV : 0 ≤ V ∧ V ≤ 1000) (R Rc : Nat) (hR : R ≤ 1000) (AR : Option Addr) (k0 k1 k2 k3 k4 k5 k6 k8 k10 k11 k12 k13 k14 k15 k16 k17 k18 : Value) (w : World) (A : Option Addr) (c : Nat) (hop : e.op = 3) (hsz : e.a.length = 0 → e.size = 1) :
    Calls Tryz.prog 284 #[.agg #[k0, k1, k2, k3, k4, k5, k6, .int .i64 V, k8, .slice AR R Rc, k10, k11, k12, k13, k14, k15, k16, k17, k18], .agg #[.int .i64 e.op, .int .i64 e.n, .int .i64 e.v, .slice A e.a.length c], .int .i64 d] w
      fun en w' => ExprOut (okE V R d e) e.size en ∧ Below w.heap.size w w' := by
  have HS := Lib.hid hsz
  have HO := Lib.hid (okE_3 V R d e hop)
  clear hsz
  have HF : e.a.length ≠ 0 ∨ ¬ d ≤ 10 ∨ e.v ≠ 0 → Hid (okE V R d e = false) := fun h => Lib.hid (by
    rw [HO.out]
    rcases h with h | h | h
    · have : e.a.isEmpty = false := by cases he : e.a with | nil => simp [he] at h | cons x l => rfl
      rw [this]; rfl
    · simp [h]
    · simp [h])
  by_cases h1 : e.a.length = 0
  · have h1' : ((e.a.length : Int) == 0) = true := by simp [h1]
    have HE : Hid (e.size = 1) := Lib.hid (HS.out h1)
    have HIE : Hid (e.a.isEmpty = true) := Lib.hid (by cases he : e.a with | nil => rfl | cons x l => simp [he] at h1)
    clear h1
    by_cases h2 : d ≤ 10
    · by_cases h3 : e.v = 0
      · have h3' : (e.v == 0) = true := by simp [h3]
        have HT : Hid (okE V R d e = inR 0 e.n (R - 1)) := Lib.hid (by rw [HO.out, HIE.out]; simp [h2, h3])
        clear h3 HF
        go_enter Tryz.func284, Tryz.ntmps284
        go_wp2_with (first | ((with_reducible refine gate_dst (N := 3) rfl ?_); refine box19 rfl (N := 3) rfl k0 k1 k2 k3 k4 k5 k6 (.int .i64 V) k8 (.slice AR R Rc) k10 k11 k12 k13 k14 k15 k16 k17 k18 280 (by go_simp) ?_; intro g1 w1 HG1 HB1 HBE1 kc0 kc1 kc2 kc3 kc4 kc5 kc6 kc7 kc8 kc9 kc10 kc11 kc12 kc13 kc14 kc15 kc16 kc17 kc18; have kk7 := kc7; have kk9 := kc9; clear kc0 kc1 kc2 kc3 kc4 kc5 kc6 kc7 kc8 kc9 kc10 kc11 kc12 kc13 kc14 kc15 kc16 kc17 kc18) | ((with_reducible refine gate_dst (N := 4) rfl ?_); refine box4 rfl (N := 4) rfl (.int .i64 e.op) (.int .i64 e.n) (.int .i64 e.v) (.slice A e.a.length c) 125 (by go_simp) ?_; intro g2 w2 HG2 HB2 HBE2 q0 q1 q2 q3; have r7 : w2.cell? ⟨g1, 7, none⟩ = some (.int .i64 V) := (blk_cell (below_blk HBE2.out HB1.out) 7).trans rfl; have r9 : w2.cell? ⟨g1, 9, none⟩ = some (.slice AR R Rc) := (blk_cell (below_blk HBE2.out HB1.out) 9).trans rfl; clear kk7 kk9) | (go_at_call 175; refine (in_calls _ _ _ _).mono ?_; rintro en w3 ⟨rfl, rfl⟩))
        go_ret2
        refine ⟨⟨1, by rw [HT.out]; rfl, fun _ => by rw [HE.out]; rfl⟩, below_trans HBE1.out HBE2.out⟩
      · have h3' : (e.v == 0) = false := by simp [h3]
        have HT := HF (.inr (.inr h3))
        clear h3 HF
        go_enter Tryz.func284, Tryz.ntmps284
        go_wp2_with (first | ((with_reducible refine gate_dst (N := 3) rfl ?_); refine box19 rfl (N := 3) rfl k0 k1 k2 k3 k4 k5 k6 (.int .i64 V) k8 (.slice AR R Rc) k10 k11 k12 k13 k14 k15 k16 k17 k18 280 (by go_simp) ?_; intro g1 w1 HG1 HB1 HBE1 kc0 kc1 kc2 kc3 kc4 kc5 kc6 kc7 kc8 kc9 kc10 kc11 kc12 kc13 kc14 kc15 kc16 kc17 kc18; have kk7 := kc7; have kk9 := kc9; clear kc0 kc1 kc2 kc3 kc4 kc5 kc6 kc7 kc8 kc9 kc10 kc11 kc12 kc13 kc14 kc15 kc16 kc17 kc18) | ((with_reducible refine gate_dst (N := 4) rfl ?_); refine box4 rfl (N := 4) rfl (.int .i64 e.op) (.int .i64 e.n) (.int .i64 e.v) (.slice A e.a.length c) 125 (by go_simp) ?_; intro g2 w2 HG2 HB2 HBE2 q0 q1 q2 q3; have r7 : w2.cell? ⟨g1, 7, none⟩ = some (.int .i64 V) := (blk_cell (below_blk HBE2.out HB1.out) 7).trans rfl; have r9 : w2.cell? ⟨g1, 9, none⟩ = some (.slice AR R Rc) := (blk_cell (below_blk HBE2.out HB1.out) 9).trans rfl; clear kk7 kk9) | (go_at_call 175; refine (in_calls _ _ _ _).mono ?_; rintro en w3 ⟨rfl, rfl⟩))
        go_ret2
        refine ⟨⟨1, by rw [HT.out]; rfl, fun h => by rw [HT.out] at h; cases h⟩, below_trans HBE1.out HBE2.out⟩
    · have HT := HF (.inr (.inl h2))
      clear HF
      go_enter Tryz.func284, Tryz.ntmps284
      go_wp2_with (first | ((with_reducible refine gate_dst (N := 3) rfl ?_); refine box19 rfl (N := 3) rfl k0 k1 k2 k3 k4 k5 k6 (.int .i64 V) k8 (.slice AR R Rc) k10 k11 k12 k13 k14 k15 k16 k17 k18 280 (by go_simp) ?_; intro g1 w1 HG1 HB1 HBE1 kc0 kc1 kc2 kc3 kc4 kc5 kc6 kc7 kc8 kc9 kc10 kc11 kc12 kc13 kc14 kc15 kc16 kc17 kc18; have kk7 := kc7; have kk9 := kc9; clear kc0 kc1 kc2 kc3 kc4 kc5 kc6 kc7 kc8 kc9 kc10 kc11 kc12 kc13 kc14 kc15 kc16 kc17 kc18) | ((with_reducible refine gate_dst (N := 4) rfl ?_); refine box4 rfl (N := 4) rfl (.int .i64 e.op) (.int .i64 e.n) (.int .i64 e.v) (.slice A e.a.length c) 125 (by go_simp) ?_; intro g2 w2 HG2 HB2 HBE2 q0 q1 q2 q3; have r7 : w2.cell? ⟨g1, 7, none⟩ = some (.int .i64 V) := (blk_cell (below_blk HBE2.out HB1.out) 7).trans rfl; have r9 : w2.cell? ⟨g1, 9, none⟩ = some (.slice AR R Rc) := (blk_cell (below_blk HBE2.out HB1.out) 9).trans rfl; clear kk7 kk9) | (go_at_call 175; refine (in_calls _ _ _ _).mono ?_; rintro en w3 ⟨rfl, rfl⟩))
      go_ret2
      refine ⟨⟨1, by rw [HT.out]; rfl, fun h => by rw [HT.out] at h; cases h⟩, below_trans HBE1.out HBE2.out⟩
  · have h1' : ((e.a.length : Int) == 0) = false := beq_eq_false_iff_ne.2 (by omega)
    have HT := HF (.inl h1)
    clear h1 HF
    go_enter Tryz.func284, Tryz.ntmps284
    go_wp2_with (first | ((with_reducible refine gate_dst (N := 3) rfl ?_); refine box19 rfl (N := 3) rfl k0 k1 k2 k3 k4 k5 k6 (.int .i64 V) k8 (.slice AR R Rc) k10 k11 k12 k13 k14 k15 k16 k17 k18 280 (by go_simp) ?_; intro g1 w1 HG1 HB1 HBE1 kc0 kc1 kc2 kc3 kc4 kc5 kc6 kc7 kc8 kc9 kc10 kc11 kc12 kc13 kc14 kc15 kc16 kc17 kc18; have kk7 := kc7; have kk9 := kc9; clear kc0 kc1 kc2 kc3 kc4 kc5 kc6 kc7 kc8 kc9 kc10 kc11 kc12 kc13 kc14 kc15 kc16 kc17 kc18) | ((with_reducible refine gate_dst (N := 4) rfl ?_); refine box4 rfl (N := 4) rfl (.int .i64 e.op) (.int .i64 e.n) (.int .i64 e.v) (.slice A e.a.length c) 125 (by go_simp) ?_; intro g2 w2 HG2 HB2 HBE2 q0 q1 q2 q3; have r7 : w2.cell? ⟨g1, 7, none⟩ = some (.int .i64 V) := (blk_cell (below_blk HBE2.out HB1.out) 7).trans rfl; have r9 : w2.cell? ⟨g1, 9, none⟩ = some (.slice AR R Rc) := (blk_cell (below_blk HBE2.out HB1.out) 9).trans rfl; clear kk7 kk9) | (go_at_call 175; refine (in_calls _ _ _ _).mono ?_; rintro en w3 ⟨rfl, rfl⟩))
    go_ret2
    refine ⟨⟨1, by rw [HT.out]; rfl, fun h => by rw [HT.out] at h; cases h⟩, below_trans HBE1.out HBE2.out⟩

end Go.Proofs.YtkopmnhngjbmcaaGreatDoor.Sn

/- (predicate.expr): the text of an expression. -/
import Derived.Test.YtkopmnhngjbmcaaGreatDoorD2
import Derived.Lib.ItoaLen
import Derived.Lib.QuietBelow
namespace Go.Proofs.YtkopmnhngjbmcaaGreatDoor.Sn
open Go Go.RowKit
set_option linter.unusedVariables false
/-- what of the library's variables the snapshot holds -/
def LibOk (S : Snap) : Prop := ∀ w, Agr S w → Lib.TabIs Tryz.prog w "internal/strconv.uint64pow10" .u64 Lib.pow10Tab ∧ (∃ te pe, w.cell? ⟨1, 0, none⟩ = some (.iface te pe)) ∧ (∃ te pe, w.cell? ⟨2, 0, none⟩ = some (.iface te pe))
theorem LibOk.mono {S S' : Snap} (h : LibOk S) (hS : SLe S S') : LibOk S' := fun w hw => h w (fun b o hb => hw b o (hS b o hb))
theorem below_grow (w : World) (k : Nat) (os : Array Obj) : Below w.heap.size w (Sort.grow (w.drewN k) os) :=
  ⟨rfl, rfl, rfl, by simp [Sort.grow], fun i hi => by simp [Sort.grow, Array.getElem?_append, hi]⟩
theorem itoa_calls (n : Int) (h0 : -9223372036854775808 ≤ n) (h1 : n ≤ 9223372036854775807) (S : Snap) (hL : LibOk S) (w : World) (hS : Agr S w) :
    Calls Tryz.prog 114 #[.int .i64 n] w fun en w' => en = .returned (.string ⟨(Lib.itoa n).toArray⟩) ∧ Below w.heap.size w w' :=
  (Tryz.strconv_Itoa n h0 h1 w (hL w hS).1).mono fun en w' ⟨he, k, os, hw⟩ => ⟨he, hw ▸ below_grow w k os⟩
theorem txE_1 (e : Ex) (h : e.op = 1) : txE e = Lib.itoa e.v := by obtain ⟨op, n, v, a⟩ := e; simp only [Ex.op] at h; rw [txE, if_pos h]; rfl
theorem txE_2 (e : Ex) (h : e.op = 2) : txE e = 118 :: Lib.itoa e.n := by obtain ⟨op, n, v, a⟩ := e; simp only [Ex.op] at h; rw [txE, if_neg (by omega), if_pos h]; rfl
theorem txE_3 (e : Ex) (h : e.op = 3) : txE e = [108, 101, 110] ++ Lib.itoa e.n := by obtain ⟨op, n, v, a⟩ := e; simp only [Ex.op] at h; rw [txE, if_neg (by omega), if_neg (by omega), if_pos h]; rfl
theorem txE_4 (e : Ex) (h1 : e.op ≠ 1) (h2 : e.op ≠ 2) (h3 : e.op ≠ 3) : txE e = 40 :: (word e.op ++ 32 :: (Lib.join (txEs e.a) [32] ++ [41])) := by
  obtain ⟨op, n, v, a⟩ := e; simp only [Ex.op] at h1 h2 h3; rw [txE, if_neg h1, if_neg h2, if_neg h3]; rfl
theorem okE_two (V R : Int) (d : Nat) (e : Ex) (h1 : e.op ≠ 1) (h2 : e.op ≠ 2) (h3 : e.op ≠ 3) (h : okE V R d e = true) :
    (4 ≤ e.op ∧ e.op ≤ 10) ∧ e.n = 0 ∧ e.v = 0 ∧ ∃ x0 x1, e.a = [x0, x1] ∧ okE V R (d + 1) x0 = true ∧ okE V R (d + 1) x1 = true := by
  rw [okE_4 V R d e h1 h2 h3] at h
  simp only [Bool.and_eq_true, inR_true, decide_eq_true_eq] at h
  obtain ⟨⟨⟨⟨⟨hop, hn⟩, hv⟩, hla⟩, _⟩, hoks⟩ := h
  match ha : e.a, hla with
  | [x, y], _ =>
    rw [ha] at hoks
    simp only [okEs, Bool.and_eq_true, and_true] at hoks
    exact ⟨hop, hn, hv, x, y, rfl, hoks.1, hoks.2⟩
theorem okE_leaf (V R : Int) (hV : V ≤ 1000) (hR : R ≤ 1000) (d : Nat) (e : Ex) (h : okE V R d e = true) : (e.op = 1 → -1000000000000 ≤ e.v ∧ e.v ≤ 1000000000000) ∧ (e.op = 2 ∨ e.op = 3 → -1000000000000 ≤ e.n ∧ e.n ≤ 1000000000000) := by
  refine ⟨fun h1 => ?_, fun h2 => ?_⟩
  · rw [okE_1 V R d e h1] at h
    simp only [Bool.and_eq_true, inR_true] at h
    omega
  · rcases h2 with h2 | h2
    · rw [okE_2 V R d e h2] at h
      simp only [Bool.and_eq_true, inR_true] at h
      omega
    · rw [okE_3 V R d e h2] at h
      simp only [Bool.and_eq_true, inR_true] at h
      omega
theorem txE_len (V R : Int) (hV : V ≤ 1000) (hR : R ≤ 1000) : ∀ (n : Nat) (e : Ex), e.size ≤ n → ∀ d, okE V R d e = true → (txE e).length ≤ 32 * e.size := by
  intro n
  induction n with
  | zero => intro e he; rw [e.size_eq] at he; omega
  | succ n ih =>
    intro e he d hok
    have hsz := e.size_eq
    have hl := okE_leaf V R hV hR d e hok
    by_cases h1 : e.op = 1
    · rw [txE_1 e h1]
      have := Lib.itoa_length_le e.v (by have := hl.1 h1; omega) (by have := hl.1 h1; omega)
      omega
    by_cases h2 : e.op = 2
    · rw [txE_2 e h2]
      have := Lib.itoa_length_le e.n (by have := hl.2 (.inl h2); omega) (by have := hl.2 (.inl h2); omega)
      simp only [List.length_cons]; omega
    by_cases h3 : e.op = 3
    · rw [txE_3 e h3]
      have := Lib.itoa_length_le e.n (by have := hl.2 (.inr h3); omega) (by have := hl.2 (.inr h3); omega)
      simp only [List.length_append, List.length_cons, List.length_nil]; omega
    · obtain ⟨hop, _, _, x0, x1, hx, o0, o1⟩ := okE_two V R d e h1 h2 h3 hok
      rw [txE_4 e h1 h2 h3, hx]
      have hw := word_len (op := e.op) (.inl hop)
      rw [hx] at hsz
      simp only [Ex.sizeL] at hsz
      have := ih x0 (by omega) (d + 1) o0
      have := ih x1 (by omega) (d + 1) o1
      simp only [txEs, join_2, List.length_cons, List.length_append, List.length_nil]
      omega
set_option maxRecDepth 100000 in
set_option maxHeartbeats 2000000 in
theorem exprT_1 (e : Ex) (S : Snap) (hL : LibOk S) (w : World) (hS : Agr S w) (A : Option Addr) (c : Nat) (hop : e.op = 1) (hb : -1000000000000 ≤ e.v ∧ e.v ≤ 1000000000000) :
    Calls Tryz.prog 144 #[.agg #[.int .i64 e.op, .int .i64 e.n, .int .i64 e.v, .slice A e.a.length c]] w
      fun en w' => en = .returned (.string ⟨(txE e).toArray⟩) ∧ Below w.heap.size w w' := by
  have HT := Lib.hid (txE_1 e hop)
  have HI : Hid (∀ W, Below w.heap.size w W → Calls Tryz.prog 114 #[.int .i64 e.v] W fun en w' => en = .returned (.string ⟨(Lib.itoa e.v).toArray⟩) ∧ Below W.heap.size W w') := Lib.hid fun W hW => itoa_calls e.v (by omega) (by omega) S hL W (hS.below hW)
  have HN := Lib.hid (Lib.itoa_length_le e.v (by omega) (by omega))
  rw [HT.out]
  generalize hJ : Lib.itoa e.v = J at HI HN ⊢
  skip
  have b1 : (e.op == 1) = true := by rw [hop]; rfl
  have b2 : (e.op == 2) = false := by rw [hop]; rfl
  have b3 : (e.op == 3) = false := by rw [hop]; rfl
  clear hop hb hJ
  go_enter Tryz.func144, Tryz.ntmps144
  go_wp2_with (first
    | ((with_reducible refine gate_dst (N := 1) rfl ?_); refine box4 rfl (N := 1) rfl (.int .i64 e.op) (.int .i64 e.n) (.int .i64 e.v) (.slice A e.a.length c) 125 (by go_simp) ?_; intro g1 w1 HG1 HB1 HBE1 q0 q1 q2 q3)
    | (go_at_call 114; refine (HI.out _ HBE1.out).mono ?_; rintro en w4 ⟨rfl, hb4⟩; have HB4 := Lib.hid hb4; clear hb4))
  go_ret
  exact ⟨rfl, below_trans HBE1.out HB4.out⟩
set_option maxRecDepth 100000 in
set_option maxHeartbeats 2000000 in
theorem exprT_2 (e : Ex) (S : Snap) (hL : LibOk S) (w : World) (hS : Agr S w) (A : Option Addr) (c : Nat) (hop : e.op = 2) (hb : -1000000000000 ≤ e.n ∧ e.n ≤ 1000000000000) :
    Calls Tryz.prog 144 #[.agg #[.int .i64 e.op, .int .i64 e.n, .int .i64 e.v, .slice A e.a.length c]] w
      fun en w' => en = .returned (.string ⟨(txE e).toArray⟩) ∧ Below w.heap.size w w' := by
  have HT := Lib.hid (txE_2 e hop)
  have HI : Hid (∀ W, Below w.heap.size w W → Calls Tryz.prog 114 #[.int .i64 e.n] W fun en w' => en = .returned (.string ⟨(Lib.itoa e.n).toArray⟩) ∧ Below W.heap.size W w') := Lib.hid fun W hW => itoa_calls e.n (by omega) (by omega) S hL W (hS.below hW)
  have HN := Lib.hid (Lib.itoa_length_le e.n (by omega) (by omega))
  rw [HT.out]
  generalize hJ : Lib.itoa e.n = J at HI HN ⊢
  have n1 : ¬ 9223372036854775807 < 1 + J.length := by have := HN.out; omega
  have b1 : (e.op == 1) = false := by rw [hop]; rfl
  have b2 : (e.op == 2) = true := by rw [hop]; rfl
  have b3 : (e.op == 3) = false := by rw [hop]; rfl
  clear hop hb hJ
  go_enter Tryz.func144, Tryz.ntmps144
  go_wp2_with (first
    | ((with_reducible refine gate_dst (N := 1) rfl ?_); refine box4 rfl (N := 1) rfl (.int .i64 e.op) (.int .i64 e.n) (.int .i64 e.v) (.slice A e.a.length c) 125 (by go_simp) ?_; intro g1 w1 HG1 HB1 HBE1 q0 q1 q2 q3)
    | (go_at_call 114; refine (HI.out _ HBE1.out).mono ?_; rintro en w4 ⟨rfl, hb4⟩; have HB4 := Lib.hid hb4; clear hb4))
  go_ret
  exact ⟨by show Ending.returned (.string (⟨[118].toArray⟩ ++ ⟨J.toArray⟩)) = _; rw [ba_append]; rfl, below_trans HBE1.out HB4.out⟩
set_option maxRecDepth 100000 in
set_option maxHeartbeats 2000000 in
theorem exprT_3 (e : Ex) (S : Snap) (hL : LibOk S) (w : World) (hS : Agr S w) (A : Option Addr) (c : Nat) (hop : e.op = 3) (hb : -1000000000000 ≤ e.n ∧ e.n ≤ 1000000000000) :
    Calls Tryz.prog 144 #[.agg #[.int .i64 e.op, .int .i64 e.n, .int .i64 e.v, .slice A e.a.length c]] w
      fun en w' => en = .returned (.string ⟨(txE e).toArray⟩) ∧ Below w.heap.size w w' := by
  have HT := Lib.hid (txE_3 e hop)
  have HI : Hid (∀ W, Below w.heap.size w W → Calls Tryz.prog 114 #[.int .i64 e.n] W fun en w' => en = .returned (.string ⟨(Lib.itoa e.n).toArray⟩) ∧ Below W.heap.size W w') := Lib.hid fun W hW => itoa_calls e.n (by omega) (by omega) S hL W (hS.below hW)
  have HN := Lib.hid (Lib.itoa_length_le e.n (by omega) (by omega))
  rw [HT.out]
  generalize hJ : Lib.itoa e.n = J at HI HN ⊢
  have n1 : ¬ 9223372036854775807 < 3 + J.length := by have := HN.out; omega
  have b1 : (e.op == 1) = false := by rw [hop]; rfl
  have b2 : (e.op == 2) = false := by rw [hop]; rfl
  have b3 : (e.op == 3) = true := by rw [hop]; rfl
  clear hop hb hJ
  go_enter Tryz.func144, Tryz.ntmps144
  go_wp2_with (first
    | ((with_reducible refine gate_dst (N := 1) rfl ?_); refine box4 rfl (N := 1) rfl (.int .i64 e.op) (.int .i64 e.n) (.int .i64 e.v) (.slice A e.a.length c) 125 (by go_simp) ?_; intro g1 w1 HG1 HB1 HBE1 q0 q1 q2 q3)
    | (go_at_call 114; refine (HI.out _ HBE1.out).mono ?_; rintro en w4 ⟨rfl, hb4⟩; have HB4 := Lib.hid hb4; clear hb4))
  go_ret
  exact ⟨by show Ending.returned (.string (⟨[108, 101, 110].toArray⟩ ++ ⟨J.toArray⟩)) = _; rw [ba_append]; rfl, below_trans HBE1.out HB4.out⟩
set_option maxRecDepth 100000 in
set_option maxHeartbeats 4000000 in
theorem exprT_calls (V R : Int) (hV : V ≤ 1000) (hR : R ≤ 1000) : ∀ (n : Nat) (e : Ex), e.size ≤ n → n < 1073741824 → ∀ (d : Nat), okE V R d e = true → ∀ (S : Snap) (hL : LibOk S) (w : World) (cs : List Value), Agr S w → RepE S e cs →
    Calls Tryz.prog 144 #[.agg cs.toArray] w fun en w' => en = .returned (.string ⟨(txE e).toArray⟩) ∧ Below w.heap.size w w' := by
  intro n
  induction n with
  | zero => intro e he; rw [e.size_eq] at he; omega
  | succ n ih =>
    intro e he hn d hok S hL w cs hS hr
    obtain ⟨A, c, rfl, hc, hrow⟩ := hr.open_
    have hl := okE_leaf V R hV hR d e hok
    by_cases h1 : e.op = 1
    · exact exprT_1 e S hL w hS A c h1 (hl.1 h1)
    by_cases h2 : e.op = 2
    · exact exprT_2 e S hL w hS A c h2 (hl.2 (.inl h2))
    by_cases h3 : e.op = 3
    · exact exprT_3 e S hL w hS A c h3 (hl.2 (.inr h3))
    obtain ⟨hop, _, _, x0, x1, hx, o0, o1⟩ := okE_two V R d e h1 h2 h3 hok
    have HSZ : Hid (e.size = 1 + x0.size + x1.size) := Lib.hid (by rw [e.size_eq, hx]; simp [Ex.sizeL]; omega)
    have HT : Hid (txE e = 40 :: (word e.op ++ 32 :: (Lib.join [txE x0, txE x1] [32] ++ [41]))) := Lib.hid (by rw [txE_4 e h1 h2 h3, hx]; rfl)
    have HL0 := Lib.hid (txE_len V R hV hR _ x0 (Nat.le_refl _) (d + 1) o0)
    have HL1 := Lib.hid (txE_len V R hV hR _ x1 (Nat.le_refl _) (d + 1) o1)
    have b1 : (e.op == 1) = false := beq_eq_false_iff_ne.2 h1
    have b2 : (e.op == 2) = false := beq_eq_false_iff_ne.2 h2
    have b3 : (e.op == 3) = false := beq_eq_false_iff_ne.2 h3
    have HOP := Lib.hid hop
    have HS := Lib.hid hS
    have HE := Lib.hid he
    have HLL := Lib.hid hL
    have hr0 := RowE.whole hS hrow 0 x0 (by rw [hx]; rfl)
    have hr1 := RowE.whole hS hrow 1 x1 (by rw [hx]; rfl)
    obtain ⟨ad, A0, c0, rfl, HC0, HR0⟩ := hr0
    obtain ⟨ad', A1, c1, hrfl, HC1, HR1⟩ := hr1
    obtain rfl : ad = ad' := by simpa using hrfl
    have HL2 : Hid (e.a.length = 2) := Lib.hid (by rw [hx]; rfl)
    have Hx0 : Hid (∀ W, Below w.heap.size w W → Calls Tryz.prog 144 #[.agg #[.int .i64 x0.op, .int .i64 x0.n, .int .i64 x0.v, .slice A0 x0.a.length c0]] W (fun en w' => en = .returned (.string ⟨(txE x0).toArray⟩) ∧ Below W.heap.size W w')) := Lib.hid (fun W hb =>
      ih x0 (by have := HSZ.out; have := x1.size_eq; omega) (by omega) (d + 1) o0 S hL _ [.int .i64 x0.op, .int .i64 x0.n, .int .i64 x0.v, .slice A0 x0.a.length c0] (HS.out.below hb) HR0.out)
    have Hx1 : Hid (∀ W, Below w.heap.size w W → Calls Tryz.prog 144 #[.agg #[.int .i64 x1.op, .int .i64 x1.n, .int .i64 x1.v, .slice A1 x1.a.length c1]] W (fun en w' => en = .returned (.string ⟨(txE x1).toArray⟩) ∧ Below W.heap.size W w')) := Lib.hid (fun W hb =>
      ih x1 (by have := HSZ.out; have := x0.size_eq; omega) (by omega) (d + 1) o1 S hL _ [.int .i64 x1.op, .int .i64 x1.n, .int .i64 x1.v, .slice A1 x1.a.length c1] (HS.out.below hb) HR1.out)
    have HGR : Hid (∀ (W : World) (bk : Nat), W.cell? ⟨bk, 0, none⟩ = some (.string ⟨(txE x0).toArray⟩) → W.cell? ⟨bk, 1, none⟩ = some (.string ⟨(txE x1).toArray⟩) → bk < W.heap.size →
        Calls Tryz.prog 145 #[.int .i64 e.op, .slice (some ⟨bk, 0, none⟩) 2 2] W fun en w' => en = .returned (.string ⟨(txE e).toArray⟩) ∧ Below W.heap.size W w') := Lib.hid (fun W bk k0 k1 hbk => by
      rw [HT.out]
      exact group_calls e.op (.inl hop) bk 0 2 [⟨(txE x0).toArray⟩, ⟨(txE x1).toArray⟩] W (fun j x hj => by
        match j, hj with
        | 0, hj => cases hj; exact k0
        | 1, hj => cases hj; exact k1) hbk (by simp) (by simp) (by
        have := HL0.out; have := HL1.out; have := HSZ.out
        show (Lib.join [txE x0, txE x1] [32]).length ≤ _
        rw [join_2]; simp only [List.length_append, List.length_cons]; omega))
    rw [HL2.out]
    clear hS hrow he ih h1 h2 h3 hr hx hrfl hl hok hop o0 o1 hL HT
    go_enter Tryz.func144, Tryz.ntmps144
    go_wp2_with ((with_reducible refine gate_dst (N := 1) rfl ?_); refine box4 rfl (N := 1) rfl (.int .i64 e.op) (.int .i64 e.n) (.int .i64 e.v) (.slice (some ad) 2 c) 125 (by go_simp) ?_; intro g1 w1 HG1 HB1 HBE1 q0 q1 q2 q3)
    clear q0 q1 q2 q3 b1 b2 b3
    have HMK : Hid (∀ w', Below w1.heap.size w1 w' → Below w1.heap.size w1 w' ∧ w'.cell? ⟨g1, 0, none⟩ = some (.int .i64 e.op) ∧ w'.cell? ⟨g1, 3, none⟩ = some (.slice (some ad) 2 c) ∧ w'.cell? ad = some (.int .i64 x0.op) ∧ w'.cell? ⟨ad.block, ad.off + 1, none⟩ = some (.int .i64 x0.n) ∧ w'.cell? ⟨ad.block, ad.off + 2, none⟩ = some (.int .i64 x0.v) ∧ w'.cell? ⟨ad.block, ad.off + 3, none⟩ = some (.slice A0 x0.a.length c0) ∧ w'.cell? ⟨ad.block, ad.off + 4, none⟩ = some (.int .i64 x1.op) ∧ w'.cell? ⟨ad.block, ad.off + 4 + 1, none⟩ = some (.int .i64 x1.n) ∧ w'.cell? ⟨ad.block, ad.off + 4 + 2, none⟩ = some (.int .i64 x1.v) ∧ w'.cell? ⟨ad.block, ad.off + 4 + 3, none⟩ = some (.slice A1 x1.a.length c1)) := Lib.hid (fun w' hb => by
        have hbb := below_trans HBE1.out hb
        have hg1 := below_blk hb HB1.out
        have hx1 : ∀ j u, [Value.int .i64 x1.op, .int .i64 x1.n, .int .i64 x1.v, .slice A1 x1.a.length c1][j]? = some u → w'.cell? ⟨ad.block, ad.off + 4 + j, none⟩ = some u := fun j u hj => by
          have h := (hbb.cell (World.block_lt_of_cell? w _ (HC1.out j u hj))).trans (HC1.out j u hj)
          rw [add_add, show 1 * 4 + j = 4 + j by omega] at h
          unfold Addr.add at h
          rw [if_neg (by omega)] at h
          rw [← h, Nat.add_assoc]
        have hx0 : ∀ j u, [Value.int .i64 x0.op, .int .i64 x0.n, .int .i64 x0.v, .slice A0 x0.a.length c0][j]? = some u → w'.cell? (if j = 0 then ad else ⟨ad.block, ad.off + j, none⟩) = some u := fun j u hj => by
          have h := (hbb.cell (World.block_lt_of_cell? w _ (HC0.out j u hj))).trans (HC0.out j u hj)
          rw [add_add, show 0 * 4 + j = j by omega] at h
          unfold Addr.add at h
          exact h
        exact ⟨hb, (blk_cell hg1 0).trans rfl, (blk_cell hg1 3).trans rfl, hx0 0 _ rfl, hx0 1 _ rfl, hx0 2 _ rfl, hx0 3 _ rfl, hx1 0 _ rfl, hx1 1 _ rfl, hx1 2 _ rfl, hx1 3 _ rfl⟩)
    go_region_held3 (fun w' => Below w1.heap.size w1 w' ∧ w'.cell? ⟨g1, 0, none⟩ = some (.int .i64 e.op) ∧ w'.cell? ⟨g1, 3, none⟩ = some (.slice (some ad) 2 c) ∧ w'.cell? ad = some (.int .i64 x0.op) ∧ w'.cell? ⟨ad.block, ad.off + 1, none⟩ = some (.int .i64 x0.n) ∧ w'.cell? ⟨ad.block, ad.off + 2, none⟩ = some (.int .i64 x0.v) ∧ w'.cell? ⟨ad.block, ad.off + 3, none⟩ = some (.slice A0 x0.a.length c0) ∧ w'.cell? ⟨ad.block, ad.off + 4, none⟩ = some (.int .i64 x1.op) ∧ w'.cell? ⟨ad.block, ad.off + 4 + 1, none⟩ = some (.int .i64 x1.n) ∧ w'.cell? ⟨ad.block, ad.off + 4 + 2, none⟩ = some (.int .i64 x1.v) ∧ w'.cell? ⟨ad.block, ad.off + 4 + 3, none⟩ = some (.slice A1 x1.a.length c1))
      (first | exact HMK.out _ (Below.refl _ _) | exact HMK.out _ (Below.refl _ _).drew | exact HMK.out _ (below_trans (‹Below w1.heap.size w1 _ ∧ _›).1 hb5) | exact HMK.out _ ((‹Below w1.heap.size w1 _ ∧ _›).1.alloc (‹Below w1.heap.size w1 _ ∧ _›).1.size _))
      (first
        | (go_at_call 144; with_reducible refine (Hx0.out _ (below_trans HBE1.out (‹Below w1.heap.size w1 _ ∧ _›).1)).mono ?_; rintro en w5 ⟨rfl, hb5⟩)
        | (go_at_call 144; with_reducible refine (Hx1.out _ (below_trans HBE1.out (‹Below w1.heap.size w1 _ ∧ _›).1)).mono ?_; rintro en w5 ⟨rfl, hb5⟩)
        | (go_at_call 145; refine (HGR.out _ _ (by simp) (by simp) (by simp)).mono ?_; rintro en w5 ⟨rfl, hb5⟩))
    all_goals
      have HB5 := Lib.hid (‹Below w1.heap.size w1 w5 ∧ _›).1
      go_wp2
      go_ret
      exact ⟨rfl, below_trans HBE1.out HB5.out⟩
end Go.Proofs.YtkopmnhngjbmcaaGreatDoor.Sn

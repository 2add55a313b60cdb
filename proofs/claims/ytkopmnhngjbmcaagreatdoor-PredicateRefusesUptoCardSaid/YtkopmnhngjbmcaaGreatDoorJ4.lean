/- (parolelaw28.PredicateRefuses). -/
import Derived.Test.YtkopmnhngjbmcaaGreatDoorJ3
namespace Go.Proofs.YtkopmnhngjbmcaaGreatDoor.Sn
open Go Go.RowKit
set_option linter.unusedVariables false
set_option maxRecDepth 100000 in
set_option maxHeartbeats 8000000 in
theorem refuses_1 (e : Cn) (hsz : e.size < 1073741824) (S : Snap) (hL : LibOk S) (w : World) (hS : Agr S w) (A B : Option Addr) (c dd : Nat) (hr : RepC S e [.int .i64 e.op, .slice A e.a.length c, .slice B e.c.length dd]) (m : Nat) (hm : m < 256) (h1 : (100 : Int) < (e.size : Int)) :
    Calls Tryz.prog 4 #[.agg #[.int .i64 e.op, .slice A e.a.length c, .slice B e.c.length dd], .int .u8 m] w fun en w' => en = .returned (.bool true) ∧ Below w.heap.size w w' := by
  have HL := Lib.hid hL
  have HS := Lib.hid hS
  have HREP := Lib.hid hr
  have HSZ := Lib.hid hsz
  have HBB : Hid (Below w.heap.size w w) := Lib.hid (Below.refl _ _)
  clear hL hS hr hsz
  go_enter Tryz.func4, Tryz.ntmps4
  go_wp2_with (first
    | ((with_reducible refine gate_dst (N := 2) rfl ?_); refine new_at rfl (N := 2) rfl #[.int .i64 e.op, .slice A e.a.length c, .slice B e.c.length dd] 25 (by go_simp) ?_; intro g2 wg2 HGg2 Hg2 HBE; have hb := HBE.out; have HLg2 : Hid (w.heap.size ≤ g2) := Lib.hid (by rw [HGg2.out]; exact HBB.out.size); have HFg2 := Lib.hid (HS.out.new (Nat.le_of_eq HGg2.out.symm)); have HBB := Lib.hid (below_trans HBB.out hb); have HS := Lib.hid (HS.out.below hb); clear hb HBE)
    | (go_at_call 13; with_reducible refine (examples_calls S HL.out _ HS.out).mono ?_; rintro en w13 ⟨rfl, hb⟩; have Hg2 := Lib.hid (below_blk hb Hg2.out); have HBB := Lib.hid (below_trans HBB.out hb); have HS := Lib.hid (HS.out.below hb); clear hb)
    | ((with_reducible refine gate_dst (N := 13) rfl ?_); refine wpList_load_row rfl 25 (.tmp 2) rfl g2 (by go_simp) 25 _ (0, 0) _ Hg2.out Tryz.underlying25 rfl size25 ?_)
    | (go_at_call 14; with_reducible refine (size_c e HSZ.out S A B c dd HREP.out _ HS.out).mono ?_; rintro en w14 ⟨rfl, hb⟩; have Hg2 := Lib.hid (below_blk hb Hg2.out); have HBB := Lib.hid (below_trans HBB.out hb); have HS := Lib.hid (HS.out.below hb); clear hb))
  go_ret
  exact ⟨rfl, HBB.out⟩
set_option maxRecDepth 100000 in
set_option maxHeartbeats 8000000 in
theorem refuses_2 (e : Cn) (hsz : e.size < 1073741824) (S : Snap) (hL : LibOk S) (w : World) (hS : Agr S w) (A B : Option Addr) (c dd : Nat) (hr : RepC S e [.int .i64 e.op, .slice A e.a.length c, .slice B e.c.length dd]) (m : Nat) (hm : m < 256) (h1 : ¬ (100 : Int) < (e.size : Int)) (ho : okP e = false) :
    Calls Tryz.prog 4 #[.agg #[.int .i64 e.op, .slice A e.a.length c, .slice B e.c.length dd], .int .u8 m] w fun en w' => en = .returned (.bool true) ∧ Below w.heap.size w w' := by
  have HL := Lib.hid hL
  have HS := Lib.hid hS
  have HREP := Lib.hid hr
  have HSZ := Lib.hid hsz
  have HBB : Hid (Below w.heap.size w w) := Lib.hid (Below.refl _ _)
  clear hL hS hr hsz
  have HO := Lib.hid ho
  have hd1 : decide ((100 : Int) < (e.size : Int)) = false := decide_eq_false h1
  clear ho
  go_enter Tryz.func4, Tryz.ntmps4
  go_wp2_with (first
    | ((with_reducible refine gate_dst (N := 2) rfl ?_); refine new_at rfl (N := 2) rfl #[.int .i64 e.op, .slice A e.a.length c, .slice B e.c.length dd] 25 (by go_simp) ?_; intro g2 wg2 HGg2 Hg2 HBE; have hb := HBE.out; have HLg2 : Hid (w.heap.size ≤ g2) := Lib.hid (by rw [HGg2.out]; exact HBB.out.size); have HFg2 := Lib.hid (HS.out.new (Nat.le_of_eq HGg2.out.symm)); have HBB := Lib.hid (below_trans HBB.out hb); have HS := Lib.hid (HS.out.below hb); clear hb HBE)
    | (go_at_call 13; with_reducible refine (examples_calls S HL.out _ HS.out).mono ?_; rintro en w13 ⟨rfl, hb⟩; have Hg2 := Lib.hid (below_blk hb Hg2.out); have HBB := Lib.hid (below_trans HBB.out hb); have HS := Lib.hid (HS.out.below hb); clear hb)
    | ((with_reducible refine gate_dst (N := 13) rfl ?_); refine wpList_load_row rfl 25 (.tmp 2) rfl g2 (by go_simp) 25 _ (0, 0) _ Hg2.out Tryz.underlying25 rfl size25 ?_)
    | (go_at_call 14; with_reducible refine (size_c e HSZ.out S A B c dd HREP.out _ HS.out).mono ?_; rintro en w14 ⟨rfl, hb⟩; have Hg2 := Lib.hid (below_blk hb Hg2.out); have HBB := Lib.hid (below_trans HBB.out hb); have HS := Lib.hid (HS.out.below hb); clear hb)
    | ((with_reducible refine gate_dst (N := 17) rfl ?_); refine load_row_w (by rfl) 25 (.tmp 2) rfl g2 (by go_simp) 25 _ (0, 0) _ Hg2.out Tryz.underlying25 rfl size25 ?_)
    | (go_at_call 16; with_reducible refine (plain_is e HSZ.out false HO.out S A B c dd HREP.out _ HS.out).mono ?_; rintro en w16 ⟨rfl, hb⟩; have Hg2 := Lib.hid (below_blk hb Hg2.out); have HBB := Lib.hid (below_trans HBB.out hb); have HS := Lib.hid (HS.out.below hb); clear hb))
  go_ret
  exact ⟨rfl, HBB.out⟩
theorem rdec (P : Prop) : P → P := id
set_option maxRecDepth 100000 in
set_option maxHeartbeats 8000000 in
theorem refuses_3 (e : Cn) (hsz : e.size < 1073741824) (S : Snap) (hL : LibOk S) (w : World) (hS : Agr S w) (A B : Option Addr) (c dd : Nat) (hr : RepC S e [.int .i64 e.op, .slice A e.a.length c, .slice B e.c.length dd]) (m : Nat) (hm : m < 256) (h1 : ¬ (100 : Int) < (e.size : Int)) (ho : okP e = true) (T : List UInt8) (hT : txC e = T) (n : Nat) (hn : T.length = n) (hn0 : 0 < n) (hle : n ≤ 6400) (j : Nat) (hj : m % n = j) :
    Calls Tryz.prog 4 #[.agg #[.int .i64 e.op, .slice A e.a.length c, .slice B e.c.length dd], .int .u8 m] w fun en w' => en = .returned (.bool true) ∧ Below w.heap.size w w' := by
  have HL := Lib.hid hL
  have HS := Lib.hid hS
  have HREP := Lib.hid hr
  have HSZ := Lib.hid hsz
  have HBB : Hid (Below w.heap.size w w) := Lib.hid (Below.refl _ _)
  clear hL hS hr hsz
  have HO := Lib.hid ho
  have HT := Lib.hid hT
  have HN := Lib.hid hn
  have HLE := Lib.hid hle
  have hjn : j < n := by rw [← hj]; exact Nat.mod_lt m hn0
  have HJ := Lib.hid hjn
  have HNE : Hid (T ≠ []) := Lib.hid (fun h => by rw [h] at hn; simp at hn; omega)
  have hji : (m : Int) % (n : Int) = (j : Int) := by omega
  have hsz2 : (⟨T.toArray⟩ : ByteArray).size = n := hn
  have hnz : ¬ ((n : Int) = 0) := by omega
  have b0 : (0 : Int) ≤ (j : Int) := by omega
  have b1 : (j : Int) ≤ (n : Int) := by omega
  have n1 : ¬ 9223372036854775807 < n + 1 := by omega
  have n2 : ¬ 9223372036854775807 < 1 + n := by omega
  have n3 : ¬ 9223372036854775807 < 1 + n + 1 := by omega
  have n4 : ¬ 9223372036854775807 < n + n := by omega
  have hd1 : decide ((100 : Int) < (e.size : Int)) = false := decide_eq_false h1
  clear ho hT
  have P0 : Hid (∀ W, Agr S W → Calls Tryz.prog 17 #[.string ((⟨T.toArray⟩ : ByteArray) ++ ⟨#[32]⟩)] W fun en w' => en = .returned (.agg #[.int .i64 0, .slice none 0 0, .slice none 0 0, .int .i64 3]) ∧ Below W.heap.size W w') := Lib.hid fun W hW => by
    have he : (⟨T.toArray⟩ : ByteArray) ++ ⟨#[32]⟩ = ⟨(T ++ [32]).toArray⟩ := ba_append T [32]
    rw [he]
    exact parsed_none (T ++ [32]) (by simp; have := HN.out; have := HLE.out; omega) (by rw [← HT.out]; exact parse_more HO.out [32] (by simp)) S HL.out W hW
  have P1 : Hid (∀ W, Agr S W → Calls Tryz.prog 17 #[.string ((⟨#[32]⟩ : ByteArray) ++ ⟨T.toArray⟩)] W fun en w' => en = .returned (.agg #[.int .i64 0, .slice none 0 0, .slice none 0 0, .int .i64 3]) ∧ Below W.heap.size W w') := Lib.hid fun W hW => by
    have he : (⟨#[32]⟩ : ByteArray) ++ ⟨T.toArray⟩ = ⟨(32 :: T).toArray⟩ := ba_append [32] T
    rw [he]
    exact parsed_none (32 :: T) (by simp; have := HN.out; have := HLE.out; omega) (parse_blank T) S HL.out W hW
  have P2 : Hid (∀ W, Agr S W → Calls Tryz.prog 17 #[.string ((⟨T.toArray⟩ : ByteArray) ++ ⟨#[41]⟩)] W fun en w' => en = .returned (.agg #[.int .i64 0, .slice none 0 0, .slice none 0 0, .int .i64 3]) ∧ Below W.heap.size W w') := Lib.hid fun W hW => by
    have he : (⟨T.toArray⟩ : ByteArray) ++ ⟨#[41]⟩ = ⟨(T ++ [41]).toArray⟩ := ba_append T [41]
    rw [he]
    exact parsed_none (T ++ [41]) (by simp; have := HN.out; have := HLE.out; omega) (by rw [← HT.out]; exact parse_more HO.out [41] (by simp)) S HL.out W hW
  have P3 : Hid (∀ W, Agr S W → Calls Tryz.prog 17 #[.string ((⟨#[40]⟩ : ByteArray) ++ ⟨T.toArray⟩)] W fun en w' => en = .returned (.agg #[.int .i64 0, .slice none 0 0, .slice none 0 0, .int .i64 3]) ∧ Below W.heap.size W w') := Lib.hid fun W hW => by
    have he : (⟨#[40]⟩ : ByteArray) ++ ⟨T.toArray⟩ = ⟨(40 :: (T ++ [])).toArray⟩ := by rw [List.append_nil]; exact ba_append [40] T
    rw [he]
    exact parsed_none (40 :: (T ++ [])) (by simp; have := HN.out; have := HLE.out; omega) (by rw [← HT.out]; exact parse_open e [] (.inl rfl)) S HL.out W hW
  have P4 : Hid (∀ W, Agr S W → Calls Tryz.prog 17 #[.string ((⟨T.toArray⟩ : ByteArray).extract 0 j)] W fun en w' => en = .returned (.agg #[.int .i64 0, .slice none 0 0, .slice none 0 0, .int .i64 3]) ∧ Below W.heap.size W w') := Lib.hid fun W hW => by
    have he : (⟨T.toArray⟩ : ByteArray).extract 0 j = ⟨(T.take j).toArray⟩ := ext_take T j
    rw [he]
    exact parsed_none (T.take j) (by simp; have := HN.out; have := HLE.out; omega) (by rw [← HT.out]; exact parse_cut HO.out j (by rw [HT.out, HN.out]; exact HJ.out)) S HL.out W hW
  have P5 : Hid (∀ W, Agr S W → Calls Tryz.prog 17 #[.string ((⟨#[40]⟩ : ByteArray) ++ ⟨T.toArray⟩ ++ ⟨#[41]⟩)] W fun en w' => en = .returned (.agg #[.int .i64 0, .slice none 0 0, .slice none 0 0, .int .i64 3]) ∧ Below W.heap.size W w') := Lib.hid fun W hW => by
    have he : (⟨#[40]⟩ : ByteArray) ++ ⟨T.toArray⟩ ++ ⟨#[41]⟩ = ⟨(40 :: (T ++ [41])).toArray⟩ := by rw [show (⟨#[40]⟩ : ByteArray) = ⟨[40].toArray⟩ from rfl, ba_append [40] T]; exact ba_append ([40] ++ T) [41]
    rw [he]
    exact parsed_none (40 :: (T ++ [41])) (by simp; have := HN.out; have := HLE.out; omega) (by rw [← HT.out]; exact parse_open e [41] (.inr rfl)) S HL.out W hW
  have P6 : Hid (∀ W, Agr S W → Calls Tryz.prog 17 #[.string ((⟨T.toArray⟩ : ByteArray) ++ ⟨T.toArray⟩)] W fun en w' => en = .returned (.agg #[.int .i64 0, .slice none 0 0, .slice none 0 0, .int .i64 3]) ∧ Below W.heap.size W w') := Lib.hid fun W hW => by
    have he : (⟨T.toArray⟩ : ByteArray) ++ ⟨T.toArray⟩ = ⟨(T ++ T).toArray⟩ := ba_append T T
    rw [he]
    exact parsed_none (T ++ T) (by simp; have := HN.out; have := HLE.out; omega) (by rw [← HT.out]; exact parse_more HO.out _ (by rw [HT.out]; exact HNE.out)) S HL.out W hW
  have P7 : Hid (∀ W, Agr S W → Calls Tryz.prog 17 #[.string ((⟨#[40, 60, 32, 118, 48, 32, 48, 49, 41]⟩ : ByteArray))] W fun en w' => en = .returned (.agg #[.int .i64 0, .slice none 0 0, .slice none 0 0, .int .i64 3]) ∧ Below W.heap.size W w') := Lib.hid fun W hW => by
    have he : (⟨#[40, 60, 32, 118, 48, 32, 48, 49, 41]⟩ : ByteArray) = ⟨([40, 60, 32, 118, 48, 32, 48, 49, 41]).toArray⟩ := rfl
    rw [he]
    exact parsed_none ([40, 60, 32, 118, 48, 32, 48, 49, 41]) (by decide) (ref_bad0) S HL.out W hW
  have P8 : Hid (∀ W, Agr S W → Calls Tryz.prog 17 #[.string ((⟨#[40, 60, 32, 118, 48, 32, 43, 49, 41]⟩ : ByteArray))] W fun en w' => en = .returned (.agg #[.int .i64 0, .slice none 0 0, .slice none 0 0, .int .i64 3]) ∧ Below W.heap.size W w') := Lib.hid fun W hW => by
    have he : (⟨#[40, 60, 32, 118, 48, 32, 43, 49, 41]⟩ : ByteArray) = ⟨([40, 60, 32, 118, 48, 32, 43, 49, 41]).toArray⟩ := rfl
    rw [he]
    exact parsed_none ([40, 60, 32, 118, 48, 32, 43, 49, 41]) (by decide) (ref_bad1) S HL.out W hW
  have P9 : Hid (∀ W, Agr S W → Calls Tryz.prog 17 #[.string ((⟨#[40, 60, 32, 118, 49, 50, 32, 49, 41]⟩ : ByteArray))] W fun en w' => en = .returned (.agg #[.int .i64 0, .slice none 0 0, .slice none 0 0, .int .i64 3]) ∧ Below W.heap.size W w') := Lib.hid fun W hW => by
    have he : (⟨#[40, 60, 32, 118, 49, 50, 32, 49, 41]⟩ : ByteArray) = ⟨([40, 60, 32, 118, 49, 50, 32, 49, 41]).toArray⟩ := rfl
    rw [he]
    exact parsed_none ([40, 60, 32, 118, 49, 50, 32, 49, 41]) (by decide) (ref_bad2) S HL.out W hW
  have P10 : Hid (∀ W, Agr S W → Calls Tryz.prog 17 #[.string ((⟨#[40, 60, 32, 108, 101, 110, 52, 32, 49, 41]⟩ : ByteArray))] W fun en w' => en = .returned (.agg #[.int .i64 0, .slice none 0 0, .slice none 0 0, .int .i64 3]) ∧ Below W.heap.size W w') := Lib.hid fun W hW => by
    have he : (⟨#[40, 60, 32, 108, 101, 110, 52, 32, 49, 41]⟩ : ByteArray) = ⟨([40, 60, 32, 108, 101, 110, 52, 32, 49, 41]).toArray⟩ := rfl
    rw [he]
    exact parsed_none ([40, 60, 32, 108, 101, 110, 52, 32, 49, 41]) (by decide) (ref_bad3) S HL.out W hW
  have P11 : Hid (∀ W, Agr S W → Calls Tryz.prog 17 #[.string ((⟨#[40, 60, 32, 50, 49, 52, 55, 52, 56, 51, 54, 52, 56, 32, 49, 41]⟩ : ByteArray))] W fun en w' => en = .returned (.agg #[.int .i64 0, .slice none 0 0, .slice none 0 0, .int .i64 3]) ∧ Below W.heap.size W w') := Lib.hid fun W hW => by
    have he : (⟨#[40, 60, 32, 50, 49, 52, 55, 52, 56, 51, 54, 52, 56, 32, 49, 41]⟩ : ByteArray) = ⟨([40, 60, 32, 50, 49, 52, 55, 52, 56, 51, 54, 52, 56, 32, 49, 41]).toArray⟩ := rfl
    rw [he]
    exact parsed_none ([40, 60, 32, 50, 49, 52, 55, 52, 56, 51, 54, 52, 56, 32, 49, 41]) (by decide) (ref_bad4) S HL.out W hW
  have P12 : Hid (∀ W, Agr S W → Calls Tryz.prog 17 #[.string ((⟨#[40, 43, 32, 118, 48, 32, 49, 41]⟩ : ByteArray))] W fun en w' => en = .returned (.agg #[.int .i64 0, .slice none 0 0, .slice none 0 0, .int .i64 3]) ∧ Below W.heap.size W w') := Lib.hid fun W hW => by
    have he : (⟨#[40, 43, 32, 118, 48, 32, 49, 41]⟩ : ByteArray) = ⟨([40, 43, 32, 118, 48, 32, 49, 41]).toArray⟩ := rfl
    rw [he]
    exact parsed_none ([40, 43, 32, 118, 48, 32, 49, 41]) (by decide) (ref_bad5) S HL.out W hW
  have P13 : Hid (∀ W, Agr S W → Calls Tryz.prog 17 #[.string ((⟨#[40, 61, 32, 116, 114, 117, 101, 32, 116, 114, 117, 101, 41]⟩ : ByteArray))] W fun en w' => en = .returned (.agg #[.int .i64 0, .slice none 0 0, .slice none 0 0, .int .i64 3]) ∧ Below W.heap.size W w') := Lib.hid fun W hW => by
    have he : (⟨#[40, 61, 32, 116, 114, 117, 101, 32, 116, 114, 117, 101, 41]⟩ : ByteArray) = ⟨([40, 61, 32, 116, 114, 117, 101, 32, 116, 114, 117, 101, 41]).toArray⟩ := rfl
    rw [he]
    exact parsed_none ([40, 61, 32, 116, 114, 117, 101, 32, 116, 114, 117, 101, 41]) (by decide) (ref_bad6) S HL.out W hW
  have P14 : Hid (∀ W, Agr S W → Calls Tryz.prog 17 #[.string ((⟨#[40, 97, 110, 100, 32, 116, 114, 117, 101, 41]⟩ : ByteArray))] W fun en w' => en = .returned (.agg #[.int .i64 0, .slice none 0 0, .slice none 0 0, .int .i64 3]) ∧ Below W.heap.size W w') := Lib.hid fun W hW => by
    have he : (⟨#[40, 97, 110, 100, 32, 116, 114, 117, 101, 41]⟩ : ByteArray) = ⟨([40, 97, 110, 100, 32, 116, 114, 117, 101, 41]).toArray⟩ := rfl
    rw [he]
    exact parsed_none ([40, 97, 110, 100, 32, 116, 114, 117, 101, 41]) (by decide) (ref_bad7) S HL.out W hW
  have P15 : Hid (∀ W, Agr S W → Calls Tryz.prog 17 #[.string ((⟨#[40, 110, 111, 116, 32, 116, 114, 117, 101, 32, 116, 114, 117, 101, 41]⟩ : ByteArray))] W fun en w' => en = .returned (.agg #[.int .i64 0, .slice none 0 0, .slice none 0 0, .int .i64 3]) ∧ Below W.heap.size W w') := Lib.hid fun W hW => by
    have he : (⟨#[40, 110, 111, 116, 32, 116, 114, 117, 101, 32, 116, 114, 117, 101, 41]⟩ : ByteArray) = ⟨([40, 110, 111, 116, 32, 116, 114, 117, 101, 32, 116, 114, 117, 101, 41]).toArray⟩ := rfl
    rw [he]
    exact parsed_none ([40, 110, 111, 116, 32, 116, 114, 117, 101, 32, 116, 114, 117, 101, 41]) (by decide) (ref_bad8) S HL.out W hW
  go_enter Tryz.func4, Tryz.ntmps4
  go_wp2_with (first
    | ((with_reducible refine gate_dst (N := 2) rfl ?_); refine new_at rfl (N := 2) rfl #[.int .i64 e.op, .slice A e.a.length c, .slice B e.c.length dd] 25 (by go_simp) ?_; intro g2 wg2 HGg2 Hg2 HBE; have hb := HBE.out; have HLg2 : Hid (w.heap.size ≤ g2) := Lib.hid (by rw [HGg2.out]; exact HBB.out.size); have HFg2 := Lib.hid (HS.out.new (Nat.le_of_eq HGg2.out.symm)); have HBB := Lib.hid (below_trans HBB.out hb); have HS := Lib.hid (HS.out.below hb); clear hb HBE)
    | (go_at_call 13; with_reducible refine (examples_calls S HL.out _ HS.out).mono ?_; rintro en w13 ⟨rfl, hb⟩; have Hg2 := Lib.hid (below_blk hb Hg2.out); have HBB := Lib.hid (below_trans HBB.out hb); have HS := Lib.hid (HS.out.below hb); clear hb)
    | ((with_reducible refine gate_dst (N := 13) rfl ?_); refine wpList_load_row rfl 25 (.tmp 2) rfl g2 (by go_simp) 25 _ (0, 0) _ Hg2.out Tryz.underlying25 rfl size25 ?_)
    | (go_at_call 14; with_reducible refine (size_c e HSZ.out S A B c dd HREP.out _ HS.out).mono ?_; rintro en w14 ⟨rfl, hb⟩; have Hg2 := Lib.hid (below_blk hb Hg2.out); have HBB := Lib.hid (below_trans HBB.out hb); have HS := Lib.hid (HS.out.below hb); clear hb)
    | ((with_reducible refine gate_dst (N := 17) rfl ?_); refine load_row_w (by rfl) 25 (.tmp 2) rfl g2 (by go_simp) 25 _ (0, 0) _ Hg2.out Tryz.underlying25 rfl size25 ?_)
    | (go_at_call 16; with_reducible refine (plain_is e HSZ.out true HO.out S A B c dd HREP.out _ HS.out).mono ?_; rintro en w16 ⟨rfl, hb⟩; have Hg2 := Lib.hid (below_blk hb Hg2.out); have HBB := Lib.hid (below_trans HBB.out hb); have HS := Lib.hid (HS.out.below hb); clear hb)
    | ((with_reducible refine gate_dst (N := 22) rfl ?_); refine wpList_load_row rfl 25 (.tmp 2) rfl g2 (by go_simp) 25 _ (0, 0) _ Hg2.out Tryz.underlying25 rfl size25 ?_)
    | (go_at_call 15; with_reducible refine (written_yes e HSZ.out HO.out T HT.out S HL.out A B c dd HREP.out _ HS.out).mono ?_; rintro en w15 ⟨rfl, hb⟩; have Hg2 := Lib.hid (below_blk hb Hg2.out); have HBB := Lib.hid (below_trans HBB.out hb); have HS := Lib.hid (HS.out.below hb); clear hb)
    | ((with_reducible refine gate_dst (N := 6) rfl ?_); refine new_at rfl (N := 6) rfl #[.string ⟨#[]⟩, .int .i64 0] 32 (by go_simp) ?_; intro g6 wg6 HGg6 Hg6 HBE; have hb := HBE.out; have HLg6 : Hid (w.heap.size ≤ g6) := Lib.hid (by rw [HGg6.out]; exact HBB.out.size); have HFg6 := Lib.hid (HS.out.new (Nat.le_of_eq HGg6.out.symm)); have HNg2g6 : Hid (g2 ≠ g6) := Lib.hid (by have := blk_lt Hg2.out; have := HGg6.out; omega); have HNg6g2 : Hid (g6 ≠ g2) := Lib.hid (fun e => HNg2g6.out e.symm); have Hg2 := Lib.hid (below_blk hb Hg2.out); have HBB := Lib.hid (below_trans HBB.out hb); have HS := Lib.hid (HS.out.below hb); clear hb HBE)
    | ((with_reducible refine gate_store (t := 32) (p := 6) rfl ?_); refine store_at rfl rfl 32 (.tmp 6) (.tmp 23) rfl g6 #[.string ⟨T.toArray⟩, .int .i64 0] (by go_simp) (by go_simp) 32 Hg6.out size32 rfl (by simp [Value.oneCell']) ?_; intro wg6s Hg6n HBE; have Hg2 := Lib.hid (grown_blk HBE.out Hg2.out (fun e => HNg2g6.out (Option.some.inj e))); have Hg6 := Hg6n; have HBB := Lib.hid (below_grown_new HBB.out HBE.out HLg6.out); have HS := Lib.hid (HS.out.grown HBE.out (fun k e => by cases e; exact HFg6.out)); clear HBE Hg6n; have e60 := (blk_cell Hg6.out 0).trans (show _ = some _ from rfl); have e61 := (blk_cell Hg6.out 1).trans (show _ = some _ from rfl)))
  have hg6 := Hg6.out
  have HMK : Hid (∀ W', Below wg6s.heap.size wg6s W' → Below wg6s.heap.size wg6s W' ∧ W'.cell? ⟨g6, 0, none⟩ = some (.string ⟨T.toArray⟩)) := Lib.hid fun W' hW =>
    ⟨hW, (blk_cell (below_blk hW Hg6.out) 0).trans rfl⟩
  go_region_held (fun w' => Below wg6s.heap.size wg6s w' ∧ w'.cell? ⟨g6, 0, none⟩ = some (.string ⟨T.toArray⟩))
    (first | exact HMK.out _ (Below.refl _ _).drew | exact HMK.out _ ((Below.refl _ wg6s).alloc (Nat.le_refl _) _).drew | exact HMK.out _ ((Below.refl _ wg6s).alloc (Nat.le_refl _) _) | exact HMK.out _ ((Below.refl _ wg6s).drew.alloc (Nat.le_refl _) _))
    (fail)
  go_wp2
  have HBL : Hid (Below wg6s.heap.size wg6s (wg6s.alloc (.cells #[.string ((⟨T.toArray⟩ : ByteArray) ++ ⟨#[32]⟩), .string ((⟨#[32]⟩ : ByteArray) ++ ⟨T.toArray⟩), .string ((⟨T.toArray⟩ : ByteArray) ++ ⟨#[41]⟩), .string ((⟨#[40]⟩ : ByteArray) ++ ⟨T.toArray⟩), .string ((⟨T.toArray⟩ : ByteArray).extract 0 j), .string ((⟨#[40]⟩ : ByteArray) ++ ⟨T.toArray⟩ ++ ⟨#[41]⟩), .string ((⟨T.toArray⟩ : ByteArray) ++ ⟨T.toArray⟩), .string ((⟨#[40, 60, 32, 118, 48, 32, 48, 49, 41]⟩ : ByteArray)), .string ((⟨#[40, 60, 32, 118, 48, 32, 43, 49, 41]⟩ : ByteArray)), .string ((⟨#[40, 60, 32, 118, 49, 50, 32, 49, 41]⟩ : ByteArray)), .string ((⟨#[40, 60, 32, 108, 101, 110, 52, 32, 49, 41]⟩ : ByteArray)), .string ((⟨#[40, 60, 32, 50, 49, 52, 55, 52, 56, 51, 54, 52, 56, 32, 49, 41]⟩ : ByteArray)), .string ((⟨#[40, 43, 32, 118, 48, 32, 49, 41]⟩ : ByteArray)), .string ((⟨#[40, 61, 32, 116, 114, 117, 101, 32, 116, 114, 117, 101, 41]⟩ : ByteArray)), .string ((⟨#[40, 97, 110, 100, 32, 116, 114, 117, 101, 41]⟩ : ByteArray)), .string ((⟨#[40, 110, 111, 116, 32, 116, 114, 117, 101, 32, 116, 114, 117, 101, 41]⟩ : ByteArray))] 9 (0, 0))).drew) := Lib.hid ((Below.refl _ wg6s).alloc (Nat.le_refl _) _).drew
  have HGB : Hid ((wg6s.alloc (.cells #[.string ((⟨T.toArray⟩ : ByteArray) ++ ⟨#[32]⟩), .string ((⟨#[32]⟩ : ByteArray) ++ ⟨T.toArray⟩), .string ((⟨T.toArray⟩ : ByteArray) ++ ⟨#[41]⟩), .string ((⟨#[40]⟩ : ByteArray) ++ ⟨T.toArray⟩), .string ((⟨T.toArray⟩ : ByteArray).extract 0 j), .string ((⟨#[40]⟩ : ByteArray) ++ ⟨T.toArray⟩ ++ ⟨#[41]⟩), .string ((⟨T.toArray⟩ : ByteArray) ++ ⟨T.toArray⟩), .string ((⟨#[40, 60, 32, 118, 48, 32, 48, 49, 41]⟩ : ByteArray)), .string ((⟨#[40, 60, 32, 118, 48, 32, 43, 49, 41]⟩ : ByteArray)), .string ((⟨#[40, 60, 32, 118, 49, 50, 32, 49, 41]⟩ : ByteArray)), .string ((⟨#[40, 60, 32, 108, 101, 110, 52, 32, 49, 41]⟩ : ByteArray)), .string ((⟨#[40, 60, 32, 50, 49, 52, 55, 52, 56, 51, 54, 52, 56, 32, 49, 41]⟩ : ByteArray)), .string ((⟨#[40, 43, 32, 118, 48, 32, 49, 41]⟩ : ByteArray)), .string ((⟨#[40, 61, 32, 116, 114, 117, 101, 32, 116, 114, 117, 101, 41]⟩ : ByteArray)), .string ((⟨#[40, 97, 110, 100, 32, 116, 114, 117, 101, 41]⟩ : ByteArray)), .string ((⟨#[40, 110, 111, 116, 32, 116, 114, 117, 101, 32, 116, 114, 117, 101, 41]⟩ : ByteArray))] 9 (0, 0))).drew.heap[wg6s.heap.size]? = some (.cells #[.string ((⟨T.toArray⟩ : ByteArray) ++ ⟨#[32]⟩), .string ((⟨#[32]⟩ : ByteArray) ++ ⟨T.toArray⟩), .string ((⟨T.toArray⟩ : ByteArray) ++ ⟨#[41]⟩), .string ((⟨#[40]⟩ : ByteArray) ++ ⟨T.toArray⟩), .string ((⟨T.toArray⟩ : ByteArray).extract 0 j), .string ((⟨#[40]⟩ : ByteArray) ++ ⟨T.toArray⟩ ++ ⟨#[41]⟩), .string ((⟨T.toArray⟩ : ByteArray) ++ ⟨T.toArray⟩), .string ((⟨#[40, 60, 32, 118, 48, 32, 48, 49, 41]⟩ : ByteArray)), .string ((⟨#[40, 60, 32, 118, 48, 32, 43, 49, 41]⟩ : ByteArray)), .string ((⟨#[40, 60, 32, 118, 49, 50, 32, 49, 41]⟩ : ByteArray)), .string ((⟨#[40, 60, 32, 108, 101, 110, 52, 32, 49, 41]⟩ : ByteArray)), .string ((⟨#[40, 60, 32, 50, 49, 52, 55, 52, 56, 51, 54, 52, 56, 32, 49, 41]⟩ : ByteArray)), .string ((⟨#[40, 43, 32, 118, 48, 32, 49, 41]⟩ : ByteArray)), .string ((⟨#[40, 61, 32, 116, 114, 117, 101, 32, 116, 114, 117, 101, 41]⟩ : ByteArray)), .string ((⟨#[40, 97, 110, 100, 32, 116, 114, 117, 101, 41]⟩ : ByteArray)), .string ((⟨#[40, 110, 111, 116, 32, 116, 114, 117, 101, 32, 116, 114, 117, 101, 41]⟩ : ByteArray))] 9 (0, 0))) := Lib.hid (blk_new wg6s _)
  generalize (wg6s.alloc (.cells #[.string ((⟨T.toArray⟩ : ByteArray) ++ ⟨#[32]⟩), .string ((⟨#[32]⟩ : ByteArray) ++ ⟨T.toArray⟩), .string ((⟨T.toArray⟩ : ByteArray) ++ ⟨#[41]⟩), .string ((⟨#[40]⟩ : ByteArray) ++ ⟨T.toArray⟩), .string ((⟨T.toArray⟩ : ByteArray).extract 0 j), .string ((⟨#[40]⟩ : ByteArray) ++ ⟨T.toArray⟩ ++ ⟨#[41]⟩), .string ((⟨T.toArray⟩ : ByteArray) ++ ⟨T.toArray⟩), .string ((⟨#[40, 60, 32, 118, 48, 32, 48, 49, 41]⟩ : ByteArray)), .string ((⟨#[40, 60, 32, 118, 48, 32, 43, 49, 41]⟩ : ByteArray)), .string ((⟨#[40, 60, 32, 118, 49, 50, 32, 49, 41]⟩ : ByteArray)), .string ((⟨#[40, 60, 32, 108, 101, 110, 52, 32, 49, 41]⟩ : ByteArray)), .string ((⟨#[40, 60, 32, 50, 49, 52, 55, 52, 56, 51, 54, 52, 56, 32, 49, 41]⟩ : ByteArray)), .string ((⟨#[40, 43, 32, 118, 48, 32, 49, 41]⟩ : ByteArray)), .string ((⟨#[40, 61, 32, 116, 114, 117, 101, 32, 116, 114, 117, 101, 41]⟩ : ByteArray)), .string ((⟨#[40, 97, 110, 100, 32, 116, 114, 117, 101, 41]⟩ : ByteArray)), .string ((⟨#[40, 110, 111, 116, 32, 116, 114, 117, 101, 32, 116, 114, 117, 101, 41]⟩ : ByteArray))] 9 (0, 0))).drew = wl at HBL HGB ⊢
  have HS3 := Lib.hid (HS.out.below HBL.out)
  have HB3 := Lib.hid (below_trans HBB.out HBL.out)
  generalize wg6s.heap.size = gb at HGB ⊢
  clear HS HBB HBL HMK hg6 Hg6 Hg2 e60 e61
  go_loopw [8] (fun s8 wr => ∃ k : Nat, k ≤ 16 ∧ s8 = .int .i64 (k : Int) ∧ Below wl.heap.size wl wr) (fun s8 _ => 16 - (intOf s8).toNat)
  case atStart => exact ⟨0, by decide, rfl, Below.refl _ _⟩
  case round =>
    obtain ⟨k, hk, rfl, hB⟩ := hrel
    have HBB := Lib.hid hB
    have HS := Lib.hid (HS3.out.below hB)
    have Hgb := Lib.hid (below_blk hB HGB.out)
    have HB4 := Lib.hid (below_trans HB3.out hB)
    clear hB HGB HS3
    have hk7 : k = 0 ∨ k = 1 ∨ k = 2 ∨ k = 3 ∨ k = 4 ∨ k = 5 ∨ k = 6 ∨ k = 7 ∨ k = 8 ∨ k = 9 ∨ k = 10 ∨ k = 11 ∨ k = 12 ∨ k = 13 ∨ k = 14 ∨ k = 15 ∨ k = 16 := by omega
    rcases hk7 with rfl | rfl | rfl | rfl | rfl | rfl | rfl | rfl | rfl | rfl | rfl | rfl | rfl | rfl | rfl | rfl | rfl
    · have cb := (blk_cell Hgb.out 0).trans (show _ = some _ from rfl)
      clear P1 P2 P3 P4 P5 P6 P7 P8 P9 P10 P11 P12 P13 P14 P15
      go_wp2_with (first
        | (go_at_call 17; with_reducible refine (P0.out _ HS.out).mono ?_; rintro en w17 ⟨rfl, hb⟩; have Hgb := Lib.hid (below_blk hb Hgb.out); have HBB := Lib.hid (below_trans HBB.out hb); have HS := Lib.hid (HS.out.below hb); clear hb)
        | ((with_reducible refine gate_dst (N := 9) rfl ?_); refine new_at rfl (N := 9) rfl #[.int .i64 0, .slice none 0 0, .slice none 0 0, .int .i64 0] 36 (by go_simp) ?_; intro g9 wg9 HGg9 Hg9 HBE; have hb := HBE.out; have HLg9 : Hid (wl.heap.size ≤ g9) := Lib.hid (by rw [HGg9.out]; exact HBB.out.size); have HFg9 := Lib.hid (HS.out.new (Nat.le_of_eq HGg9.out.symm)); have HNgbg9 : Hid (gb ≠ g9) := Lib.hid (by have := blk_lt Hgb.out; have := HGg9.out; omega); have HNg9gb : Hid (g9 ≠ gb) := Lib.hid (fun e => HNgbg9.out e.symm); have Hgb := Lib.hid (below_blk hb Hgb.out); have HBB := Lib.hid (below_trans HBB.out hb); have HS := Lib.hid (HS.out.below hb); clear hb HBE)
        | ((with_reducible refine gate_store (t := 36) (p := 9) rfl ?_); refine store_at rfl rfl 36 (.tmp 9) (.tmp 74) rfl g9 #[.int .i64 0, .slice none 0 0, .slice none 0 0, .int .i64 3] (by go_simp) (by go_simp) 36 Hg9.out size36 rfl (by simp [Value.oneCell']) ?_; intro wg9s Hg9n HBE; have Hgb := Lib.hid (grown_blk HBE.out Hgb.out (fun e => HNgbg9.out (Option.some.inj e))); have Hg9 := Hg9n; have HBB := Lib.hid (below_grown_new HBB.out HBE.out HLg9.out); have HS := Lib.hid (HS.out.grown HBE.out (fun k e => by cases e; exact HFg9.out)); clear HBE Hg9n; have e93 := (blk_cell Hg9.out 3).trans (show _ = some _ from rfl); have e90 := (blk_cell Hg9.out 0).trans (show _ = some _ from rfl)))
      go_roundw
      case rel => exact ⟨1, by decide, by go_num, HBB.out⟩
      case measure => simp [intOf]
    · have cb := (blk_cell Hgb.out 1).trans (show _ = some _ from rfl)
      clear P0 P2 P3 P4 P5 P6 P7 P8 P9 P10 P11 P12 P13 P14 P15
      go_wp2_with (first
        | (go_at_call 17; with_reducible refine (P1.out _ HS.out).mono ?_; rintro en w17 ⟨rfl, hb⟩; have Hgb := Lib.hid (below_blk hb Hgb.out); have HBB := Lib.hid (below_trans HBB.out hb); have HS := Lib.hid (HS.out.below hb); clear hb)
        | ((with_reducible refine gate_dst (N := 9) rfl ?_); refine new_at rfl (N := 9) rfl #[.int .i64 0, .slice none 0 0, .slice none 0 0, .int .i64 0] 36 (by go_simp) ?_; intro g9 wg9 HGg9 Hg9 HBE; have hb := HBE.out; have HLg9 : Hid (wl.heap.size ≤ g9) := Lib.hid (by rw [HGg9.out]; exact HBB.out.size); have HFg9 := Lib.hid (HS.out.new (Nat.le_of_eq HGg9.out.symm)); have HNgbg9 : Hid (gb ≠ g9) := Lib.hid (by have := blk_lt Hgb.out; have := HGg9.out; omega); have HNg9gb : Hid (g9 ≠ gb) := Lib.hid (fun e => HNgbg9.out e.symm); have Hgb := Lib.hid (below_blk hb Hgb.out); have HBB := Lib.hid (below_trans HBB.out hb); have HS := Lib.hid (HS.out.below hb); clear hb HBE)
        | ((with_reducible refine gate_store (t := 36) (p := 9) rfl ?_); refine store_at rfl rfl 36 (.tmp 9) (.tmp 74) rfl g9 #[.int .i64 0, .slice none 0 0, .slice none 0 0, .int .i64 3] (by go_simp) (by go_simp) 36 Hg9.out size36 rfl (by simp [Value.oneCell']) ?_; intro wg9s Hg9n HBE; have Hgb := Lib.hid (grown_blk HBE.out Hgb.out (fun e => HNgbg9.out (Option.some.inj e))); have Hg9 := Hg9n; have HBB := Lib.hid (below_grown_new HBB.out HBE.out HLg9.out); have HS := Lib.hid (HS.out.grown HBE.out (fun k e => by cases e; exact HFg9.out)); clear HBE Hg9n; have e93 := (blk_cell Hg9.out 3).trans (show _ = some _ from rfl); have e90 := (blk_cell Hg9.out 0).trans (show _ = some _ from rfl)))
      go_roundw
      case rel => exact ⟨2, by decide, by go_num, HBB.out⟩
      case measure => simp [intOf]
    · have cb := (blk_cell Hgb.out 2).trans (show _ = some _ from rfl)
      clear P0 P1 P3 P4 P5 P6 P7 P8 P9 P10 P11 P12 P13 P14 P15
      go_wp2_with (first
        | (go_at_call 17; with_reducible refine (P2.out _ HS.out).mono ?_; rintro en w17 ⟨rfl, hb⟩; have Hgb := Lib.hid (below_blk hb Hgb.out); have HBB := Lib.hid (below_trans HBB.out hb); have HS := Lib.hid (HS.out.below hb); clear hb)
        | ((with_reducible refine gate_dst (N := 9) rfl ?_); refine new_at rfl (N := 9) rfl #[.int .i64 0, .slice none 0 0, .slice none 0 0, .int .i64 0] 36 (by go_simp) ?_; intro g9 wg9 HGg9 Hg9 HBE; have hb := HBE.out; have HLg9 : Hid (wl.heap.size ≤ g9) := Lib.hid (by rw [HGg9.out]; exact HBB.out.size); have HFg9 := Lib.hid (HS.out.new (Nat.le_of_eq HGg9.out.symm)); have HNgbg9 : Hid (gb ≠ g9) := Lib.hid (by have := blk_lt Hgb.out; have := HGg9.out; omega); have HNg9gb : Hid (g9 ≠ gb) := Lib.hid (fun e => HNgbg9.out e.symm); have Hgb := Lib.hid (below_blk hb Hgb.out); have HBB := Lib.hid (below_trans HBB.out hb); have HS := Lib.hid (HS.out.below hb); clear hb HBE)
        | ((with_reducible refine gate_store (t := 36) (p := 9) rfl ?_); refine store_at rfl rfl 36 (.tmp 9) (.tmp 74) rfl g9 #[.int .i64 0, .slice none 0 0, .slice none 0 0, .int .i64 3] (by go_simp) (by go_simp) 36 Hg9.out size36 rfl (by simp [Value.oneCell']) ?_; intro wg9s Hg9n HBE; have Hgb := Lib.hid (grown_blk HBE.out Hgb.out (fun e => HNgbg9.out (Option.some.inj e))); have Hg9 := Hg9n; have HBB := Lib.hid (below_grown_new HBB.out HBE.out HLg9.out); have HS := Lib.hid (HS.out.grown HBE.out (fun k e => by cases e; exact HFg9.out)); clear HBE Hg9n; have e93 := (blk_cell Hg9.out 3).trans (show _ = some _ from rfl); have e90 := (blk_cell Hg9.out 0).trans (show _ = some _ from rfl)))
      go_roundw
      case rel => exact ⟨3, by decide, by go_num, HBB.out⟩
      case measure => simp [intOf]
    · have cb := (blk_cell Hgb.out 3).trans (show _ = some _ from rfl)
      clear P0 P1 P2 P4 P5 P6 P7 P8 P9 P10 P11 P12 P13 P14 P15
      go_wp2_with (first
        | (go_at_call 17; with_reducible refine (P3.out _ HS.out).mono ?_; rintro en w17 ⟨rfl, hb⟩; have Hgb := Lib.hid (below_blk hb Hgb.out); have HBB := Lib.hid (below_trans HBB.out hb); have HS := Lib.hid (HS.out.below hb); clear hb)
        | ((with_reducible refine gate_dst (N := 9) rfl ?_); refine new_at rfl (N := 9) rfl #[.int .i64 0, .slice none 0 0, .slice none 0 0, .int .i64 0] 36 (by go_simp) ?_; intro g9 wg9 HGg9 Hg9 HBE; have hb := HBE.out; have HLg9 : Hid (wl.heap.size ≤ g9) := Lib.hid (by rw [HGg9.out]; exact HBB.out.size); have HFg9 := Lib.hid (HS.out.new (Nat.le_of_eq HGg9.out.symm)); have HNgbg9 : Hid (gb ≠ g9) := Lib.hid (by have := blk_lt Hgb.out; have := HGg9.out; omega); have HNg9gb : Hid (g9 ≠ gb) := Lib.hid (fun e => HNgbg9.out e.symm); have Hgb := Lib.hid (below_blk hb Hgb.out); have HBB := Lib.hid (below_trans HBB.out hb); have HS := Lib.hid (HS.out.below hb); clear hb HBE)
        | ((with_reducible refine gate_store (t := 36) (p := 9) rfl ?_); refine store_at rfl rfl 36 (.tmp 9) (.tmp 74) rfl g9 #[.int .i64 0, .slice none 0 0, .slice none 0 0, .int .i64 3] (by go_simp) (by go_simp) 36 Hg9.out size36 rfl (by simp [Value.oneCell']) ?_; intro wg9s Hg9n HBE; have Hgb := Lib.hid (grown_blk HBE.out Hgb.out (fun e => HNgbg9.out (Option.some.inj e))); have Hg9 := Hg9n; have HBB := Lib.hid (below_grown_new HBB.out HBE.out HLg9.out); have HS := Lib.hid (HS.out.grown HBE.out (fun k e => by cases e; exact HFg9.out)); clear HBE Hg9n; have e93 := (blk_cell Hg9.out 3).trans (show _ = some _ from rfl); have e90 := (blk_cell Hg9.out 0).trans (show _ = some _ from rfl)))
      go_roundw
      case rel => exact ⟨4, by decide, by go_num, HBB.out⟩
      case measure => simp [intOf]
    · have cb := (blk_cell Hgb.out 4).trans (show _ = some _ from rfl)
      clear P0 P1 P2 P3 P5 P6 P7 P8 P9 P10 P11 P12 P13 P14 P15
      go_wp2_with (first
        | (go_at_call 17; with_reducible refine (P4.out _ HS.out).mono ?_; rintro en w17 ⟨rfl, hb⟩; have Hgb := Lib.hid (below_blk hb Hgb.out); have HBB := Lib.hid (below_trans HBB.out hb); have HS := Lib.hid (HS.out.below hb); clear hb)
        | ((with_reducible refine gate_dst (N := 9) rfl ?_); refine new_at rfl (N := 9) rfl #[.int .i64 0, .slice none 0 0, .slice none 0 0, .int .i64 0] 36 (by go_simp) ?_; intro g9 wg9 HGg9 Hg9 HBE; have hb := HBE.out; have HLg9 : Hid (wl.heap.size ≤ g9) := Lib.hid (by rw [HGg9.out]; exact HBB.out.size); have HFg9 := Lib.hid (HS.out.new (Nat.le_of_eq HGg9.out.symm)); have HNgbg9 : Hid (gb ≠ g9) := Lib.hid (by have := blk_lt Hgb.out; have := HGg9.out; omega); have HNg9gb : Hid (g9 ≠ gb) := Lib.hid (fun e => HNgbg9.out e.symm); have Hgb := Lib.hid (below_blk hb Hgb.out); have HBB := Lib.hid (below_trans HBB.out hb); have HS := Lib.hid (HS.out.below hb); clear hb HBE)
        | ((with_reducible refine gate_store (t := 36) (p := 9) rfl ?_); refine store_at rfl rfl 36 (.tmp 9) (.tmp 74) rfl g9 #[.int .i64 0, .slice none 0 0, .slice none 0 0, .int .i64 3] (by go_simp) (by go_simp) 36 Hg9.out size36 rfl (by simp [Value.oneCell']) ?_; intro wg9s Hg9n HBE; have Hgb := Lib.hid (grown_blk HBE.out Hgb.out (fun e => HNgbg9.out (Option.some.inj e))); have Hg9 := Hg9n; have HBB := Lib.hid (below_grown_new HBB.out HBE.out HLg9.out); have HS := Lib.hid (HS.out.grown HBE.out (fun k e => by cases e; exact HFg9.out)); clear HBE Hg9n; have e93 := (blk_cell Hg9.out 3).trans (show _ = some _ from rfl); have e90 := (blk_cell Hg9.out 0).trans (show _ = some _ from rfl)))
      go_roundw
      case rel => exact ⟨5, by decide, by go_num, HBB.out⟩
      case measure => simp [intOf]
    · have cb := (blk_cell Hgb.out 5).trans (show _ = some _ from rfl)
      clear P0 P1 P2 P3 P4 P6 P7 P8 P9 P10 P11 P12 P13 P14 P15
      go_wp2_with (first
        | (go_at_call 17; with_reducible refine (P5.out _ HS.out).mono ?_; rintro en w17 ⟨rfl, hb⟩; have Hgb := Lib.hid (below_blk hb Hgb.out); have HBB := Lib.hid (below_trans HBB.out hb); have HS := Lib.hid (HS.out.below hb); clear hb)
        | ((with_reducible refine gate_dst (N := 9) rfl ?_); refine new_at rfl (N := 9) rfl #[.int .i64 0, .slice none 0 0, .slice none 0 0, .int .i64 0] 36 (by go_simp) ?_; intro g9 wg9 HGg9 Hg9 HBE; have hb := HBE.out; have HLg9 : Hid (wl.heap.size ≤ g9) := Lib.hid (by rw [HGg9.out]; exact HBB.out.size); have HFg9 := Lib.hid (HS.out.new (Nat.le_of_eq HGg9.out.symm)); have HNgbg9 : Hid (gb ≠ g9) := Lib.hid (by have := blk_lt Hgb.out; have := HGg9.out; omega); have HNg9gb : Hid (g9 ≠ gb) := Lib.hid (fun e => HNgbg9.out e.symm); have Hgb := Lib.hid (below_blk hb Hgb.out); have HBB := Lib.hid (below_trans HBB.out hb); have HS := Lib.hid (HS.out.below hb); clear hb HBE)
        | ((with_reducible refine gate_store (t := 36) (p := 9) rfl ?_); refine store_at rfl rfl 36 (.tmp 9) (.tmp 74) rfl g9 #[.int .i64 0, .slice none 0 0, .slice none 0 0, .int .i64 3] (by go_simp) (by go_simp) 36 Hg9.out size36 rfl (by simp [Value.oneCell']) ?_; intro wg9s Hg9n HBE; have Hgb := Lib.hid (grown_blk HBE.out Hgb.out (fun e => HNgbg9.out (Option.some.inj e))); have Hg9 := Hg9n; have HBB := Lib.hid (below_grown_new HBB.out HBE.out HLg9.out); have HS := Lib.hid (HS.out.grown HBE.out (fun k e => by cases e; exact HFg9.out)); clear HBE Hg9n; have e93 := (blk_cell Hg9.out 3).trans (show _ = some _ from rfl); have e90 := (blk_cell Hg9.out 0).trans (show _ = some _ from rfl)))
      go_roundw
      case rel => exact ⟨6, by decide, by go_num, HBB.out⟩
      case measure => simp [intOf]
    · have cb := (blk_cell Hgb.out 6).trans (show _ = some _ from rfl)
      clear P0 P1 P2 P3 P4 P5 P7 P8 P9 P10 P11 P12 P13 P14 P15
      go_wp2_with (first
        | (go_at_call 17; with_reducible refine (P6.out _ HS.out).mono ?_; rintro en w17 ⟨rfl, hb⟩; have Hgb := Lib.hid (below_blk hb Hgb.out); have HBB := Lib.hid (below_trans HBB.out hb); have HS := Lib.hid (HS.out.below hb); clear hb)
        | ((with_reducible refine gate_dst (N := 9) rfl ?_); refine new_at rfl (N := 9) rfl #[.int .i64 0, .slice none 0 0, .slice none 0 0, .int .i64 0] 36 (by go_simp) ?_; intro g9 wg9 HGg9 Hg9 HBE; have hb := HBE.out; have HLg9 : Hid (wl.heap.size ≤ g9) := Lib.hid (by rw [HGg9.out]; exact HBB.out.size); have HFg9 := Lib.hid (HS.out.new (Nat.le_of_eq HGg9.out.symm)); have HNgbg9 : Hid (gb ≠ g9) := Lib.hid (by have := blk_lt Hgb.out; have := HGg9.out; omega); have HNg9gb : Hid (g9 ≠ gb) := Lib.hid (fun e => HNgbg9.out e.symm); have Hgb := Lib.hid (below_blk hb Hgb.out); have HBB := Lib.hid (below_trans HBB.out hb); have HS := Lib.hid (HS.out.below hb); clear hb HBE)
        | ((with_reducible refine gate_store (t := 36) (p := 9) rfl ?_); refine store_at rfl rfl 36 (.tmp 9) (.tmp 74) rfl g9 #[.int .i64 0, .slice none 0 0, .slice none 0 0, .int .i64 3] (by go_simp) (by go_simp) 36 Hg9.out size36 rfl (by simp [Value.oneCell']) ?_; intro wg9s Hg9n HBE; have Hgb := Lib.hid (grown_blk HBE.out Hgb.out (fun e => HNgbg9.out (Option.some.inj e))); have Hg9 := Hg9n; have HBB := Lib.hid (below_grown_new HBB.out HBE.out HLg9.out); have HS := Lib.hid (HS.out.grown HBE.out (fun k e => by cases e; exact HFg9.out)); clear HBE Hg9n; have e93 := (blk_cell Hg9.out 3).trans (show _ = some _ from rfl); have e90 := (blk_cell Hg9.out 0).trans (show _ = some _ from rfl)))
      go_roundw
      case rel => exact ⟨7, by decide, by go_num, HBB.out⟩
      case measure => simp [intOf]
    · have cb := (blk_cell Hgb.out 7).trans (show _ = some _ from rfl)
      clear P0 P1 P2 P3 P4 P5 P6 P8 P9 P10 P11 P12 P13 P14 P15
      go_wp2_with (first
        | (go_at_call 17; with_reducible refine (P7.out _ HS.out).mono ?_; rintro en w17 ⟨rfl, hb⟩; have Hgb := Lib.hid (below_blk hb Hgb.out); have HBB := Lib.hid (below_trans HBB.out hb); have HS := Lib.hid (HS.out.below hb); clear hb)
        | ((with_reducible refine gate_dst (N := 9) rfl ?_); refine new_at rfl (N := 9) rfl #[.int .i64 0, .slice none 0 0, .slice none 0 0, .int .i64 0] 36 (by go_simp) ?_; intro g9 wg9 HGg9 Hg9 HBE; have hb := HBE.out; have HLg9 : Hid (wl.heap.size ≤ g9) := Lib.hid (by rw [HGg9.out]; exact HBB.out.size); have HFg9 := Lib.hid (HS.out.new (Nat.le_of_eq HGg9.out.symm)); have HNgbg9 : Hid (gb ≠ g9) := Lib.hid (by have := blk_lt Hgb.out; have := HGg9.out; omega); have HNg9gb : Hid (g9 ≠ gb) := Lib.hid (fun e => HNgbg9.out e.symm); have Hgb := Lib.hid (below_blk hb Hgb.out); have HBB := Lib.hid (below_trans HBB.out hb); have HS := Lib.hid (HS.out.below hb); clear hb HBE)
        | ((with_reducible refine gate_store (t := 36) (p := 9) rfl ?_); refine store_at rfl rfl 36 (.tmp 9) (.tmp 74) rfl g9 #[.int .i64 0, .slice none 0 0, .slice none 0 0, .int .i64 3] (by go_simp) (by go_simp) 36 Hg9.out size36 rfl (by simp [Value.oneCell']) ?_; intro wg9s Hg9n HBE; have Hgb := Lib.hid (grown_blk HBE.out Hgb.out (fun e => HNgbg9.out (Option.some.inj e))); have Hg9 := Hg9n; have HBB := Lib.hid (below_grown_new HBB.out HBE.out HLg9.out); have HS := Lib.hid (HS.out.grown HBE.out (fun k e => by cases e; exact HFg9.out)); clear HBE Hg9n; have e93 := (blk_cell Hg9.out 3).trans (show _ = some _ from rfl); have e90 := (blk_cell Hg9.out 0).trans (show _ = some _ from rfl)))
      go_roundw
      case rel => exact ⟨8, by decide, by go_num, HBB.out⟩
      case measure => simp [intOf]
    · have cb := (blk_cell Hgb.out 8).trans (show _ = some _ from rfl)
      clear P0 P1 P2 P3 P4 P5 P6 P7 P9 P10 P11 P12 P13 P14 P15
      go_wp2_with (first
        | (go_at_call 17; with_reducible refine (P8.out _ HS.out).mono ?_; rintro en w17 ⟨rfl, hb⟩; have Hgb := Lib.hid (below_blk hb Hgb.out); have HBB := Lib.hid (below_trans HBB.out hb); have HS := Lib.hid (HS.out.below hb); clear hb)
        | ((with_reducible refine gate_dst (N := 9) rfl ?_); refine new_at rfl (N := 9) rfl #[.int .i64 0, .slice none 0 0, .slice none 0 0, .int .i64 0] 36 (by go_simp) ?_; intro g9 wg9 HGg9 Hg9 HBE; have hb := HBE.out; have HLg9 : Hid (wl.heap.size ≤ g9) := Lib.hid (by rw [HGg9.out]; exact HBB.out.size); have HFg9 := Lib.hid (HS.out.new (Nat.le_of_eq HGg9.out.symm)); have HNgbg9 : Hid (gb ≠ g9) := Lib.hid (by have := blk_lt Hgb.out; have := HGg9.out; omega); have HNg9gb : Hid (g9 ≠ gb) := Lib.hid (fun e => HNgbg9.out e.symm); have Hgb := Lib.hid (below_blk hb Hgb.out); have HBB := Lib.hid (below_trans HBB.out hb); have HS := Lib.hid (HS.out.below hb); clear hb HBE)
        | ((with_reducible refine gate_store (t := 36) (p := 9) rfl ?_); refine store_at rfl rfl 36 (.tmp 9) (.tmp 74) rfl g9 #[.int .i64 0, .slice none 0 0, .slice none 0 0, .int .i64 3] (by go_simp) (by go_simp) 36 Hg9.out size36 rfl (by simp [Value.oneCell']) ?_; intro wg9s Hg9n HBE; have Hgb := Lib.hid (grown_blk HBE.out Hgb.out (fun e => HNgbg9.out (Option.some.inj e))); have Hg9 := Hg9n; have HBB := Lib.hid (below_grown_new HBB.out HBE.out HLg9.out); have HS := Lib.hid (HS.out.grown HBE.out (fun k e => by cases e; exact HFg9.out)); clear HBE Hg9n; have e93 := (blk_cell Hg9.out 3).trans (show _ = some _ from rfl); have e90 := (blk_cell Hg9.out 0).trans (show _ = some _ from rfl)))
      go_roundw
      case rel => exact ⟨9, by decide, by go_num, HBB.out⟩
      case measure => simp [intOf]
    · have cb := (blk_cell Hgb.out 9).trans (show _ = some _ from rfl)
      clear P0 P1 P2 P3 P4 P5 P6 P7 P8 P10 P11 P12 P13 P14 P15
      go_wp2_with (first
        | (go_at_call 17; with_reducible refine (P9.out _ HS.out).mono ?_; rintro en w17 ⟨rfl, hb⟩; have Hgb := Lib.hid (below_blk hb Hgb.out); have HBB := Lib.hid (below_trans HBB.out hb); have HS := Lib.hid (HS.out.below hb); clear hb)
        | ((with_reducible refine gate_dst (N := 9) rfl ?_); refine new_at rfl (N := 9) rfl #[.int .i64 0, .slice none 0 0, .slice none 0 0, .int .i64 0] 36 (by go_simp) ?_; intro g9 wg9 HGg9 Hg9 HBE; have hb := HBE.out; have HLg9 : Hid (wl.heap.size ≤ g9) := Lib.hid (by rw [HGg9.out]; exact HBB.out.size); have HFg9 := Lib.hid (HS.out.new (Nat.le_of_eq HGg9.out.symm)); have HNgbg9 : Hid (gb ≠ g9) := Lib.hid (by have := blk_lt Hgb.out; have := HGg9.out; omega); have HNg9gb : Hid (g9 ≠ gb) := Lib.hid (fun e => HNgbg9.out e.symm); have Hgb := Lib.hid (below_blk hb Hgb.out); have HBB := Lib.hid (below_trans HBB.out hb); have HS := Lib.hid (HS.out.below hb); clear hb HBE)
        | ((with_reducible refine gate_store (t := 36) (p := 9) rfl ?_); refine store_at rfl rfl 36 (.tmp 9) (.tmp 74) rfl g9 #[.int .i64 0, .slice none 0 0, .slice none 0 0, .int .i64 3] (by go_simp) (by go_simp) 36 Hg9.out size36 rfl (by simp [Value.oneCell']) ?_; intro wg9s Hg9n HBE; have Hgb := Lib.hid (grown_blk HBE.out Hgb.out (fun e => HNgbg9.out (Option.some.inj e))); have Hg9 := Hg9n; have HBB := Lib.hid (below_grown_new HBB.out HBE.out HLg9.out); have HS := Lib.hid (HS.out.grown HBE.out (fun k e => by cases e; exact HFg9.out)); clear HBE Hg9n; have e93 := (blk_cell Hg9.out 3).trans (show _ = some _ from rfl); have e90 := (blk_cell Hg9.out 0).trans (show _ = some _ from rfl)))
      go_roundw
      case rel => exact ⟨10, by decide, by go_num, HBB.out⟩
      case measure => simp [intOf]
    · have cb := (blk_cell Hgb.out 10).trans (show _ = some _ from rfl)
      clear P0 P1 P2 P3 P4 P5 P6 P7 P8 P9 P11 P12 P13 P14 P15
      go_wp2_with (first
        | (go_at_call 17; with_reducible refine (P10.out _ HS.out).mono ?_; rintro en w17 ⟨rfl, hb⟩; have Hgb := Lib.hid (below_blk hb Hgb.out); have HBB := Lib.hid (below_trans HBB.out hb); have HS := Lib.hid (HS.out.below hb); clear hb)
        | ((with_reducible refine gate_dst (N := 9) rfl ?_); refine new_at rfl (N := 9) rfl #[.int .i64 0, .slice none 0 0, .slice none 0 0, .int .i64 0] 36 (by go_simp) ?_; intro g9 wg9 HGg9 Hg9 HBE; have hb := HBE.out; have HLg9 : Hid (wl.heap.size ≤ g9) := Lib.hid (by rw [HGg9.out]; exact HBB.out.size); have HFg9 := Lib.hid (HS.out.new (Nat.le_of_eq HGg9.out.symm)); have HNgbg9 : Hid (gb ≠ g9) := Lib.hid (by have := blk_lt Hgb.out; have := HGg9.out; omega); have HNg9gb : Hid (g9 ≠ gb) := Lib.hid (fun e => HNgbg9.out e.symm); have Hgb := Lib.hid (below_blk hb Hgb.out); have HBB := Lib.hid (below_trans HBB.out hb); have HS := Lib.hid (HS.out.below hb); clear hb HBE)
        | ((with_reducible refine gate_store (t := 36) (p := 9) rfl ?_); refine store_at rfl rfl 36 (.tmp 9) (.tmp 74) rfl g9 #[.int .i64 0, .slice none 0 0, .slice none 0 0, .int .i64 3] (by go_simp) (by go_simp) 36 Hg9.out size36 rfl (by simp [Value.oneCell']) ?_; intro wg9s Hg9n HBE; have Hgb := Lib.hid (grown_blk HBE.out Hgb.out (fun e => HNgbg9.out (Option.some.inj e))); have Hg9 := Hg9n; have HBB := Lib.hid (below_grown_new HBB.out HBE.out HLg9.out); have HS := Lib.hid (HS.out.grown HBE.out (fun k e => by cases e; exact HFg9.out)); clear HBE Hg9n; have e93 := (blk_cell Hg9.out 3).trans (show _ = some _ from rfl); have e90 := (blk_cell Hg9.out 0).trans (show _ = some _ from rfl)))
      go_roundw
      case rel => exact ⟨11, by decide, by go_num, HBB.out⟩
      case measure => simp [intOf]
    · have cb := (blk_cell Hgb.out 11).trans (show _ = some _ from rfl)
      clear P0 P1 P2 P3 P4 P5 P6 P7 P8 P9 P10 P12 P13 P14 P15
      go_wp2_with (first
        | (go_at_call 17; with_reducible refine (P11.out _ HS.out).mono ?_; rintro en w17 ⟨rfl, hb⟩; have Hgb := Lib.hid (below_blk hb Hgb.out); have HBB := Lib.hid (below_trans HBB.out hb); have HS := Lib.hid (HS.out.below hb); clear hb)
        | ((with_reducible refine gate_dst (N := 9) rfl ?_); refine new_at rfl (N := 9) rfl #[.int .i64 0, .slice none 0 0, .slice none 0 0, .int .i64 0] 36 (by go_simp) ?_; intro g9 wg9 HGg9 Hg9 HBE; have hb := HBE.out; have HLg9 : Hid (wl.heap.size ≤ g9) := Lib.hid (by rw [HGg9.out]; exact HBB.out.size); have HFg9 := Lib.hid (HS.out.new (Nat.le_of_eq HGg9.out.symm)); have HNgbg9 : Hid (gb ≠ g9) := Lib.hid (by have := blk_lt Hgb.out; have := HGg9.out; omega); have HNg9gb : Hid (g9 ≠ gb) := Lib.hid (fun e => HNgbg9.out e.symm); have Hgb := Lib.hid (below_blk hb Hgb.out); have HBB := Lib.hid (below_trans HBB.out hb); have HS := Lib.hid (HS.out.below hb); clear hb HBE)
        | ((with_reducible refine gate_store (t := 36) (p := 9) rfl ?_); refine store_at rfl rfl 36 (.tmp 9) (.tmp 74) rfl g9 #[.int .i64 0, .slice none 0 0, .slice none 0 0, .int .i64 3] (by go_simp) (by go_simp) 36 Hg9.out size36 rfl (by simp [Value.oneCell']) ?_; intro wg9s Hg9n HBE; have Hgb := Lib.hid (grown_blk HBE.out Hgb.out (fun e => HNgbg9.out (Option.some.inj e))); have Hg9 := Hg9n; have HBB := Lib.hid (below_grown_new HBB.out HBE.out HLg9.out); have HS := Lib.hid (HS.out.grown HBE.out (fun k e => by cases e; exact HFg9.out)); clear HBE Hg9n; have e93 := (blk_cell Hg9.out 3).trans (show _ = some _ from rfl); have e90 := (blk_cell Hg9.out 0).trans (show _ = some _ from rfl)))
      go_roundw
      case rel => exact ⟨12, by decide, by go_num, HBB.out⟩
      case measure => simp [intOf]
    · have cb := (blk_cell Hgb.out 12).trans (show _ = some _ from rfl)
      clear P0 P1 P2 P3 P4 P5 P6 P7 P8 P9 P10 P11 P13 P14 P15
      go_wp2_with (first
        | (go_at_call 17; with_reducible refine (P12.out _ HS.out).mono ?_; rintro en w17 ⟨rfl, hb⟩; have Hgb := Lib.hid (below_blk hb Hgb.out); have HBB := Lib.hid (below_trans HBB.out hb); have HS := Lib.hid (HS.out.below hb); clear hb)
        | ((with_reducible refine gate_dst (N := 9) rfl ?_); refine new_at rfl (N := 9) rfl #[.int .i64 0, .slice none 0 0, .slice none 0 0, .int .i64 0] 36 (by go_simp) ?_; intro g9 wg9 HGg9 Hg9 HBE; have hb := HBE.out; have HLg9 : Hid (wl.heap.size ≤ g9) := Lib.hid (by rw [HGg9.out]; exact HBB.out.size); have HFg9 := Lib.hid (HS.out.new (Nat.le_of_eq HGg9.out.symm)); have HNgbg9 : Hid (gb ≠ g9) := Lib.hid (by have := blk_lt Hgb.out; have := HGg9.out; omega); have HNg9gb : Hid (g9 ≠ gb) := Lib.hid (fun e => HNgbg9.out e.symm); have Hgb := Lib.hid (below_blk hb Hgb.out); have HBB := Lib.hid (below_trans HBB.out hb); have HS := Lib.hid (HS.out.below hb); clear hb HBE)
        | ((with_reducible refine gate_store (t := 36) (p := 9) rfl ?_); refine store_at rfl rfl 36 (.tmp 9) (.tmp 74) rfl g9 #[.int .i64 0, .slice none 0 0, .slice none 0 0, .int .i64 3] (by go_simp) (by go_simp) 36 Hg9.out size36 rfl (by simp [Value.oneCell']) ?_; intro wg9s Hg9n HBE; have Hgb := Lib.hid (grown_blk HBE.out Hgb.out (fun e => HNgbg9.out (Option.some.inj e))); have Hg9 := Hg9n; have HBB := Lib.hid (below_grown_new HBB.out HBE.out HLg9.out); have HS := Lib.hid (HS.out.grown HBE.out (fun k e => by cases e; exact HFg9.out)); clear HBE Hg9n; have e93 := (blk_cell Hg9.out 3).trans (show _ = some _ from rfl); have e90 := (blk_cell Hg9.out 0).trans (show _ = some _ from rfl)))
      go_roundw
      case rel => exact ⟨13, by decide, by go_num, HBB.out⟩
      case measure => simp [intOf]
    · have cb := (blk_cell Hgb.out 13).trans (show _ = some _ from rfl)
      clear P0 P1 P2 P3 P4 P5 P6 P7 P8 P9 P10 P11 P12 P14 P15
      go_wp2_with (first
        | (go_at_call 17; with_reducible refine (P13.out _ HS.out).mono ?_; rintro en w17 ⟨rfl, hb⟩; have Hgb := Lib.hid (below_blk hb Hgb.out); have HBB := Lib.hid (below_trans HBB.out hb); have HS := Lib.hid (HS.out.below hb); clear hb)
        | ((with_reducible refine gate_dst (N := 9) rfl ?_); refine new_at rfl (N := 9) rfl #[.int .i64 0, .slice none 0 0, .slice none 0 0, .int .i64 0] 36 (by go_simp) ?_; intro g9 wg9 HGg9 Hg9 HBE; have hb := HBE.out; have HLg9 : Hid (wl.heap.size ≤ g9) := Lib.hid (by rw [HGg9.out]; exact HBB.out.size); have HFg9 := Lib.hid (HS.out.new (Nat.le_of_eq HGg9.out.symm)); have HNgbg9 : Hid (gb ≠ g9) := Lib.hid (by have := blk_lt Hgb.out; have := HGg9.out; omega); have HNg9gb : Hid (g9 ≠ gb) := Lib.hid (fun e => HNgbg9.out e.symm); have Hgb := Lib.hid (below_blk hb Hgb.out); have HBB := Lib.hid (below_trans HBB.out hb); have HS := Lib.hid (HS.out.below hb); clear hb HBE)
        | ((with_reducible refine gate_store (t := 36) (p := 9) rfl ?_); refine store_at rfl rfl 36 (.tmp 9) (.tmp 74) rfl g9 #[.int .i64 0, .slice none 0 0, .slice none 0 0, .int .i64 3] (by go_simp) (by go_simp) 36 Hg9.out size36 rfl (by simp [Value.oneCell']) ?_; intro wg9s Hg9n HBE; have Hgb := Lib.hid (grown_blk HBE.out Hgb.out (fun e => HNgbg9.out (Option.some.inj e))); have Hg9 := Hg9n; have HBB := Lib.hid (below_grown_new HBB.out HBE.out HLg9.out); have HS := Lib.hid (HS.out.grown HBE.out (fun k e => by cases e; exact HFg9.out)); clear HBE Hg9n; have e93 := (blk_cell Hg9.out 3).trans (show _ = some _ from rfl); have e90 := (blk_cell Hg9.out 0).trans (show _ = some _ from rfl)))
      go_roundw
      case rel => exact ⟨14, by decide, by go_num, HBB.out⟩
      case measure => simp [intOf]
    · have cb := (blk_cell Hgb.out 14).trans (show _ = some _ from rfl)
      clear P0 P1 P2 P3 P4 P5 P6 P7 P8 P9 P10 P11 P12 P13 P15
      go_wp2_with (first
        | (go_at_call 17; with_reducible refine (P14.out _ HS.out).mono ?_; rintro en w17 ⟨rfl, hb⟩; have Hgb := Lib.hid (below_blk hb Hgb.out); have HBB := Lib.hid (below_trans HBB.out hb); have HS := Lib.hid (HS.out.below hb); clear hb)
        | ((with_reducible refine gate_dst (N := 9) rfl ?_); refine new_at rfl (N := 9) rfl #[.int .i64 0, .slice none 0 0, .slice none 0 0, .int .i64 0] 36 (by go_simp) ?_; intro g9 wg9 HGg9 Hg9 HBE; have hb := HBE.out; have HLg9 : Hid (wl.heap.size ≤ g9) := Lib.hid (by rw [HGg9.out]; exact HBB.out.size); have HFg9 := Lib.hid (HS.out.new (Nat.le_of_eq HGg9.out.symm)); have HNgbg9 : Hid (gb ≠ g9) := Lib.hid (by have := blk_lt Hgb.out; have := HGg9.out; omega); have HNg9gb : Hid (g9 ≠ gb) := Lib.hid (fun e => HNgbg9.out e.symm); have Hgb := Lib.hid (below_blk hb Hgb.out); have HBB := Lib.hid (below_trans HBB.out hb); have HS := Lib.hid (HS.out.below hb); clear hb HBE)
        | ((with_reducible refine gate_store (t := 36) (p := 9) rfl ?_); refine store_at rfl rfl 36 (.tmp 9) (.tmp 74) rfl g9 #[.int .i64 0, .slice none 0 0, .slice none 0 0, .int .i64 3] (by go_simp) (by go_simp) 36 Hg9.out size36 rfl (by simp [Value.oneCell']) ?_; intro wg9s Hg9n HBE; have Hgb := Lib.hid (grown_blk HBE.out Hgb.out (fun e => HNgbg9.out (Option.some.inj e))); have Hg9 := Hg9n; have HBB := Lib.hid (below_grown_new HBB.out HBE.out HLg9.out); have HS := Lib.hid (HS.out.grown HBE.out (fun k e => by cases e; exact HFg9.out)); clear HBE Hg9n; have e93 := (blk_cell Hg9.out 3).trans (show _ = some _ from rfl); have e90 := (blk_cell Hg9.out 0).trans (show _ = some _ from rfl)))
      go_roundw
      case rel => exact ⟨15, by decide, by go_num, HBB.out⟩
      case measure => simp [intOf]
    · have cb := (blk_cell Hgb.out 15).trans (show _ = some _ from rfl)
      clear P0 P1 P2 P3 P4 P5 P6 P7 P8 P9 P10 P11 P12 P13 P14
      go_wp2_with (first
        | (go_at_call 17; with_reducible refine (P15.out _ HS.out).mono ?_; rintro en w17 ⟨rfl, hb⟩; have Hgb := Lib.hid (below_blk hb Hgb.out); have HBB := Lib.hid (below_trans HBB.out hb); have HS := Lib.hid (HS.out.below hb); clear hb)
        | ((with_reducible refine gate_dst (N := 9) rfl ?_); refine new_at rfl (N := 9) rfl #[.int .i64 0, .slice none 0 0, .slice none 0 0, .int .i64 0] 36 (by go_simp) ?_; intro g9 wg9 HGg9 Hg9 HBE; have hb := HBE.out; have HLg9 : Hid (wl.heap.size ≤ g9) := Lib.hid (by rw [HGg9.out]; exact HBB.out.size); have HFg9 := Lib.hid (HS.out.new (Nat.le_of_eq HGg9.out.symm)); have HNgbg9 : Hid (gb ≠ g9) := Lib.hid (by have := blk_lt Hgb.out; have := HGg9.out; omega); have HNg9gb : Hid (g9 ≠ gb) := Lib.hid (fun e => HNgbg9.out e.symm); have Hgb := Lib.hid (below_blk hb Hgb.out); have HBB := Lib.hid (below_trans HBB.out hb); have HS := Lib.hid (HS.out.below hb); clear hb HBE)
        | ((with_reducible refine gate_store (t := 36) (p := 9) rfl ?_); refine store_at rfl rfl 36 (.tmp 9) (.tmp 74) rfl g9 #[.int .i64 0, .slice none 0 0, .slice none 0 0, .int .i64 3] (by go_simp) (by go_simp) 36 Hg9.out size36 rfl (by simp [Value.oneCell']) ?_; intro wg9s Hg9n HBE; have Hgb := Lib.hid (grown_blk HBE.out Hgb.out (fun e => HNgbg9.out (Option.some.inj e))); have Hg9 := Hg9n; have HBB := Lib.hid (below_grown_new HBB.out HBE.out HLg9.out); have HS := Lib.hid (HS.out.grown HBE.out (fun k e => by cases e; exact HFg9.out)); clear HBE Hg9n; have e93 := (blk_cell Hg9.out 3).trans (show _ = some _ from rfl); have e90 := (blk_cell Hg9.out 0).trans (show _ = some _ from rfl)))
      go_roundw
      case rel => exact ⟨16, by decide, by go_num, HBB.out⟩
      case measure => simp [intOf]
    · go_wp2
      go_ret
      exact ⟨rfl, HB4.out⟩
theorem txC_pos (e : Cn) (h : okP e = true) : txC e ≠ [] := fun hn => by
  have := parse_text h
  rw [hn, ex_bad4] at this
  cases this
theorem refuses_calls (e : Cn) (hsz : e.size < 1073741824) (S : Snap) (hL : LibOk S) (w : World) (hS : Agr S w) (A B : Option Addr) (c dd : Nat) (hr : RepC S e [.int .i64 e.op, .slice A e.a.length c, .slice B e.c.length dd]) (m : Nat) (hm : m < 256) :
    Calls Tryz.prog 4 #[.agg #[.int .i64 e.op, .slice A e.a.length c, .slice B e.c.length dd], .int .u8 m] w fun en w' => en = .returned (.bool true) ∧ Below w.heap.size w w' := by
  by_cases h1 : (100 : Int) < (e.size : Int)
  · exact refuses_1 e hsz S hL w hS A B c dd hr m hm h1
  · cases ho : okP e with
    | false => exact refuses_2 e hsz S hL w hS A B c dd hr m hm h1 ho
    | true =>
      have hl := (txC_len 12 4 (by decide) (by decide) e.size e (Nat.le_refl _) 1 (okTest_c ho)).1
      exact refuses_3 e hsz S hL w hS A B c dd hr m hm h1 ho _ rfl _ rfl (List.length_pos_iff.2 (txC_pos e ho)) (by omega) _ rfl
end Go.Proofs.YtkopmnhngjbmcaaGreatDoor.Sn

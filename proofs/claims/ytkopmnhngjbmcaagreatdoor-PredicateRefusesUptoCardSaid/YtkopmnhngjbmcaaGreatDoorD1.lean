/- The text of a plain condition, and what a text is read as: plain Lean, no program. -/
import Derived.Test.YtkopmnhngjbmcaaGreatDoorB2
import Derived.Lib.ItoaNum
import Derived.Lib.AtoiAll
import Derived.Lib.Join
namespace Go.Proofs.YtkopmnhngjbmcaaGreatDoor.Sn
open Go Go.RowKit
set_option linter.unusedVariables false
set_option linter.unusedSimpArgs false
/-! ### words -/
def wtab : List (Int × List UInt8) := [(4, [43]), (5, [45]), (6, [42]), (7, [47]), (8, [37]), (9, [109, 105, 110]), (10, [109, 97, 120]), (102, [60]), (103, [60, 61]), (104, [61]), (105, [110, 111, 116]), (106, [97, 110, 100]), (107, [111, 114])]
def word (op : Int) : List UInt8 := ((wtab.find? (fun p => p.1 == op)).map (·.2)).getD []
def opOf (w : List UInt8) : Option Int := (wtab.find? (fun p => p.2 == w)).map (·.1)
def stop (c : UInt8) : Bool := c == 32 || c == 40 || c == 41
theorem wtab_all : ∀ p ∈ wtab, word p.1 = p.2 ∧ opOf p.2 = some p.1 ∧ (4 ≤ p.1 ∧ p.1 ≤ 10 ∨ 102 ≤ p.1 ∧ p.1 ≤ 107) ∧ (∀ c ∈ p.2, stop c = false) := by decide
theorem opOf_some {w : List UInt8} {op : Int} (h : opOf w = some op) : (op, w) ∈ wtab := by
  unfold opOf at h
  cases hf : wtab.find? (fun p => p.2 == w) with
  | none => rw [hf] at h; simp at h
  | some p =>
    rw [hf] at h
    simp at h
    have h1 := List.mem_of_find?_eq_some hf
    have h2 := List.find?_some hf
    simp at h2
    rw [← h, ← h2]; exact h1
theorem op_mem {op : Int} (h : 4 ≤ op ∧ op ≤ 10 ∨ 102 ≤ op ∧ op ≤ 107) : (op, word op) ∈ wtab := by
  have : op = 4 ∨ op = 5 ∨ op = 6 ∨ op = 7 ∨ op = 8 ∨ op = 9 ∨ op = 10 ∨ op = 102 ∨ op = 103 ∨ op = 104 ∨ op = 105 ∨ op = 106 ∨ op = 107 := by omega
  rcases this with rfl | rfl | rfl | rfl | rfl | rfl | rfl | rfl | rfl | rfl | rfl | rfl | rfl <;> decide
/-! ### numbers -/
theorem parse_snoc (l : List UInt8) (c : UInt8) : ∀ acc, Lib.parseUint10 acc (l ++ [c]) = match Lib.parseUint10 acc l with | .ok a => Lib.parseUint10 a [c] | x => x := by
  induction l with
  | nil => intro acc; simp [Lib.parseUint10]
  | cons x l ih =>
    intro acc
    simp only [List.cons_append, Lib.parseUint10]
    split
    · split
      · rfl
      · split
        · rfl
        · exact ih _
    · rfl
theorem u8_dig (k : Nat) (h : k < 10) : (UInt8.ofNat (48 + k)).toNat = 48 + k := by simp; omega
theorem parse_digits (u : Nat) (h : u < 18446744073709551616) : Lib.parseUint10 0 (Lib.decDigits u) = .ok u := by
  induction u using Nat.strongRecOn with
  | _ u ih =>
    by_cases h10 : u < 10
    · rw [Lib.decDigits, dif_pos h10]
      simp only [Lib.parseUint10, u8_dig u h10]
      rw [if_pos (by omega), if_neg (by omega), if_neg (by omega)]
      simp
    · rw [Lib.decDigits, dif_neg h10, parse_snoc, ih (u / 10) (by omega) (by omega)]
      simp only [Lib.parseUint10, u8_dig (u % 10) (by omega)]
      rw [if_pos (by omega), if_neg (by omega), if_neg (by omega)]
      congr 1; omega
theorem digits_all (u : Nat) : ∀ c ∈ Lib.decDigits u, 48 ≤ c.toNat ∧ c.toNat ≤ 57 := by
  induction u using Nat.strongRecOn with
  | _ u ih =>
    by_cases h10 : u < 10
    · rw [Lib.decDigits, dif_pos h10]
      intro c hc; simp only [List.mem_singleton] at hc; subst hc; rw [u8_dig u h10]; omega
    · rw [Lib.decDigits, dif_neg h10]
      intro c hc
      rcases List.mem_append.1 hc with hc | hc
      · exact ih (u / 10) (by omega) c hc
      · simp only [List.mem_singleton] at hc; subst hc; rw [u8_dig (u % 10) (by omega)]; omega
theorem digits_ne (u : Nat) : Lib.decDigits u ≠ [] := by
  by_cases h10 : u < 10
  · rw [Lib.decDigits, dif_pos h10]; simp
  · rw [Lib.decDigits, dif_neg h10]; simp
theorem itoa_all (v : Int) : ∀ c ∈ Lib.itoa v, c.toNat = 45 ∨ 48 ≤ c.toNat ∧ c.toNat ≤ 57 := by
  unfold Lib.itoa
  split
  · intro c hc
    rcases List.mem_cons.1 hc with rfl | hc
    · left; rfl
    · right; exact digits_all _ c hc
  · intro c hc; right; exact digits_all _ c hc
theorem itoa_ne (v : Int) : Lib.itoa v ≠ [] := by
  unfold Lib.itoa
  split
  · simp
  · exact digits_ne _
theorem atoi_itoa (v : Int) (h1 : -9223372036854775808 ≤ v) (h2 : v ≤ 9223372036854775807) : Lib.atoiAll (Lib.itoa v) = .ok v := by
  unfold Lib.itoa
  by_cases h : v < 0
  · rw [if_pos h]
    have h45 : (45 : UInt8).toNat = 45 := rfl
    simp only [Lib.atoiAll, h45]
    rw [if_pos (Or.inr trivial)]
    unfold Lib.parseMag
    rw [if_neg (digits_ne _), parse_digits _ (by omega)]
    simp only []
    rw [if_neg (by simp), if_neg (by simp; omega)]
    congr 1
    simp; omega
  · rw [if_neg h]
    have hall := digits_all v.toNat
    have hp := parse_digits v.toNat (by omega)
    have hne := digits_ne v.toNat
    cases hl : Lib.decDigits v.toNat with
    | nil => exact absurd hl hne
    | cons c r =>
      rw [hl] at hall hp
      have hc := hall c (by simp)
      simp only [Lib.atoiAll]
      rw [if_neg (by omega)]
      unfold Lib.parseMag
      rw [if_neg (by simp), hp]
      simp only []
      rw [if_neg (by omega), if_neg (by omega), if_neg (by omega)]
      congr 1; omega
def num (w : List UInt8) : Option Int := match Lib.atoiAll w with | .ok v => if Lib.itoa v = w then some v else none | _ => none
theorem num_some {w : List UInt8} {v : Int} (h : num w = some v) : Lib.itoa v = w := by
  unfold num at h
  split at h
  · split at h
    · rename_i e; cases h; exact e
    · cases h
  · cases h
theorem num_itoa (v : Int) (h1 : -9223372036854775808 ≤ v) (h2 : v ≤ 9223372036854775807) : num (Lib.itoa v) = some v := by
  unfold num
  rw [atoi_itoa v h1 h2]
  simp

/-! ### texts -/
mutual
def txE : Ex → List UInt8
  | .mk op n v a => if op = 1 then Lib.itoa v else if op = 2 then 118 :: Lib.itoa n else if op = 3 then [108, 101, 110] ++ Lib.itoa n
    else 40 :: (word op ++ 32 :: (Lib.join (txEs a) [32] ++ [41]))
def txEs : List Ex → List (List UInt8)
  | [] => []
  | x :: l => txE x :: txEs l
end
mutual
def txC : Cn → List UInt8
  | .mk op a c => if op = 1 then [116, 114, 117, 101] else 40 :: (word (100 + op) ++ 32 :: (Lib.join (txEs a ++ txCs c) [32] ++ [41]))
def txCs : List Cn → List (List UInt8)
  | [] => []
  | x :: l => txC x :: txCs l
end
theorem join_2 (x y : List UInt8) : Lib.join [x, y] [32] = x ++ 32 :: y := by simp [Lib.join, List.intercalate, List.intersperse]
theorem join_1 (x : List UInt8) : Lib.join [x] [32] = x := by simp [Lib.join, List.intercalate, List.intersperse]

/-! ### what a text is read as -/
def wordOf (s : List UInt8) : List UInt8 := s.takeWhile (fun c => !stop c)
def afterW (s : List UInt8) : List UInt8 := s.dropWhile (fun c => !stop c)
theorem word_after (s : List UInt8) : wordOf s ++ afterW s = s := List.takeWhile_append_dropWhile
def cutP (p s : List UInt8) : Option (List UInt8) := if p.isPrefixOf s then some (s.drop p.length) else none
theorem cutP_some {p s t : List UInt8} (h : cutP p s = some t) : s = p ++ t := by
  unfold cutP at h
  split at h
  · rename_i hp
    obtain ⟨u, rfl⟩ := List.isPrefixOf_iff_prefix.1 hp
    simp at h
    rw [h]
  · cases h
theorem cutP_append (p t : List UInt8) : cutP p (p ++ t) = some t := by
  unfold cutP
  rw [if_pos (List.isPrefixOf_iff_prefix.2 ⟨t, rfl⟩)]
  simp
theorem cutP_cons (c : UInt8) (t : List UInt8) : cutP [c] (c :: t) = some t := cutP_append [c] t
theorem cutP_none {p s : List UInt8} (h : cutP p s = none) (t : List UInt8) : s ≠ p ++ t := fun e => by rw [e, cutP_append] at h; cases h
/-- a number or a variable -/
def leaf (w : List UInt8) : Option Ex :=
  match cutP [108, 101, 110] w with
  | some d => (num d).map fun v => .mk 3 v 0 []
  | none => match cutP [118] w with
    | some d => (num d).map fun v => .mk 2 v 0 []
    | none => (num w).map fun v => .mk 1 0 v []
def pE : Nat → List UInt8 → Option (Ex × List UInt8)
  | 0, _ => none
  | n + 1, s =>
    match cutP [40] s with
    | none => (leaf (wordOf s)).map fun e => (e, afterW s)
    | some s0 => (opOf (wordOf s0)).bind fun op => (cutP [32] (afterW s0)).bind fun s1 => (pE n s1).bind fun p => (cutP [32] p.2).bind fun s3 => (pE n s3).bind fun q =>
      (cutP [41] q.2).map fun s5 => (.mk op 0 0 [p.1, q.1], s5)
def pC : Nat → List UInt8 → Option (Cn × List UInt8)
  | 0, _ => none
  | n + 1, s =>
    match cutP [116, 114, 117, 101] s with
    | some r => some (.mk 1 [] [], r)
    | none => (cutP [40] s).bind fun s0 => (opOf (wordOf s0)).bind fun op =>
      if op = 102 ∨ op = 103 ∨ op = 104 then
        (cutP [32] (afterW s0)).bind fun s1 => (pE n s1).bind fun p => (cutP [32] p.2).bind fun s3 => (pE n s3).bind fun q => (cutP [41] q.2).map fun s5 => (.mk (op - 100) [p.1, q.1] [], s5)
      else if op = 105 then
        (cutP [32] (afterW s0)).bind fun s1 => (pC n s1).bind fun p => (cutP [41] p.2).map fun s5 => (.mk 5 [] [p.1], s5)
      else if op = 106 ∨ op = 107 then
        (cutP [32] (afterW s0)).bind fun s1 => (pC n s1).bind fun p => (cutP [32] p.2).bind fun s3 => (pC n s3).bind fun q => (cutP [41] q.2).map fun s5 => (.mk (op - 100) [] [p.1, q.1], s5)
      else none
theorem leaf_sound {w : List UInt8} {e : Ex} (h : leaf w = some e) : txE e = w := by
  unfold leaf at h
  split at h
  · rename_i d hd
    obtain ⟨v, hv, rfl⟩ := Option.map_eq_some_iff.1 h
    rw [txE, if_neg (by decide), if_neg (by decide), if_pos rfl, num_some hv]
    exact (cutP_some hd).symm
  · split at h
    · rename_i d hd
      obtain ⟨v, hv, rfl⟩ := Option.map_eq_some_iff.1 h
      rw [txE, if_neg (by decide), if_pos rfl, num_some hv]
      exact (cutP_some hd).symm
    · obtain ⟨v, hv, rfl⟩ := Option.map_eq_some_iff.1 h
      rw [txE, if_pos rfl, num_some hv]
theorem pE_sound : ∀ (n : Nat) (s : List UInt8) (e : Ex) (r : List UInt8), pE n s = some (e, r) → s = txE e ++ r := by
  intro n
  induction n with
  | zero => intro s e r h; cases h
  | succ n ih =>
    intro s e r h
    rw [pE] at h
    cases h0 : cutP [40] s with
    | none =>
      rw [h0] at h
      obtain ⟨e', he, heq⟩ := Option.map_eq_some_iff.1 h
      cases heq
      rw [leaf_sound he, word_after]
    | some s0 =>
      rw [h0] at h
      obtain ⟨op, hop, h⟩ := Option.bind_eq_some_iff.1 h
      obtain ⟨s1, h1, h⟩ := Option.bind_eq_some_iff.1 h
      obtain ⟨⟨a, s2⟩, h2, h⟩ := Option.bind_eq_some_iff.1 h
      obtain ⟨s3, h3, h⟩ := Option.bind_eq_some_iff.1 h
      obtain ⟨⟨b, s4⟩, h4, h⟩ := Option.bind_eq_some_iff.1 h
      obtain ⟨s5, h5, heq⟩ := Option.map_eq_some_iff.1 h
      cases heq
      have hm := opOf_some hop
      obtain ⟨hw, _, hr, _⟩ := wtab_all _ hm
      simp only at hw hr h3 h5
      rw [txE, if_neg (by omega), if_neg (by omega), if_neg (by omega)]
      have e0 := word_after s0
      rw [cutP_some h1, ih _ _ _ h2, cutP_some h3, ih _ _ _ h4, cutP_some h5] at e0
      rw [← hw] at e0
      rw [cutP_some h0, ← e0]
      simp [txEs, join_2]
theorem pC_sound : ∀ (n : Nat) (s : List UInt8) (e : Cn) (r : List UInt8), pC n s = some (e, r) → s = txC e ++ r := by
  intro n
  induction n with
  | zero => intro s e r h; cases h
  | succ n ih =>
    intro s e r h
    rw [pC] at h
    cases h0 : cutP [116, 114, 117, 101] s with
    | some t =>
      rw [h0] at h
      cases h
      rw [txC, if_pos rfl]
      exact cutP_some h0
    | none =>
      rw [h0] at h
      obtain ⟨s0, hs0, h⟩ := Option.bind_eq_some_iff.1 h
      obtain ⟨op, hop, h⟩ := Option.bind_eq_some_iff.1 h
      have hm := opOf_some hop
      obtain ⟨hw, _, hr, _⟩ := wtab_all _ hm
      simp only at hw hr
      split at h
      · rename_i hop2
        obtain ⟨s1, h1, h⟩ := Option.bind_eq_some_iff.1 h
        obtain ⟨⟨a, s2⟩, h2, h⟩ := Option.bind_eq_some_iff.1 h
        obtain ⟨s3, h3, h⟩ := Option.bind_eq_some_iff.1 h
        obtain ⟨⟨b, s4⟩, h4, h⟩ := Option.bind_eq_some_iff.1 h
        obtain ⟨s5, h5, heq⟩ := Option.map_eq_some_iff.1 h
        cases heq
        simp only at h3 h5
        rw [txC, if_neg (by omega)]
        simp only [txEs, txCs, List.append_nil, join_2]
        rw [show 100 + (op - 100) = op by omega]
        have e0 := word_after s0
        rw [cutP_some h1, pE_sound _ _ _ _ h2, cutP_some h3, pE_sound _ _ _ _ h4, cutP_some h5] at e0
        rw [← hw] at e0
        rw [cutP_some hs0, ← e0]
        simp
      · split at h
        · rename_i hop2
          obtain ⟨s1, h1, h⟩ := Option.bind_eq_some_iff.1 h
          obtain ⟨⟨a, s2⟩, h2, h⟩ := Option.bind_eq_some_iff.1 h
          obtain ⟨s5, h5, heq⟩ := Option.map_eq_some_iff.1 h
          cases heq
          simp only at h5
          rw [txC, if_neg (by omega)]
          simp only [txEs, txCs, List.nil_append, join_1]
          subst hop2
          rw [show (100 : Int) + 5 = 105 by omega]
          have e0 := word_after s0
          rw [cutP_some h1, ih _ _ _ h2, cutP_some h5] at e0
          rw [← hw] at e0
          rw [cutP_some hs0, ← e0]
          simp
        · split at h
          · rename_i hop2
            obtain ⟨s1, h1, h⟩ := Option.bind_eq_some_iff.1 h
            obtain ⟨⟨a, s2⟩, h2, h⟩ := Option.bind_eq_some_iff.1 h
            obtain ⟨s3, h3, h⟩ := Option.bind_eq_some_iff.1 h
            obtain ⟨⟨b, s4⟩, h4, h⟩ := Option.bind_eq_some_iff.1 h
            obtain ⟨s5, h5, heq⟩ := Option.map_eq_some_iff.1 h
            cases heq
            simp only at h3 h5
            rw [txC, if_neg (by omega)]
            simp only [txEs, txCs, List.nil_append, join_2]
            rw [show 100 + (op - 100) = op by omega]
            have e0 := word_after s0
            rw [cutP_some h1, ih _ _ _ h2, cutP_some h3, ih _ _ _ h4, cutP_some h5] at e0
            rw [← hw] at e0
            rw [cutP_some hs0, ← e0]
            simp
          · cases h

/-! ### what is written is read -/
def stopped (r : List UInt8) : Prop := ∀ c, r.head? = some c → stop c = true
theorem stopped_32 (r : List UInt8) : stopped (32 :: r) := fun c h => by simp at h; subst h; rfl
theorem stopped_41 (r : List UInt8) : stopped (41 :: r) := fun c h => by simp at h; subst h; rfl
theorem take_stopped {r : List UInt8} (h : stopped r) : r.takeWhile (fun c => !stop c) = [] := by
  cases r with
  | nil => rfl
  | cons c r => rw [List.takeWhile_cons]; simp [h c rfl]
theorem drop_stopped {r : List UInt8} (h : stopped r) : r.dropWhile (fun c => !stop c) = r := by
  cases r with
  | nil => rfl
  | cons c r => rw [List.dropWhile_cons]; simp [h c rfl]
theorem wordOf_append {w r : List UInt8} (hw : ∀ c ∈ w, stop c = false) (hr : stopped r) : wordOf (w ++ r) = w := by
  unfold wordOf
  rw [List.takeWhile_append_of_pos (fun a ha => by simp [hw a ha]), take_stopped hr, List.append_nil]
theorem afterW_append {w r : List UInt8} (hw : ∀ c ∈ w, stop c = false) (hr : stopped r) : afterW (w ++ r) = r := by
  unfold afterW
  rw [List.dropWhile_append_of_pos (fun a ha => by simp [hw a ha]), drop_stopped hr]
theorem u8_ne {c d : UInt8} (h : c.toNat ≠ d.toNat) : c ≠ d := fun e => h (by rw [e])
theorem stop_of {c : UInt8} (h : c.toNat = 45 ∨ 48 ≤ c.toNat ∧ c.toNat ≤ 57 ∨ 97 ≤ c.toNat) : stop c = false := by
  have h1 : c ≠ 32 := u8_ne (by show c.toNat ≠ 32; omega)
  have h2 : c ≠ 40 := u8_ne (by show c.toNat ≠ 40; omega)
  have h3 : c ≠ 41 := u8_ne (by show c.toNat ≠ 41; omega)
  simp [stop, h1, h2, h3]
theorem cutP_head {c : UInt8} {p s : List UInt8} (h : ∀ x, s.head? = some x → x ≠ c) (hs : s ≠ []) : cutP (c :: p) s = none := by
  cases s with
  | nil => exact absurd rfl hs
  | cons x s =>
    unfold cutP
    rw [if_neg]
    intro e
    obtain ⟨u, hu⟩ := List.isPrefixOf_iff_prefix.1 e
    simp at hu
    exact h x rfl hu.1.symm
theorem itoa_head (v : Int) (r : List UInt8) : ∀ x, (Lib.itoa v ++ r).head? = some x → x.toNat = 45 ∨ 48 ≤ x.toNat ∧ x.toNat ≤ 57 := by
  intro x hx
  have hne := itoa_ne v
  have hall := itoa_all v
  cases hl : Lib.itoa v with
  | nil => exact absurd hl hne
  | cons c l => rw [hl] at hx hall; simp at hx; subst hx; exact hall _ (by simp)
theorem leaf_num (v : Int) (h1 : -9223372036854775808 ≤ v) (h2 : v ≤ 9223372036854775807) : leaf (Lib.itoa v) = some (.mk 1 0 v []) := by
  have hh := itoa_head v []
  rw [List.append_nil] at hh
  unfold leaf
  rw [cutP_head (fun x hx => u8_ne (by have := hh x hx; show x.toNat ≠ 108; omega)) (itoa_ne v)]
  simp only
  rw [cutP_head (fun x hx => u8_ne (by have := hh x hx; show x.toNat ≠ 118; omega)) (itoa_ne v)]
  simp only
  rw [num_itoa v h1 h2]; rfl
theorem leaf_var (v : Int) (h1 : -9223372036854775808 ≤ v) (h2 : v ≤ 9223372036854775807) : leaf (118 :: Lib.itoa v) = some (.mk 2 v 0 []) := by
  unfold leaf
  rw [cutP_head (c := 108) (fun x hx => by simp at hx; subst hx; decide) (by simp)]
  simp only
  rw [cutP_cons]
  simp only
  rw [num_itoa v h1 h2]; rfl
theorem leaf_len (v : Int) (h1 : -9223372036854775808 ≤ v) (h2 : v ≤ 9223372036854775807) : leaf ([108, 101, 110] ++ Lib.itoa v) = some (.mk 3 v 0 []) := by
  unfold leaf
  rw [cutP_append]
  simp only
  rw [num_itoa v h1 h2]; rfl
theorem pE_leaf (n : Nat) (w r : List UInt8) (e : Ex) (hw : ∀ c ∈ w, stop c = false) (hr : stopped r) (hne : w ≠ []) (he : leaf w = some e) : pE (n + 1) (w ++ r) = some (e, r) := by
  rw [pE, cutP_head (c := 40)]
  · simp only
    rw [wordOf_append hw hr, afterW_append hw hr, he]; rfl
  · intro x hx
    cases w with
    | nil => exact absurd rfl hne
    | cons c l => simp at hx; subst hx; intro e; have := hw _ (List.mem_cons_self); rw [e] at this; cases this
  · cases w with
    | nil => exact absurd rfl hne
    | cons c l => simp
theorem pE_complete (V R : Int) (hV : V ≤ 1000) (hR : R ≤ 1000) : ∀ (n : Nat) (e : Ex) (d : Nat) (r : List UInt8), okE V R d e = true → stopped r → (txE e ++ r).length < n → pE n (txE e ++ r) = some (e, r) := by
  intro n
  induction n with
  | zero => intro e d r _ _ h; omega
  | succ n ih =>
    intro e d r hok hr hlen
    obtain ⟨op, m, v, a⟩ := e
    by_cases h1 : op = 1
    · subst h1
      rw [okE_1 V R d _ rfl] at hok
      simp only [Ex.a, Ex.n, Ex.v, Bool.and_eq_true, inR_true, List.isEmpty_iff] at hok
      obtain ⟨⟨⟨rfl, _⟩, hm⟩, hv⟩ := hok
      obtain rfl : m = 0 := of_decide_eq_true hm
      rw [txE, if_pos rfl]
      exact pE_leaf n _ r _ (fun c hc => stop_of (by have := itoa_all v c hc; omega)) hr (itoa_ne v) (leaf_num v (by omega) (by omega))
    by_cases h2 : op = 2
    · subst h2
      rw [okE_2 V R d _ rfl] at hok
      simp only [Ex.a, Ex.n, Ex.v, Bool.and_eq_true, inR_true, List.isEmpty_iff] at hok
      obtain ⟨⟨⟨rfl, _⟩, hm⟩, hv⟩ := hok
      obtain rfl : v = 0 := of_decide_eq_true hm
      rw [txE, if_neg h1, if_pos rfl]
      refine pE_leaf n _ r _ (fun c hc => ?_) hr (by simp) (leaf_var m (by omega) (by omega))
      rcases List.mem_cons.1 hc with rfl | hc
      · rfl
      · exact stop_of (by have := itoa_all m c hc; omega)
    by_cases h3 : op = 3
    · subst h3
      rw [okE_3 V R d _ rfl] at hok
      simp only [Ex.a, Ex.n, Ex.v, Bool.and_eq_true, inR_true, List.isEmpty_iff] at hok
      obtain ⟨⟨⟨rfl, _⟩, hm⟩, hv⟩ := hok
      obtain rfl : v = 0 := of_decide_eq_true hm
      rw [txE, if_neg h1, if_neg h2, if_pos rfl]
      refine pE_leaf n _ r _ (fun c hc => ?_) hr (by simp) (leaf_len m (by omega) (by omega))
      rcases List.mem_append.1 hc with hc | hc
      · exact (by decide : ∀ c ∈ ([108, 101, 110] : List UInt8), stop c = false) c hc
      · exact stop_of (by have := itoa_all m c hc; omega)
    · rw [okE_4 V R d (.mk op m v a) h1 h2 h3] at hok
      simp only [Ex.a, Ex.n, Ex.v, Ex.op, Bool.and_eq_true, inR_true] at hok
      obtain ⟨⟨⟨⟨⟨hop, hm⟩, hv⟩, hla⟩, _⟩, hoks⟩ := hok
      obtain rfl : m = 0 := of_decide_eq_true hm
      obtain rfl : v = 0 := of_decide_eq_true hv
      have hla : a.length = 2 := of_decide_eq_true hla
      obtain ⟨x, y, rfl⟩ : ∃ x y, a = [x, y] := by
        match a, hla with
        | [x, y], _ => exact ⟨x, y, rfl⟩
      simp only [okEs, Bool.and_eq_true, and_true] at hoks
      rw [txE, if_neg h1, if_neg h2, if_neg h3] at hlen ⊢
      simp only [txEs, join_2] at hlen ⊢
      obtain ⟨_, hopw, _, hstop⟩ := wtab_all _ (op_mem (.inl hop))
      simp only at hopw hstop
      rw [pE]
      simp only [List.cons_append, List.append_assoc, List.length_cons, List.length_append] at hlen ⊢
      rw [cutP_cons]
      simp only
      rw [wordOf_append hstop (stopped_32 _), afterW_append hstop (stopped_32 _), hopw]
      simp only [Option.bind_some]
      rw [cutP_cons]
      simp only [Option.bind_some]
      rw [ih x (d + 1) _ hoks.1 (stopped_32 _) (by simp only [List.length_append, List.length_cons, List.length_nil] at hlen ⊢; omega)]
      simp only [Option.bind_some]
      rw [cutP_cons]
      simp only [Option.bind_some, List.nil_append]
      rw [ih y (d + 1) _ hoks.2 (stopped_41 _) (by simp only [List.length_append, List.length_cons, List.length_nil] at hlen ⊢; omega)]
      simp only [Option.bind_some]
      rw [cutP_cons]
      rfl
theorem pC_complete (V R : Int) (hV : V ≤ 1000) (hR : R ≤ 1000) : ∀ (n : Nat) (e : Cn) (d : Nat) (r : List UInt8), okC V R d e = true → (txC e ++ r).length < n → pC n (txC e ++ r) = some (e, r) := by
  intro n
  induction n with
  | zero => intro e d r _ h; omega
  | succ n ih =>
    intro e d r hok hlen
    obtain ⟨op, a, c⟩ := e
    rw [okC_eq] at hok
    simp only [Cn.op, Cn.a, Cn.c, Bool.and_eq_true, inR_true] at hok
    obtain ⟨⟨⟨⟨⟨hop, ga⟩, gc⟩, _⟩, hoka⟩, hokc⟩ := hok
    have hla : a.length = wantA op := of_decide_eq_true ga
    have hlc : c.length = wantC op := of_decide_eq_true gc
    clear ga gc
    by_cases h1 : op = 1
    · subst h1
      have ha : a = [] := by cases a with | nil => rfl | cons x l => simp [wantA] at hla
      have hc : c = [] := by cases c with | nil => rfl | cons x l => simp [wantC] at hlc
      subst ha hc
      rw [txC, if_pos rfl, pC, cutP_append]
    · rw [txC, if_neg h1] at hlen ⊢
      obtain ⟨_, hopw, _, hstop⟩ := wtab_all _ (op_mem (op := 100 + op) (.inr (by omega)))
      simp only at hopw hstop
      rw [pC]
      simp only [List.cons_append, List.append_assoc, List.length_cons, List.length_append] at hlen ⊢
      rw [cutP_head (c := 116) (fun x hx => by simp at hx; subst hx; decide) (by simp)]
      simp only
      rw [cutP_cons]
      simp only [Option.bind_some]
      rw [wordOf_append hstop (stopped_32 _), afterW_append hstop (stopped_32 _), hopw]
      simp only [Option.bind_some]
      by_cases h2 : op = 2 ∨ op = 3 ∨ op = 4
      · have hc : c = [] := by cases c with | nil => rfl | cons x l => (rw [wantC, if_neg (by omega), if_neg (by omega)] at hlc; simp at hlc)
        subst hc
        have hla : a.length = 2 := by rw [hla]; unfold wantA; rw [if_pos h2]
        obtain ⟨x, y, rfl⟩ : ∃ x y, a = [x, y] := by
          match a, hla with
          | [x, y], _ => exact ⟨x, y, rfl⟩
        simp only [okEs, Bool.and_eq_true, and_true] at hoka
        simp only [txEs, txCs, List.append_nil, join_2, List.cons_append, List.append_assoc, List.nil_append] at hlen ⊢
        rw [if_pos (by omega), cutP_cons]
        simp only [Option.bind_some]
        rw [pE_complete V R hV hR n x (d + 1) _ hoka.1 (stopped_32 _) (by simp only [List.length_append, List.length_cons] at hlen ⊢; omega)]
        simp only [Option.bind_some]
        rw [cutP_cons]
        simp only [Option.bind_some]
        rw [pE_complete V R hV hR n y (d + 1) _ hoka.2 (stopped_41 _) (by simp only [List.length_append, List.length_cons] at hlen ⊢; omega)]
        simp only [Option.bind_some]
        rw [cutP_cons]
        simp only [Option.map_some]
        rw [show 100 + op - 100 = op by omega]
      · have ha : a = [] := by cases a with | nil => rfl | cons x l => (rw [wantA, if_neg h2] at hla; simp at hla)
        subst ha
        rw [if_neg (by omega)]
        by_cases h5 : op = 5
        · subst h5
          have hlc : c.length = 1 := by rw [hlc]; rfl
          obtain ⟨x, rfl⟩ : ∃ x, c = [x] := by
            match c, hlc with
            | [x], _ => exact ⟨x, rfl⟩
          simp only [okCs, Bool.and_eq_true, and_true] at hokc
          simp only [txEs, txCs, List.nil_append, join_1, List.cons_append, List.append_assoc] at hlen ⊢
          rw [if_pos (by decide), cutP_cons]
          simp only [Option.bind_some]
          rw [ih x (d + 1) _ hokc (by simp only [List.length_append, List.length_cons] at hlen ⊢; omega)]
          simp only [Option.bind_some]
          rw [cutP_cons]
          rfl
        · have hlc : c.length = 2 := by rw [hlc]; unfold wantC; rw [if_neg h5, if_pos (by omega)]
          obtain ⟨x, y, rfl⟩ : ∃ x y, c = [x, y] := by
            match c, hlc with
            | [x, y], _ => exact ⟨x, y, rfl⟩
          simp only [okCs, Bool.and_eq_true, and_true] at hokc
          simp only [txEs, txCs, List.nil_append, join_2, List.cons_append, List.append_assoc] at hlen ⊢
          rw [if_neg (by omega), if_pos (by omega), cutP_cons]
          simp only [Option.bind_some]
          rw [ih x (d + 1) _ hokc.1 (by simp only [List.length_append, List.length_cons] at hlen ⊢; omega)]
          simp only [Option.bind_some]
          rw [cutP_cons]
          simp only [Option.bind_some]
          rw [ih y (d + 1) _ hokc.2 (by simp only [List.length_append, List.length_cons] at hlen ⊢; omega)]
          simp only [Option.bind_some]
          rw [cutP_cons]
          simp only [Option.map_some]
          rw [show 100 + op - 100 = op by omega]

/-! ### Parse and Text -/
def parseL (s : List UInt8) : Option Cn :=
  match pC (s.length + 1) s with
  | some (c, r) => if r = [] ∧ okTest 12 4 c = true then some c else none
  | none => none
theorem okTest_c {V R : Int} {c : Cn} (h : okTest V R c = true) : okC V R 1 c = true := by
  unfold okTest at h
  exact (Bool.and_eq_true _ _ ▸ h).1
theorem parse_text {c : Cn} (h : okTest 12 4 c = true) : parseL (txC c) = some c := by
  unfold parseL
  have := pC_complete 12 4 (by decide) (by decide) ((txC c).length + 1) c 1 [] (okTest_c h) (by simp)
  rw [List.append_nil] at this
  rw [this]
  simp [h]
theorem text_parse {s : List UInt8} {c : Cn} (h : parseL s = some c) : okTest 12 4 c = true ∧ txC c = s := by
  unfold parseL at h
  split at h
  · rename_i c' r hp
    split at h
    · rename_i hc
      cases h
      refine ⟨hc.2, ?_⟩
      have := pC_sound _ _ _ _ hp
      rw [hc.1, List.append_nil] at this
      exact this.symm
    · cases h
  · cases h
/-- fuel does not matter -/
theorem parse_more {c : Cn} (h : okTest 12 4 c = true) (x : List UInt8) (hx : x ≠ []) : parseL (txC c ++ x) = none := by
  unfold parseL
  rw [pC_complete 12 4 (by decide) (by decide) ((txC c ++ x).length + 1) c 1 x (okTest_c h) (by omega)]
  simp [hx]
theorem parse_blank (s : List UInt8) : parseL (32 :: s) = none := by
  unfold parseL
  rw [pC, cutP_head (c := 116) (fun x hx => by simp at hx; subst hx; decide) (by simp)]
  simp only
  rw [cutP_head (c := 40) (fun x hx => by simp at hx; subst hx; decide) (by simp)]
  rfl
theorem txC_head (c : Cn) : txC c = [116, 114, 117, 101] ∨ ∃ t, txC c = 40 :: t := by
  obtain ⟨op, a, l⟩ := c
  rw [txC]
  by_cases h : op = 1
  · rw [if_pos h]; exact .inl rfl
  · rw [if_neg h]; exact .inr ⟨_, rfl⟩
theorem parse_open (c : Cn) (x : List UInt8) (hx : x = [] ∨ x = [41]) : parseL (40 :: (txC c ++ x)) = none := by
  unfold parseL
  rw [pC, cutP_head (c := 116) (fun x hx => by simp at hx; subst hx; decide) (by simp)]
  simp only
  rw [cutP_cons]
  simp only [Option.bind_some]
  have hno : opOf (wordOf (txC c ++ x)) = none := by
    rcases txC_head c with h | ⟨t, h⟩
    · rw [h]; rcases hx with rfl | rfl <;> decide
    · rw [h]; rfl
  rw [hno]; rfl
theorem parse_cut {c : Cn} (h : okTest 12 4 c = true) (k : Nat) (hk : k < (txC c).length) : parseL ((txC c).take k) = none := by
  cases hp : parseL ((txC c).take k) with
  | none => rfl
  | some c' =>
    obtain ⟨h1, h2⟩ := text_parse hp
    have h3 := parse_more h1 ((txC c).drop k) (by intro e; have := congrArg List.length e; simp at this; omega)
    rw [h2, List.take_append_drop, parse_text h] at h3
    cases h3

/-! ### equal trees -/
mutual
def sameE : Ex → Ex → Bool
  | .mk o n v a, .mk o' n' v' a' => decide (o = o') && decide (n = n') && decide (v = v') && sameEs a a'
def sameEs : List Ex → List Ex → Bool
  | [], [] => true
  | x :: l, y :: m => sameE x y && sameEs l m
  | [], _ :: _ => false
  | _ :: _, [] => false
end
mutual
def sameC : Cn → Cn → Bool
  | .mk o a c, .mk o' a' c' => decide (o = o') && sameEs a a' && sameCs c c'
def sameCs : List Cn → List Cn → Bool
  | [], [] => true
  | x :: l, y :: m => sameC x y && sameCs l m
  | [], _ :: _ => false
  | _ :: _, [] => false
end
mutual
theorem sameE_iff : ∀ (x y : Ex), sameE x y = true ↔ x = y
  | .mk o n v a, .mk o' n' v' a' => by
    simp only [sameE, Bool.and_eq_true, decide_eq_true_eq, Ex.mk.injEq, sameEs_iff a a', and_assoc]
theorem sameEs_iff : ∀ (x y : List Ex), sameEs x y = true ↔ x = y
  | [], [] => by simp [sameEs]
  | x :: l, y :: m => by simp only [sameEs, Bool.and_eq_true, List.cons.injEq, sameE_iff x y, sameEs_iff l m]
  | [], _ :: _ => by simp [sameEs]
  | _ :: _, [] => by simp [sameEs]
end
mutual
theorem sameC_iff : ∀ (x y : Cn), sameC x y = true ↔ x = y
  | .mk o a c, .mk o' a' c' => by
    simp only [sameC, Bool.and_eq_true, decide_eq_true_eq, Cn.mk.injEq, sameEs_iff a a', sameCs_iff c c', and_assoc]
theorem sameCs_iff : ∀ (x y : List Cn), sameCs x y = true ↔ x = y
  | [], [] => by simp [sameCs]
  | x :: l, y :: m => by simp only [sameCs, Bool.and_eq_true, List.cons.injEq, sameC_iff x y, sameCs_iff l m]
  | [], _ :: _ => by simp [sameCs]
  | _ :: _, [] => by simp [sameCs]
end

/-! ### what the examples and the refusals ask -/
def exC : Cn := .mk 2 [.mk 2 0 0 [], .mk 4 0 0 [.mk 2 1 0 [], .mk 1 0 (-5) []]] []
theorem ex_ok : okTest 12 4 exC = true := by decide +kernel
theorem ex_text : txC exC = [40, 60, 32, 118, 48, 32, 40, 43, 32, 118, 49, 32, 45, 53, 41, 41] := by decide +kernel
theorem ex_parse : parseL [40, 60, 32, 118, 48, 32, 40, 43, 32, 118, 49, 32, 45, 53, 41, 41] = some exC := by rw [← ex_text]; exact parse_text ex_ok
theorem ex_true : parseL [116, 114, 117, 101] = some (.mk 1 [] []) := parse_text (c := .mk 1 [] []) (by decide +kernel)
theorem ex_not_text : txC (.mk 5 [] [.mk 1 [] []]) = [40, 110, 111, 116, 32, 116, 114, 117, 101, 41] := by decide +kernel
theorem ex_not : parseL [40, 110, 111, 116, 32, 116, 114, 117, 101, 41] = some (.mk 5 [] [.mk 1 [] []]) := by rw [← ex_not_text]; exact parse_text (by decide +kernel)
theorem ex_bad0 : parseL [40, 60, 32, 32, 118, 48, 32, 49, 41] = none := by decide +kernel
theorem ex_bad1 : parseL [40, 60, 32, 118, 48, 48, 32, 49, 41] = none := by decide +kernel
theorem ex_bad2 : parseL [40, 60, 32, 118, 48, 32, 45, 48, 41] = none := by decide +kernel
theorem ex_bad3 : parseL [40, 60, 32, 118, 48, 41] = none := by decide +kernel
theorem ex_bad4 : parseL [] = none := by decide +kernel
theorem ex_bad5 : parseL [84, 114, 117, 101] = none := by decide +kernel
theorem ref_bad0 : parseL [40, 60, 32, 118, 48, 32, 48, 49, 41] = none := by decide +kernel
theorem ref_bad1 : parseL [40, 60, 32, 118, 48, 32, 43, 49, 41] = none := by decide +kernel
theorem ref_bad2 : parseL [40, 60, 32, 118, 49, 50, 32, 49, 41] = none := by decide +kernel
theorem ref_bad3 : parseL [40, 60, 32, 108, 101, 110, 52, 32, 49, 41] = none := by decide +kernel
theorem ref_bad4 : parseL [40, 60, 32, 50, 49, 52, 55, 52, 56, 51, 54, 52, 56, 32, 49, 41] = none := by decide +kernel
theorem ref_bad5 : parseL [40, 43, 32, 118, 48, 32, 49, 41] = none := by decide +kernel
theorem ref_bad6 : parseL [40, 61, 32, 116, 114, 117, 101, 32, 116, 114, 117, 101, 41] = none := by decide +kernel
theorem ref_bad7 : parseL [40, 97, 110, 100, 32, 116, 114, 117, 101, 41] = none := by decide +kernel
theorem ref_bad8 : parseL [40, 110, 111, 116, 32, 116, 114, 117, 101, 32, 116, 114, 117, 101, 41] = none := by decide +kernel
theorem ex_zero : okTest 12 4 Cn.zero = false := by decide +kernel
end Go.Proofs.YtkopmnhngjbmcaaGreatDoor.Sn

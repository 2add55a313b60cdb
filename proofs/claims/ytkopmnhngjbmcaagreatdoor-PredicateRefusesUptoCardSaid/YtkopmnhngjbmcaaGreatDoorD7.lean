/- strings.IndexRune on " ()" at a rune that is no ASCII; strings.IndexAny(s, " ()") at every s. -/
import Derived.Test.YtkopmnhngjbmcaaGreatDoorD6
import Derived.Deep.LoopGhost
import Derived.Lib.OthersKept
import Derived.Lib.MapLaws
import Derived.WalkMore
import Derived.Deep.RegionHeld3
namespace Go.Proofs.YtkopmnhngjbmcaaGreatDoor.Sn
open Go Go.RowKit
set_option linter.unusedVariables false
theorem encode_shape (r : Int) (h0 : 128 ≤ r) :
    (∃ a b : UInt8, Utf8.encode r = ⟨#[a, b]⟩ ∧ 128 ≤ b.toNat) ∨ (∃ a b c : UInt8, Utf8.encode r = ⟨#[a, b, c]⟩ ∧ 128 ≤ c.toNat) ∨ (∃ a b c d : UInt8, Utf8.encode r = ⟨#[a, b, c, d]⟩ ∧ 128 ≤ d.toNat) := by
  obtain ⟨c, hc, hE⟩ : ∃ c : Nat, 128 ≤ c ∧ c = (if Utf8.valid r then r.toNat else Utf8.runeError) := by
    refine ⟨_, ?_, rfl⟩
    split
    · omega
    · decide
  unfold Utf8.encode
  simp only [← hE]
  have hb : ∀ n : Nat, 128 ≤ (UInt8.ofNat (128 + n % 64)).toNat := fun n => by
    rw [UInt8.toNat_ofNat']
    omega
  split
  · omega
  · split
    · exact .inl ⟨_, _, rfl, hb c⟩
    · split
      · exact .inr (.inl ⟨_, _, _, rfl, hb c⟩)
      · exact .inr (.inr ⟨_, _, _, _, rfl, hb c⟩)
def S3 : ByteArray := ⟨#[32, 40, 41]⟩
set_option maxRecDepth 100000 in
set_option maxHeartbeats 4000000 in
theorem indexRune_bad (w : World) : Calls Tryz.prog 311 #[.string S3, .int .i32 65533] w fun en w' => en = .returned (.int .i64 (-1)) ∧ Below w.heap.size w w' := by
  have hsz : S3.size = 3 := rfl
  go_enter Tryz.func311, Tryz.ntmps311
  go_wp2
  go_loopg [5, 6] 3 (fun g _ _ wx => ∃ i : Nat, i + g = 3 ∧ wx = w.iter S3 i)
  case atStart => exact ⟨0, by omega, rfl⟩
  case round =>
    obtain ⟨i, hig, rfl⟩ := hrel
    cases gk with
    | zero =>
      obtain rfl : i = 3 := by omega
      have hnx := fun ty => run_next_end (P := Tryz.prog) w S3 3 ty (by decide)
      go_wp2
      go_ret
      exact ⟨rfl, (Below.refl _ _).alloc (Nat.le_refl _) _⟩
    | succ g =>
      have hi : i < 3 := by omega
      obtain ⟨x, hx⟩ : ∃ x : UInt8, S3[i]'(hsz ▸ hi) = x := ⟨_, rfl⟩
      have hx128 : x.toNat < 128 := by
        rw [← hx]
        have : i = 0 ∨ i = 1 ∨ i = 2 := by omega
        rcases this with h | h | h <;> subst h
        · exact (by decide : (S3[0]'(by decide)).toNat < 128)
        · exact (by decide : (S3[1]'(by decide)).toNat < 128)
        · exact (by decide : (S3[2]'(by decide)).toNat < 128)
      have hnx := fun ty => run_next_ascii (P := Tryz.prog) w S3 i ty (hsz ▸ hi) (by rw [hx]; exact hx128)
      rw [hx] at hnx
      have hne : ¬ ((x.toNat : Int) = 65533) := by omega
      go_wp2
      go_roundg g
      case measure => omega
      case rel => exact ⟨i + 1, by omega, rfl⟩
theorem idx_hi2 (x : UInt8) (h : 128 ≤ x.toNat) : Lib.indexByte (ByteArray.extract ⟨#[32, 40, 41]⟩ 2 3).data.toList ((x.toNat : Int)).toNat.toUInt8 = -1 := by
  have e : ((x.toNat : Int)).toNat.toUInt8 = x := by simp
  rw [e]
  show Lib.indexByte [41] x = -1
  have : ¬ (41 : UInt8) = x := fun hx => by subst hx; exact absurd h (by decide)
  simp [Lib.indexByte, this]
theorem idx_hi3 (x : UInt8) (h : 128 ≤ x.toNat) : Lib.indexByte ByteArray.empty.data.toList ((x.toNat : Int)).toNat.toUInt8 = -1 := by
  show Lib.indexByte [] _ = -1
  simp [Lib.indexByte]
set_option maxRecDepth 100000 in
set_option maxHeartbeats 4000000 in
theorem indexRune_good (r : Int) (h0 : 128 ≤ r) (h1 : r ≠ 65533) (w : World) : Calls Tryz.prog 311 #[.string S3, .int .i32 r] w fun en w' => en = .returned (.int .i64 (-1)) ∧ Below w.heap.size w w' := by
  have h2 : (0 : Int) ≤ r := by omega
  have h3 : ¬ r < 128 := by omega
  cases hv : Lib.validRune r
  · go_enter Tryz.func311, Tryz.ntmps311
    go_wp2_with (go_at_call 344; refine (Tryz.utf8_ValidRune r _).mono ?_; rintro en w' ⟨rfl, hw⟩; rw [hw, hv])
    go_ret
    exact ⟨rfl, Below.refl _ _⟩
  · rcases encode_shape r h0 with ⟨a, b, hE, hb⟩ | ⟨a, b, c, hE, hb⟩ | ⟨a, b, c, d, hE, hb⟩
    · have hS : S3 = ⟨#[32, 40, 41]⟩ := rfl
      have g0 : (((((⟨#[32, 40, 41]⟩ : ByteArray)[1]'(by decide)).toNat : Nat) : Int) != ((((⟨#[a, b]⟩ : ByteArray)[1]'(by show 1 < 2; decide)).toNat : Nat) : Int)) = true := by
        show ((40 : Int) != (b.toNat : Int)) = true
        simp; omega
      have hI : Lib.indexByte (ByteArray.extract ⟨#[32, 40, 41]⟩ 2 3).data.toList (((((⟨#[a, b]⟩ : ByteArray)[1]'(by show 1 < 2; decide)).toNat : Nat) : Int)).toNat.toUInt8 = -1 := idx_hi2 b hb
      go_enter Tryz.func311, Tryz.ntmps311
      go_wp2_with (go_at_call 344; refine (Tryz.utf8_ValidRune r _).mono ?_; rintro en w' ⟨rfl, hw⟩; rw [hw, hv])
      go_step3
      go_wp2
      go_loopg [9] 1 (fun g v9 wx => v9 = .int .i64 1 ∧ g = 1 ∧ w = wx)
      case atStart => exact ⟨rfl, rfl, rfl⟩
      case round =>
        obtain ⟨rfl, rfl, rfl⟩ := hrel
        go_wp2
        go_step3
        go_wp2
        go_region_held (fun w' => Below w.heap.size w w') (first | exact (Below.refl _ _).drew) (fail)
        all_goals
          have HB1 := ‹Below w.heap.size w _›
          go_wp2
          go_region_held (fun w' => Below w.heap.size w w') (first | exact HB1.drew | assumption) ((go_at_call 343; refine (Tryz.strings_IndexByte _ _ _).mono ?_; rintro en w' ⟨rfl, hw⟩; rw [hw, hI]))
          all_goals
            have HB2 := ‹Below w.heap.size w _›
            go_wp2
            first
              | (rw [Exit.noGoto_ret]; (try go_wp2); rw [Exit.noGoto_ret]; go_ret; exact ⟨rfl, HB2⟩)
              | (go_ret; exact ⟨rfl, HB2⟩)
    · have hS : S3 = ⟨#[32, 40, 41]⟩ := rfl
      have g0 : (((((⟨#[32, 40, 41]⟩ : ByteArray)[2]'(by decide)).toNat : Nat) : Int) != ((((⟨#[a, b, c]⟩ : ByteArray)[2]'(by show 2 < 3; decide)).toNat : Nat) : Int)) = true := by
        show ((41 : Int) != (c.toNat : Int)) = true
        simp; omega
      have hI : Lib.indexByte ByteArray.empty.data.toList (((((⟨#[a, b, c]⟩ : ByteArray)[2]'(by show 2 < 3; decide)).toNat : Nat) : Int)).toNat.toUInt8 = -1 := idx_hi3 c hb
      go_enter Tryz.func311, Tryz.ntmps311
      go_wp2_with (go_at_call 344; refine (Tryz.utf8_ValidRune r _).mono ?_; rintro en w' ⟨rfl, hw⟩; rw [hw, hv])
      go_step3
      go_wp2
      go_loopg [9] 1 (fun g v9 wx => v9 = .int .i64 2 ∧ g = 1 ∧ w = wx)
      case atStart => exact ⟨rfl, rfl, rfl⟩
      case round =>
        obtain ⟨rfl, rfl, rfl⟩ := hrel
        go_wp2
        go_step3
        go_wp2
        go_region_held (fun w' => Below w.heap.size w w') (first | exact (Below.refl _ _).drew) (fail)
        all_goals
          have HB1 := ‹Below w.heap.size w _›
          go_wp2
          go_region_held (fun w' => Below w.heap.size w w') (first | exact HB1.drew | assumption) ((go_at_call 343; refine (Tryz.strings_IndexByte _ _ _).mono ?_; rintro en w' ⟨rfl, hw⟩; rw [hw, hI]))
          all_goals
            have HB2 := ‹Below w.heap.size w _›
            go_wp2
            first
              | (rw [Exit.noGoto_ret]; (try go_wp2); rw [Exit.noGoto_ret]; go_ret; exact ⟨rfl, HB2⟩)
              | (go_ret; exact ⟨rfl, HB2⟩)
    · have hS : S3 = ⟨#[32, 40, 41]⟩ := rfl
      go_enter Tryz.func311, Tryz.ntmps311
      go_wp2_with (go_at_call 344; refine (Tryz.utf8_ValidRune r _).mono ?_; rintro en w' ⟨rfl, hw⟩; rw [hw, hv])
      go_step3
      go_wp2
      go_loopg [9] 1 (fun g v9 wx => v9 = .int .i64 3 ∧ g = 1 ∧ w = wx)
      case atStart => exact ⟨rfl, rfl, rfl⟩
      case round =>
        obtain ⟨rfl, rfl, rfl⟩ := hrel
        go_wp2
        first
          | (rw [Exit.noGoto_ret]; (try go_wp2); rw [Exit.noGoto_ret]; go_ret; exact ⟨rfl, Below.refl _ _⟩)
          | (rw [Exit.noGoto_ret]; go_ret; exact ⟨rfl, Below.refl _ _⟩)
          | (go_ret; exact ⟨rfl, Below.refl _ _⟩)
theorem indexRune_high (r : Int) (h0 : 128 ≤ r) (w : World) : Calls Tryz.prog 311 #[.string S3, .int .i32 r] w fun en w' => en = .returned (.int .i64 (-1)) ∧ Below w.heap.size w w' := by
  by_cases h : r = 65533
  · subst h; exact indexRune_bad w
  · exact indexRune_good r h0 h w
theorem decodeN_high (n b0 b1 b2 b3 : Nat) (h : 128 ≤ b0) : 128 ≤ (Lib.decodeN n b0 b1 b2 b3).1 := by
  rcases Lib.decodeN_shape n b0 b1 b2 b3 with h1 | h1 | h1 | h1 | h1
  · omega
  · rw [h1.2.2.2.2]; exact h1.2.2.2.1
  · rw [h1.2.2.2.2.2.2]; have := h1.2.2.2.2.1; omega
  · rw [h1.2.2.2.2.2.2.2]; have := h1.2.2.2.2.2.1; omega
  · rw [h1]; decide
/-- All bytes of the rune that begins with a byte of 128 or more are of 128 or more. -/
theorem decodeN_bytes (n b0 b1 b2 b3 : Nat) (hb0 : b0 < 256) (h : 128 ≤ b0) (hn : 1 ≤ n) : 1 ≤ (Lib.decodeN n b0 b1 b2 b3).2 ∧ (Lib.decodeN n b0 b1 b2 b3).2 ≤ n ∧ (1 < (Lib.decodeN n b0 b1 b2 b3).2 → 128 ≤ b1) ∧ (2 < (Lib.decodeN n b0 b1 b2 b3).2 → 128 ≤ b2) ∧ (3 < (Lib.decodeN n b0 b1 b2 b3).2 → 128 ≤ b3) ∧ (Lib.decodeN n b0 b1 b2 b3).2 ≤ 4 := by
  rcases Lib.decodeN_shape n b0 b1 b2 b3 with h1 | h1 | h1 | h1 | h1
  · omega
  · rw [h1.2.2.2.2]; simp only; omega
  · rw [h1.2.2.2.2.2.2]; simp only; omega
  · rw [h1.2.2.2.2.2.2.2]; simp only; omega
  · rw [h1]; simp only; omega
theorem get_at (s : ByteArray) (i : Nat) (h : i < s.size) : s.data.toList[i]? = some (s.get! i) := by
  rw [Lib.data_getElem? s i h]
  simp [ByteArray.get!, getElem!_pos, h]
  rfl
theorem high_not (x : UInt8) (h : 128 ≤ x.toNat) : ([32, 40, 41] : List UInt8).contains x = false := by
  have h1 : ¬ x = 32 := fun e => by subst e; exact absurd h (by decide)
  have h2 : ¬ x = 40 := fun e => by subst e; exact absurd h (by decide)
  have h3 : ¬ x = 41 := fun e => by subst e; exact absurd h (by decide)
  simp [h1, h2, h3]
theorem noAny_rune (s : ByteArray) (i : Nat) (hi : i < s.size) (hx : 128 ≤ (s.get! i).toNat) (hno : Lib.NoAny s.data.toList [32, 40, 41] i) :
    1 ≤ (Utf8.decode s i).2 ∧ i + (Utf8.decode s i).2 ≤ s.size ∧ Lib.NoAny s.data.toList [32, 40, 41] (i + (Utf8.decode s i).2) ∧ 128 ≤ (Utf8.decode s i).1 := by
  rw [Lib.decode_at]
  obtain ⟨h1, h2, h3, h4, h5, h6⟩ := decodeN_bytes (s.size - i) (s.get! i).toNat (s.get! (i + 1)).toNat (s.get! (i + 2)).toNat (s.get! (i + 3)).toNat (s.get! i).toNat_lt hx (by omega)
  have hh := decodeN_high (s.size - i) (s.get! i).toNat (s.get! (i + 1)).toNat (s.get! (i + 2)).toNat (s.get! (i + 3)).toNat hx
  generalize hd : (Lib.decodeN (s.size - i) (s.get! i).toNat (s.get! (i + 1)).toNat (s.get! (i + 2)).toNat (s.get! (i + 3)).toNat).2 = d at h1 h2 h3 h4 h5 h6 ⊢
  refine ⟨h1, by omega, fun j b hj hb => ?_, hh⟩
  by_cases hji : j < i
  · exact hno j b hji hb
  · have hjs : j < s.size := by omega
    rw [get_at s j hjs] at hb
    obtain rfl := Option.some.inj hb
    refine high_not _ ?_
    have : j = i ∨ j = i + 1 ∨ j = i + 2 ∨ j = i + 3 := by omega
    rcases this with e | e | e | e <;> subst e
    · exact hx
    · exact h3 (by omega)
    · exact h4 (by omega)
    · exact h5 (by omega)
end Go.Proofs.YtkopmnhngjbmcaaGreatDoor.Sn
/- strings.IndexAny(s, " ()") at every s. -/
namespace Go.Proofs.YtkopmnhngjbmcaaGreatDoor.Sn
open Go Go.RowKit
set_option linter.unusedVariables false
def S3L : List UInt8 := [32, 40, 41]
/-- What IndexRune on " ()" answers at the rune that begins at place i. -/
theorem rune_call (s : ByteArray) (i : Nat) (hi : i < s.size) (W : World) (hno : Lib.NoAny s.data.toList S3L i) :
    (S3L.contains (s.get! i) = true ∧ (Utf8.decode s i).2 = 1 ∧ Calls Tryz.prog 311 #[.string S3, .int .i32 ((Utf8.decode s i).1 : Int)] W fun en w' => (∃ z : Int, 0 ≤ z ∧ en = .returned (.int .i64 z)) ∧ Below W.heap.size W w') ∨
    (1 ≤ (Utf8.decode s i).2 ∧ i + (Utf8.decode s i).2 ≤ s.size ∧ Lib.NoAny s.data.toList S3L (i + (Utf8.decode s i).2) ∧ Calls Tryz.prog 311 #[.string S3, .int .i32 ((Utf8.decode s i).1 : Int)] W fun en w' => en = .returned (.int .i64 (-1)) ∧ Below W.heap.size W w') := by
  by_cases hx : 128 ≤ (s.get! i).toNat
  · obtain ⟨h1, h2, h3, h4⟩ := noAny_rune s i hi hx hno
    exact .inr ⟨h1, h2, h3, indexRune_high _ (by omega) W⟩
  · have hg : s[i]'hi = s.get! i := by simp [ByteArray.get!, getElem!_pos, hi]; rfl
    have hd : Utf8.decode s i = ((s.get! i).toNat, 1) := by rw [decode_ascii s i hi (by rw [hg]; omega), hg]
    have hlt : (s.get! i).toNat < 128 := by omega
    have hback : (((s.get! i).toNat : Int)).toNat.toUInt8 = s.get! i := by simp
    have hS : S3.data.toList = S3L := rfl
    have hcon := Lib.contains_iff_indexByte S3L (s.get! i)
    have hc := Tryz.strings_IndexRune_ascii S3 ((s.get! i).toNat : Int) W (by omega) (by omega)
    rw [hback, hS] at hc
    rw [hd]
    cases hin : S3L.contains (s.get! i)
    · refine .inr ⟨Nat.le_refl _, by simp only; omega, hno.succ (get_at s i hi) hin, hc.mono ?_⟩
      rintro en w' ⟨rfl, rfl⟩
      rw [hin] at hcon
      have hn : ¬ 0 ≤ Lib.indexByte S3L (s.get! i) := of_decide_eq_false hcon.symm
      have hge := Lib.indexByte_ge S3L (s.get! i)
      have : Lib.indexByte S3L (s.get! i) = -1 := by omega
      exact ⟨by rw [this], Below.refl _ _⟩
    · refine .inl ⟨rfl, rfl, hc.mono ?_⟩
      rintro en w' ⟨rfl, rfl⟩
      rw [hin] at hcon
      exact ⟨⟨_, of_decide_eq_true hcon.symm, rfl⟩, Below.refl _ _⟩
set_option maxRecDepth 100000 in
set_option maxHeartbeats 4000000 in
theorem indexAny_short (s : ByteArray) (h8 : s.size ≤ 8) (w : World) :
    Calls Tryz.prog 263 #[.string s, .string ⟨#[32, 40, 41]⟩] w fun en w' => en = .returned (.int .i64 (Lib.indexAny s.data.toList S3L)) ∧ Below w.heap.size w w' := by
  have h8z : decide ((8 : Int) < (s.size : Int)) = false := decide_eq_false (by omega)
  obtain ⟨AN, hAN⟩ : ∃ z : Int, Lib.indexAny s.data.toList S3L = z := ⟨_, rfl⟩
  have HAN : Hid (Lib.indexAny s.data.toList S3L = AN) := Lib.hid hAN
  rw [hAN]
  clear hAN
  go_enter Tryz.func263, Tryz.ntmps263
  go_wp2_with (go_at_call 312; refine (Tryz.strings_shouldUseASCIISet _ _).mono ?_; rintro e w' ⟨rfl, hw⟩; rw [hw, h8z])
  go_loopg [] s.size (fun gf wx => ∃ pos : Nat, wx.heap[w.heap.size]? = some (.stringIter s pos) ∧ Below w.heap.size w wx ∧ Lib.NoAny s.data.toList S3L pos ∧ pos + gf = s.size)
  case atStart => exact ⟨0, World.iter_heap w s 0, (Below.refl _ w).alloc (Nat.le_refl _) _, Lib.NoAny.zero _ _, by omega⟩
  case round =>
    obtain ⟨pos, hit, hbw, hno, hfu⟩ := hrel
    have HNO := Lib.hid hno
    by_cases hps : pos < s.size
    · have hnx : ∀ ty, (Instr.next (.pointer (some ⟨w.heap.size, 0, none⟩)) true ty).run Tryz.prog wr = _ := fun ty => Lib.run_next_any_at wr w.heap.size s pos ty hit hps
      have hwd := Lib.width_pos s pos
      have HC := Lib.hid fun W => rune_call s pos hps W hno
      obtain ⟨R, hR⟩ : ∃ R, (Utf8.decode s pos).1 = R := ⟨_, rfl⟩
      obtain ⟨K, hK⟩ : ∃ K, (Utf8.decode s pos).2 = K := ⟨_, rfl⟩
      rw [hR, hK] at hnx HC
      rw [hK] at hwd
      have hit2 := Lib.iterAt_heap wr w.heap.size s pos (pos + K) hit
      have hbw2 := Lib.below_iterAt hbw (k := w.heap.size) (Nat.le_refl _) s (pos + K)
      obtain ⟨W, hWd⟩ : ∃ W, wr.iterAt w.heap.size s (pos + K) = W := ⟨_, rfl⟩
      rw [hWd] at hnx hit2 hbw2
      have hltW : w.heap.size < W.heap.size := (Array.getElem?_eq_some_iff.1 hit2).1
      have HC2 := Lib.hid (HC.out W)
      clear HC hno hR hK
      rcases HC2.out with ⟨hin, hk1, hcall⟩ | ⟨hk1, hk2, hk3, hcall⟩
      · have HCall := Lib.hid hcall
        have HIN := Lib.hid hin
        clear hcall HC2 hin
        go_wp2_with (go_at_call 311; refine HCall.out.mono ?_; rintro e W' ⟨⟨z, hz, rfl⟩, hbc⟩; have HBC := Lib.hid hbc; clear hbc)
        go_ret
        refine ⟨?_, (hbw2.trans (HBC.out.mono hbw2.size))⟩
        rw [← HAN.out, Lib.indexAny_hit HNO.out (get_at s pos hps) HIN.out]
        rfl
      · have HCall := Lib.hid hcall
        have HK3 := Lib.hid hk3
        clear hcall HC2 hk3
        go_wp2_with (go_at_call 311; refine HCall.out.mono ?_; rintro e W' ⟨rfl, hbc⟩; have HBC := Lib.hid hbc; clear hbc)
        go_roundg (s.size - (pos + K))
        case measure => omega
        case rel => exact ⟨pos + K, (HBC.out.block _ hltW).trans hit2, (hbw2.trans (HBC.out.mono hbw2.size)), HK3.out, by omega⟩
    · have hnx : ∀ ty, (Instr.next (.pointer (some ⟨w.heap.size, 0, none⟩)) true ty).run Tryz.prog wr = _ := fun ty => Lib.run_next_end_at wr w.heap.size s pos ty hit hps
      obtain rfl : pos = s.size := by omega
      clear hno
      go_wp2
      go_ret
      refine ⟨?_, hbw⟩
      rw [← HAN.out, Lib.indexAny_none (by have := HNO.out; rwa [Lib.size_eq] at this)]
      rfl
theorem indexAny_calls (s : List UInt8) (hl : s.length ≤ 1073741824) (w : World) :
    Calls Tryz.prog 263 #[.string ⟨s.toArray⟩, .string ⟨#[32, 40, 41]⟩] w fun en w' => en = .returned (.int .i64 (Lib.indexAny s [32, 40, 41])) ∧ Below w.heap.size w w' := by
  by_cases h8 : s.length ≤ 8
  · exact indexAny_short ⟨s.toArray⟩ h8 w
  · have h3 : ∀ (j : Nat) b, (⟨#[32, 40, 41]⟩ : ByteArray).data.toList[j]? = some b → b.toNat < 128 := by
      intro j b hb
      have hm : b ∈ ([32, 40, 41] : List UInt8) := List.mem_of_getElem? hb
      simp only [List.mem_cons, List.not_mem_nil, or_false] at hm
      rcases hm with h | h | h <;> subst h <;> decide
    refine (Tryz.strings_IndexAny_long (zero_of_info (P := Tryz.prog) (t := 386) (v := .agg (Array.replicate 256 (.bool false))) (n := 256) (by kernel_rfl)).1 ⟨s.toArray⟩ ⟨#[32, 40, 41]⟩ w (by decide) (by show 8 < s.length; omega) (by show s.length < _; omega) (by decide) h3).mono ?_
    rintro en w' ⟨rfl, rfl⟩
    have hb1 := (Below.refl w.heap.size w).alloc (Nat.le_refl _) (.cells (Lib.setCells (⟨#[32, 40, 41]⟩ : ByteArray).data.toList) 386)
    exact ⟨rfl, hb1.alloc hb1.size _⟩
end Go.Proofs.YtkopmnhngjbmcaaGreatDoor.Sn
/- (parser.word). -/
namespace Go.Proofs.YtkopmnhngjbmcaaGreatDoor.Sn
open Go Go.RowKit
set_option linter.unusedVariables false
theorem stop_any (c : UInt8) : ([32, 40, 41] : List UInt8).contains c = stop c := by
  simp only [List.contains_cons, List.contains_nil, Bool.or_false, stop, Bool.or_assoc]
theorem index_word (s : List UInt8) : Lib.indexAny s [32, 40, 41] = if afterW s = [] then -1 else ((wordOf s).length : Int) := by
  induction s with
  | nil => rfl
  | cons c s ih =>
    rw [Lib.indexAny, stop_any]
    unfold afterW wordOf at ih ⊢
    rw [List.dropWhile_cons, List.takeWhile_cons]
    cases hc : stop c
    · simp only [Bool.not_false, if_true, Bool.false_eq_true, if_false]
      rw [ih]
      split
      · rfl
      · simp only [List.length_cons]
        rw [if_neg (by simp <;> omega)]
        try omega
    · simp
theorem ba_extract (l : List UInt8) (a b : Nat) : (⟨l.toArray⟩ : ByteArray).extract a b = ⟨((l.take b).drop a).toArray⟩ := by
  apply ByteArray.ext
  simp [List.drop_take]
theorem word_take (s : List UInt8) : s.take (wordOf s).length = wordOf s := by
  have h := word_after s
  calc s.take (wordOf s).length = (wordOf s ++ afterW s).take (wordOf s).length := by rw [h]
    _ = wordOf s := by simp
theorem word_drop (s : List UInt8) : s.drop (wordOf s).length = afterW s := by
  have h := word_after s
  calc s.drop (wordOf s).length = (wordOf s ++ afterW s).drop (wordOf s).length := by rw [h]
    _ = afterW s := by simp
set_option maxRecDepth 100000 in
set_option maxHeartbeats 1000000 in
theorem word_calls (g : Nat) (s : List UInt8) (hl : s.length ≤ 1073741824) (w : World) (hg : w.heap[g]? = some (.cells (pcell s) 182 (0, 0))) :
    Calls Tryz.prog 210 #[.pointer (some ⟨g, 0, none⟩)] w fun en w' => en = .returned (.string ⟨(wordOf s).toArray⟩) ∧ w'.heap[g]? = some (.cells (pcell (afterW s)) 182 (0, 0)) ∧ w.grownBy w' (some g) := by
  have h0 : w.cell? ⟨g, 0, none⟩ = some (.string ⟨s.toArray⟩) := (blk_cell hg 0).trans rfl
  have HG := Lib.hid hg
  have HW := Lib.hid (index_word s)
  have hlen : (wordOf s).length + (afterW s).length = s.length := by rw [← List.length_append, word_after]
  have HWT := Lib.hid (word_take s)
  have HWD := Lib.hid (word_drop s)
  obtain ⟨k, hk⟩ : ∃ k, (wordOf s).length = k := ⟨_, rfl⟩
  rw [hk] at HW HWT HWD hlen
  clear hg hk
  have hcall := indexAny_calls s hl
  by_cases hA : afterW s = []
  · rw [hA] at hlen
    have hks : k = s.length := by simpa using hlen
    have HC : Hid (∀ W, Calls Tryz.prog 263 #[.string ⟨s.toArray⟩, .string ⟨#[32, 40, 41]⟩] W fun en w' => en = .returned (.int .i64 (-1)) ∧ Below W.heap.size W w') := Lib.hid fun W => by
      have := hcall W
      rw [HW.out, if_pos hA] at this; exact this
    have HK := Lib.hid hks
    have HA := Lib.hid hA
    clear hcall hA hlen hks
    go_enter Tryz.func210, Tryz.ntmps210
    go_wp2_with (first
      | (go_at_call 263; refine (HC.out _).mono ?_; rintro en w2 ⟨rfl, hb2⟩; have HB2 := Lib.hid hb2; have HG2 := Lib.hid (below_blk hb2 HG.out); clear hb2; have h2 : w2.cell? ⟨g, 0, none⟩ = some (.string ⟨s.toArray⟩) := (blk_cell HG2.out 0).trans rfl; have z2 : w2.frozen? ⟨g, 0, none⟩ = false := blk_frozen HG2.out 0))
    go_ret
    refine ⟨?_, ?_, grown_trans (grown_below HB2.out) (grown_set (grown_refl _ (some g)) 0 _)⟩
    · rw [ba_extract, ← HK.out, List.drop_zero, HWT.out]; rfl
    · rw [HA.out]
      exact blk_set HG2.out 0 (.string ByteArray.empty)
  · have HC : Hid (∀ W, Calls Tryz.prog 263 #[.string ⟨s.toArray⟩, .string ⟨#[32, 40, 41]⟩] W fun en w' => en = .returned (.int .i64 (k : Int)) ∧ Below W.heap.size W w') := Lib.hid fun W => by
      have := hcall W
      rw [HW.out, if_neg hA] at this; exact this
    have hks : k ≤ s.length := by omega
    clear hcall hA hlen
    go_enter Tryz.func210, Tryz.ntmps210
    go_wp2_with (first
      | (go_at_call 263; refine (HC.out _).mono ?_; rintro en w2 ⟨rfl, hb2⟩; have HB2 := Lib.hid hb2; have HG2 := Lib.hid (below_blk hb2 HG.out); clear hb2; have h2 : w2.cell? ⟨g, 0, none⟩ = some (.string ⟨s.toArray⟩) := (blk_cell HG2.out 0).trans rfl; have z2 : w2.frozen? ⟨g, 0, none⟩ = false := blk_frozen HG2.out 0))
    go_ret
    refine ⟨?_, ?_, grown_trans (grown_below HB2.out) (grown_set (grown_refl _ (some g)) 0 _)⟩
    · rw [ba_extract, List.drop_zero, HWT.out]; rfl
    · rw [ba_extract, List.take_length, HWD.out]
      exact blk_set HG2.out 0 (.string ⟨(afterW s).toArray⟩)
end Go.Proofs.YtkopmnhngjbmcaaGreatDoor.Sn

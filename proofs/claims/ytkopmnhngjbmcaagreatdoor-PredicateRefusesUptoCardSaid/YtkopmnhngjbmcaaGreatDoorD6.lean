/- (parser.skip), number. -/
import Derived.Test.YtkopmnhngjbmcaaGreatDoorD5
namespace Go.Proofs.YtkopmnhngjbmcaaGreatDoor.Sn
open Go Go.RowKit
set_option linter.unusedVariables false
/-- the panic of the parser -/
def wrongE : Ending := .panicked [{ v := .iface 179 (.agg #[]), recovered := false }]
def pcell (s : List UInt8) : Array Value := #[.string ⟨s.toArray⟩]
theorem cutP_prefix {p s t : List UInt8} (h : cutP p s = some t) : Lib.hasPrefix s p = true ∧ Lib.trimPrefix s p = t := by
  unfold cutP at h
  unfold Lib.trimPrefix Lib.hasPrefix
  split at h
  · rename_i hp
    cases h
    rw [hp]; exact ⟨rfl, rfl⟩
  · cases h
theorem cutP_nope {p s : List UInt8} (h : cutP p s = none) : Lib.hasPrefix s p = false ∧ Lib.trimPrefix s p = s := by
  unfold cutP at h
  unfold Lib.trimPrefix Lib.hasPrefix
  split at h
  · cases h
  · rename_i hp
    have hp : p.isPrefixOf s = false := Bool.eq_false_iff.2 hp
    rw [hp]; exact ⟨rfl, rfl⟩
theorem cut_some {p s t : List UInt8} (h : cutP p s = some t) (w : World) : Calls Tryz.prog 160 #[.string ⟨s.toArray⟩, .string ⟨p.toArray⟩] w fun e w' => e = .returned (.tuple #[.string ⟨t.toArray⟩, .bool true]) ∧ w = w' := by
  have h1 := cutP_prefix h
  have := Tryz.strings_CutPrefix ⟨s.toArray⟩ ⟨p.toArray⟩ w
  refine this.mono fun e w' ⟨he, hw⟩ => ⟨?_, hw.symm⟩
  rw [he]
  show Ending.returned (.tuple #[.string ⟨(Lib.trimPrefix s p).toArray⟩, .bool (Lib.hasPrefix s p)]) = _
  rw [h1.1, h1.2]
theorem cut_none {p s : List UInt8} (h : cutP p s = none) (w : World) : Calls Tryz.prog 160 #[.string ⟨s.toArray⟩, .string ⟨p.toArray⟩] w fun e w' => e = .returned (.tuple #[.string ⟨s.toArray⟩, .bool false]) ∧ w = w' := by
  have h1 := cutP_nope h
  have := Tryz.strings_CutPrefix ⟨s.toArray⟩ ⟨p.toArray⟩ w
  refine this.mono fun e w' ⟨he, hw⟩ => ⟨?_, hw.symm⟩
  rw [he]
  show Ending.returned (.tuple #[.string ⟨(Lib.trimPrefix s p).toArray⟩, .bool (Lib.hasPrefix s p)]) = _
  rw [h1.1, h1.2]
theorem pre_some {p s t : List UInt8} (h : cutP p s = some t) (w : World) : Calls Tryz.prog 146 #[.string ⟨s.toArray⟩, .string ⟨p.toArray⟩] w fun e w' => e = .returned (.bool true) ∧ w = w' := by
  refine (Tryz.strings_HasPrefix ⟨s.toArray⟩ ⟨p.toArray⟩ w).mono fun e w' ⟨he, hw⟩ => ⟨?_, hw.symm⟩
  rw [he]
  show Ending.returned (.bool (Lib.hasPrefix s p)) = _
  rw [(cutP_prefix h).1]
theorem pre_none {p s : List UInt8} (h : cutP p s = none) (w : World) : Calls Tryz.prog 146 #[.string ⟨s.toArray⟩, .string ⟨p.toArray⟩] w fun e w' => e = .returned (.bool false) ∧ w = w' := by
  refine (Tryz.strings_HasPrefix ⟨s.toArray⟩ ⟨p.toArray⟩ w).mono fun e w' ⟨he, hw⟩ => ⟨?_, hw.symm⟩
  rw [he]
  show Ending.returned (.bool (Lib.hasPrefix s p)) = _
  rw [(cutP_nope h).1]
set_option maxRecDepth 100000 in
set_option maxHeartbeats 1000000 in
theorem skip_some (g : Nat) (s wd t : List UInt8) (h : cutP wd s = some t) (w : World) (hg : w.heap[g]? = some (.cells (pcell s) 182 (0, 0))) :
    Calls Tryz.prog 147 #[.pointer (some ⟨g, 0, none⟩), .string ⟨wd.toArray⟩] w fun en w' => en = .returned (.tuple #[]) ∧ w'.heap[g]? = some (.cells (pcell t) 182 (0, 0)) ∧ w.grownBy w' (some g) := by
  have h0 : w.cell? ⟨g, 0, none⟩ = some (.string ⟨s.toArray⟩) := (blk_cell hg 0).trans rfl
  have z0 := blk_frozen hg 0
  have HC := Lib.hid (cut_some h)
  have HG := Lib.hid hg
  clear h hg
  go_enter Tryz.func147, Tryz.ntmps147
  go_wp2_with (go_at_call 160; refine (HC.out _).mono ?_; rintro en w2 ⟨rfl, rfl⟩)
  go_end0
  exact ⟨rfl, blk_set HG.out 0 (.string ⟨t.toArray⟩), grown_set (grown_refl w (some g)) 0 _⟩
set_option maxRecDepth 100000 in
set_option maxHeartbeats 1000000 in
theorem skip_none (g : Nat) (s wd : List UInt8) (h : cutP wd s = none) (w : World) (hg : w.heap[g]? = some (.cells (pcell s) 182 (0, 0))) :
    Calls Tryz.prog 147 #[.pointer (some ⟨g, 0, none⟩), .string ⟨wd.toArray⟩] w fun en w' => en = wrongE ∧ w = w' := by
  have h0 : w.cell? ⟨g, 0, none⟩ = some (.string ⟨s.toArray⟩) := (blk_cell hg 0).trans rfl
  have HC := Lib.hid (cut_none h)
  clear h hg
  unfold wrongE
  go_enter Tryz.func147, Tryz.ntmps147
  go_wp2_with (go_at_call 160; refine (HC.out _).mono ?_; rintro en w2 ⟨rfl, rfl⟩)

  exact ⟨rfl, rfl, rfl⟩
/-- a number that is written as it should be -/
theorem number_some (S : Snap) (hL : LibOk S) (wd : List UInt8) (v : Int) (h : num wd = some v) (hl : wd.length ≤ 1073741824) (w : World) (hS : Agr S w) :
    Calls Tryz.prog 211 #[.string ⟨wd.toArray⟩] w fun en w' => en = .returned (.int .i64 v) ∧ Below w.heap.size w w' := by
  have hat : Lib.atoiAll wd = .ok v := by
    unfold num at h
    split at h
    · rename_i u hu
      split at h
      · cases h; exact hu
      · cases h
    · cases h
  have hit := num_some h
  have hb := Lib.atoiAll_bounds hat
  have HA : Hid (Calls Tryz.prog 162 #[.string ⟨wd.toArray⟩] w fun e w' => e = .returned (.tuple #[.int .i64 v, .nilIface]) ∧ Below w.heap.size w w') := Lib.hid ((Tryz.strconv_Atoi_ok ⟨wd.toArray⟩ (by show wd.length ≤ _; omega) v hat w).mono fun e w' ⟨he, hw⟩ => ⟨he, by
    rcases hw with rfl | ⟨t, rfl⟩
    · exact Below.refl _ _
    · exact Lib.bytesWorld_below _ _ _⟩)
  have HI : Hid (∀ W, Below w.heap.size w W → Calls Tryz.prog 114 #[.int .i64 v] W fun en w' => en = .returned (.string ⟨wd.toArray⟩) ∧ Below W.heap.size W w') := Lib.hid fun W hW => by
    have := itoa_calls v hb.1 hb.2 S hL W (hS.below hW)
    rw [hit] at this
    exact this
  have HB := Lib.hid hb
  clear h hat hit hS hL hb
  go_enter Tryz.func211, Tryz.ntmps211
  go_wp2_with (first
    | (go_at_call 162; refine HA.out.mono ?_; rintro en w2 ⟨rfl, hb2⟩; have HB2 := Lib.hid hb2; clear hb2)
    | (go_at_call 114; refine (HI.out _ HB2.out).mono ?_; rintro en w3 ⟨rfl, hb3⟩; have HB3 := Lib.hid (below_trans HB2.out hb3); clear hb3))
  go_ret
  exact ⟨rfl, HB3.out⟩
theorem number_bad (S : Snap) (hL : LibOk S) (wd : List UInt8) (v : Int) (h : num wd = none) (hat : Lib.atoiAll wd = .ok v) (hl : wd.length ≤ 1073741824) (w : World) (hS : Agr S w) :
    Calls Tryz.prog 211 #[.string ⟨wd.toArray⟩] w fun en w' => en = wrongE ∧ Below w.heap.size w w' := by
  have hne : ¬ Lib.itoa v = wd := by
    unfold num at h
    rw [hat] at h
    simp only at h
    split at h
    · cases h
    · assumption
  have hb := Lib.atoiAll_bounds hat
  have HA : Hid (Calls Tryz.prog 162 #[.string ⟨wd.toArray⟩] w fun e w' => e = .returned (.tuple #[.int .i64 v, .nilIface]) ∧ Below w.heap.size w w') := Lib.hid ((Tryz.strconv_Atoi_ok ⟨wd.toArray⟩ (by show wd.length ≤ _; omega) v hat w).mono fun e w' ⟨he, hw⟩ => ⟨he, by
    rcases hw with rfl | ⟨t, rfl⟩
    · exact Below.refl _ _
    · exact Lib.bytesWorld_below _ _ _⟩)
  have HI : Hid (∀ W, Below w.heap.size w W → Calls Tryz.prog 114 #[.int .i64 v] W fun en w' => en = .returned (.string ⟨(Lib.itoa v).toArray⟩) ∧ Below W.heap.size W w') := Lib.hid fun W hW => itoa_calls v hb.1 hb.2 S hL W (hS.below hW)
  have HNE := Lib.hid hne
  generalize hJ : Lib.itoa v = J at HI HNE
  have hbq : (J == wd) = false := beq_eq_false_iff_ne.2 HNE.out
  clear h hat hne hS hL hb hJ
  unfold wrongE
  go_enter Tryz.func211, Tryz.ntmps211
  go_wp2_with (first
    | (go_at_call 162; refine HA.out.mono ?_; rintro en w2 ⟨rfl, hb2⟩; have HB2 := Lib.hid hb2; clear hb2)
    | (go_at_call 114; refine (HI.out _ HB2.out).mono ?_; rintro en w3 ⟨rfl, hb3⟩; have HB3 := Lib.hid (below_trans HB2.out hb3); clear hb3))
  exact ⟨rfl, rfl, HB3.out⟩
theorem number_err (S : Snap) (hL : LibOk S) (wd : List UInt8) (hat : Lib.atoiAll wd = Lib.atoiAll [] ∨ Lib.atoiAll wd = .range) (hl : wd.length ≤ 1073741824) (w : World) (hS : Agr S w) :
    Calls Tryz.prog 211 #[.string ⟨wd.toArray⟩] w fun en w' => en = wrongE ∧ Below w.heap.size w w' := by
  obtain ⟨_, ⟨t1, p1, e1⟩, ⟨t2, p2, e2⟩⟩ := hL w hS
  have HA : Hid (Calls Tryz.prog 162 #[.string ⟨wd.toArray⟩] w fun e w' => ∃ (m : Int) (N : Nat), e = .returned (.tuple #[.int .i64 m, .iface 359 (.pointer (some ⟨N, 0, none⟩))]) ∧ Below w.heap.size w w') := Lib.hid (by
    rcases hat with hat | hat
    · exact (Tryz.strconv_Atoi_syntax ⟨wd.toArray⟩ (by show wd.length ≤ _; omega) hat _ w e1 (.inr ⟨_, _, rfl⟩)).mono fun e w' ⟨N, he, _, _, hw⟩ => ⟨_, N, he, hw⟩
    · exact (Tryz.strconv_Atoi_range ⟨wd.toArray⟩ (by show wd.length ≤ _; omega) hat _ w e2 (.inr ⟨_, _, rfl⟩)).mono fun e w' ⟨N, he, _, _, hw⟩ => ⟨_, N, he, hw⟩)
  clear hat hS hL e1 e2
  unfold wrongE
  go_enter Tryz.func211, Tryz.ntmps211
  go_wp2_with (first
    | (go_at_call 162; refine HA.out.mono ?_; rintro en w2 ⟨m, N, rfl, hb2⟩; have HB2 := Lib.hid hb2; clear hb2))
  exact ⟨rfl, rfl, HB2.out⟩
theorem number_none (S : Snap) (hL : LibOk S) (wd : List UInt8) (h : num wd = none) (hl : wd.length ≤ 1073741824) (w : World) (hS : Agr S w) :
    Calls Tryz.prog 211 #[.string ⟨wd.toArray⟩] w fun en w' => en = wrongE ∧ Below w.heap.size w w' := by
  cases hat : Lib.atoiAll wd
  · exact number_bad S hL wd _ h hat hl w hS
  · exact number_err S hL wd (.inl hat) hl w hS
  · exact number_err S hL wd (.inr hat) hl w hS
end Go.Proofs.YtkopmnhngjbmcaaGreatDoor.Sn

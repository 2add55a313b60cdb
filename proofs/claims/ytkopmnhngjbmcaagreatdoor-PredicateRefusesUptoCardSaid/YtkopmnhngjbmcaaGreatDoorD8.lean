/- (parser.operator). -/
import Derived.Test.YtkopmnhngjbmcaaGreatDoorD7
import Derived.Maps.StringElems
namespace Go.Proofs.YtkopmnhngjbmcaaGreatDoor.Sn
open Go Go.RowKit Go.Maps
set_option linter.unusedVariables false
theorem law3 : Keyed Tryz.prog 3 := int_keyed Tryz.underlying3
def wD : DataW Unit := .map (wtab.map fun p => (.int .i64 p.1, .lit (.string p.2)))
theorem wes_owns {w : World} {b : Nat} (h : w.heap[b]? = some (.map wes 13)) : w.ownsMap Tryz.prog 3 (plainElem (H := Unit) Tryz.prog 9) b 13 wD := by
  refine ⟨wes, 13, h, ⟨by decide, ?_, ?_⟩, by decide, by kernel_rfl⟩
  · refine (MapKept.stamped_iff _ _).2 ⟨by decide, by decide, ?_⟩
    simp [wes]
  · intro x hx
    have hx' : x ∈ [(⟨.int .i64 4, .string ⟨#[43]⟩, 0⟩ : MapEntry), ⟨.int .i64 5, .string ⟨#[45]⟩, 1⟩, ⟨.int .i64 6, .string ⟨#[42]⟩, 2⟩, ⟨.int .i64 7, .string ⟨#[47]⟩, 3⟩, ⟨.int .i64 8, .string ⟨#[37]⟩, 4⟩, ⟨.int .i64 9, .string ⟨#[109, 105, 110]⟩, 5⟩, ⟨.int .i64 10, .string ⟨#[109, 97, 120]⟩, 6⟩,
      ⟨.int .i64 102, .string ⟨#[60]⟩, 7⟩, ⟨.int .i64 103, .string ⟨#[60, 61]⟩, 8⟩, ⟨.int .i64 104, .string ⟨#[61]⟩, 9⟩, ⟨.int .i64 105, .string ⟨#[110, 111, 116]⟩, 10⟩, ⟨.int .i64 106, .string ⟨#[97, 110, 100]⟩, 11⟩, ⟨.int .i64 107, .string ⟨#[111, 114]⟩, 12⟩] := hx
    simp only [List.mem_cons, List.not_mem_nil, or_false] at hx'
    rcases hx' with rfl | rfl | rfl | rfl | rfl | rfl | rfl | rfl | rfl | rfl | rfl | rfl | rfl
    · exact ⟨(.int .i64 4, .lit (.string [43])), by kernel_rfl⟩
    · exact ⟨(.int .i64 5, .lit (.string [45])), by kernel_rfl⟩
    · exact ⟨(.int .i64 6, .lit (.string [42])), by kernel_rfl⟩
    · exact ⟨(.int .i64 7, .lit (.string [47])), by kernel_rfl⟩
    · exact ⟨(.int .i64 8, .lit (.string [37])), by kernel_rfl⟩
    · exact ⟨(.int .i64 9, .lit (.string [109, 105, 110])), by kernel_rfl⟩
    · exact ⟨(.int .i64 10, .lit (.string [109, 97, 120])), by kernel_rfl⟩
    · exact ⟨(.int .i64 102, .lit (.string [60])), by kernel_rfl⟩
    · exact ⟨(.int .i64 103, .lit (.string [60, 61])), by kernel_rfl⟩
    · exact ⟨(.int .i64 104, .lit (.string [61])), by kernel_rfl⟩
    · exact ⟨(.int .i64 105, .lit (.string [110, 111, 116])), by kernel_rfl⟩
    · exact ⟨(.int .i64 106, .lit (.string [97, 110, 100])), by kernel_rfl⟩
    · exact ⟨(.int .i64 107, .lit (.string [111, 114])), by kernel_rfl⟩
theorem lit_same (a b : Int) : (Lit.int .i64 a).sameKey (.int .i64 b) = decide (a = b) := by
  simp [Lit.sameKey]
theorem wD_find : ∀ (l : List (Int × List UInt8)) (x : Int) (c : List UInt8), (∀ zd, (DataW.map (H := Unit) (l.map fun p => (.int .i64 p.1, .lit (.string p.2)))).atKey (.int .i64 x) zd = .lit (.string c)) → (x, c) ∈ l := by
  intro l x c h
  induction l with
  | nil => have := h .nil; simp [DataW.atKey] at this
  | cons p l ih =>
    by_cases hp : p.1 = x
    · have := h .nil
      simp only [DataW.atKey, List.map_cons, List.find?_cons, lit_same, hp, decide_true] at this
      injection this with this
      injection this with this
      exact List.mem_cons.2 (.inl (by rw [← this, ← hp]))
    · refine List.mem_cons.2 (.inr (ih fun zd => ?_))
      have := h zd
      simpa [DataW.atKey, List.find?_cons, lit_same, hp] using this
theorem wD_at {x : Int} {c : List UInt8} (h : ∀ zd, wD.atKey (.int .i64 x) zd = .lit (.string c)) : opOf c = some x ∧ word x = c := by
  have := wtab_all _ (wD_find wtab x c h)
  exact ⟨this.2.1, this.1⟩
theorem ba_list (c : ByteArray) : c = ⟨c.data.toList.toArray⟩ := by cases c; simp
/-- what the operator's reader answers -/
def opOut (r : Option Int) (en : Ending) : Prop := match r with | some op => en = .returned (.int .i64 op) | none => en = wrongE
set_option maxRecDepth 100000 in
set_option maxHeartbeats 2000000 in
theorem operator_calls (g : Nat) (s : List UInt8) (hl : s.length ≤ 1073741824) (w : World) (hg : w.heap[g]? = some (.cells (pcell s) 182 (0, 0))) :
    Calls Tryz.prog 148 #[.pointer (some ⟨g, 0, none⟩)] w fun en w' => opOut (opOf (wordOf s)) en ∧ w'.heap[g]? = some (.cells (pcell (afterW s)) 182 (0, 0)) ∧ w.grownBy w' (some g) := by
  have HW := Lib.hid (word_calls g s hl w hg)
  obtain ⟨wd, hwd⟩ : ∃ wd, wordOf s = wd := ⟨_, rfl⟩
  rw [hwd] at HW ⊢
  obtain ⟨t, ht⟩ : ∃ t, afterW s = t := ⟨_, rfl⟩
  rw [ht] at HW ⊢
  obtain ⟨ro, hro⟩ : ∃ ro, opOf wd = ro := ⟨_, rfl⟩
  have HRO := Lib.hid hro
  rw [hro]
  clear hwd ht hro hg
  go_enter Tryz.func148, Tryz.ntmps148
  go_wp2_with (first
    | (go_at_call 210; refine HW.out.mono ?_; rintro en w1 ⟨rfl, hg1, hgr1⟩; have HG1 := Lib.hid hg1; have HGR1 := Lib.hid hgr1; clear hg1 hgr1)
    | (go_at_call 207; refine (words_calls _).mono ?_; rintro en w2 ⟨m, rfl, hm, hge, hb2⟩; have HG2 := Lib.hid (below_blk hb2 HG1.out); have HM := Lib.hid hm; have HB2 := Lib.hid hb2; clear hm hge hb2)
    | (at_range; refine wpList_range_own _ rfl _ 313 rfl 3 9 law3 Tryz.underlying313 _ m 13 _ rfl (wes_owns HM.out) ?_; intro w3 hrg3 hg3 hs3; have HRG3 := Lib.hid hrg3; have HB3 := Lib.hid (below_grown hg3); have HG3 := Lib.hid (below_blk HB3.out HG2.out); clear hrg3 hg3 hs3))
  go_frame
  go_loopw [4] (fun _ wr => ∃ (left : Lit → Bool) (cnt : Nat), wr.ranges Tryz.prog 3 (plainElem (H := Unit) Tryz.prog 9) m w2.heap.size 13 wD left cnt ∧ (∀ op, opOf wd = some op → left (.int .i64 op) = true) ∧ wr.heap[g]? = some (.cells (pcell t) 182 (0, 0)) ∧ Below w2.heap.size w2 wr)
    (fun _ wr => wr.rangeLeft m w2.heap.size)
  case atStart => exact ⟨_, _, HRG3.out, fun op h => by
      obtain ⟨_, h2⟩ := wtab_all _ (opOf_some h)
      obtain ⟨hw2, _⟩ := wtab_all _ (opOf_some h)
      have : ∀ p ∈ wtab, Maps.has (H := Unit) wD (.int .i64 p.1) = true := by decide +kernel
      exact this _ (opOf_some h), HG3.out, HB3.out⟩
  case round =>
    obtain ⟨left, cnt, hrg, hleft, hgp, hB⟩ := hrel
    have HRG := Lib.hid hrg
    have HLEFT := Lib.hid hleft
    have HGP := Lib.hid hgp
    have HB := Lib.hid hB
    clear hrg hleft hgp hB
    go_wp2_with (at_next; refine wpList_next_ranges_is _ rfl _ rfl 3 9 .i64 law3 Tryz.underlying3 Tryz.underlying9 m w2.heap.size 13 _ _ _ rfl HRG.out ?_ ?_)
    · intro _ hl0
      have HL0 := Lib.hid hl0
      clear hl0
      have HN : Hid (ro = none) := Lib.hid (by
        cases hr : ro with
        | none => rfl
        | some op => have h1 := HLEFT.out op (HRO.out.trans hr); rw [HL0.out] at h1; cases h1)
      go_wp2
      rw [HN.out]
      exact ⟨rfl, rfl, HGP.out, grown_trans HGR1.out (grown_below (below_trans HB2.out HB.out))⟩
    · intro x c w4 cnt1 hwx hwc hlx hat hrg1 hlt hg1 hs1 hen
      obtain ⟨l, rfl⟩ : ∃ l : List UInt8, c = ⟨l.toArray⟩ := ⟨_, ba_list c⟩
      have HAT := Lib.hid (wD_at (x := x) (c := l) hat)
      have HRG1 := Lib.hid hrg1
      have HLT := Lib.hid hlt
      have HB4 := Lib.hid (below_grown_new HB.out hg1 (Nat.le_refl _))
      have HGP4 : Hid (w4.heap[g]? = some (.cells (pcell t) 182 (0, 0))) := Lib.hid (grown_blk hg1 HGP.out (fun e => by
        cases e
        have := blk_lt HG2.out
        omega))
      clear hwx hwc hlx hat hrg1 hlt hg1 hs1
      by_cases hc : l = wd
      · have hc' : (l == wd) = true := by rw [hc]; simp
        have HN : Hid (ro = some x) := Lib.hid (by rw [← HRO.out, ← hc]; exact HAT.out.1)
        clear hc
        go_wp2
        go_ret
        rw [HN.out]
        exact ⟨rfl, HGP4.out, grown_trans HGR1.out (grown_below (below_trans HB2.out HB4.out))⟩
      · have hc' : (l == wd) = false := beq_eq_false_iff_ne.2 hc
        have HNE := Lib.hid hc
        clear hc
        go_wp2
        go_roundw
        case rel => exact ⟨_, cnt1, HRG1.out, fun op h => by
          have h1 := HLEFT.out op h
          rw [h1, lit_same]
          have : op ≠ x := fun e => by
            have h2 := (wtab_all _ (opOf_some h)).1
            rw [e] at h2
            exact HNE.out (HAT.out.2.symm.trans h2)
          simp [this], HGP4.out, HB4.out⟩
        case measure => rw [HRG1.out.left_eq, HRG.out.left_eq]; exact HLT.out
end Go.Proofs.YtkopmnhngjbmcaaGreatDoor.Sn

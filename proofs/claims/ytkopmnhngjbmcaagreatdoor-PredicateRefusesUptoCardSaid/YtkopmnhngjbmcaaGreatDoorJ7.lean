/- parolelaw28.PredicateRefuses: the second form's card. -/
import Derived.Test.YtkopmnhngjbmcaaGreatDoorJ5
import Derived.Test.YtkopmnhngjbmcaaGreatDoorJ4
namespace Go.Proofs.YtkopmnhngjbmcaaGreatDoor.Refuses
open Go Go.RowKit Go.ChangeShapes Go.WideShapes Go.ChangeAt Go.Proofs.YtkopmnhngjbmcaaGreatDoor.Sn Go.Proofs.YtkopmnhngjbmcaaGreatDoor.Facts
set_option linter.unusedVariables false
theorem shut_u8 {H : Type} {enc : TypeId × Value → H} {W : World} {base : Nat} {sp : Nat → Bool} {held : Bool} (m : Nat) (h : (Lit.int .u8 (m : Int)).wf = true) : DataW.Trod enc Tryz.prog W base sp held 5 (.int .u8 (m : Int)) (.lit (.int .u8 (m : Int))) [] :=
  ⟨1, by unfold DataW.trod; simp [Value.cells, Tryz.underlying5, h]⟩
set_option maxRecDepth 100000 in
set_option maxHeartbeats 2000000 in
theorem contract (H : Type) (enc : TypeId × Value → H) (W : World) (base : Nat) (args : Array Value) (ds gs : List (DataW H)) (before : List MemPlace)
    (hval : ∀ (j : Nat) t v, Tryz.f4.params[j]? = some t → args[j]? = some v → Value.okWide Tryz.prog W .any base t v)
    (hW : DataW.Whole enc Tryz.prog Tryz.f4.params.toList Rows.predicateRefusesSpec.vars false W args.toList ds gs before) (hbk : Rows.uptoBulkAll (ds ++ gs) ≤ 1048576) (hL : laidMetH Tryz.prog laidL W) :
    Calls Tryz.prog 4 args W fun e W' => ∃ v, e = .returned v ∧ Rows.predicateRefusesSpec.post enc Tryz.prog Tryz.f4 false true false false W args v W' := by
  have hW' := hW
  obtain ⟨p, q, hA0, hV, rfl, hfz, hnd⟩ := hW
  have hA : DataW.TrodAll enc Tryz.prog W 0 (fun _ => true) true Tryz.f4.params.toList args.toList ds p := hA0
  rw [Tryz.params4] at hA hval
  obtain ⟨v0, v1, d0, d1, p0, p1, rfl, rfl, rfl, h0, h1⟩ := trodAll_two hA
  obtain ⟨rfl, rfl⟩ := trodVars_none hV
  obtain ⟨e, A, B, c, dd, rfl, hr, hs⟩ := open_cn (hval 0 25 v0 rfl rfl) h0
  obtain ⟨f1, h1'⟩ := h1
  obtain ⟨n1, e1, ex1, r1⟩ := DataW.trod_int Tryz.underlying5 h1'
  obtain ⟨m, rfl, hm⟩ := u8_range r1
  obtain ⟨rfl, rfl⟩ : d1 = .lit (.int .u8 (m : Int)) ∧ p1 = [] := by simpa using ex1
  obtain rfl : v1 = .int .u8 (m : Int) := by
    have h5 := hval 1 5 v1 rfl rfl
    unfold Value.okWide at h5
    simp only [Tryz.underlying5] at h5
    unfold Cell.okWide at h5
    cases v1 <;> simp [Value.cells, Cell.ok, Tryz.underlying5] at h5 e1
    rw [e1.1, e1.2]
  clear hA0
  simp only [List.append_nil] at hW' hbk
  have hsz : e.size < 1073741824 := by
    simp only [Rows.uptoBulkAll] at hbk
    omega
  have hlt : ∀ x ∈ p0, x.block < W.heap.size := fun x hx => by simpa using hW'.lt x hx
  refine (refuses_calls e hsz (snapOf W) (libOk_of hL) W (agr_snapOf W) A B c dd hr m hm).mono ?_
  rintro en W' ⟨rfl, bel⟩
  refine ⟨_, rfl, _, _, _, [], p0 ++ [], [], hW', ?_, ?_, ?_, bel.frame _, fun h => by cases h⟩
  · exact trodAll_mk1 (shut_bool Tryz.underlying4 _)
  · exact trodAll_mk2 (keep25 h0 bel hlt) (shut_u8 m r1)
  · rfl
/-- A WORLD FOR THE WITNESS: the heap that the door's own run leaves. -/
noncomputable def laidWorld (os : Os) : World := World.doorLaid Tryz.prog 62 os
def args0 : Array Value := #[.agg #[.int .i64 0, .slice none 0 0, .slice none 0 0], .int .u8 0]
theorem laid_met (os : Os) : laidMet Tryz.prog laidL ((laidWorld os).forCall (fun _ _ => 0) ⟨#[], args0, []⟩).memory :=
  laidMet_of_run' 8 (by kernel_rfl) (by kernel_rfl)
theorem reads (os : Os) {H : Type} (enc : TypeId × Value → H) : ∃ x, DataW.whole enc Tryz.prog ((laidWorld os).forCall (fun _ _ => 0) ⟨#[], args0, []⟩).memory Tryz.f4.params.toList Rows.predicateRefusesSpec.vars false args0.toList 8 = some x ∧
    (Rows.predicateRefusesUptoRow.domain.all (PathCond.test Tryz.prog ⟨Tryz.f4.params.toList, x.1, (Rows.OpenSpec.upto Rows.predicateRefusesSpec).bare.plain.varTypes Tryz.prog, x.2.1⟩) = true ∧ Rows.uptoSmall H (x.1 ++ x.2.1) = true) := by
  have hw : (DataW.whole enc Tryz.prog ((laidWorld os).forCall (fun _ _ => 0) ⟨#[], args0, []⟩).memory Tryz.f4.params.toList Rows.predicateRefusesSpec.vars false args0.toList 8).map (fun x =>
      Rows.predicateRefusesUptoRow.domain.all (PathCond.test Tryz.prog ⟨Tryz.f4.params.toList, x.1, (Rows.OpenSpec.upto Rows.predicateRefusesSpec).bare.plain.varTypes Tryz.prog, x.2.1⟩) && Rows.uptoSmall H (x.1 ++ x.2.1)) = some true := by kernel_rfl
  obtain ⟨x, hx, h⟩ := Option.map_eq_some_iff.1 hw
  rw [Bool.and_eq_true] at h
  exact ⟨x, hx, h⟩
set_option maxRecDepth 100000 in
theorem liftedUpto (os : Os) (started : os.Started) (H : Type) (enc : TypeId × Value → H) (F : Stop.Interp) :
    ReturnsInHanded {} Tryz.checked os 4 .any ((Rows.OpenSpec.upto Rows.predicateRefusesSpec).preRow enc Tryz.prog Tryz.f4 Rows.predicateRefusesUptoRow.domain false Rows.predicateRefusesUptoRow.laid) (((Rows.OpenSpec.upto Rows.predicateRefusesSpec).at F).post enc Tryz.prog Tryz.f4 false true false false) := by
  obtain ⟨x, hx, hc, hk⟩ := reads os enc
  refine returnsInHanded_of_row (C := Tryz.checked) (s := Rows.OpenSpec.upto Rows.predicateRefusesSpec) own started (by kernel_rfl) Tryz.func4
    (witness_row_atRef (enc := enc) (C := Tryz.checked) false (laidWorld os) args0 rfl (by kernel_rfl) (by kernel_rfl) (by kernel_rfl)
      (OpenSpec.preRow_of_cond 8 hx hc (fun k h => by cases h; exact hk) (by kernel_rfl) (laid_met os))) ?_
  intro W base args ds gs before hval hW _ hcond _ hL _ _
  exact contract H enc W base args ds gs before hval hW (of_decide_eq_true (hcond _ rfl)) hL
theorem c_wf : Rows.predicateRefusesUptoRow.wf (OpenSpec.ofChange (Rows.OpenSpec.upto Rows.predicateRefusesSpec).bare) = true := by kernel_rfl
theorem c_tie : namedTie Tryz.prog Rows.predicateRefusesUptoRow.named (Rows.OpenSpec.upto Rows.predicateRefusesSpec).bare.vars = true := by kernel_rfl
theorem c_place : (Rows.predicateRefusesUptoRow.inPlace == Tryz.prog.inPlace 4) = true := by kernel_rfl
theorem c_unf : (Rows.predicateRefusesUptoRow.unfollowed == Tryz.prog.unfollowed 4) = true := by kernel_rfl
theorem c_rec : (Rows.predicateRefusesUptoRow.recurses == Tryz.prog.recurses 4) = true := by kernel_rfl
theorem c_named : (Rows.predicateRefusesUptoRow.named == Tryz.prog.varsNamed 4) = true := by kernel_rfl
theorem closed : joinedFacts Tryz.pinned.checked.prog 4 Tryz.f4 (Rows.OpenSpec.upto Rows.predicateRefusesSpec).bare Rows.predicateRefusesUptoRow = true := by
  unfold joinedFacts
  refine andT (andT (andT (andT (andT (andT (andT (andT (andT (andT (andT (andT (andT (andT (andT (andT (andT (andT (andT (andT (andT (andT (andT (andT (andT (andT (andT (andT (andT (andT (andT c_wf laidOut) rowed) ?_) c_tie) ?_) ?_) ?_) ?_) c_place) c_unf) c_rec) c_named) ?_) ?_) ?_) ?_) ?_) ?_) ?_) ?_) ?_) plainKeys) ?_) heard) enters) lifted) ?_) ?_) ?_) ?_) ?_
  all_goals kernel_rfl
theorem saidUpto : Rows.PredicateRefusesUptoSaid :=
  OpenClaim.holds_of_cond 4 Tryz.f4 rfl rfl rfl rfl rfl rfl rfl ⟨rfl, rfl, rfl, rfl, rfl⟩ rfl rfl rfl rfl rfl (by kernel_rfl) Tryz.func4 closed
    (of_decide_eq_true (by kernel_rfl)) (by unfold Func.isWrapper; first | (rw [if_pos (by decide +kernel)]; kernel_rfl) | (rw [if_neg (by decide +kernel)]; exact ⟨rfl, rfl⟩))
    (fun os started H enc _ F => by rw [OpenClaim.pre_eq_preRow]; exact liftedUpto os started H enc F)
theorem plain (f : FuncId) (fn : Func) (hf : Tryz.pinned.checked.prog.funcNamed "parole/parolelaw28.PredicateRefuses" = some f) (hfn : Tryz.pinned.checked.prog.funcs[f]? = some fn) :
    true = Tryz.pinned.checked.prog.looks [] ∧ ∀ (j : Nat) t, fn.params[j]? = some t → Tryz.pinned.checked.prog.wantsStandIn t = false := by
  obtain rfl : f = 4 := Option.some.inj ((show Tryz.prog.funcNamed "parole/parolelaw28.PredicateRefuses" = some 4 by kernel_rfl).symm.trans hf) |>.symm
  obtain rfl : fn = Tryz.f4 := (Option.some.inj (Tryz.func4.symm.trans hfn)).symm
  refine ⟨by kernel_rfl, fun j t ht => ?_⟩
  rw [Tryz.params4] at ht
  have hm : t = 25 ∨ t = 5 := by simpa using Array.mem_of_getElem? ht
  rcases hm with rfl | rfl
  · exact (show Tryz.prog.wantsStandIn 25 = false by kernel_rfl)
  · exact (show Tryz.prog.wantsStandIn 5 = false by kernel_rfl)
theorem cardUpto : Rows.PredicateRefusesUptoCardSaid :=
  Claim7.holds_tied_plain_at .later [] _ _ _ _ saidUpto (fun _ h => by cases h) (by kernel_rfl) (fun _ h => by cases h) predicateRefusesUpto_row_tie rfl ⟨rfl, rfl⟩ (by kernel_rfl) rfl plain (by kernel_rfl)
end Go.Proofs.YtkopmnhngjbmcaaGreatDoor.Refuses

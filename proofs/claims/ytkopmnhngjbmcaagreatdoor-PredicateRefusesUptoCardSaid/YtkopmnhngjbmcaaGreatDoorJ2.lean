/- (parolelaw28.examples). -/
import Derived.Test.YtkopmnhngjbmcaaGreatDoorG1
import Derived.Test.YtkopmnhngjbmcaaGreatDoorG3
import Derived.Test.YtkopmnhngjbmcaaGreatDoorJ1
namespace Go.Proofs.YtkopmnhngjbmcaaGreatDoor.Sn
open Go Go.RowKit
set_option linter.unusedVariables false
section
variable {P : Program} {ops : Array Oper} {rest : List Oper} {o : Oper} {a : Act} {Q : Exit → Act → World → Prop}
theorem load_at_w {w : World} (hw : Region.wanted o (yielded ops a.tmps) = true) (ty : TypeId) (x : Operand) (ho : o.op = .load ty x) (p : Addr) (hx : a.eval x = .pointer (some p)) (cs : List Value)
    (hc : ∀ j u, cs[j]? = some u → w.cell? (p.add j) = some u) (d : TypeDesc) (hu : P.underlying ty = some d) (hd : (match d with | .struct _ | .array _ _ => true | _ => false) = true)
    (hi : (P.info? ty).map (·.size) = some cs.length) (h : wpList P ops Q rest (a.put o.dst (.agg cs.toArray)) w) : wpList P ops Q (o :: rest) a w := by
  have hl : (loadCells p cs.length).run P w = .ok cs.toArray w := run_loadCells_list (P := P) w p cs hc
  have hrun : (loadVar ty p).run P w = .ok (.agg cs.toArray) w := by
    cases hq : P.info? ty with
    | none => simp [hq] at hi
    | some i =>
      have hs : i.size = cs.length := by simpa [hq] using hi
      have hagg : (isAgg ty).run P w = .ok true w := by
        unfold isAgg
        rw [Sem.run_bind, run_underlying hu w]
        cases d <;> simp_all
      simp [loadVar, Sem.run_bind, hagg, sizeOf, typeInfo, hq, hs, hl]
  refine wpList_step fun K hK => ?_
  rw [if_pos hw]
  unfold Oper.wp execOp
  simp only [ho, hx, Instr.loadAt, Instr.sureAddr, Sem.run_bind, Sem.run_pure, Result.andThen_ok, hrun]
  exact hK _ _ h
end
/-- the condition that heads a block of four cells -/
theorem cells3of4 {w : World} {g : Nat} {t : TypeId} {a b c d : Value} (h : w.heap[g]? = some (.cells #[a, b, c, d] t (0, 0))) (j : Nat) (u : Value) (hj : [a, b, c][j]? = some u) : w.cell? ((⟨g, 0, none⟩ : Addr).add j) = some u := by
  rw [add_plain, blk_cell h]
  rcases j with _ | _ | _ | j
  · exact hj
  · exact hj
  · exact hj
  · simp at hj
theorem parsed_none (s : List UInt8) (hl : s.length ≤ 1073741824) (hn : parseL s = none) (S : Snap) (hL : LibOk S) (w : World) (hS : Agr S w) :
    Calls Tryz.prog 17 #[.string ⟨s.toArray⟩] w fun en w' => en = .returned (.agg #[.int .i64 0, .slice none 0 0, .slice none 0 0, .int .i64 3]) ∧ Below w.heap.size w w' := by
  have h := parsed_calls s hl S hL w hS
  rw [hn] at h; exact h
theorem parsed_some (s : List UInt8) (hl : s.length ≤ 1073741824) (e : Cn) (hn : parseL s = some e) (S : Snap) (hL : LibOk S) (w : World) (hS : Agr S w) :
    Calls Tryz.prog 17 #[.string ⟨s.toArray⟩] w fun en w' => ∃ (A B : Option Addr) (c d : Nat) (S' : Snap), en = .returned (.agg #[.int .i64 e.op, .slice A e.a.length c, .slice B e.c.length d, .int .i64 0]) ∧ RepC S' e [.int .i64 e.op, .slice A e.a.length c, .slice B e.c.length d] ∧ Out none S w S' w' := by
  have h := parsed_calls s hl S hL w hS
  rw [hn] at h; exact h
theorem ex_written (S : Snap) (hL : LibOk S) (A B : Option Addr) (c d : Nat) (hr : RepC S exC [.int .i64 2, .slice A 2 c, .slice B 0 d]) (w : World) (hS : Agr S w) :
    Calls Tryz.prog 15 #[.agg #[.int .i64 2, .slice A 2 c, .slice B 0 d]] w fun en w' => en = .returned (.agg #[.string ⟨#[40, 60, 32, 118, 48, 32, 40, 43, 32, 118, 49, 32, 45, 53, 41, 41]⟩, .int .i64 0]) ∧ Below w.heap.size w w' := by
  have h := written_calls exC (by decide) S hL w _ hS hr
  have ho : okP exC = true := ex_ok
  have h1 : textS exC = [40, 60, 32, 118, 48, 32, 40, 43, 32, 118, 49, 32, 45, 53, 41, 41] := by unfold textS; rw [if_pos ho]; exact ex_text
  have h2 : textE exC = 0 := by unfold textE; rw [if_pos ho]
  rw [h1, h2] at h
  exact h
theorem ex_written0 (S : Snap) (hL : LibOk S) (w : World) (hS : Agr S w) :
    Calls Tryz.prog 15 #[.agg #[.int .i64 0, .slice none 0 0, .slice none 0 0]] w fun en w' => en = .returned (.agg #[.string ⟨#[]⟩, .int .i64 3]) ∧ Below w.heap.size w w' := by
  have hr : RepC S Cn.zero [.int .i64 0, .slice none 0 0, .slice none 0 0] := RepC.close Cn.zero none none 0 0 (Nat.le_refl _) (Nat.le_refl _) (Row.nil _ _ _ _) (Row.nil _ _ _ _)
  have h := written_calls Cn.zero (by decide) S hL w _ hS hr
  have ho : okP Cn.zero = false := ex_zero
  have h1 : textS Cn.zero = [] := by unfold textS; rw [ho]; rfl
  have h2 : textE Cn.zero = 3 := by unfold textE; rw [ho]; rfl
  rw [h1, h2] at h
  exact h
theorem ex_parsed (S : Snap) (hL : LibOk S) (w : World) (hS : Agr S w) :
    Calls Tryz.prog 17 #[.string ⟨#[40, 60, 32, 118, 48, 32, 40, 43, 32, 118, 49, 32, 45, 53, 41, 41]⟩] w fun en w' => ∃ (A B : Option Addr) (c d : Nat) (S' : Snap), en = .returned (.agg #[.int .i64 2, .slice A 2 c, .slice B 0 d, .int .i64 0]) ∧ RepC S' exC [.int .i64 2, .slice A 2 c, .slice B 0 d] ∧ Out none S w S' w' :=
  parsed_some [40, 60, 32, 118, 48, 32, 40, 43, 32, 118, 49, 32, 45, 53, 41, 41] (by decide) exC ex_parse S hL w hS
theorem ex_parsed1 (S : Snap) (hL : LibOk S) (w : World) (hS : Agr S w) :
    Calls Tryz.prog 17 #[.string ⟨#[116, 114, 117, 101]⟩] w fun en w' => (∃ (A B : Option Addr) (c d : Nat), en = .returned (.agg #[.int .i64 1, .slice A 0 c, .slice B 0 d, .int .i64 0])) ∧ Below w.heap.size w w' :=
  (parsed_some [116, 114, 117, 101] (by decide) _ ex_true S hL w hS).mono fun en w' ⟨A, B, c, d, S', h1, _, h3⟩ => ⟨⟨A, B, c, d, h1⟩, h3.below⟩
theorem ex_parsed2 (S : Snap) (hL : LibOk S) (w : World) (hS : Agr S w) :
    Calls Tryz.prog 17 #[.string ⟨#[40, 110, 111, 116, 32, 116, 114, 117, 101, 41]⟩] w fun en w' => (∃ (A B : Option Addr) (c d : Nat), en = .returned (.agg #[.int .i64 5, .slice A 0 c, .slice B 1 d, .int .i64 0])) ∧ Below w.heap.size w w' :=
  (parsed_some [40, 110, 111, 116, 32, 116, 114, 117, 101, 41] (by decide) _ ex_not S hL w hS).mono fun en w' ⟨A, B, c, d, S', h1, _, h3⟩ => ⟨⟨A, B, c, d, h1⟩, h3.below⟩
theorem ex_same (S : Snap) (A B A' B' : Option Addr) (c d c' d' : Nat) (hr : RepC S exC [.int .i64 2, .slice A 2 c, .slice B 0 d]) (hr' : RepC S exC [.int .i64 2, .slice A' 2 c', .slice B' 0 d']) (w : World) (hS : Agr S w) :
    Calls Tryz.prog 18 #[.agg #[.int .i64 2, .slice A 2 c, .slice B 0 d], .agg #[.int .i64 2, .slice A' 2 c', .slice B' 0 d']] w fun en w' => en = .returned (.bool true) ∧ Below w.heap.size w w' := by
  have h := sameC_calls exC.size exC exC (Nat.le_refl _) (by decide) (by decide) S w _ _ hS hr hr'
  rw [(sameC_iff exC exC).2 rfl] at h
  exact h
theorem ex_rep (S : Snap) (gt gs : Nat) (hn : gt ≠ gs) : RepC ((S.add gt (.cells #[.int .i64 2, .int .i64 1, .int .i64 0, .slice none 0 0, .int .i64 1, .int .i64 0, .int .i64 (-5), .slice none 0 0] 125 (0, 0))).add gs (.cells #[.int .i64 2, .int .i64 0, .int .i64 0, .slice none 0 0, .int .i64 4, .int .i64 0, .int .i64 0, .slice (some ⟨gt, 0, none⟩) 2 2] 125 (0, 0))) exC [.int .i64 2, .slice (some ⟨gs, 0, none⟩) 2 2, .slice none 0 0] := by
  generalize hS1 : (S.add gt (.cells #[.int .i64 2, .int .i64 1, .int .i64 0, .slice none 0 0, .int .i64 1, .int .i64 0, .int .i64 (-5), .slice none 0 0] 125 (0, 0))).add gs (.cells #[.int .i64 2, .int .i64 0, .int .i64 0, .slice none 0 0, .int .i64 4, .int .i64 0, .int .i64 0, .slice (some ⟨gt, 0, none⟩) 2 2] 125 (0, 0)) = S1
  have cs : ∀ i, S1.cell ⟨gs, i, none⟩ = #[Value.int .i64 2, .int .i64 0, .int .i64 0, .slice none 0 0, .int .i64 4, .int .i64 0, .int .i64 0, .slice (some ⟨gt, 0, none⟩) 2 2][i]? := fun i => by rw [← hS1]; exact Snap.cell_add
  have ct : ∀ i, S1.cell ⟨gt, i, none⟩ = #[Value.int .i64 2, .int .i64 1, .int .i64 0, .slice none 0 0, .int .i64 1, .int .i64 0, .int .i64 (-5), .slice none 0 0][i]? := fun i => by rw [← hS1]; simp [Snap.cell, Snap.add, hn]
  have leafE : ∀ o n v, RepE S1 (.mk o n v []) [.int .i64 o, .int .i64 n, .int .i64 v, .slice none 0 0] := fun o n v => RepE.close (.mk o n v []) none 0 (Nat.le_refl _) (Row.nil _ _ _ _)
  have row1 : Row S1 (RepE S1) 4 (some ⟨gt, 0, none⟩) [.mk 2 1 0 [], .mk 1 0 (-5) []] := by
    intro i x hx
    rcases i with _ | _ | i
    · simp at hx; subst hx
      exact ⟨_, rfl, leafE 2 1 0, _, rfl, fun j u hj => by rw [add_plain, ct]; rcases j with _ | _ | _ | _ | j <;> first | exact hj | simp at hj⟩
    · simp at hx; subst hx
      exact ⟨_, rfl, leafE 1 0 (-5), _, rfl, fun j u hj => by rw [add_plain, ct]; rcases j with _ | _ | _ | _ | j <;> first | exact hj | simp at hj⟩
    · simp at hx
  have e4 : RepE S1 (.mk 4 0 0 [.mk 2 1 0 [], .mk 1 0 (-5) []]) [.int .i64 4, .int .i64 0, .int .i64 0, .slice (some ⟨gt, 0, none⟩) 2 2] := RepE.close (.mk 4 0 0 [.mk 2 1 0 [], .mk 1 0 (-5) []]) _ 2 (Nat.le_refl _) row1
  refine RepC.close exC _ none 2 0 (Nat.le_refl _) (Nat.le_refl _) ?_ (Row.nil _ _ _ _)
  intro i x hx
  rcases i with _ | _ | i
  · replace hx : some (Ex.mk 2 0 0 []) = some x := hx
    cases hx
    exact ⟨_, rfl, leafE 2 0 0, _, rfl, fun j u hj => by rw [add_plain, cs]; rcases j with _ | _ | _ | _ | j <;> first | exact hj | simp at hj⟩
  · replace hx : some (Ex.mk 4 0 0 [.mk 2 1 0 [], .mk 1 0 (-5) []]) = some x := hx
    cases hx
    exact ⟨_, rfl, e4, _, rfl, fun j u hj => by rw [add_plain, cs]; rcases j with _ | _ | _ | _ | j <;> first | exact hj | simp at hj⟩
  · replace hx : none = some x := hx
    cases hx
set_option maxRecDepth 100000 in
set_option maxHeartbeats 8000000 in
theorem examples_calls (S : Snap) (hL : LibOk S) (w : World) (hS : Agr S w) : Calls Tryz.prog 13 #[] w fun en w' => en = .returned (.bool true) ∧ Below w.heap.size w w' := by
  have HL := Lib.hid hL
  have HS := Lib.hid hS
  have HBB : Hid (Below w.heap.size w w) := Lib.hid (Below.refl _ _)
  clear hL hS
  go_enter Tryz.func13, Tryz.ntmps13
  go_wp2_with (first
    | (go_at_call 55; with_reducible refine (var_calls _ _).mono ?_; rintro en w55 ⟨rfl, hb⟩; have HBB := Lib.hid (below_trans HBB.out hb); have HS := Lib.hid (HS.out.below hb); clear hb)
    | (go_at_call 57; with_reducible refine (num_calls _ _).mono ?_; rintro en w57 ⟨rfl, hb⟩; have HBB := Lib.hid (below_trans HBB.out hb); have HS := Lib.hid (HS.out.below hb); clear hb)
    | (go_at_call 56; with_reducible refine (two_calls _ _ _ _ _ _ _ _ _ _).mono ?_; rintro en w56 ⟨⟨gt, rfl, hgt, hge⟩, hb⟩; have HFgt := Lib.hid (HS.out.new hge); have Hgt := Lib.hid hgt; clear hgt hge; have HBB := Lib.hid (below_trans HBB.out hb); have HS := Lib.hid (HS.out.below hb); clear hb)
    | ((with_reducible refine gate_dst (N := 14) rfl ?_); refine slice_at rfl (N := 14) rfl #[.int .i64 2, .int .i64 0, .int .i64 0, .slice none 0 0, .int .i64 4, .int .i64 0, .int .i64 0, .slice (some ⟨gt, 0, none⟩) 2 2] 125 2 2 (by go_simp <;> rfl) ?_; intro gs wgs HGgs Hgs HBE; have hb := HBE.out; have HFgs := Lib.hid (HS.out.new (Nat.le_of_eq HGgs.out.symm)); have HNgtgs : Hid (gt ≠ gs) := Lib.hid (by have := blk_lt Hgt.out; have := HGgs.out; omega); have HNgsgt : Hid (gs ≠ gt) := Lib.hid (fun e => HNgtgs.out e.symm); have Hgt := Lib.hid (below_blk hb Hgt.out); have HBB := Lib.hid (below_trans HBB.out hb); have HS := Lib.hid (HS.out.below hb); clear hb HBE)
    | ((with_reducible refine gate_dst (N := 1) rfl ?_); refine new_at rfl (N := 1) rfl #[.int .i64 0, .slice none 0 0, .slice none 0 0] 25 (by go_simp) ?_; intro g1 wg1 HGg1 Hg1 HBE; have hb := HBE.out; have HLg1 : Hid (w.heap.size ≤ g1) := Lib.hid (by rw [HGg1.out]; exact HBB.out.size); have HFg1 := Lib.hid (HS.out.new (Nat.le_of_eq HGg1.out.symm)); have HNgtg1 : Hid (gt ≠ g1) := Lib.hid (by have := blk_lt Hgt.out; have := HGg1.out; omega); have HNg1gt : Hid (g1 ≠ gt) := Lib.hid (fun e => HNgtg1.out e.symm); have HNgsg1 : Hid (gs ≠ g1) := Lib.hid (by have := blk_lt Hgs.out; have := HGg1.out; omega); have HNg1gs : Hid (g1 ≠ gs) := Lib.hid (fun e => HNgsg1.out e.symm); have Hgt := Lib.hid (below_blk hb Hgt.out); have Hgs := Lib.hid (below_blk hb Hgs.out); have HBB := Lib.hid (below_trans HBB.out hb); have HS := Lib.hid (HS.out.below hb); clear hb HBE)
    | ((with_reducible refine gate_store (t := 25) (p := 1) rfl ?_); refine store_at rfl rfl 25 (.tmp 1) (.tmp 15) rfl g1 #[.int .i64 2, .slice (some ⟨gs, 0, none⟩) 2 2, .slice none 0 0] (by go_simp) (by go_simp) 25 Hg1.out size25 rfl (by simp [Value.oneCell']) ?_; intro wg1s Hg1n HBE; have Hgt := Lib.hid (grown_blk HBE.out Hgt.out (fun e => HNgtg1.out (Option.some.inj e))); have Hgs := Lib.hid (grown_blk HBE.out Hgs.out (fun e => HNgsg1.out (Option.some.inj e))); have Hg1 := Hg1n; have HBB := Lib.hid (below_grown_new HBB.out HBE.out HLg1.out); have HS := Lib.hid (HS.out.grown HBE.out (fun k e => by cases e; exact HFg1.out)); clear HBE Hg1n; have HLE := Lib.hid ((Snap.le_add (.cells #[.int .i64 2, .int .i64 1, .int .i64 0, .slice none 0 0, .int .i64 1, .int .i64 0, .int .i64 (-5), .slice none 0 0] 125 (0, 0)) HFgt.out).trans (Snap.le_add (.cells #[.int .i64 2, .int .i64 0, .int .i64 0, .slice none 0 0, .int .i64 4, .int .i64 0, .int .i64 0, .slice (some ⟨gt, 0, none⟩) 2 2] 125 (0, 0)) (show (S.add gt (.cells #[.int .i64 2, .int .i64 1, .int .i64 0, .slice none 0 0, .int .i64 1, .int .i64 0, .int .i64 (-5), .slice none 0 0] 125 (0, 0))) gs = none by unfold Snap.add; rw [if_neg HNgsgt.out]; exact HFgs.out))); have HREP1 := Lib.hid (ex_rep S gt gs HNgtgs.out); have HS := Lib.hid ((HS.out.add Hgt.out).add Hgs.out); generalize ((S.add gt (.cells #[.int .i64 2, .int .i64 1, .int .i64 0, .slice none 0 0, .int .i64 1, .int .i64 0, .int .i64 (-5), .slice none 0 0] 125 (0, 0))).add gs (.cells #[.int .i64 2, .int .i64 0, .int .i64 0, .slice none 0 0, .int .i64 4, .int .i64 0, .int .i64 0, .slice (some ⟨gt, 0, none⟩) 2 2] 125 (0, 0))) = S1 at HLE HREP1 HS; have HL := Lib.hid (HL.out.mono HLE.out); clear Hgt Hgs HFgt HFgs HFg1 HNgtgs HNgsgt HNgtg1 HNg1gt HNgsg1 HNg1gs HLg1 HGg1 HGgs HLE)
    | ((with_reducible refine gate_dst (N := 16) rfl ?_); refine wpList_load_row rfl 25 (.tmp 1) rfl g1 (by go_simp) 25 _ (0, 0) _ Hg1.out Tryz.underlying25 rfl size25 ?_)
    | (go_at_call 15; with_reducible refine (ex_written S1 HL.out _ _ _ _ HREP1.out _ HS.out).mono ?_; rintro en w15 ⟨rfl, hb⟩; have Hg1 := Lib.hid (below_blk hb Hg1.out); have HBB := Lib.hid (below_trans HBB.out hb); have HS := Lib.hid (HS.out.below hb); clear hb)
    | (go_at_call 17; with_reducible refine (ex_parsed S1 HL.out _ HS.out).mono ?_; rintro en w17 ⟨A2, B2, c2, d2, S2, rfl, hrep, hout⟩; have hb := hout.below; have HREP2 := Lib.hid hrep; have HREP1 := Lib.hid (HREP1.out.mono hout.le); have HL := Lib.hid (HL.out.mono hout.le); have HS := Lib.hid hout.agr; have Hg1 := Lib.hid (below_blk hb Hg1.out); have HBB := Lib.hid (below_trans HBB.out hb); clear hb hrep hout)
    | ((with_reducible refine gate_dst (N := 2) rfl ?_); refine new_at rfl (N := 2) rfl #[.string ⟨#[]⟩, .int .i64 0] 32 (by go_simp) ?_; intro g2 wg2 HGg2 Hg2 HBE; have hb := HBE.out; have HLg2 : Hid (w.heap.size ≤ g2) := Lib.hid (by rw [HGg2.out]; exact HBB.out.size); have HFg2 := Lib.hid (HS.out.new (Nat.le_of_eq HGg2.out.symm)); have HNg1g2 : Hid (g1 ≠ g2) := Lib.hid (by have := blk_lt Hg1.out; have := HGg2.out; omega); have HNg2g1 : Hid (g2 ≠ g1) := Lib.hid (fun e => HNg1g2.out e.symm); have Hg1 := Lib.hid (below_blk hb Hg1.out); have HBB := Lib.hid (below_trans HBB.out hb); have HS := Lib.hid (HS.out.below hb); clear hb HBE)
    | ((with_reducible refine gate_dst (N := 3) rfl ?_); refine new_at rfl (N := 3) rfl #[.int .i64 0, .slice none 0 0, .slice none 0 0, .int .i64 0] 36 (by go_simp) ?_; intro g3 wg3 HGg3 Hg3 HBE; have hb := HBE.out; have HLg3 : Hid (w.heap.size ≤ g3) := Lib.hid (by rw [HGg3.out]; exact HBB.out.size); have HFg3 := Lib.hid (HS.out.new (Nat.le_of_eq HGg3.out.symm)); have HNg1g3 : Hid (g1 ≠ g3) := Lib.hid (by have := blk_lt Hg1.out; have := HGg3.out; omega); have HNg3g1 : Hid (g3 ≠ g1) := Lib.hid (fun e => HNg1g3.out e.symm); have HNg2g3 : Hid (g2 ≠ g3) := Lib.hid (by have := blk_lt Hg2.out; have := HGg3.out; omega); have HNg3g2 : Hid (g3 ≠ g2) := Lib.hid (fun e => HNg2g3.out e.symm); have Hg1 := Lib.hid (below_blk hb Hg1.out); have Hg2 := Lib.hid (below_blk hb Hg2.out); have HBB := Lib.hid (below_trans HBB.out hb); have HS := Lib.hid (HS.out.below hb); clear hb HBE)
    | ((with_reducible refine gate_store (t := 32) (p := 2) rfl ?_); refine store_at rfl rfl 32 (.tmp 2) (.tmp 17) rfl g2 #[.string ⟨#[40, 60, 32, 118, 48, 32, 40, 43, 32, 118, 49, 32, 45, 53, 41, 41]⟩, .int .i64 0] (by go_simp) (by go_simp) 32 Hg2.out size32 rfl (by simp [Value.oneCell']) ?_; intro wg2s Hg2n HBE; have Hg1 := Lib.hid (grown_blk HBE.out Hg1.out (fun e => HNg1g2.out (Option.some.inj e))); have Hg3 := Lib.hid (grown_blk HBE.out Hg3.out (fun e => HNg3g2.out (Option.some.inj e))); have Hg2 := Hg2n; have HBB := Lib.hid (below_grown_new HBB.out HBE.out HLg2.out); have HS := Lib.hid (HS.out.grown HBE.out (fun k e => by cases e; exact HFg2.out)); clear HBE Hg2n)
    | ((with_reducible refine gate_store (t := 36) (p := 3) rfl ?_); refine store_at rfl rfl 36 (.tmp 3) (.tmp 18) rfl g3 #[.int .i64 2, .slice A2 2 c2, .slice B2 0 d2, .int .i64 0] (by go_simp) (by go_simp) 36 Hg3.out size36 rfl (by simp [Value.oneCell']) ?_; intro wg3s Hg3n HBE; have Hg1 := Lib.hid (grown_blk HBE.out Hg1.out (fun e => HNg1g3.out (Option.some.inj e))); have Hg2 := Lib.hid (grown_blk HBE.out Hg2.out (fun e => HNg2g3.out (Option.some.inj e))); have Hg3 := Hg3n; have HBB := Lib.hid (below_grown_new HBB.out HBE.out HLg3.out); have HS := Lib.hid (HS.out.grown HBE.out (fun k e => by cases e; exact HFg3.out)); clear HBE Hg3n; have e20 := (blk_cell Hg2.out 0).trans (show _ = some _ from rfl); have e21 := (blk_cell Hg2.out 1).trans (show _ = some _ from rfl); have e33 := (blk_cell Hg3.out 3).trans (show _ = some _ from rfl))
    | ((with_reducible refine gate_dst (N := 34) rfl ?_); refine load_at_w (by rfl) 25 _ rfl ⟨g3, 0, none⟩ (by go_simp) [.int .i64 2, .slice A2 2 c2, .slice B2 0 d2] (cells3of4 Hg3.out) _ Tryz.underlying25 rfl size25 ?_)
    | ((with_reducible refine gate_dst (N := 35) rfl ?_); refine load_row_w (by rfl) 25 (.tmp 1) rfl g1 (by go_simp) 25 _ (0, 0) _ Hg1.out Tryz.underlying25 rfl size25 ?_)
    | (go_at_call 18; with_reducible refine (ex_same S2 _ _ _ _ _ _ _ _ HREP2.out HREP1.out _ HS.out).mono ?_; rintro en w18 ⟨rfl, hb⟩; have HBB := Lib.hid (below_trans HBB.out hb); have HS := Lib.hid (HS.out.below hb); clear hb HREP1 HREP2 Hg1 Hg2 Hg3 e20 e21 e33 HNg1g2 HNg2g1 HNg1g3 HNg3g1 HNg2g3 HNg3g2 HFg2 HFg3 HLg2 HLg3 HGg2 HGg3)
    | (go_at_call 17; with_reducible refine (ex_parsed1 S2 HL.out _ HS.out).mono ?_; rintro en w17 ⟨⟨A4, B4, c4, d4, rfl⟩, hb⟩; have HBB := Lib.hid (below_trans HBB.out hb); have HS := Lib.hid (HS.out.below hb); clear hb)
    | (go_at_call 17; with_reducible refine (ex_parsed2 S2 HL.out _ HS.out).mono ?_; rintro en w17 ⟨⟨A5, B5, c5, d5, rfl⟩, hb⟩; have HBB := Lib.hid (below_trans HBB.out hb); have HS := Lib.hid (HS.out.below hb); clear hb)
    | ((with_reducible refine gate_dst (N := 4) rfl ?_); refine new_at rfl (N := 4) rfl #[.int .i64 0, .slice none 0 0, .slice none 0 0, .int .i64 0] 36 (by go_simp) ?_; intro g4 wg4 HGg4 Hg4 HBE; have hb := HBE.out; have HLg4 : Hid (w.heap.size ≤ g4) := Lib.hid (by rw [HGg4.out]; exact HBB.out.size); have HFg4 := Lib.hid (HS.out.new (Nat.le_of_eq HGg4.out.symm)); have HBB := Lib.hid (below_trans HBB.out hb); have HS := Lib.hid (HS.out.below hb); clear hb HBE)
    | ((with_reducible refine gate_dst (N := 5) rfl ?_); refine new_at rfl (N := 5) rfl #[.int .i64 0, .slice none 0 0, .slice none 0 0, .int .i64 0] 36 (by go_simp) ?_; intro g5 wg5 HGg5 Hg5 HBE; have hb := HBE.out; have HLg5 : Hid (w.heap.size ≤ g5) := Lib.hid (by rw [HGg5.out]; exact HBB.out.size); have HFg5 := Lib.hid (HS.out.new (Nat.le_of_eq HGg5.out.symm)); have HNg4g5 : Hid (g4 ≠ g5) := Lib.hid (by have := blk_lt Hg4.out; have := HGg5.out; omega); have HNg5g4 : Hid (g5 ≠ g4) := Lib.hid (fun e => HNg4g5.out e.symm); have Hg4 := Lib.hid (below_blk hb Hg4.out); have HBB := Lib.hid (below_trans HBB.out hb); have HS := Lib.hid (HS.out.below hb); clear hb HBE)
    | ((with_reducible refine gate_store (t := 36) (p := 4) rfl ?_); refine store_at rfl rfl 36 (.tmp 4) (.tmp 39) rfl g4 #[.int .i64 1, .slice A4 0 c4, .slice B4 0 d4, .int .i64 0] (by go_simp) (by go_simp) 36 Hg4.out size36 rfl (by simp [Value.oneCell']) ?_; intro wg4s Hg4n HBE; have Hg5 := Lib.hid (grown_blk HBE.out Hg5.out (fun e => HNg5g4.out (Option.some.inj e))); have Hg4 := Hg4n; have HBB := Lib.hid (below_grown_new HBB.out HBE.out HLg4.out); have HS := Lib.hid (HS.out.grown HBE.out (fun k e => by cases e; exact HFg4.out)); clear HBE Hg4n)
    | ((with_reducible refine gate_store (t := 36) (p := 5) rfl ?_); refine store_at rfl rfl 36 (.tmp 5) (.tmp 40) rfl g5 #[.int .i64 5, .slice A5 0 c5, .slice B5 1 d5, .int .i64 0] (by go_simp) (by go_simp) 36 Hg5.out size36 rfl (by simp [Value.oneCell']) ?_; intro wg5s Hg5n HBE; have Hg4 := Lib.hid (grown_blk HBE.out Hg4.out (fun e => HNg4g5.out (Option.some.inj e))); have Hg5 := Hg5n; have HBB := Lib.hid (below_grown_new HBB.out HBE.out HLg5.out); have HS := Lib.hid (HS.out.grown HBE.out (fun k e => by cases e; exact HFg5.out)); clear HBE Hg5n)
    | ((with_reducible refine gate_dst (N := 41) rfl ?_); refine slice_at rfl (N := 41) rfl #[.string ⟨#[40, 60, 32, 32, 118, 48, 32, 49, 41]⟩, .string ⟨#[40, 60, 32, 118, 48, 48, 32, 49, 41]⟩, .string ⟨#[40, 60, 32, 118, 48, 32, 45, 48, 41]⟩, .string ⟨#[40, 60, 32, 118, 48, 41]⟩, .string ⟨#[]⟩, .string ⟨#[84, 114, 117, 101]⟩] 9 6 6 (by go_simp <;> rfl) ?_; intro gb wgb HGgb Hgb HBE; have hb := HBE.out; have HFgb := Lib.hid (HS.out.new (Nat.le_of_eq HGgb.out.symm)); have HNg4gb : Hid (g4 ≠ gb) := Lib.hid (by have := blk_lt Hg4.out; have := HGgb.out; omega); have HNgbg4 : Hid (gb ≠ g4) := Lib.hid (fun e => HNg4gb.out e.symm); have HNg5gb : Hid (g5 ≠ gb) := Lib.hid (by have := blk_lt Hg5.out; have := HGgb.out; omega); have HNgbg5 : Hid (gb ≠ g5) := Lib.hid (fun e => HNg5gb.out e.symm); have Hg4 := Lib.hid (below_blk hb Hg4.out); have Hg5 := Lib.hid (below_blk hb Hg5.out); have HBB := Lib.hid (below_trans HBB.out hb); have HS := Lib.hid (HS.out.below hb); clear hb HBE))
  have HS3 := HS
  have HB3 := HBB
  have K4 := Hg4
  have K5 := Hg5
  have Kb := Hgb
  clear HS HBB Hg4 Hg5 Hgb HNg4g5 HNg5g4 HNg4gb HNgbg4 HNg5gb HNgbg5 HFg4 HFg5 HFgb HLg4 HLg5 HGg4 HGg5 HGgb
  go_loopw [7] (fun s7 wr => ∃ k : Nat, k ≤ 6 ∧ s7 = .int .i64 (k : Int) ∧ Below wgb.heap.size wgb wr) (fun s7 _ => 6 - (intOf s7).toNat)
  case atStart => exact ⟨0, by decide, rfl, Below.refl _ _⟩
  case round =>
    obtain ⟨k, hk, rfl, hB⟩ := hrel
    have HBB := Lib.hid hB
    have HS := Lib.hid (HS3.out.below hB)
    have Hg4 := Lib.hid (below_blk hB K4.out)
    have Hg5 := Lib.hid (below_blk hB K5.out)
    have Hgb := Lib.hid (below_blk hB Kb.out)
    have HB4 := Lib.hid (below_trans HB3.out hB)
    clear hB K4 K5 Kb HS3
    have hk7 : k = 0 ∨ k = 1 ∨ k = 2 ∨ k = 3 ∨ k = 4 ∨ k = 5 ∨ k = 6 := by omega
    rcases hk7 with rfl | rfl | rfl | rfl | rfl | rfl | rfl
    · have cb := (blk_cell Hgb.out 0).trans (show _ = some _ from rfl)
      go_wp2_with (first
        | (go_at_call 17; with_reducible refine (parsed_none [40, 60, 32, 32, 118, 48, 32, 49, 41] (by decide) ex_bad0 S2 HL.out _ HS.out).mono ?_; rintro en w17 ⟨rfl, hb⟩; have Hg4 := Lib.hid (below_blk hb Hg4.out); have Hg5 := Lib.hid (below_blk hb Hg5.out); have Hgb := Lib.hid (below_blk hb Hgb.out); have HBB := Lib.hid (below_trans HBB.out hb); have HS := Lib.hid (HS.out.below hb); clear hb)
        | ((with_reducible refine gate_dst (N := 8) rfl ?_); refine new_at rfl (N := 8) rfl #[.int .i64 0, .slice none 0 0, .slice none 0 0, .int .i64 0] 36 (by go_simp) ?_; intro g8 wg8 HGg8 Hg8 HBE; have hb := HBE.out; have HLg8 : Hid (wgb.heap.size ≤ g8) := Lib.hid (by rw [HGg8.out]; exact HBB.out.size); have HFg8 := Lib.hid (HS.out.new (Nat.le_of_eq HGg8.out.symm)); have HNg4g8 : Hid (g4 ≠ g8) := Lib.hid (by have := blk_lt Hg4.out; have := HGg8.out; omega); have HNg8g4 : Hid (g8 ≠ g4) := Lib.hid (fun e => HNg4g8.out e.symm); have HNg5g8 : Hid (g5 ≠ g8) := Lib.hid (by have := blk_lt Hg5.out; have := HGg8.out; omega); have HNg8g5 : Hid (g8 ≠ g5) := Lib.hid (fun e => HNg5g8.out e.symm); have HNgbg8 : Hid (gb ≠ g8) := Lib.hid (by have := blk_lt Hgb.out; have := HGg8.out; omega); have HNg8gb : Hid (g8 ≠ gb) := Lib.hid (fun e => HNgbg8.out e.symm); have Hg4 := Lib.hid (below_blk hb Hg4.out); have Hg5 := Lib.hid (below_blk hb Hg5.out); have Hgb := Lib.hid (below_blk hb Hgb.out); have HBB := Lib.hid (below_trans HBB.out hb); have HS := Lib.hid (HS.out.below hb); clear hb HBE)
        | ((with_reducible refine gate_store (t := 36) (p := 8) rfl ?_); refine store_at rfl rfl 36 (.tmp 8) (.tmp 52) rfl g8 #[.int .i64 0, .slice none 0 0, .slice none 0 0, .int .i64 3] (by go_simp) (by go_simp) 36 Hg8.out size36 rfl (by simp [Value.oneCell']) ?_; intro wg8s Hg8n HBE; have Hg4 := Lib.hid (grown_blk HBE.out Hg4.out (fun e => HNg4g8.out (Option.some.inj e))); have Hg5 := Lib.hid (grown_blk HBE.out Hg5.out (fun e => HNg5g8.out (Option.some.inj e))); have Hgb := Lib.hid (grown_blk HBE.out Hgb.out (fun e => HNgbg8.out (Option.some.inj e))); have Hg8 := Hg8n; have HBB := Lib.hid (below_grown_new HBB.out HBE.out HLg8.out); have HS := Lib.hid (HS.out.grown HBE.out (fun k e => by cases e; exact HFg8.out)); clear HBE Hg8n; have e83 := (blk_cell Hg8.out 3).trans (show _ = some _ from rfl)))
      go_roundw
      case rel => exact ⟨1, by decide, by go_num, HBB.out⟩
      case measure => simp [intOf]
    · have cb := (blk_cell Hgb.out 1).trans (show _ = some _ from rfl)
      go_wp2_with (first
        | (go_at_call 17; with_reducible refine (parsed_none [40, 60, 32, 118, 48, 48, 32, 49, 41] (by decide) ex_bad1 S2 HL.out _ HS.out).mono ?_; rintro en w17 ⟨rfl, hb⟩; have Hg4 := Lib.hid (below_blk hb Hg4.out); have Hg5 := Lib.hid (below_blk hb Hg5.out); have Hgb := Lib.hid (below_blk hb Hgb.out); have HBB := Lib.hid (below_trans HBB.out hb); have HS := Lib.hid (HS.out.below hb); clear hb)
        | ((with_reducible refine gate_dst (N := 8) rfl ?_); refine new_at rfl (N := 8) rfl #[.int .i64 0, .slice none 0 0, .slice none 0 0, .int .i64 0] 36 (by go_simp) ?_; intro g8 wg8 HGg8 Hg8 HBE; have hb := HBE.out; have HLg8 : Hid (wgb.heap.size ≤ g8) := Lib.hid (by rw [HGg8.out]; exact HBB.out.size); have HFg8 := Lib.hid (HS.out.new (Nat.le_of_eq HGg8.out.symm)); have HNg4g8 : Hid (g4 ≠ g8) := Lib.hid (by have := blk_lt Hg4.out; have := HGg8.out; omega); have HNg8g4 : Hid (g8 ≠ g4) := Lib.hid (fun e => HNg4g8.out e.symm); have HNg5g8 : Hid (g5 ≠ g8) := Lib.hid (by have := blk_lt Hg5.out; have := HGg8.out; omega); have HNg8g5 : Hid (g8 ≠ g5) := Lib.hid (fun e => HNg5g8.out e.symm); have HNgbg8 : Hid (gb ≠ g8) := Lib.hid (by have := blk_lt Hgb.out; have := HGg8.out; omega); have HNg8gb : Hid (g8 ≠ gb) := Lib.hid (fun e => HNgbg8.out e.symm); have Hg4 := Lib.hid (below_blk hb Hg4.out); have Hg5 := Lib.hid (below_blk hb Hg5.out); have Hgb := Lib.hid (below_blk hb Hgb.out); have HBB := Lib.hid (below_trans HBB.out hb); have HS := Lib.hid (HS.out.below hb); clear hb HBE)
        | ((with_reducible refine gate_store (t := 36) (p := 8) rfl ?_); refine store_at rfl rfl 36 (.tmp 8) (.tmp 52) rfl g8 #[.int .i64 0, .slice none 0 0, .slice none 0 0, .int .i64 3] (by go_simp) (by go_simp) 36 Hg8.out size36 rfl (by simp [Value.oneCell']) ?_; intro wg8s Hg8n HBE; have Hg4 := Lib.hid (grown_blk HBE.out Hg4.out (fun e => HNg4g8.out (Option.some.inj e))); have Hg5 := Lib.hid (grown_blk HBE.out Hg5.out (fun e => HNg5g8.out (Option.some.inj e))); have Hgb := Lib.hid (grown_blk HBE.out Hgb.out (fun e => HNgbg8.out (Option.some.inj e))); have Hg8 := Hg8n; have HBB := Lib.hid (below_grown_new HBB.out HBE.out HLg8.out); have HS := Lib.hid (HS.out.grown HBE.out (fun k e => by cases e; exact HFg8.out)); clear HBE Hg8n; have e83 := (blk_cell Hg8.out 3).trans (show _ = some _ from rfl)))
      go_roundw
      case rel => exact ⟨2, by decide, by go_num, HBB.out⟩
      case measure => simp [intOf]
    · have cb := (blk_cell Hgb.out 2).trans (show _ = some _ from rfl)
      go_wp2_with (first
        | (go_at_call 17; with_reducible refine (parsed_none [40, 60, 32, 118, 48, 32, 45, 48, 41] (by decide) ex_bad2 S2 HL.out _ HS.out).mono ?_; rintro en w17 ⟨rfl, hb⟩; have Hg4 := Lib.hid (below_blk hb Hg4.out); have Hg5 := Lib.hid (below_blk hb Hg5.out); have Hgb := Lib.hid (below_blk hb Hgb.out); have HBB := Lib.hid (below_trans HBB.out hb); have HS := Lib.hid (HS.out.below hb); clear hb)
        | ((with_reducible refine gate_dst (N := 8) rfl ?_); refine new_at rfl (N := 8) rfl #[.int .i64 0, .slice none 0 0, .slice none 0 0, .int .i64 0] 36 (by go_simp) ?_; intro g8 wg8 HGg8 Hg8 HBE; have hb := HBE.out; have HLg8 : Hid (wgb.heap.size ≤ g8) := Lib.hid (by rw [HGg8.out]; exact HBB.out.size); have HFg8 := Lib.hid (HS.out.new (Nat.le_of_eq HGg8.out.symm)); have HNg4g8 : Hid (g4 ≠ g8) := Lib.hid (by have := blk_lt Hg4.out; have := HGg8.out; omega); have HNg8g4 : Hid (g8 ≠ g4) := Lib.hid (fun e => HNg4g8.out e.symm); have HNg5g8 : Hid (g5 ≠ g8) := Lib.hid (by have := blk_lt Hg5.out; have := HGg8.out; omega); have HNg8g5 : Hid (g8 ≠ g5) := Lib.hid (fun e => HNg5g8.out e.symm); have HNgbg8 : Hid (gb ≠ g8) := Lib.hid (by have := blk_lt Hgb.out; have := HGg8.out; omega); have HNg8gb : Hid (g8 ≠ gb) := Lib.hid (fun e => HNgbg8.out e.symm); have Hg4 := Lib.hid (below_blk hb Hg4.out); have Hg5 := Lib.hid (below_blk hb Hg5.out); have Hgb := Lib.hid (below_blk hb Hgb.out); have HBB := Lib.hid (below_trans HBB.out hb); have HS := Lib.hid (HS.out.below hb); clear hb HBE)
        | ((with_reducible refine gate_store (t := 36) (p := 8) rfl ?_); refine store_at rfl rfl 36 (.tmp 8) (.tmp 52) rfl g8 #[.int .i64 0, .slice none 0 0, .slice none 0 0, .int .i64 3] (by go_simp) (by go_simp) 36 Hg8.out size36 rfl (by simp [Value.oneCell']) ?_; intro wg8s Hg8n HBE; have Hg4 := Lib.hid (grown_blk HBE.out Hg4.out (fun e => HNg4g8.out (Option.some.inj e))); have Hg5 := Lib.hid (grown_blk HBE.out Hg5.out (fun e => HNg5g8.out (Option.some.inj e))); have Hgb := Lib.hid (grown_blk HBE.out Hgb.out (fun e => HNgbg8.out (Option.some.inj e))); have Hg8 := Hg8n; have HBB := Lib.hid (below_grown_new HBB.out HBE.out HLg8.out); have HS := Lib.hid (HS.out.grown HBE.out (fun k e => by cases e; exact HFg8.out)); clear HBE Hg8n; have e83 := (blk_cell Hg8.out 3).trans (show _ = some _ from rfl)))
      go_roundw
      case rel => exact ⟨3, by decide, by go_num, HBB.out⟩
      case measure => simp [intOf]
    · have cb := (blk_cell Hgb.out 3).trans (show _ = some _ from rfl)
      go_wp2_with (first
        | (go_at_call 17; with_reducible refine (parsed_none [40, 60, 32, 118, 48, 41] (by decide) ex_bad3 S2 HL.out _ HS.out).mono ?_; rintro en w17 ⟨rfl, hb⟩; have Hg4 := Lib.hid (below_blk hb Hg4.out); have Hg5 := Lib.hid (below_blk hb Hg5.out); have Hgb := Lib.hid (below_blk hb Hgb.out); have HBB := Lib.hid (below_trans HBB.out hb); have HS := Lib.hid (HS.out.below hb); clear hb)
        | ((with_reducible refine gate_dst (N := 8) rfl ?_); refine new_at rfl (N := 8) rfl #[.int .i64 0, .slice none 0 0, .slice none 0 0, .int .i64 0] 36 (by go_simp) ?_; intro g8 wg8 HGg8 Hg8 HBE; have hb := HBE.out; have HLg8 : Hid (wgb.heap.size ≤ g8) := Lib.hid (by rw [HGg8.out]; exact HBB.out.size); have HFg8 := Lib.hid (HS.out.new (Nat.le_of_eq HGg8.out.symm)); have HNg4g8 : Hid (g4 ≠ g8) := Lib.hid (by have := blk_lt Hg4.out; have := HGg8.out; omega); have HNg8g4 : Hid (g8 ≠ g4) := Lib.hid (fun e => HNg4g8.out e.symm); have HNg5g8 : Hid (g5 ≠ g8) := Lib.hid (by have := blk_lt Hg5.out; have := HGg8.out; omega); have HNg8g5 : Hid (g8 ≠ g5) := Lib.hid (fun e => HNg5g8.out e.symm); have HNgbg8 : Hid (gb ≠ g8) := Lib.hid (by have := blk_lt Hgb.out; have := HGg8.out; omega); have HNg8gb : Hid (g8 ≠ gb) := Lib.hid (fun e => HNgbg8.out e.symm); have Hg4 := Lib.hid (below_blk hb Hg4.out); have Hg5 := Lib.hid (below_blk hb Hg5.out); have Hgb := Lib.hid (below_blk hb Hgb.out); have HBB := Lib.hid (below_trans HBB.out hb); have HS := Lib.hid (HS.out.below hb); clear hb HBE)
        | ((with_reducible refine gate_store (t := 36) (p := 8) rfl ?_); refine store_at rfl rfl 36 (.tmp 8) (.tmp 52) rfl g8 #[.int .i64 0, .slice none 0 0, .slice none 0 0, .int .i64 3] (by go_simp) (by go_simp) 36 Hg8.out size36 rfl (by simp [Value.oneCell']) ?_; intro wg8s Hg8n HBE; have Hg4 := Lib.hid (grown_blk HBE.out Hg4.out (fun e => HNg4g8.out (Option.some.inj e))); have Hg5 := Lib.hid (grown_blk HBE.out Hg5.out (fun e => HNg5g8.out (Option.some.inj e))); have Hgb := Lib.hid (grown_blk HBE.out Hgb.out (fun e => HNgbg8.out (Option.some.inj e))); have Hg8 := Hg8n; have HBB := Lib.hid (below_grown_new HBB.out HBE.out HLg8.out); have HS := Lib.hid (HS.out.grown HBE.out (fun k e => by cases e; exact HFg8.out)); clear HBE Hg8n; have e83 := (blk_cell Hg8.out 3).trans (show _ = some _ from rfl)))
      go_roundw
      case rel => exact ⟨4, by decide, by go_num, HBB.out⟩
      case measure => simp [intOf]
    · have cb := (blk_cell Hgb.out 4).trans (show _ = some _ from rfl)
      go_wp2_with (first
        | (go_at_call 17; with_reducible refine (parsed_none [] (by decide) ex_bad4 S2 HL.out _ HS.out).mono ?_; rintro en w17 ⟨rfl, hb⟩; have Hg4 := Lib.hid (below_blk hb Hg4.out); have Hg5 := Lib.hid (below_blk hb Hg5.out); have Hgb := Lib.hid (below_blk hb Hgb.out); have HBB := Lib.hid (below_trans HBB.out hb); have HS := Lib.hid (HS.out.below hb); clear hb)
        | ((with_reducible refine gate_dst (N := 8) rfl ?_); refine new_at rfl (N := 8) rfl #[.int .i64 0, .slice none 0 0, .slice none 0 0, .int .i64 0] 36 (by go_simp) ?_; intro g8 wg8 HGg8 Hg8 HBE; have hb := HBE.out; have HLg8 : Hid (wgb.heap.size ≤ g8) := Lib.hid (by rw [HGg8.out]; exact HBB.out.size); have HFg8 := Lib.hid (HS.out.new (Nat.le_of_eq HGg8.out.symm)); have HNg4g8 : Hid (g4 ≠ g8) := Lib.hid (by have := blk_lt Hg4.out; have := HGg8.out; omega); have HNg8g4 : Hid (g8 ≠ g4) := Lib.hid (fun e => HNg4g8.out e.symm); have HNg5g8 : Hid (g5 ≠ g8) := Lib.hid (by have := blk_lt Hg5.out; have := HGg8.out; omega); have HNg8g5 : Hid (g8 ≠ g5) := Lib.hid (fun e => HNg5g8.out e.symm); have HNgbg8 : Hid (gb ≠ g8) := Lib.hid (by have := blk_lt Hgb.out; have := HGg8.out; omega); have HNg8gb : Hid (g8 ≠ gb) := Lib.hid (fun e => HNgbg8.out e.symm); have Hg4 := Lib.hid (below_blk hb Hg4.out); have Hg5 := Lib.hid (below_blk hb Hg5.out); have Hgb := Lib.hid (below_blk hb Hgb.out); have HBB := Lib.hid (below_trans HBB.out hb); have HS := Lib.hid (HS.out.below hb); clear hb HBE)
        | ((with_reducible refine gate_store (t := 36) (p := 8) rfl ?_); refine store_at rfl rfl 36 (.tmp 8) (.tmp 52) rfl g8 #[.int .i64 0, .slice none 0 0, .slice none 0 0, .int .i64 3] (by go_simp) (by go_simp) 36 Hg8.out size36 rfl (by simp [Value.oneCell']) ?_; intro wg8s Hg8n HBE; have Hg4 := Lib.hid (grown_blk HBE.out Hg4.out (fun e => HNg4g8.out (Option.some.inj e))); have Hg5 := Lib.hid (grown_blk HBE.out Hg5.out (fun e => HNg5g8.out (Option.some.inj e))); have Hgb := Lib.hid (grown_blk HBE.out Hgb.out (fun e => HNgbg8.out (Option.some.inj e))); have Hg8 := Hg8n; have HBB := Lib.hid (below_grown_new HBB.out HBE.out HLg8.out); have HS := Lib.hid (HS.out.grown HBE.out (fun k e => by cases e; exact HFg8.out)); clear HBE Hg8n; have e83 := (blk_cell Hg8.out 3).trans (show _ = some _ from rfl)))
      go_roundw
      case rel => exact ⟨5, by decide, by go_num, HBB.out⟩
      case measure => simp [intOf]
    · have cb := (blk_cell Hgb.out 5).trans (show _ = some _ from rfl)
      go_wp2_with (first
        | (go_at_call 17; with_reducible refine (parsed_none [84, 114, 117, 101] (by decide) ex_bad5 S2 HL.out _ HS.out).mono ?_; rintro en w17 ⟨rfl, hb⟩; have Hg4 := Lib.hid (below_blk hb Hg4.out); have Hg5 := Lib.hid (below_blk hb Hg5.out); have Hgb := Lib.hid (below_blk hb Hgb.out); have HBB := Lib.hid (below_trans HBB.out hb); have HS := Lib.hid (HS.out.below hb); clear hb)
        | ((with_reducible refine gate_dst (N := 8) rfl ?_); refine new_at rfl (N := 8) rfl #[.int .i64 0, .slice none 0 0, .slice none 0 0, .int .i64 0] 36 (by go_simp) ?_; intro g8 wg8 HGg8 Hg8 HBE; have hb := HBE.out; have HLg8 : Hid (wgb.heap.size ≤ g8) := Lib.hid (by rw [HGg8.out]; exact HBB.out.size); have HFg8 := Lib.hid (HS.out.new (Nat.le_of_eq HGg8.out.symm)); have HNg4g8 : Hid (g4 ≠ g8) := Lib.hid (by have := blk_lt Hg4.out; have := HGg8.out; omega); have HNg8g4 : Hid (g8 ≠ g4) := Lib.hid (fun e => HNg4g8.out e.symm); have HNg5g8 : Hid (g5 ≠ g8) := Lib.hid (by have := blk_lt Hg5.out; have := HGg8.out; omega); have HNg8g5 : Hid (g8 ≠ g5) := Lib.hid (fun e => HNg5g8.out e.symm); have HNgbg8 : Hid (gb ≠ g8) := Lib.hid (by have := blk_lt Hgb.out; have := HGg8.out; omega); have HNg8gb : Hid (g8 ≠ gb) := Lib.hid (fun e => HNgbg8.out e.symm); have Hg4 := Lib.hid (below_blk hb Hg4.out); have Hg5 := Lib.hid (below_blk hb Hg5.out); have Hgb := Lib.hid (below_blk hb Hgb.out); have HBB := Lib.hid (below_trans HBB.out hb); have HS := Lib.hid (HS.out.below hb); clear hb HBE)
        | ((with_reducible refine gate_store (t := 36) (p := 8) rfl ?_); refine store_at rfl rfl 36 (.tmp 8) (.tmp 52) rfl g8 #[.int .i64 0, .slice none 0 0, .slice none 0 0, .int .i64 3] (by go_simp) (by go_simp) 36 Hg8.out size36 rfl (by simp [Value.oneCell']) ?_; intro wg8s Hg8n HBE; have Hg4 := Lib.hid (grown_blk HBE.out Hg4.out (fun e => HNg4g8.out (Option.some.inj e))); have Hg5 := Lib.hid (grown_blk HBE.out Hg5.out (fun e => HNg5g8.out (Option.some.inj e))); have Hgb := Lib.hid (grown_blk HBE.out Hgb.out (fun e => HNgbg8.out (Option.some.inj e))); have Hg8 := Hg8n; have HBB := Lib.hid (below_grown_new HBB.out HBE.out HLg8.out); have HS := Lib.hid (HS.out.grown HBE.out (fun k e => by cases e; exact HFg8.out)); clear HBE Hg8n; have e83 := (blk_cell Hg8.out 3).trans (show _ = some _ from rfl)))
      go_roundw
      case rel => exact ⟨6, by decide, by go_num, HBB.out⟩
      case measure => simp [intOf]
    · go_wp2_with (first
        | (go_at_call 15; with_reducible refine (ex_written0 S2 HL.out _ HS.out).mono ?_; rintro en w15 ⟨rfl, hb⟩; have Hg4 := Lib.hid (below_blk hb Hg4.out); have Hg5 := Lib.hid (below_blk hb Hg5.out); have HBB := Lib.hid (below_trans HBB.out hb); have HS := Lib.hid (HS.out.below hb); clear hb)
        | ((with_reducible refine gate_dst (N := 9) rfl ?_); refine new_at rfl (N := 9) rfl #[.string ⟨#[]⟩, .int .i64 0] 32 (by go_simp) ?_; intro g9 wg9 HGg9 Hg9 HBE; have hb := HBE.out; have HLg9 : Hid (wgb.heap.size ≤ g9) := Lib.hid (by rw [HGg9.out]; exact HBB.out.size); have HFg9 := Lib.hid (HS.out.new (Nat.le_of_eq HGg9.out.symm)); have HNg4g9 : Hid (g4 ≠ g9) := Lib.hid (by have := blk_lt Hg4.out; have := HGg9.out; omega); have HNg9g4 : Hid (g9 ≠ g4) := Lib.hid (fun e => HNg4g9.out e.symm); have HNg5g9 : Hid (g5 ≠ g9) := Lib.hid (by have := blk_lt Hg5.out; have := HGg9.out; omega); have HNg9g5 : Hid (g9 ≠ g5) := Lib.hid (fun e => HNg5g9.out e.symm); have Hg4 := Lib.hid (below_blk hb Hg4.out); have Hg5 := Lib.hid (below_blk hb Hg5.out); have HBB := Lib.hid (below_trans HBB.out hb); have HS := Lib.hid (HS.out.below hb); clear hb HBE)
        | ((with_reducible refine gate_store (t := 32) (p := 9) rfl ?_); refine store_at rfl rfl 32 (.tmp 9) (.tmp 57) rfl g9 #[.string ⟨#[]⟩, .int .i64 3] (by go_simp) (by go_simp) 32 Hg9.out size32 rfl (by simp [Value.oneCell']) ?_; intro wg9s Hg9n HBE; have Hg4 := Lib.hid (grown_blk HBE.out Hg4.out (fun e => HNg4g9.out (Option.some.inj e))); have Hg5 := Lib.hid (grown_blk HBE.out Hg5.out (fun e => HNg5g9.out (Option.some.inj e))); have Hg9 := Hg9n; have HBB := Lib.hid (below_grown_new HBB.out HBE.out HLg9.out); have HS := Lib.hid (HS.out.grown HBE.out (fun k e => by cases e; exact HFg9.out)); clear HBE Hg9n; have e91 := (blk_cell Hg9.out 1).trans (show _ = some _ from rfl); have e40 := (blk_cell Hg4.out 0).trans (show _ = some _ from rfl); have e43 := (blk_cell Hg4.out 3).trans (show _ = some _ from rfl); have e50 := (blk_cell Hg5.out 0).trans (show _ = some _ from rfl); have e53 := (blk_cell Hg5.out 3).trans (show _ = some _ from rfl)))
      go_ret
      exact ⟨rfl, below_trans HB3.out HBB.out⟩
end Go.Proofs.YtkopmnhngjbmcaaGreatDoor.Sn

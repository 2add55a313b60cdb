/- (shape.Def) at a definition that is made for one condition. -/
import Derived.Test.YtkopmnhngjbmcaaGreatDoorA8
import Derived.Test.YtkopmnhngjbmcaaGreatDoorA9
import Derived.Test.YtkopmnhngjbmcaaGreatDoorB0
namespace Go.Proofs.YtkopmnhngjbmcaaGreatDoor.Sn
open Go Go.RowKit Go.Shelf
set_option linter.unusedVariables false
attribute [local go_sem] Oper.semAt_some
theorem size99 : (Tryz.prog.info? 99).map (·.size) = some 12 := by kernel_rfl
theorem size86 : (Tryz.prog.info? 86).map (·.size) = some 7 := by kernel_rfl
set_option maxRecDepth 100000 in
set_option maxHeartbeats 8000000 in
theorem def_calls (V : Int) (hV : 0 ≤ V ∧ V ≤ 12) (R Rc : Nat) (hR : R ≤ 4) (AR : Option Addr) (gs cap : Nat) (e : Cn) (hsz : e.size < 1152921504606846976) (S : Snap) (w : World) (A B : Option Addr) (c dd : Nat)
    (hA : ArrRow w AR R) (hS : Agr S w) (hr : RepC S e [.int .i64 e.op, .slice A e.a.length c, .slice B e.c.length dd])
    (hrow : w.heap[gs]? = some (.cells (stmtCells e.op A e.a.length c B e.c.length dd) 160 (0, 0))) :
    Calls Tryz.prog 124 #[.agg #[.int .i64 1, .int .i64 2, .string ⟨#[112]⟩, .int .i64 0, .int .i64 0, .slice none 0 0, .slice none 0 0, .int .i64 V, .int .i64 0, .slice AR R Rc, .int .i64 1, .slice (some ⟨gs, 0, none⟩) 1 cap],
      .agg #[.slice none 0 0, .slice none 0 0, .slice none 0 0, .slice none 0 0, .int .i64 0, .int .i64 1, .int .i64 1]] w fun en w' => en = .returned (.int .i64 (if okTest V R e = true then 0 else 60)) ∧ Below w.heap.size w w' := by
  have hmf : ∀ (fn : Fn) (first cap : Array Value) (w : World), (Instr.makeFunc fn first cap).run Tryz.prog w = .ok (.func fn first cap) w := fun _ _ _ _ => rfl
  have hdd : ∀ k : Nat, (Fence.wide.depth.isSome = true → 1 ≤ k) := fun k h => by cases h
  have i1 : inR 1 1 1073741824 = true := rfl
  have i2 : inR 1 2 1073741824 = true := rfl
  have i3 : inR 0 0 0 = true := rfl
  have i4 : inR 0 V 12 = true := inR_true.2 hV
  have i5 : inR 0 0 4 = true := rfl
  have i6 : inR 1 1 20000 = true := rfl
  have HA := Lib.hid hA
  have HS := Lib.hid hS
  have HREP := Lib.hid hr
  have HROW := Lib.hid hrow
  clear hA hS hr hrow
  obtain ⟨rv, hrv⟩ : ∃ rv : Int, rv = (if okTest V R e = true then 0 else 60) := ⟨_, rfl⟩
  rw [← hrv]
  have HRV := Lib.hid hrv
  clear hrv
  refine (callsIn_wide (n := 9)).1 ?_
  refine callsIn_of_wp_marks Tryz.func124 rfl trivial ?_ rfl
  simp only [Tryz.ntmps124, List.size_toArray, List.length_cons, List.length_nil, Nat.reduceAdd, Nat.reduceSub, Array.replicate_succ, Array.replicate_zero, List.push_toArray, List.append_toArray, List.nil_append, List.cons_append]
  gi_wp2_with (first
    | ((with_reducible refine gate_in (N := 2) rfl ?_); refine new_in rfl (fun c e => by cases e) rfl #[.int .i64 1, .int .i64 2, .string ⟨#[112]⟩, .int .i64 0, .int .i64 0, .slice none 0 0, .slice none 0 0, .int .i64 V, .int .i64 0, .slice AR R Rc, .int .i64 1, .slice (some ⟨gs, 0, none⟩) 1 cap] 99 (by go_simp) ?_; intro g2 w1 HG2 HB2 HBE1)
    | ((with_reducible refine gate_in (N := 3) rfl ?_); refine new_in rfl (fun c e => by cases e) rfl #[.slice none 0 0, .slice none 0 0, .slice none 0 0, .slice none 0 0, .int .i64 0, .int .i64 1, .int .i64 1] 86 (by go_simp) ?_; intro g3 w2 HG3 HB3 HBE2; have HBB := Lib.hid (below_trans HBE1.out HBE2.out); have HB2 := Lib.hid (below_blk HBE2.out HB2.out))
    | ((with_reducible refine gate_in (N := 4) rfl ?_); refine new_in rfl (fun c e => by cases e) rfl #[.int .i64 0] 30 (by go_simp) ?_; intro g4 w3 HG4 HB4 HBE3; have HG4 := Lib.hid (Nat.le_trans HBB.out.size (Nat.le_of_eq HG4.out.symm)); have HBB := Lib.hid (below_trans HBB.out HBE3.out); have HB2 := Lib.hid (below_blk HBE3.out HB2.out); have HB3 := Lib.hid (below_blk HBE3.out HB3.out))
    | ((with_reducible refine gate_in (N := 10) rfl ?_); refine load_row_in rfl 99 (.tmp 2) rfl g2 (by go_simp) 99 _ (0, 0) _ HB2.out Tryz.underlying99 rfl size99 ?_)
    | ((with_reducible refine gate_in (N := 11) rfl ?_); refine load_row_in rfl 86 (.tmp 3) rfl g3 (by go_simp) 86 _ (0, 0) _ HB3.out Tryz.underlying86 rfl size86 ?_)
    | ((with_reducible refine gate_in (N := 5) rfl ?_); refine new_in rfl (fun c e => by cases e) rfl #[.int .i64 0, .int .i64 0, .string ⟨#[]⟩, .int .i64 0, .int .i64 0, .slice none 0 0, .slice none 0 0, .int .i64 0, .int .i64 0, .slice none 0 0, .int .i64 0, .slice none 0 0, .slice none 0 0, .slice none 0 0, .slice none 0 0, .slice none 0 0, .int .i64 0, .int .i64 0, .int .i64 0] 280 (by go_simp) ?_; intro g5 w4 HG5 HB5 HBE4)
    | ((with_reducible refine gate_store_in (t := 280) (p := 5) rfl ?_); refine store_at_in rfl rfl 280 (.tmp 5) (.tmp 12) rfl g5 #[.int .i64 1, .int .i64 2, .string ⟨#[112]⟩, .int .i64 0, .int .i64 0, .slice none 0 0, .slice none 0 0, .int .i64 V, .int .i64 0, .slice AR R Rc, .int .i64 1, .slice (some ⟨gs, 0, none⟩) 1 cap, .slice none 0 0, .slice none 0 0, .slice none 0 0, .slice none 0 0, .int .i64 0, .int .i64 1, .int .i64 1] (by go_simp) (by go_simp) 280 HB5.out size280 rfl (by simp [Value.oneCell']) ?_; intro w5 HB5 HBE5; have hb := below_grown_new HBE4.out HBE5.out (by rw [HG5.out]; exact Nat.le_refl _); have HBB := Lib.hid (below_trans HBB.out hb); have HB2 := Lib.hid (below_blk hb HB2.out); have HB3 := Lib.hid (below_blk hb HB3.out); have HB4 := Lib.hid (below_blk hb HB4.out); clear hb HBE4 HBE5; have c0 : w5.cell? ⟨g2, 0, none⟩ = some (.int .i64 1) := (blk_cell HB2.out 0).trans rfl; have c1 : w5.cell? ⟨g2, 1, none⟩ = some (.int .i64 2) := (blk_cell HB2.out 1).trans rfl; have c2 : w5.cell? ⟨g2, 2, none⟩ = some (.string ⟨#[112]⟩) := (blk_cell HB2.out 2).trans rfl; have c3 : w5.cell? ⟨g2, 3, none⟩ = some (.int .i64 0) := (blk_cell HB2.out 3).trans rfl; have c4 : w5.cell? ⟨g2, 4, none⟩ = some (.int .i64 0) := (blk_cell HB2.out 4).trans rfl; have c5 : w5.cell? ⟨g2, 5, none⟩ = some (.slice none 0 0) := (blk_cell HB2.out 5).trans rfl; have c6 : w5.cell? ⟨g2, 6, none⟩ = some (.slice none 0 0) := (blk_cell HB2.out 6).trans rfl; have c7 : w5.cell? ⟨g2, 7, none⟩ = some (.int .i64 V) := (blk_cell HB2.out 7).trans rfl; have c8 : w5.cell? ⟨g2, 8, none⟩ = some (.int .i64 0) := (blk_cell HB2.out 8).trans rfl; have c9 : w5.cell? ⟨g2, 9, none⟩ = some (.slice AR R Rc) := (blk_cell HB2.out 9).trans rfl; have c10 : w5.cell? ⟨g2, 10, none⟩ = some (.int .i64 1) := (blk_cell HB2.out 10).trans rfl; have d5 : w5.cell? ⟨g3, 5, none⟩ = some (.int .i64 1) := (blk_cell HB3.out 5).trans rfl; have d6 : w5.cell? ⟨g3, 6, none⟩ = some (.int .i64 1) := (blk_cell HB3.out 6).trans rfl)
    | ((try refine ⟨trivial, ?_⟩); gi_at_call 175; refine (callsIn_wide.2 (in_calls _ _ _ _)).mono ?_; rintro en w' ⟨rfl, rfl⟩)
    | ((try refine ⟨trivial, ?_⟩); gi_at_call 176; refine (callsIn_wide.2 (named_p_calls _)).mono ?_; rintro en w' ⟨rfl, rfl⟩)
    | ((try refine ⟨trivial, ?_⟩); gi_at_call 177; refine (callsIn_wide.2 (everyRange_calls _ (by decide) _ _ _ _)).mono ?_; rintro en w6 ⟨rfl, hb⟩; have HBB := Lib.hid (below_trans HBB.out hb); have HB2 := Lib.hid (below_blk hb HB2.out); have HB4 := Lib.hid (below_blk hb HB4.out); have HB5 := Lib.hid (below_blk hb HB5.out); clear c0 c1 c2 c3 c4 c5 c6 c7 c8 c9 c10 d5 d6 hb; have c0 : True := trivial; have c1 : w6.cell? ⟨g2, 1, none⟩ = some (.int .i64 2) := (blk_cell HB2.out 1).trans rfl; have c2 : True := trivial; have c3 : True := trivial; have c4 : True := trivial; have c5 : w6.cell? ⟨g2, 5, none⟩ = some (.slice none 0 0) := (blk_cell HB2.out 5).trans rfl; have c6 : w6.cell? ⟨g2, 6, none⟩ = some (.slice none 0 0) := (blk_cell HB2.out 6).trans rfl; have c7 : True := trivial; have c8 : True := trivial; have c9 : w6.cell? ⟨g2, 9, none⟩ = some (.slice AR R Rc) := (blk_cell HB2.out 9).trans rfl; have c10 : True := trivial; have d5 : True := trivial; have d6 : True := trivial)
    | ((try refine ⟨trivial, ?_⟩); gi_at_call 179; refine (callsIn_wide.2 (everyArr_calls g2 AR R Rc hR _ c5 (HA.out.below HBB.out))).mono ?_; rintro en w6 ⟨rfl, hb⟩; have HBB := Lib.hid (below_trans HBB.out hb); have HB2 := Lib.hid (below_blk hb HB2.out); have HB4 := Lib.hid (below_blk hb HB4.out); have HB5 := Lib.hid (below_blk hb HB5.out); clear c0 c1 c2 c3 c4 c5 c6 c7 c8 c9 c10 d5 d6 hb; have c1 : w6.cell? ⟨g2, 1, none⟩ = some (.int .i64 2) := (blk_cell HB2.out 1).trans rfl)
    | ((with_reducible refine gate_in (N := 82) rfl ?_); refine make_in rfl 286 rfl ?_; intro gm w7 HGM HBM HBE7; have HGM := Lib.hid (Nat.le_trans HBB.out.size (Nat.le_of_eq HGM.out.symm)); have HBB := Lib.hid (below_trans HBB.out HBE7.out); have HB2 := Lib.hid (below_blk HBE7.out HB2.out); have HB4 := Lib.hid (below_blk HBE7.out HB4.out); have HB5 := Lib.hid (below_blk HBE7.out HB5.out); clear c1; have c1 : w7.cell? ⟨g2, 1, none⟩ = some (.int .i64 2) := (blk_cell HB2.out 1).trans rfl)
    | ((with_reducible refine gate_put_in (t := 286) (.inl rfl) ?_); refine put_in rfl rfl 286 3 4 (.tmp 82) (.tmp 84) (.const (.bool true)) (.inl rfl) Tryz.underlying286 Tryz.underlying3 gm 0 #[] 2 (.bool true) (by go_simp) (by go_simp) (by go_simp) HBM.out rfl ?_; intro w8 HBMn HBE8; have HBB := Lib.hid (below_grown_new HBB.out HBE8.out HGM.out); have HB2 := Lib.hid (grown_cells HBE8.out HBM.out HB2.out); have HB4 := Lib.hid (grown_cells HBE8.out HBM.out HB4.out); have HB5 := Lib.hid (grown_cells HBE8.out HBM.out HB5.out); have HBM := HBMn; clear HBMn HBE8 c1)
    | ((with_reducible refine gate_in (N := 8) rfl ?_); refine new_in rfl (fun c e => by cases e) rfl #[.map none] 286 (by go_simp) ?_; intro g8 w9 HG8 HB8 HBE9; have q8 : w9.cell? ⟨g8, 0, none⟩ = some (.map none) := (blk_cell HB8.out 0).trans rfl; have z8 : w9.frozen? ⟨g8, 0, none⟩ = false := blk_frozen HB8.out 0)
    | ((with_reducible refine gate_store_in (t := 286) (p := 8) rfl ?_); refine store1_in rfl rfl (fun c e => by cases e) rfl g8 286 (.map (some gm)) HB8.out (by go_simp) ?_; clear q8 z8; intro w10 HB8 HBE10 q8; have hb := below_grown_new HBE9.out HBE10.out (by rw [HG8.out]; exact Nat.le_refl _); have HBB := Lib.hid (below_trans HBB.out hb); have HB2 := Lib.hid (below_blk hb HB2.out); have HB4 := Lib.hid (below_blk hb HB4.out); have HB5 := Lib.hid (below_blk hb HB5.out); have HBM := Lib.hid (below_blk hb HBM.out); clear hb HBE9 HBE10 q8; have c11 : w10.cell? ⟨g2, 11, none⟩ = some (.slice (some ⟨gs, 0, none⟩) 1 cap) := (blk_cell HB2.out 11).trans rfl)
    | ((try refine ⟨trivial, ?_⟩); gi_at_call 123; refine (callsIn_wide.2 (all_calls _ _ _ _ _)).mono ?_; rintro en w11 ⟨gA, gB, rfl, hgA, hgB, hA, hB, hb⟩; have HBB := Lib.hid (below_trans HBB.out hb); have HB2 := Lib.hid (below_blk hb HB2.out); have HB4 := Lib.hid (below_blk hb HB4.out); have HB5 := Lib.hid (below_blk hb HB5.out); have HB8 := Lib.hid (below_blk hb HB8.out); have HBM := Lib.hid (below_blk hb HBM.out); have HA1 := Lib.hid hA; have HA2 := Lib.hid hB; clear hb hgA hgB hA hB c11))
  have HS0 := Lib.hid (HS.out.below HBB.out)
  have HROW0 := Lib.hid (below_blk HBB.out HROW.out)
  have h4lt := blk_lt HB4.out
  have k2 : ∀ b o, (some o = S b) → b ≠ g4 := fun b o h e => by have := blk_lt (HS.out b o h.symm); have := HG4.out; omega
  refine rangeFunc_boxed rfl (by decide) (gf := 172) (lb := #[.pointer (some ⟨gA, 0, none⟩), .pointer (some ⟨gB, 0, none⟩)]) rfl trivial (enters_of Tryz.func172 (by kernel_rfl) rfl)
    (encs := fun (_ : Unit) => #[.agg (placedCells e.op A e.a.length c B e.c.length dd)]) (Kp := KeepsCells) (S := fun xs => xs = [()]) (Sp := fun xs => xs = [()]) (N := 1) (w0 := w11)
    (fun l J Jx W hW hJ hJx hY h0 => all1_one 8 l gA gB gs cap e.op A B e.a.length c e.c.length dd J Jx W hJ (fun m pre x W1 h1 h2 => yield_any rfl m (hY pre x W1 h1 h2)) ((blk_cell (below_blk hW HA1.out) 0).trans rfl) ((blk_cell (below_blk hW HA2.out) 0).trans rfl) (below_blk hW HROW0.out) h0)
    KeepsCells.trans (fun W l o o' _ ho hc _ => KeepsCells.put W l o o' ho hc) (Below.refl _ _) (fun _ => rfl)
    (fun pre W => (Agr S W ∧ W.heap[g5]? = some (.cells #[.int .i64 1, .int .i64 2, .string ⟨#[112]⟩, .int .i64 0, .int .i64 0, .slice none 0 0, .slice none 0 0, .int .i64 V, .int .i64 0, .slice AR R Rc, .int .i64 1, .slice (some ⟨gs, 0, none⟩) 1 cap, .slice none 0 0, .slice none 0 0, .slice none 0 0, .slice none 0 0, .int .i64 0, .int .i64 1, .int .i64 1] 280 (0, 0)) ∧ W.heap[g8]? = some (.cells #[.map (some gm)] 286 (0, 0)) ∧ W.heap[g4]? = some (.cells #[.int .i64 0] 30 (0, 0)) ∧ (pre = [] → W.heap[gm]? = some (.map #[⟨.int .i64 2, .bool true, 0⟩] 1)) ∧ (pre ≠ [] → okTest V R e = true)) ∧ Below w.heap.size w W)
    (fun c pre W => (c = .ret ∧ okTest V R e = false ∧ W.heap[g4]? = some (.cells #[.int .i64 60] 30 (0, 0))) ∧ Below w.heap.size w W)
    (OwnFrom.and (OwnFrom.and (ownFrom_agr (w := w11) HS0.out (Nat.le_refl _)) (OwnFrom.and (ownFrom_blk _ _ _ _) (OwnFrom.and (ownFrom_blk _ _ _ _) (OwnFrom.and (ownFrom_blk _ _ _ _) (OwnFrom.and (ownFrom_old _ _ (blk_lt HBM.out)) (ownFrom_pure _ _)))))) (ownFrom_below (Nat.le_refl _) HBB.out.size))
    (fun c => OwnFrom.and (OwnFrom.and (ownFrom_pure _ _) (OwnFrom.and (ownFrom_pure _ _) (ownFrom_blk _ _ _ _))) (ownFrom_below (Nat.le_refl _) HBB.out.size))
    ⟨⟨HS0.out, HB5.out, HB8.out, HB4.out, fun _ => HBM.out, fun h => absurd rfl h⟩, HBB.out⟩
    9 218 (fun _ => placedCells e.op A e.a.length c B e.c.length dd) ?assign ?body ?done ?stop
  case assign =>
    rintro l pre x W K ⟨⟨hag, hg5, hg8, h4, h5, h6⟩, hB⟩ hK
    have HX5 := Lib.hid hg5
    have HX8 := Lib.hid hg8
    have H4 := Lib.hid h4
    have H5 := Lib.hid h5
    have H6 := Lib.hid h6
    have HAG := Lib.hid hag
    have HB := Lib.hid hB
    have HKK := Lib.hid hK
    clear h4 h5 h6 hag hB hK hg5 hg8
    gi_wp2_with (first
      | ((with_reducible refine gate_in (N := 9) rfl ?_); refine new_in rfl (fun c e => by cases e) rfl #[.int .i64 0, .int .i64 0, .int .i64 0, .int .i64 0, .int .i64 0, .int .i64 0, .int .i64 0, .int .i64 0, .slice none 0 0, .int .i64 0, .int .i64 0, .int .i64 0, .slice none 0 0, .int .i64 0, .slice none 0 0, .slice none 0 0, .slice none 0 0, .slice none 0 0, .slice none 0 0, .slice none 0 0, .int .i64 0] 218 (by go_simp) ?_; intro g9 u1 HG9 HB9 HBE9)
      | ((with_reducible refine gate_store_in (t := 218) (p := 9) rfl ?_); refine store_at_in rfl rfl 218 (.tmp 9) (.tmp 89) rfl g9 (placedCells e.op A e.a.length c B e.c.length dd) (by go_simp) (by go_simp) 218 HB9.out size218 rfl (by simp [placedCells, Value.oneCell']) ?_; intro u2 HB10 HBE10))
    have hb := below_grown_new HBE9.out HBE10.out (by rw [HG9.out]; exact Nat.le_refl _)
    exact HKK.out _ _ (KeepsFrom.below _ hb) (KeepsCells.below hb) ⟨⟨HAG.out.below hb, below_blk hb HX5.out, below_blk hb HX8.out, below_blk hb H4.out, fun e => below_blk hb (H5.out e), H6.out⟩, below_trans HB.out hb⟩ ⟨g9, HB10.out, rfl⟩
  case body =>
    rintro l pre x Bx W hl ⟨r, hr⟩ ⟨⟨hag, hg5, hg8, h4, h5, h6⟩, hB⟩ hbx hlen
    obtain rfl : pre = [] := by cases pre with | nil => rfl | cons => simp at hlen
    have hlm : (Builtin.len_ #[286] 3 #[.map (some gm)]).run Tryz.prog W = .ok (.int .i64 1) W := run_len_map W 286 3 gm _ _ Tryz.underlying286 (h5 rfl)
    have hgm := blk_lt HBM.out
    have h4lt := blk_lt HB4.out
    have HX5 := Lib.hid hg5
    have HX8 := Lib.hid hg8
    have H4 := Lib.hid h4
    have HM := Lib.hid (h5 rfl)
    have HAG := Lib.hid hag
    have HB := Lib.hid hB
    have HX := Lib.hid hbx
    clear h4 h5 h6 hag hB hbx hr hg5 hg8
    have q8 : W.cell? ⟨g8, 0, none⟩ = some (.map (some gm)) := (blk_cell HX8.out 0).trans rfl
    have p20 : W.cell? ⟨Bx, 20, none⟩ = some (.int .i64 1) := (blk_cell HX.out 20).trans rfl
    have p0 : W.cell? ⟨Bx, 0, none⟩ = some (.int .i64 1) := (blk_cell HX.out 0).trans rfl
    have HCC : Hid (∀ j u, [Value.int .i64 1, .int .i64 23, .int .i64 0, .int .i64 0, .int .i64 0, .int .i64 0, .int .i64 0, .int .i64 0, .slice none 0 0, .int .i64 0, .int .i64 0, .int .i64 0, .slice none 0 0, .int .i64 e.op, .slice A e.a.length c, .slice B e.c.length dd, .slice none 0 0, .slice none 0 0, .slice none 0 0, .slice none 0 0][j]? = some u → W.cell? (Addr.add ⟨Bx, 0, none⟩ j) = some u) :=
      Lib.hid (fun j u hj => by rw [add_plain, blk_cell HX.out]; exact prefix_get _ (.int .i64 1) j u hj)
    have hz : ∀ w, (zeroValue 4).run Tryz.prog w = .ok (.bool false) w := fun w => rfl
    have HTT : okTest V R e = true ∨ okTest V R e = false := by cases okTest V R e <;> simp
    rcases HTT with HT | HT
    · have HT := Lib.hid HT
      gi_wp2_with (first
        | ((with_reducible refine gate_in (N := 103) rfl ?_); refine look_in (by rfl) 286 3 4 (.tmp 99) (.tmp 102) rfl Tryz.underlying286 Tryz.underlying3 gm 1 _ 1 (.bool false) hz (by go_simp) (by go_simp) HM.out rfl ?_)
        | ((with_reducible refine gate_in (N := 106) rfl ?_); refine load_row_in (by rfl) 280 (.tmp 5) rfl g5 (by go_simp) 280 _ (0, 0) _ HX5.out Tryz.underlying280 rfl size280 ?_)
        | ((with_reducible refine gate_in (N := 108) rfl ?_); refine load_at_in (by rfl) 160 (.tmp 107) rfl ⟨Bx, 0, none⟩ (by go_simp) _ HCC.out _ Tryz.underlying160 rfl size160 ?_)
        | ((try refine ⟨trivial, ?_⟩); gi_at_call 180; refine (CallsIn.inRound l (callsIn_wide.2 (stmt_calls V (by omega) R Rc (by omega) AR _ _ _ _ _ _ _ _ _ _ _ _ _ _ _ _ _ e hsz S W HAG.out 1 rfl A B c dd HREP.out))).mono ?_; rintro en u3 ⟨rfl, hb⟩; rw [HT.out]; clear hlm q8 p20 p0; have HB3 := Lib.hid hb; clear hb; have q8 : u3.cell? ⟨g8, 0, none⟩ = some (.map (some gm)) := (blk_cell (below_blk HB3.out HX8.out) 0).trans rfl; have p0 : u3.cell? ⟨Bx, 0, none⟩ = some (.int .i64 1) := (blk_cell (below_blk HB3.out HX.out) 0).trans rfl; have q4 : u3.cell? ⟨g4, 0, none⟩ = some (.int .i64 0) := (blk_cell (below_blk HB3.out H4.out) 0).trans rfl; have z4 : u3.frozen? ⟨g4, 0, none⟩ = false := blk_frozen (below_blk HB3.out H4.out) 0)
        | ((with_reducible refine gate_put_in (t := 286) (.inr rfl) ?_); refine put_in rfl rfl 286 3 4 (.tmp 112) (.tmp 115) (.const (.bool true)) (.inr rfl) Tryz.underlying286 Tryz.underlying3 gm 1 _ 1 (.bool true) (by go_simp) (by go_simp) (by go_simp) (below_blk HB3.out HM.out) rfl ?_; intro u4 HM4 HBE4))
      have hm3 := below_blk HB3.out HM.out
      refine ⟨?_, ?_, ⟨⟨((HAG.out.below HB3.out).grown HBE4.out (fun k e => ?_)), grown_cells HBE4.out hm3 (below_blk HB3.out HX5.out), grown_cells HBE4.out hm3 (below_blk HB3.out HX8.out), grown_cells HBE4.out hm3 (below_blk HB3.out H4.out), fun e => by simp at e, fun _ => HT.out⟩, ?_⟩⟩
      · exact (KeepsFrom.below _ HB3.out).trans (KeepsFrom.grown HBE4.out hgm)
      · exact (KeepsCells.below HB3.out).trans (KeepsCells.grown HBE4.out hm3 rfl)
      · cases e; exact HS.out.new HGM.out
      · exact below_grown_new (below_trans HB.out HB3.out) HBE4.out HGM.out
    · have HT := Lib.hid HT
      gi_wp2_with (first
        | ((with_reducible refine gate_in (N := 103) rfl ?_); refine look_in (by rfl) 286 3 4 (.tmp 99) (.tmp 102) rfl Tryz.underlying286 Tryz.underlying3 gm 1 _ 1 (.bool false) hz (by go_simp) (by go_simp) HM.out rfl ?_)
        | ((with_reducible refine gate_in (N := 106) rfl ?_); refine load_row_in (by rfl) 280 (.tmp 5) rfl g5 (by go_simp) 280 _ (0, 0) _ HX5.out Tryz.underlying280 rfl size280 ?_)
        | ((with_reducible refine gate_in (N := 108) rfl ?_); refine load_at_in (by rfl) 160 (.tmp 107) rfl ⟨Bx, 0, none⟩ (by go_simp) _ HCC.out _ Tryz.underlying160 rfl size160 ?_)
        | ((try refine ⟨trivial, ?_⟩); gi_at_call 180; refine (CallsIn.inRound l (callsIn_wide.2 (stmt_calls V (by omega) R Rc (by omega) AR _ _ _ _ _ _ _ _ _ _ _ _ _ _ _ _ _ e hsz S W HAG.out 1 rfl A B c dd HREP.out))).mono ?_; rintro en u3 ⟨rfl, hb⟩; rw [HT.out]; clear hlm q8 p20 p0; have HB3 := Lib.hid hb; clear hb; have q8 : u3.cell? ⟨g8, 0, none⟩ = some (.map (some gm)) := (blk_cell (below_blk HB3.out HX8.out) 0).trans rfl; have p0 : u3.cell? ⟨Bx, 0, none⟩ = some (.int .i64 1) := (blk_cell (below_blk HB3.out HX.out) 0).trans rfl; have q4 : u3.cell? ⟨g4, 0, none⟩ = some (.int .i64 0) := (blk_cell (below_blk HB3.out H4.out) 0).trans rfl; have z4 : u3.frozen? ⟨g4, 0, none⟩ = false := blk_frozen (below_blk HB3.out H4.out) 0)
        | ((with_reducible refine gate_store_in (t := 30) (p := 4) rfl ?_); refine store1_in rfl rfl (fun c e => by cases e) rfl g4 30 (.int .i64 60) (below_blk HB3.out H4.out) (by go_simp) ?_; clear q4 z4; intro u4 HM4 HBE4 q4))
      refine ⟨(KeepsFrom.below _ HB3.out).trans (KeepsFrom.grown HBE4.out h4lt), ⟨rfl, HT.out, HM4.out⟩, below_grown_new (below_trans HB.out HB3.out) HBE4.out HG4.out⟩
  case done =>
    rintro D xs W hD rfl ⟨⟨hag, hg5, hg8, h4, h5, h6⟩, hB⟩ hK
    have q4 : W.cell? ⟨g4, 0, none⟩ = some (.int .i64 0) := (blk_cell h4 0).trans rfl
    have z4 : W.frozen? ⟨g4, 0, none⟩ = false := blk_frozen h4 0
    have H4 := Lib.hid h4
    have HB := Lib.hid hB
    have HK := Lib.hid hK
    have HT := Lib.hid (h6 (by simp))
    clear h4 h5 h6 hag hB hK hg5 hg8
    gi_wp2_with (first
      | ((with_reducible refine gate_store_in (t := 30) (p := 4) rfl ?_); refine store1_in rfl rfl (fun c e => by cases e) rfl g4 30 (.int .i64 0) H4.out (by go_simp) ?_; clear q4 z4; intro u4 HM4 HBE4 q4))
    have hK' := grown_other HBE4.out HK.out (by have := h4lt; omega)
    refine ⟨by simp, .inl ⟨_, _, rfl, run_takeDeferred hK', ?_⟩⟩
    have hc5 := cell_kept q4 (grownBy_putObj' _ D (.deferred none)) (fun r e => by cases e; exact ⟨_, hK', rfl⟩)
    refine ⟨.int .i64 0, ?_, by rw [HRV.out, HT.out]; rfl, (below_grown_new HB.out HBE4.out HG4.out).trans (belowK_b (w := w) (Nat.le_refl _) _ D _ _ (Nat.le_trans HBB.out.size hD) hK' rfl rfl)⟩
    simp [results, Tryz.f124, go_sem, hc5]
  case stop =>
    rintro D c pre W hD rfl ⟨⟨rfl, hf, h4⟩, hB⟩ hK
    have q4 : W.cell? ⟨g4, 0, none⟩ = some (.int .i64 60) := (blk_cell h4 0).trans rfl
    gi_wp2
    refine ⟨by simp, .inl ⟨_, _, rfl, run_takeDeferred hK, ?_⟩⟩
    have hc5 := cell_kept q4 (grownBy_putObj' _ D (.deferred none)) (fun r e => by cases e; exact ⟨_, hK, rfl⟩)
    refine ⟨.int .i64 60, ?_, by rw [HRV.out, hf]; rfl, hB.trans (belowK_b (w := w) (Nat.le_refl _) W D _ _ (Nat.le_trans HBB.out.size hD) hK rfl rfl)⟩
    simp [results, Tryz.f124, go_sem, hc5]
end Go.Proofs.YtkopmnhngjbmcaaGreatDoor.Sn

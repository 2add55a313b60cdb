/- (parser.expr): a bracket; every expression. -/
import Derived.Test.YtkopmnhngjbmcaaGreatDoorD10
import Derived.Deep.AppendLies
import Derived.Deep.RegionHeld3
namespace Go.Proofs.YtkopmnhngjbmcaaGreatDoor.Sn
open Go Go.RowKit
set_option linter.unusedVariables false
theorem info125 : (Tryz.prog.info? 125).map (fun i => (i.zero, i.size, i.bytes)) = some (some (.agg #[.int .i64 0, .int .i64 0, .int .i64 0, .slice none 0 0]), 4, 48) := by kernel_rfl
def cellsE (op : Int) (v : Value) : Array Value := #[.int .i64 op, .int .i64 0, .int .i64 0, v]
def zeroE : Array Value := #[.int .i64 0, .int .i64 0, .int .i64 0, .slice none 0 0]
theorem skip_any (g : Nat) (s wd : List UInt8) (w : World) (hg : w.heap[g]? = some (.cells (pcell s) 182 (0, 0))) :
    Calls Tryz.prog 147 #[.pointer (some ⟨g, 0, none⟩), .string ⟨wd.toArray⟩] w fun en w' => match cutP wd s with
      | some t => en = .returned (.tuple #[]) ∧ w'.heap[g]? = some (.cells (pcell t) 182 (0, 0)) ∧ w.grownBy w' (some g)
      | none => en = .panicked [{ v := .iface 179 (.agg #[]), recovered := false }] ∧ w = w' := by
  cases h : cutP wd s with
  | some t => exact skip_some g s wd t h w hg
  | none => exact skip_none g s wd h w hg
theorem own_ne {w : World} {base g : Nat} {e : TypeId} {size : Nat} {v : Value} {n : Nat} {xs : List Value} (h : w.ownsRow base e size v n xs) (hg : g < base) : v.ownBlock = none ∨ v.ownBlock ≠ some g := by
  right
  exact fun e => ownsRow_ne h hg e.symm
theorem out_drew {S S' : Snap} {w w' : World} {row : Option Nat} (h : Out row S w.drew S' w') : Out row S w S' w' := ⟨h.le, h.agr, h.new, ⟨h.grown.os, h.grown.tape, h.grown.output, h.grown.size, h.grown.block⟩⟩
/-- the statement for a fuel -/
def ExprAt (n : Nat) : Prop := ∀ (s : List UInt8), s.length < n → s.length ≤ 1073741824 → ∀ (S : Snap) (hL : LibOk S) (g : Nat) (w : World), Agr S w → S g = none → w.heap[g]? = some (.cells (pcell s) 182 (0, 0)) →
  Calls Tryz.prog 149 #[.pointer (some ⟨g, 0, none⟩)] w (PostE S w g (pE n s))
set_option maxRecDepth 100000 in
set_option maxHeartbeats 3000000 in
theorem braceP_op (n : Nat) (s s0 : List UInt8) (h0 : cutP [40] s = some s0) (hl : s.length ≤ 1073741824) (hop : opOf (wordOf s0) = none) (S : Snap) (g : Nat) (w : World) (hg : w.heap[g]? = some (.cells (pcell s) 182 (0, 0))) :
    Calls Tryz.prog 149 #[.pointer (some ⟨g, 0, none⟩)] w (PostE S w g none) := by
  have HG := Lib.hid hg
  have HP := Lib.hid (pre_some h0)
  have HK := Lib.hid (skip_some g s [40] s0 h0)
  have hl0 := cutP_len h0
  have HO : Hid (∀ W, W.heap[g]? = some (.cells (pcell s0) 182 (0, 0)) → Calls Tryz.prog 148 #[.pointer (some ⟨g, 0, none⟩)] W fun en w' => en = .panicked [{ v := .iface 179 (.agg #[]), recovered := false }] ∧ W.grownBy w' (some g)) := Lib.hid fun W hW => by
    have := operator_calls g s0 (by simp at hl0; omega) W hW
    rw [hop] at this
    exact this.mono fun _ _ h => ⟨h.1, h.2.2⟩
  clear hg h0 hop hl0
  go_enter Tryz.func149, Tryz.ntmps149
  go_wp2_with (first
    | ((with_reducible refine gate_dst (N := 2) rfl ?_); refine new_at rfl (N := 2) rfl #[.int .i64 0, .int .i64 0, .int .i64 0, .slice none 0 0] 125 (by go_simp) ?_; intro gR w1 HGR HB1 HBE1; have HG1 := Lib.hid (below_blk HBE1.out HG.out); have h1 : w1.cell? ⟨g, 0, none⟩ = some (.string ⟨s.toArray⟩) := (blk_cell HG1.out 0).trans rfl)
    | (go_at_call 146; with_reducible refine (HP.out _).mono ?_; rintro en w2 ⟨rfl, rfl⟩)
    | (go_at_call 147; refine (HK.out _ HG1.out).mono ?_; rintro en w3 ⟨rfl, hg3, hgr3⟩; clear h1; have HG3 := Lib.hid hg3; have HGR3 := Lib.hid (grown_trans (grown_below HBE1.out) hgr3); clear hg3 hgr3)
    | (go_at_call 148; refine (HO.out _ HG3.out).mono ?_; rintro en w4 ⟨rfl, hgr4⟩; have HGR4 := Lib.hid (grown_trans HGR3.out hgr4); clear hgr4))
  exact ⟨rfl, rfl, HGR4.out⟩
set_option maxRecDepth 100000 in
set_option maxHeartbeats 4000000 in
theorem braceP_calls (n : Nat) (ih : ExprAt n) (s s0 : List UInt8) (h0 : cutP [40] s = some s0) (hls : s.length < n + 1) (hl : s.length ≤ 1073741824) (op : Int) (hop : opOf (wordOf s0) = some op) (S : Snap) (hL : LibOk S) (g : Nat) (w : World) (hS : Agr S w) (hSg : S g = none)
    (hg : w.heap[g]? = some (.cells (pcell s) 182 (0, 0))) : Calls Tryz.prog 149 #[.pointer (some ⟨g, 0, none⟩)] w (PostE S w g (pE (n + 1) s)) := by
  have hgw := blk_lt hg
  have HG := Lib.hid hg
  have HS := Lib.hid hS
  have HSG := Lib.hid hSg
  have HLL := Lib.hid hL
  have HIH := Lib.hid ih
  have HP := Lib.hid (pre_some h0)
  have HK := Lib.hid (skip_some g s [40] s0 h0)
  have hl0 := cutP_len h0
  have hla := afterW_len s0
  simp only [List.length_cons, List.length_nil] at hl0
  obtain ⟨s1, hs1⟩ : ∃ s1, afterW s0 = s1 := ⟨_, rfl⟩
  have HO : Hid (∀ W, W.heap[g]? = some (.cells (pcell s0) 182 (0, 0)) → Calls Tryz.prog 148 #[.pointer (some ⟨g, 0, none⟩)] W fun en w' => en = .returned (.int .i64 op) ∧ w'.heap[g]? = some (.cells (pcell s1) 182 (0, 0)) ∧ W.grownBy w' (some g)) := Lib.hid fun W hW => by
    have := operator_calls g s0 (by omega) W hW
    rw [hop, hs1] at this
    exact this
  have HPE : Hid (pE (n + 1) s = (opsL (pE n) 2 s1).bind fun x => (cutP [41] x.2).map fun s5 => (.mk op 0 0 x.1, s5)) := Lib.hid (by rw [pE_ops n s s0 h0, hop, hs1]; rfl)
  have hl1 : s1.length < n ∧ s1.length ≤ 1073741824 := by rw [← hs1]; omega
  have HL1 := Lib.hid hl1
  have HGW := Lib.hid hgw
  clear hg hS hSg hL ih h0 hop hs1 hl0 hla hls hl hl1 hgw
  obtain ⟨z, hinfo, hz0, hz1, hz2⟩ := info_parts info125
  go_enter Tryz.func149, Tryz.ntmps149
  go_wp2_with (first
    | ((with_reducible refine gate_dst (N := 2) rfl ?_); refine new_at rfl (N := 2) rfl zeroE 125 (by go_simp; rfl) ?_; intro gR w1 HGR HB1 HBE1; have HG1 := Lib.hid (below_blk HBE1.out HG.out); have h1 : w1.cell? ⟨g, 0, none⟩ = some (.string ⟨s.toArray⟩) := (blk_cell HG1.out 0).trans rfl)
    | (go_at_call 146; with_reducible refine (HP.out _).mono ?_; rintro en w2 ⟨rfl, rfl⟩)
    | (go_at_call 147; with_reducible refine (HK.out _ HG1.out).mono ?_; rintro en w3 ⟨rfl, hg3, hgr3⟩; clear h1; have HG3 := Lib.hid hg3; have HGR3 := Lib.hid (grown_trans (grown_below (row := some g) HBE1.out) hgr3); have HR3 := Lib.hid (grown_blk hgr3 HB1.out (fun e => by cases e; have := HGW.out; rw [HGR.out] at this; omega)); clear hg3 hgr3)
    | (go_at_call 148; refine (HO.out _ HG3.out).mono ?_; rintro en w4 ⟨rfl, hg4, hgr4⟩; have HG4 := Lib.hid hg4; have HGR4 := Lib.hid (grown_trans HGR3.out hgr4); have HR4 := Lib.hid (grown_blk hgr4 HR3.out (fun e => by cases e; have := HGW.out; rw [HGR.out] at this; omega)); clear hg4 hgr4)
    | ((with_reducible refine gate_dst (N := 8) rfl ?_); refine new_at rfl (N := 8) rfl zeroE 125 (by go_simp; rfl) ?_; intro gE w5 HGE HB5 HBE5)
    | ((with_reducible refine gate_store (t := 125) (p := 8) rfl ?_); refine store_at rfl rfl 125 (.tmp 8) (.tmp 42) rfl gE (cellsE op (.slice none 0 0)) (by go_simp) (by go_simp; rfl) 125 HB5.out size125 rfl (by simp [cellsE, Value.oneCell']) ?_; intro w6 HB6 HBE6))
  have HNR : Hid (w.heap.size ≤ gR) := Lib.hid (by rw [HGR.out]; exact Nat.le_refl _)
  have HRE : Hid (gR < gE) := Lib.hid (by rw [HGE.out]; exact blk_lt HR4.out)
  have HEB : Hid (gE < w6.heap.size) := Lib.hid (blk_lt HB6.out)
  have HG6 := Lib.hid (grown_blk HBE6.out (below_blk HBE5.out HG4.out) (fun e => by cases e; have := HGW.out; have := HNR.out; have := HRE.out; omega))
  have HR6 := Lib.hid (grown_blk HBE6.out (below_blk HBE5.out HR4.out) (fun e => by cases e; have := HRE.out; omega))
  have HGR6 := Lib.hid (grown_new (grown_trans HGR4.out (grown_below (row := some g) HBE5.out)) HBE6.out (by have := HNR.out; have := HRE.out; omega))
  go_loopw [43] (fun s43 wr => ∃ k : Nat, k ≤ 2 ∧ s43 = .int .i64 k ∧ LoopG RepE 4 125 (cellsE op) 125 zeroE S w g gE gR w6.heap.size (pE n) s1 k wr) (fun s43 _ => 2 - (intOf s43).toNat)
  case atStart =>
    exact ⟨0, by omega, rfl, [], s1, [], .slice none 0 0, S, rfl, rfl, HG6.out, HB6.out, HR6.out, World.ownsRow_nil _ _ _ _, RowV.nil _ _, Out.of_grown HS.out HGR6.out (fun k e => by cases e; exact HSG.out), HSG.out,
      HS.out.new (by have := HNR.out; have := HRE.out; omega), HS.out.new HNR.out, fun b hb => by simp [Value.ownBlock] at hb, Nat.le_refl _⟩
  case round =>
    obtain ⟨k, hk, rfl, hloop⟩ := hrel
    obtain ⟨l, r, xs, v, S1, hops, hll, hgr, hE, hR, hown, hrow, hout, n1, n2, n3, n4, hbase⟩ := hloop
    have hrl := (opsL_len (pE_len n) k s1 l r hops).2
    have HOPS := Lib.hid hops
    have HLEN := Lib.hid hll
    have HGr := Lib.hid hgr
    have HE := Lib.hid hE
    have HR := Lib.hid hR
    have HOWN := Lib.hid hown
    have HROW := Lib.hid hrow
    have HOUT := Lib.hid hout
    have HN1 := Lib.hid n1
    have HN2 := Lib.hid n2
    have HN3 := Lib.hid n3
    have HN4 := Lib.hid n4
    have HBASE := Lib.hid hbase
    clear hops hll hgr hE hR hown hrow hout n1 n2 n3 n4 hbase
    by_cases hlt : k < 2
    · cases hc : cutP [32] r with
      | none =>
        have HN : Hid (pE (n + 1) s = none) := Lib.hid (by
          have h1 := opsL_step HOPS.out
          rw [hc] at h1
          have h2 := opsL_none h1 (2 - (k + 1))
          rw [show k + 1 + (2 - (k + 1)) = 2 by omega] at h2
          rw [HPE.out, h2]; rfl)
        have HK2 : Hid (∀ W, W.heap[g]? = some (.cells (pcell r) 182 (0, 0)) → Calls Tryz.prog 147 #[.pointer (some ⟨g, 0, none⟩), .string ⟨#[32]⟩] W fun en w' => en = .panicked [{ v := .iface 179 (.agg #[]), recovered := false }] ∧ W = w') := Lib.hid (skip_none g r [32] hc)
        clear hc
        go_wp2_with (go_at_call 147; refine (HK2.out _ HGr.out).mono ?_; rintro en w7 ⟨rfl, rfl⟩)
        exact ⟨rfl, by rw [HN.out]; exact ⟨rfl, HOUT.out.grown⟩⟩
      | some r1 =>
        have HK2 : Hid (∀ W, W.heap[g]? = some (.cells (pcell r) 182 (0, 0)) → Calls Tryz.prog 147 #[.pointer (some ⟨g, 0, none⟩), .string ⟨#[32]⟩] W fun en w' => en = .returned (.tuple #[]) ∧ w'.heap[g]? = some (.cells (pcell r1) 182 (0, 0)) ∧ W.grownBy w' (some g)) := Lib.hid (skip_some g r [32] r1 hc)
        have hl2 := cutP_len hc
        simp only [List.length_cons, List.length_nil] at hl2
        have HC := Lib.hid hc
        have HX : Hid (∀ W, Agr S1 W → W.heap[g]? = some (.cells (pcell r1) 182 (0, 0)) → Calls Tryz.prog 149 #[.pointer (some ⟨g, 0, none⟩)] W (PostE S1 W g (pE n r1))) := Lib.hid fun W hW hWg =>
          HIH.out r1 (by have := HL1.out.1; omega) (by have := HL1.out.2; omega) S1 (HLL.out.mono HOUT.out.le) g W hW HN1.out hWg
        clear hc hl2 hrl
        go_wp2_with (go_at_call 147; refine (HK2.out _ HGr.out).mono ?_; rintro en w7 ⟨rfl, hg7, hgr7⟩; have HG7 := Lib.hid hg7; have HGR7 := Lib.hid hgr7; clear hg7 hgr7)
        have HA7 := Lib.hid (HOUT.out.agr.grown HGR7.out (fun k e => by cases e; exact HN1.out))
        have HE7 := Lib.hid (grown_blk HGR7.out HE.out (fun e => by cases e; have := HGW.out; have := HNR.out; have := HRE.out; omega))
        have HX7 : Hid (Calls Tryz.prog 149 #[.pointer (some ⟨g, 0, none⟩)] w7.drew (PostE S1 w7.drew g (pE n r1))) := Lib.hid (HX.out w7.drew HA7.out HG7.out)
        have c3 : w7.cell? ⟨gE, 3, none⟩ = some v := (blk_cell HE7.out 3).trans rfl
        cases hp : pE n r1 with
        | none =>
          rw [hp] at HX7
          have HN : Hid (pE (n + 1) s = none) := Lib.hid (by
            have h1 := opsL_step HOPS.out
            rw [HC.out] at h1
            simp only [Option.bind_some, hp, Option.map_none] at h1
            have h2 := opsL_none h1 (2 - (k + 1))
            rw [show k + 1 + (2 - (k + 1)) = 2 by omega] at h2
            rw [HPE.out, h2]; rfl)
          have HX8 : Hid (Calls Tryz.prog 149 #[.pointer (some ⟨g, 0, none⟩)] w7.drew fun en w' => en = .panicked [{ v := .iface 179 (.agg #[]), recovered := false }] ∧ w7.drew.grownBy w' (some g)) := Lib.hid HX7.out
          clear hp
          refine Code.wp_mono (Q := fun e a' w' => a'.defers = [] ∧ e = Exit.panic [{ v := .iface 179 (.agg #[]), recovered := false }] ∧ w7.drew.grownBy w' (some g)) (fun e a' w' ⟨hd, he, hgr⟩ => by
            subst he
            exact ⟨hd, by rw [HN.out]; exact ⟨rfl, grown_trans (grown_trans HOUT.out.grown HGR7.out) (grown_trans (b := w7.drew) ⟨rfl, rfl, rfl, Nat.le_refl _, fun _ _ _ => rfl⟩ hgr)⟩⟩) ?_
          refine wp_region_any (by kernel_rfl) ?_
          change wpAny _ _ _ _ _ _ _ (World.drew _)
          refine wpAny_take (i := 0) (v := .pointer (some ⟨gE, 3, none⟩)) rfl (by kernel_rfl) (by kernel_rfl) (by kernel_rfl) (fun _ _ _ h => h) (Or.inl ⟨by rfl, fun w => by go_simp⟩) ?_
          refine wpAny_take (i := 2) (v := .pointer (some ⟨g, 0, none⟩)) rfl (by kernel_rfl) (by kernel_rfl) (by kernel_rfl) (fun _ _ _ h => h) (Or.inl ⟨by rfl, fun w => by go_simp⟩) ?_
          refine wpAny_ready (rs := [1, 3]) (by kernel_rfl) (by simp) ?_
          refine AllReady.cons rfl (fun K hK => ?_) (AllReady.cons rfl (fun K hK => ?_) AllReady.nil)
          · go_simp
            refine hK _ _ ?_
            clear hK K
            refine wpAny_ready (rs := [3]) (by kernel_rfl) (by simp) ?_
            refine AllReady.cons rfl (fun K hK => ?_) AllReady.nil
            go_simp
            refine HX8.out.mono ?_
            rintro en w8 ⟨rfl, hgr8⟩
            exact ⟨rfl, hgr8⟩
          · go_simp
            refine HX8.out.mono ?_
            rintro en w8 ⟨rfl, hgr8⟩
            exact ⟨rfl, hgr8⟩
        | some q =>
          obtain ⟨x, r2⟩ := q
          rw [hp] at HX7
          have HX8 : Hid (Calls Tryz.prog 149 #[.pointer (some ⟨g, 0, none⟩)] w7.drew fun en w' => ∃ (cs : List Value) (S2 : Snap), en = .returned (.agg cs.toArray) ∧ RepE S2 x cs ∧ Out (some g) S1 w7.drew S2 w' ∧ w'.heap[g]? = some (.cells (pcell r2) 182 (0, 0))) := Lib.hid HX7.out
          have HPP := Lib.hid hp
          have HC3 := Lib.hid c3
          clear hp
          refine wp_region_noPanic ?_
          refine wp_region_any (by kernel_rfl) ?_
          change wpAny _ _ _ _ _ _ _ (World.drew _)
          refine wpAny_take (i := 0) (v := .pointer (some ⟨gE, 3, none⟩)) rfl (by kernel_rfl) (by kernel_rfl) (by kernel_rfl) (fun _ _ _ h => h) (Or.inl ⟨by rfl, fun w => by go_simp⟩) ?_
          refine wpAny_take (i := 2) (v := .pointer (some ⟨g, 0, none⟩)) rfl (by kernel_rfl) (by kernel_rfl) (by kernel_rfl) (fun _ _ _ h => h) (Or.inl ⟨by rfl, fun w => by go_simp⟩) ?_
          refine wpAny_ready (rs := [1, 3]) (by kernel_rfl) (by simp) ?_
          refine AllReady.cons rfl (fun K hK => ?_) (AllReady.cons rfl (fun K hK => ?_) AllReady.nil)
          · go_simp
            refine hK _ _ ?_
            clear hK K
            refine wpAny_ready (rs := [3]) (by kernel_rfl) (by simp) ?_
            refine AllReady.cons rfl (fun K hK => ?_) AllReady.nil
            go_simp
            refine HX8.out.mono ?_
            rintro en w8 ⟨cs, S2, rfl, hrep, hout8, hg8⟩
            obtain ⟨A3, cc, rfl, hle, hrw⟩ := hrep.open_
            have HREP := Lib.hid (RepE.close x A3 cc hle hrw)
            have HOUT8 := Lib.hid hout8
            have HG8 := Lib.hid hg8
            have HE8 := Lib.hid (hout8.blk HE7.out (fun e => by cases e; have := HGW.out; have := HNR.out; have := HRE.out; omega))
            have e3 : w8.cell? ⟨gE, 3, none⟩ = some v := (blk_cell HE8.out 3).trans rfl
            have e4 : ∀ o, (w8.alloc o).cell? ⟨gE, 3, none⟩ = some v := fun o => (blk_cell (below_blk ((Below.refl _ _).alloc (Nat.le_refl _) o) HE8.out) 3).trans rfl
            clear hrep hout8 hg8 hle hrw
            refine hK _ _ ?_
            clear hK K
            refine wpAny_ready (rs := [4]) (by kernel_rfl) (by simp) ?_
            refine AllReady.cons rfl (fun K hK => ?_) AllReady.nil
            go_simp
            refine hK _ _ ?_
            clear hK K
            refine wpAny_ready (rs := [5]) (by kernel_rfl) (by simp) ?_
            refine AllReady.cons rfl (fun K hK => ?_) AllReady.nil
            have HOWN8 : Hid ((w8.alloc (.cells #[.int .i64 x.op, .int .i64 x.n, .int .i64 x.v, .slice A3 x.a.length cc] 125)).ownsRow w6.heap.size 125 4 v k xs) := Lib.hid (ownsRow_below ((HOWN.out.kept HGR7.out (own_ne HOWN.out (by have := HEB.out; have := HRE.out; have := HNR.out; have := HGW.out; omega))).kept (w := w7.drew) HOUT8.out.grown (own_ne HOWN.out (by have := HEB.out; have := HRE.out; have := HNR.out; have := HGW.out; omega))) ((Below.refl _ _).alloc (Nat.le_refl _) _))
            refine step_append_lies _ rfl (.tmp 48) (.tmp 51) 22 rfl w6.heap.size 125 z _ 4 48 Tryz.underlying22 hinfo hz0 hz1 hz2 rfl (by decide) v k xs rfl HOWN8.out ⟨w8.heap.size, 0, none⟩ 1 1 [.int .i64 x.op, .int .i64 x.n, .int .i64 x.v, .slice A3 x.a.length cc] rfl rfl (World.news_of_block (blk_new w8 _)) (by simp [Value.oneCell']) (by decide) (by unfold maxLen; omega) (by omega) (by have := HBASE.out; have := HGR7.out.size; have := HOUT8.out.grown.size; simp; exact Nat.le_succ_of_le (Nat.le_trans HBASE.out (Nat.le_trans HGR7.out.size HOUT8.out.grown.size))) _ rfl ?_
            intro ga cap w10 hown10 hgrow10 hat10 hlt10
            have HOWN10 := Lib.hid hown10
            have HGROW10 := Lib.hid hgrow10
            have HAT10 := Lib.hid hat10
            clear hown10 hgrow10 hat10 hlt10
            have HE10 := Lib.hid (grown_blk HGROW10.out (below_blk ((Below.refl _ _).alloc (Nat.le_refl _) _) HE8.out) (ownsRow_ne HOWN.out HEB.out))
            have e5 : w10.cell? ⟨gE, 3, none⟩ = some v := (blk_cell HE10.out 3).trans rfl
            have z5 : w10.frozen? ⟨gE, 3, none⟩ = false := blk_frozen HE10.out 3
            refine hK _ _ ?_
            clear hK K
            refine wpAny_take (i := 6) (v := .pointer (some ⟨gE, 3, none⟩)) rfl (by kernel_rfl) (by kernel_rfl) (by kernel_rfl) (fun _ _ _ h => h) (Or.inl ⟨by rfl, fun w => by go_simp⟩) ?_
            refine wpAny_ready (rs := [7]) (by kernel_rfl) (by simp) ?_
            refine AllReady.cons rfl (fun K hK => ?_) AllReady.nil
            go_simp
            refine hK _ _ ?_
            clear hK K
            refine wpAny_done (by kernel_rfl) ?_ _
            refine NoPanic.normal ?_
            clear e3 e4 e5 z5
            go_wp2
            go_roundw
            case rel =>
              refine ⟨k + 1, by omega, by go_num, ?_⟩
              exact LoopG.step (fun S S' h x cs hx => hx.mono h) 3 (fun v u => rfl) HGW.out HNR.out HRE.out HEB.out HOPS.out HLEN.out HGr.out HE.out HR.out HOWN.out HROW.out HOUT.out HN1.out HN2.out HN3.out HN4.out HC.out HGR7.out HPP.out HREP.out rfl (out_drew HOUT8.out) HG8.out ((Below.refl _ _).alloc (Nat.le_refl _) _) HOWN10.out HGROW10.out HAT10.out
            case measure => simp [intOf]; omega
          · go_simp
            refine HX8.out.mono ?_
            rintro en w8 ⟨cs, S2, rfl, hrep, hout8, hg8⟩
            obtain ⟨A3, cc, rfl, hle, hrw⟩ := hrep.open_
            have HREP := Lib.hid (RepE.close x A3 cc hle hrw)
            have HOUT8 := Lib.hid hout8
            have HG8 := Lib.hid hg8
            have HE8 := Lib.hid (hout8.blk HE7.out (fun e => by cases e; have := HGW.out; have := HNR.out; have := HRE.out; omega))
            have e3 : w8.cell? ⟨gE, 3, none⟩ = some v := (blk_cell HE8.out 3).trans rfl
            have e4 : ∀ o, (w8.alloc o).cell? ⟨gE, 3, none⟩ = some v := fun o => (blk_cell (below_blk ((Below.refl _ _).alloc (Nat.le_refl _) o) HE8.out) 3).trans rfl
            clear hrep hout8 hg8 hle hrw
            refine hK _ _ ?_
            clear hK K
            refine wpAny_ready (rs := [1, 4]) (by kernel_rfl) (by simp) ?_
            refine AllReady.cons rfl (fun K hK => ?_) (AllReady.cons rfl (fun K hK => ?_) AllReady.nil)
            · go_simp
              refine hK _ _ ?_
              clear hK K
              refine wpAny_ready (rs := [4]) (by kernel_rfl) (by simp) ?_
              refine AllReady.cons rfl (fun K hK => ?_) AllReady.nil
              go_simp
              refine hK _ _ ?_
              clear hK K
              refine wpAny_ready (rs := [5]) (by kernel_rfl) (by simp) ?_
              refine AllReady.cons rfl (fun K hK => ?_) AllReady.nil
              have HOWN8 : Hid ((w8.alloc (.cells #[.int .i64 x.op, .int .i64 x.n, .int .i64 x.v, .slice A3 x.a.length cc] 125)).ownsRow w6.heap.size 125 4 v k xs) := Lib.hid (ownsRow_below ((HOWN.out.kept HGR7.out (own_ne HOWN.out (by have := HEB.out; have := HRE.out; have := HNR.out; have := HGW.out; omega))).kept (w := w7.drew) HOUT8.out.grown (own_ne HOWN.out (by have := HEB.out; have := HRE.out; have := HNR.out; have := HGW.out; omega))) ((Below.refl _ _).alloc (Nat.le_refl _) _))
              refine step_append_lies _ rfl (.tmp 48) (.tmp 51) 22 rfl w6.heap.size 125 z _ 4 48 Tryz.underlying22 hinfo hz0 hz1 hz2 rfl (by decide) v k xs rfl HOWN8.out ⟨w8.heap.size, 0, none⟩ 1 1 [.int .i64 x.op, .int .i64 x.n, .int .i64 x.v, .slice A3 x.a.length cc] rfl rfl (World.news_of_block (blk_new w8 _)) (by simp [Value.oneCell']) (by decide) (by unfold maxLen; omega) (by omega) (by have := HBASE.out; have := HGR7.out.size; have := HOUT8.out.grown.size; simp; exact Nat.le_succ_of_le (Nat.le_trans HBASE.out (Nat.le_trans HGR7.out.size HOUT8.out.grown.size))) _ rfl ?_
              intro ga cap w10 hown10 hgrow10 hat10 hlt10
              have HOWN10 := Lib.hid hown10
              have HGROW10 := Lib.hid hgrow10
              have HAT10 := Lib.hid hat10
              clear hown10 hgrow10 hat10 hlt10
              have HE10 := Lib.hid (grown_blk HGROW10.out (below_blk ((Below.refl _ _).alloc (Nat.le_refl _) _) HE8.out) (ownsRow_ne HOWN.out HEB.out))
              have e5 : w10.cell? ⟨gE, 3, none⟩ = some v := (blk_cell HE10.out 3).trans rfl
              have z5 : w10.frozen? ⟨gE, 3, none⟩ = false := blk_frozen HE10.out 3
              refine hK _ _ ?_
              clear hK K
              refine wpAny_take (i := 6) (v := .pointer (some ⟨gE, 3, none⟩)) rfl (by kernel_rfl) (by kernel_rfl) (by kernel_rfl) (fun _ _ _ h => h) (Or.inl ⟨by rfl, fun w => by go_simp⟩) ?_
              refine wpAny_ready (rs := [7]) (by kernel_rfl) (by simp) ?_
              refine AllReady.cons rfl (fun K hK => ?_) AllReady.nil
              go_simp
              refine hK _ _ ?_
              clear hK K
              refine wpAny_done (by kernel_rfl) ?_ _
              refine NoPanic.normal ?_
              clear e3 e4 e5 z5
              go_wp2
              go_roundw
              case rel =>
                refine ⟨k + 1, by omega, by go_num, ?_⟩
                exact LoopG.step (fun S S' h x cs hx => hx.mono h) 3 (fun v u => rfl) HGW.out HNR.out HRE.out HEB.out HOPS.out HLEN.out HGr.out HE.out HR.out HOWN.out HROW.out HOUT.out HN1.out HN2.out HN3.out HN4.out HC.out HGR7.out HPP.out HREP.out rfl (out_drew HOUT8.out) HG8.out ((Below.refl _ _).alloc (Nat.le_refl _) _) HOWN10.out HGROW10.out HAT10.out
              case measure => simp [intOf]; omega
            · go_simp
              refine hK _ _ ?_
              clear hK K
              refine wpAny_ready (rs := [1]) (by kernel_rfl) (by simp) ?_
              refine AllReady.cons rfl (fun K hK => ?_) AllReady.nil
              go_simp
              refine hK _ _ ?_
              clear hK K
              refine wpAny_ready (rs := [5]) (by kernel_rfl) (by simp) ?_
              refine AllReady.cons rfl (fun K hK => ?_) AllReady.nil
              have HOWN8 : Hid ((w8.alloc (.cells #[.int .i64 x.op, .int .i64 x.n, .int .i64 x.v, .slice A3 x.a.length cc] 125)).ownsRow w6.heap.size 125 4 v k xs) := Lib.hid (ownsRow_below ((HOWN.out.kept HGR7.out (own_ne HOWN.out (by have := HEB.out; have := HRE.out; have := HNR.out; have := HGW.out; omega))).kept (w := w7.drew) HOUT8.out.grown (own_ne HOWN.out (by have := HEB.out; have := HRE.out; have := HNR.out; have := HGW.out; omega))) ((Below.refl _ _).alloc (Nat.le_refl _) _))
              refine step_append_lies _ rfl (.tmp 48) (.tmp 51) 22 rfl w6.heap.size 125 z _ 4 48 Tryz.underlying22 hinfo hz0 hz1 hz2 rfl (by decide) v k xs rfl HOWN8.out ⟨w8.heap.size, 0, none⟩ 1 1 [.int .i64 x.op, .int .i64 x.n, .int .i64 x.v, .slice A3 x.a.length cc] rfl rfl (World.news_of_block (blk_new w8 _)) (by simp [Value.oneCell']) (by decide) (by unfold maxLen; omega) (by omega) (by have := HBASE.out; have := HGR7.out.size; have := HOUT8.out.grown.size; simp; exact Nat.le_succ_of_le (Nat.le_trans HBASE.out (Nat.le_trans HGR7.out.size HOUT8.out.grown.size))) _ rfl ?_
              intro ga cap w10 hown10 hgrow10 hat10 hlt10
              have HOWN10 := Lib.hid hown10
              have HGROW10 := Lib.hid hgrow10
              have HAT10 := Lib.hid hat10
              clear hown10 hgrow10 hat10 hlt10
              have HE10 := Lib.hid (grown_blk HGROW10.out (below_blk ((Below.refl _ _).alloc (Nat.le_refl _) _) HE8.out) (ownsRow_ne HOWN.out HEB.out))
              have e5 : w10.cell? ⟨gE, 3, none⟩ = some v := (blk_cell HE10.out 3).trans rfl
              have z5 : w10.frozen? ⟨gE, 3, none⟩ = false := blk_frozen HE10.out 3
              refine hK _ _ ?_
              clear hK K
              refine wpAny_take (i := 6) (v := .pointer (some ⟨gE, 3, none⟩)) rfl (by kernel_rfl) (by kernel_rfl) (by kernel_rfl) (fun _ _ _ h => h) (Or.inl ⟨by rfl, fun w => by go_simp⟩) ?_
              refine wpAny_ready (rs := [7]) (by kernel_rfl) (by simp) ?_
              refine AllReady.cons rfl (fun K hK => ?_) AllReady.nil
              go_simp
              refine hK _ _ ?_
              clear hK K
              refine wpAny_done (by kernel_rfl) ?_ _
              refine NoPanic.normal ?_
              clear e3 e4 e5 z5
              go_wp2
              go_roundw
              case rel =>
                refine ⟨k + 1, by omega, by go_num, ?_⟩
                exact LoopG.step (fun S S' h x cs hx => hx.mono h) 3 (fun v u => rfl) HGW.out HNR.out HRE.out HEB.out HOPS.out HLEN.out HGr.out HE.out HR.out HOWN.out HROW.out HOUT.out HN1.out HN2.out HN3.out HN4.out HC.out HGR7.out HPP.out HREP.out rfl (out_drew HOUT8.out) HG8.out ((Below.refl _ _).alloc (Nat.le_refl _) _) HOWN10.out HGROW10.out HAT10.out
              case measure => simp [intOf]; omega
    · obtain rfl : k = 2 := by omega
      cases hc : cutP [41] r with
      | none =>
        have HN : Hid (pE (n + 1) s = none) := Lib.hid (by rw [HPE.out, HOPS.out]; simp [hc])
        have HK2 : Hid (∀ W, W.heap[g]? = some (.cells (pcell r) 182 (0, 0)) → Calls Tryz.prog 147 #[.pointer (some ⟨g, 0, none⟩), .string ⟨#[41]⟩] W fun en w' => en = .panicked [{ v := .iface 179 (.agg #[]), recovered := false }] ∧ W = w') := Lib.hid (skip_none g r [41] hc)
        clear hc
        go_wp2_with (go_at_call 147; refine (HK2.out _ HGr.out).mono ?_; rintro en w7 ⟨rfl, rfl⟩)
        exact ⟨rfl, by rw [HN.out]; exact ⟨rfl, HOUT.out.grown⟩⟩
      | some t =>
        have HN : Hid (pE (n + 1) s = some (.mk op 0 0 l, t)) := Lib.hid (by rw [HPE.out, HOPS.out]; simp [hc])
        have HK2 : Hid (∀ W, W.heap[g]? = some (.cells (pcell r) 182 (0, 0)) → Calls Tryz.prog 147 #[.pointer (some ⟨g, 0, none⟩), .string ⟨#[41]⟩] W fun en w' => en = .returned (.tuple #[]) ∧ w'.heap[g]? = some (.cells (pcell t) 182 (0, 0)) ∧ W.grownBy w' (some g)) := Lib.hid (skip_some g r [41] t hc)
        clear hc
        obtain ⟨ga, cap0, rfl⟩ : ∃ ga cap, v = .slice (some ⟨ga, 0, none⟩) 2 cap := by
          rcases HOWN.out.2 with ⟨_, h⟩ | ⟨g', cap, cur, h, _⟩
          · omega
          · exact ⟨g', cap, h⟩
        go_wp2_with (first
          | (go_at_call 147; refine (HK2.out _ HGr.out).mono ?_; rintro en w7 ⟨rfl, hg7, hgr7⟩; have HG7 := Lib.hid hg7; have HGR7 := Lib.hid hgr7; have HE7 := Lib.hid (grown_blk hgr7 HE.out (fun e => by cases e; have := HGW.out; have := HNR.out; have := HRE.out; omega)); have HR7 := Lib.hid (grown_blk hgr7 HR.out (fun e => by cases e; have := HGW.out; have := HNR.out; omega)); clear hg7 hgr7)
          | ((with_reducible refine gate_dst (N := 57) rfl ?_); refine wpList_load_row rfl 125 (.tmp 8) rfl gE (by go_simp) 125 _ (0, 0) _ HE7.out Tryz.underlying125 rfl size125 ?_)
          | ((with_reducible refine gate_store (t := 125) (p := 2) rfl ?_); refine store_at rfl rfl 125 (.tmp 2) (.tmp 57) rfl gR (cellsE op (.slice (some ⟨ga, 0, none⟩) 2 cap0)) (by go_simp) (by go_simp) 125 HR7.out size125 rfl (by simp [cellsE, Value.oneCell']) ?_; intro w8 HB8 HBE8))
        refine bodyPost_ret (results_cell_row rfl _ _ gR 125 (cellsE op (.slice (some ⟨ga, 0, none⟩) 2 cap0)) (0, 0) _ rfl HB8.out Tryz.underlying125 rfl size125) rfl ?_
        rw [HN.out]
        obtain ⟨S', A, cap, hv, hle, hrow', hout'⟩ := LoopG.done (R := RepE) (fun S S' h x cs hx => RepE.mono h hx) HGW.out HNR.out HRE.out HEB.out (by omega) HLEN.out HGr.out HOWN.out HROW.out HOUT.out HN1.out HN3.out HN4.out HGR7.out HBE8.out
        refine ⟨[.int .i64 op, .int .i64 0, .int .i64 0, .slice (some ⟨ga, 0, none⟩) 2 cap0], S', rfl, ?_, hout', ?_⟩
        · rw [hv]; exact RepE.close (.mk op 0 0 l) A cap hle hrow'
        · exact grown_blk HBE8.out HG7.out (fun e => by cases e; have := HGW.out; have := HNR.out; omega)
theorem expr_at : ∀ (n : Nat), ExprAt n := by
  intro n
  induction n with
  | zero => intro s h; omega
  | succ n ih =>
    intro s hls hl S hL g w hS hSg hg
    cases h0 : cutP [40] s with
    | none =>
      have : pE (n + 1) s = (leaf (wordOf s)).map fun e => (e, afterW s) := by rw [pE, h0]
      rw [this]
      exact leafP_calls S hL g s hl w hS hSg hg h0
    | some s0 =>
      cases hop : opOf (wordOf s0) with
      | none =>
        have : pE (n + 1) s = none := by rw [pE_ops n s s0 h0, hop]; rfl
        rw [this]
        exact braceP_op n s s0 h0 hl hop S g w hg
      | some op => exact braceP_calls n ih s s0 h0 hls hl op hop S hL g w hS hSg hg
end Go.Proofs.YtkopmnhngjbmcaaGreatDoor.Sn

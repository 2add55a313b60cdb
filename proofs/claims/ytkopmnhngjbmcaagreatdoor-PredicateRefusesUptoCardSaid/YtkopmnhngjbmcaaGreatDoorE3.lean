/- (parser.cond), at some operators. -/
import Derived.Test.YtkopmnhngjbmcaaGreatDoorD12
namespace Go.Proofs.YtkopmnhngjbmcaaGreatDoor.Sn
open Go Go.RowKit
set_option linter.unusedVariables false
set_option linter.unusedSimpArgs false
set_option maxRecDepth 100000 in
set_option maxHeartbeats 4000000 in
theorem cond_4 (n : Nat) (ihe : ExprAt n) (ih : CondAt n) (s s0 : List UInt8) (hT : cutP [116, 114, 117, 101] s = none) (h0 : cutP [40] s = some s0) (hls : s.length < n + 1) (hl : s.length ≤ 1073741824) (op : Int) (hop : opOf (wordOf s0) = some op) (hq : op = 104) (co : Int) (hco : op - 100 = co) (S : Snap) (hL : LibOk S) (g : Nat) (w : World) (hS : Agr S w) (hSg : S g = none)
    (hg : w.heap[g]? = some (.cells (pcell s) 182 (0, 0))) : Calls Tryz.prog 102 #[.pointer (some ⟨g, 0, none⟩)] w (PostC S w g (pC (n + 1) s)) := by
  have hgw := blk_lt hg
  have HG := Lib.hid hg
  have HS := Lib.hid hS
  have HSG := Lib.hid hSg
  have HLL := Lib.hid hL
  have HIE := Lib.hid ihe
  have HIH := Lib.hid ih
  have HP := Lib.hid (pre_none hT)
  have HK := Lib.hid (skip_some g s [40] s0 h0)
  have hl0 := cutP_len h0
  have hla := afterW_len s0
  simp only [List.length_cons, List.length_nil] at hl0
  obtain ⟨s1, hs1⟩ : ∃ s1, afterW s0 = s1 := ⟨_, rfl⟩
  have HO : Hid (∀ W, W.heap[g]? = some (.cells (pcell s0) 182 (0, 0)) → Calls Tryz.prog 148 #[.pointer (some ⟨g, 0, none⟩)] W fun en w' => en = .returned (.int .i64 op) ∧ w'.heap[g]? = some (.cells (pcell s1) 182 (0, 0)) ∧ W.grownBy w' (some g)) := Lib.hid fun W hW => by
    have := operator_calls g s0 (by omega) W hW
    rw [hop, hs1] at this
    exact this
  have HPE : Hid (pC (n + 1) s = (opsL (pE n) 2 s1).bind fun x => (cutP [41] x.2).map fun s5 => (.mk co x.1 [], s5)) := Lib.hid (by rw [pC_A n s s0 op hT h0 hop (by omega), hs1, hco])
  have hl1 : s1.length < n ∧ s1.length ≤ 1073741824 := by rw [← hs1]; omega
  have HL1 := Lib.hid hl1
  have HGW := Lib.hid hgw
  have hrng := op_rng hop
  have ho1 : (-1000 : Int) ≤ op := by omega
  have ho2 : op ≤ (1000 : Int) := by omega
  have hcv : co = 4 := by omega
  have b2 : (co == 2) = false := by rw [hcv]; rfl
  have b3 : (co == 3) = false := by rw [hcv]; rfl
  have b4 : (co == 4) = true := by rw [hcv]; rfl
  clear hg hS hSg hL ih ihe h0 hT hop hs1 hl0 hla hls hl hl1 hgw hrng hq hcv
  obtain ⟨z, hinfo, hz0, hz1, hz2⟩ := info_parts info125
  go_enter Tryz.func102, Tryz.ntmps102
  go_wp2_with (first
    | ((with_reducible refine gate_dst (N := 2) rfl ?_); refine new_at rfl (N := 2) rfl zeroC 25 (by go_simp; rfl) ?_; intro gR w1 HGR HB1 HBE1; have HG1 := Lib.hid (below_blk HBE1.out HG.out); have h1 : w1.cell? ⟨g, 0, none⟩ = some (.string ⟨s.toArray⟩) := (blk_cell HG1.out 0).trans rfl)
    | (go_at_call 146; with_reducible refine (HP.out _).mono ?_; rintro en w2 ⟨rfl, rfl⟩)
    | (go_at_call 147; with_reducible refine (HK.out _ HG1.out).mono ?_; rintro en w3 ⟨rfl, hg3, hgr3⟩; clear h1; have HG3 := Lib.hid hg3; have HGR3 := Lib.hid (grown_trans (grown_below (row := some g) HBE1.out) hgr3); have HR3 := Lib.hid (grown_blk hgr3 HB1.out (fun e => by cases e; have := HGW.out; rw [HGR.out] at this; omega)); clear hg3 hgr3)
    | (go_at_call 148; refine (HO.out _ HG3.out).mono ?_; rintro en w4 ⟨rfl, hg4, hgr4⟩; have HG4 := Lib.hid hg4; have HGR4 := Lib.hid (grown_trans HGR3.out hgr4); have HR4 := Lib.hid (grown_blk hgr4 HR3.out (fun e => by cases e; have := HGW.out; rw [HGR.out] at this; omega)); clear hg4 hgr4)
    | ((with_reducible refine gate_dst (N := 3) rfl ?_); refine new_at rfl (N := 3) rfl zeroC 25 (by go_simp; rfl) ?_; intro gE w5 HGE HB5 HBE5)
    | ((with_reducible refine gate_store (t := 25) (p := 3) rfl ?_); refine store_at rfl rfl 25 (.tmp 3) (.tmp 18) rfl gE (cellsA co (.slice none 0 0)) (by go_simp) (by go_simp; rfl) 25 HB5.out size25 rfl (by simp [cellsA, cellsK, Value.oneCell']) ?_; intro w6 HB6 HBE6; have q0 : w6.cell? ⟨gE, 0, none⟩ = some (.int .i64 co) := (blk_cell HB6.out 0).trans rfl))
  have HNR : Hid (w.heap.size ≤ gR) := Lib.hid (by rw [HGR.out]; exact Nat.le_refl _)
  have HRE : Hid (gR < gE) := Lib.hid (by rw [HGE.out]; exact blk_lt HR4.out)
  have HEB : Hid (gE < w6.heap.size) := Lib.hid (blk_lt HB6.out)
  have HG6 := Lib.hid (grown_blk HBE6.out (below_blk HBE5.out HG4.out) (fun e => by cases e; have := HGW.out; have := HNR.out; have := HRE.out; omega))
  have HR6 := Lib.hid (grown_blk HBE6.out (below_blk HBE5.out HR4.out) (fun e => by cases e; have := HRE.out; omega))
  have HGR6 := Lib.hid (grown_new (grown_trans HGR4.out (grown_below (row := some g) HBE5.out)) HBE6.out (by have := HNR.out; have := HRE.out; omega))
  clear q0
  go_loopw [27] (fun s43 wr => ∃ k : Nat, k ≤ 2 ∧ s43 = .int .i64 k ∧ LoopG RepE 4 125 (cellsA co) 25 zeroC S w g gE gR w6.heap.size (pE n) s1 k wr) (fun s43 _ => 2 - (intOf s43).toNat)
  case atStart =>
    exact ⟨0, by omega, rfl, [], s1, [], .slice none 0 0, S, rfl, rfl, HG6.out, HB6.out, HR6.out, World.ownsRow_nil _ _ _ _, RowV.nil _ _, Out.of_grown HS.out HGR6.out (fun k e => by cases e; exact HSG.out), HSG.out,
      HS.out.new (by have := HNR.out; have := HRE.out; omega), HS.out.new HNR.out, fun b hb => by simp [Value.ownBlock] at hb, Nat.le_refl _⟩
  case round =>
    obtain ⟨k, hk, rfl, hloop⟩ := hrel
    obtain ⟨l, r, xs, v, S1, hops, hll, hgr, hE, hR, hown, hrow, hout, n1, n2, n3, n4, hbase⟩ := hloop
    have hrl := (opsL_len (pE_len n) k s1 l r hops).2
    have HOPS := Lib.hid hops
    have HLEN := Lib.hid hll
    have HGr := Lib.hid hgr
    have HE := Lib.hid hE
    have HR := Lib.hid hR
    have HOWN := Lib.hid hown
    have HROW := Lib.hid hrow
    have HOUT := Lib.hid hout
    have HN1 := Lib.hid n1
    have HN2 := Lib.hid n2
    have HN3 := Lib.hid n3
    have HN4 := Lib.hid n4
    have HBASE := Lib.hid hbase
    clear hops hll hgr hE hR hown hrow hout n1 n2 n3 n4 hbase
    have c0 : wr.cell? ⟨gE, 0, none⟩ = some (.int .i64 co) := (blk_cell HE.out 0).trans rfl
    by_cases hlt : k < 2
    · cases hc : cutP [32] r with
      | none =>
        have HN : Hid (pC (n + 1) s = none) := Lib.hid (by
          have h1 := opsL_step HOPS.out
          rw [hc] at h1
          have h2 := opsL_none h1 (2 - (k + 1))
          rw [show k + 1 + (2 - (k + 1)) = 2 by omega] at h2
          rw [HPE.out, h2]; rfl)
        have HK2 : Hid (∀ W, W.heap[g]? = some (.cells (pcell r) 182 (0, 0)) → Calls Tryz.prog 147 #[.pointer (some ⟨g, 0, none⟩), .string ⟨#[32]⟩] W fun en w' => en = .panicked [{ v := .iface 179 (.agg #[]), recovered := false }] ∧ W = w') := Lib.hid (skip_none g r [32] hc)
        clear hc
        go_wp2_with (go_at_call 147; refine (HK2.out _ HGr.out).mono ?_; rintro en w7 ⟨rfl, rfl⟩)
        exact ⟨rfl, by rw [HN.out]; exact ⟨rfl, HOUT.out.grown⟩⟩
      | some r1 =>
        have HK2 : Hid (∀ W, W.heap[g]? = some (.cells (pcell r) 182 (0, 0)) → Calls Tryz.prog 147 #[.pointer (some ⟨g, 0, none⟩), .string ⟨#[32]⟩] W fun en w' => en = .returned (.tuple #[]) ∧ w'.heap[g]? = some (.cells (pcell r1) 182 (0, 0)) ∧ W.grownBy w' (some g)) := Lib.hid (skip_some g r [32] r1 hc)
        have hl2 := cutP_len hc
        simp only [List.length_cons, List.length_nil] at hl2
        have HC := Lib.hid hc
        have HX : Hid (∀ W, Agr S1 W → W.heap[g]? = some (.cells (pcell r1) 182 (0, 0)) → Calls Tryz.prog 149 #[.pointer (some ⟨g, 0, none⟩)] W (PostE S1 W g (pE n r1))) := Lib.hid fun W hW hWg =>
          HIE.out r1 (by have := HL1.out.1; omega) (by have := HL1.out.2; omega) S1 (HLL.out.mono HOUT.out.le) g W hW HN1.out hWg
        clear hc hl2 hrl
        go_wp2_with (go_at_call 147; refine (HK2.out _ HGr.out).mono ?_; rintro en w7 ⟨rfl, hg7, hgr7⟩; have HG7 := Lib.hid hg7; have HGR7 := Lib.hid hgr7; clear hg7 hgr7)
        clear c0
        have HA7 := Lib.hid (HOUT.out.agr.grown HGR7.out (fun k e => by cases e; exact HN1.out))
        have HE7 := Lib.hid (grown_blk HGR7.out HE.out (fun e => by cases e; have := HGW.out; have := HNR.out; have := HRE.out; omega))
        have HX7 : Hid (Calls Tryz.prog 149 #[.pointer (some ⟨g, 0, none⟩)] w7.drew (PostE S1 w7.drew g (pE n r1))) := Lib.hid (HX.out w7.drew HA7.out HG7.out)
        have c3 : w7.cell? ⟨gE, 1, none⟩ = some v := (blk_cell HE7.out 1).trans rfl
        cases hp : pE n r1 with
        | none =>
          rw [hp] at HX7
          have HN : Hid (pC (n + 1) s = none) := Lib.hid (by
            have h1 := opsL_step HOPS.out
            rw [HC.out] at h1
            simp only [Option.bind_some, hp, Option.map_none] at h1
            have h2 := opsL_none h1 (2 - (k + 1))
            rw [show k + 1 + (2 - (k + 1)) = 2 by omega] at h2
            rw [HPE.out, h2]; rfl)
          have HX8 : Hid (Calls Tryz.prog 149 #[.pointer (some ⟨g, 0, none⟩)] w7.drew fun en w' => en = .panicked [{ v := .iface 179 (.agg #[]), recovered := false }] ∧ w7.drew.grownBy w' (some g)) := Lib.hid HX7.out
          clear hp
          refine Code.wp_mono (Q := fun e a' w' => a'.defers = [] ∧ e = Exit.panic [{ v := .iface 179 (.agg #[]), recovered := false }] ∧ w7.drew.grownBy w' (some g)) (fun e a' w' ⟨hd, he, hgr⟩ => by
            subst he
            exact ⟨hd, by rw [HN.out]; exact ⟨rfl, grown_trans (grown_trans HOUT.out.grown HGR7.out) (grown_trans (b := w7.drew) ⟨rfl, rfl, rfl, Nat.le_refl _, fun _ _ _ => rfl⟩ hgr)⟩⟩) ?_
          refine wp_region_any (by kernel_rfl) ?_
          change wpAny _ _ _ _ _ _ _ (World.drew _)
          refine wpAny_take (i := 0) (v := .pointer (some ⟨gE, 1, none⟩)) rfl (by kernel_rfl) (by kernel_rfl) (by kernel_rfl) (fun _ _ _ h => h) (Or.inl ⟨by rfl, fun w => by go_simp⟩) ?_
          refine wpAny_take (i := 2) (v := .pointer (some ⟨g, 0, none⟩)) rfl (by kernel_rfl) (by kernel_rfl) (by kernel_rfl) (fun _ _ _ h => h) (Or.inl ⟨by rfl, fun w => by go_simp⟩) ?_
          refine wpAny_ready (rs := [1, 3]) (by kernel_rfl) (by simp) ?_
          refine AllReady.cons rfl (fun K hK => ?_) (AllReady.cons rfl (fun K hK => ?_) AllReady.nil)
          · go_simp
            refine hK _ _ ?_
            clear hK K
            refine wpAny_ready (rs := [3]) (by kernel_rfl) (by simp) ?_
            refine AllReady.cons rfl (fun K hK => ?_) AllReady.nil
            go_simp
            refine HX8.out.mono ?_
            rintro en w8 ⟨rfl, hgr8⟩
            exact ⟨rfl, hgr8⟩
          · go_simp
            refine HX8.out.mono ?_
            rintro en w8 ⟨rfl, hgr8⟩
            exact ⟨rfl, hgr8⟩
        | some q =>
          obtain ⟨x, r2⟩ := q
          rw [hp] at HX7
          have HX8 : Hid (Calls Tryz.prog 149 #[.pointer (some ⟨g, 0, none⟩)] w7.drew fun en w' => ∃ (cs : List Value) (S2 : Snap), en = .returned (.agg cs.toArray) ∧ RepE S2 x cs ∧ Out (some g) S1 w7.drew S2 w' ∧ w'.heap[g]? = some (.cells (pcell r2) 182 (0, 0))) := Lib.hid HX7.out
          have HPP := Lib.hid hp
          clear hp
          refine wp_region_noPanic ?_
          refine wp_region_any (by kernel_rfl) ?_
          change wpAny _ _ _ _ _ _ _ (World.drew _)
          refine wpAny_take (i := 0) (v := .pointer (some ⟨gE, 1, none⟩)) rfl (by kernel_rfl) (by kernel_rfl) (by kernel_rfl) (fun _ _ _ h => h) (Or.inl ⟨by rfl, fun w => by go_simp⟩) ?_
          refine wpAny_take (i := 2) (v := .pointer (some ⟨g, 0, none⟩)) rfl (by kernel_rfl) (by kernel_rfl) (by kernel_rfl) (fun _ _ _ h => h) (Or.inl ⟨by rfl, fun w => by go_simp⟩) ?_
          refine wpAny_ready (rs := [1, 3]) (by kernel_rfl) (by simp) ?_
          refine AllReady.cons rfl (fun K hK => ?_) (AllReady.cons rfl (fun K hK => ?_) AllReady.nil)
          · go_simp
            refine hK _ _ ?_
            clear hK K
            refine wpAny_ready (rs := [3]) (by kernel_rfl) (by simp) ?_
            refine AllReady.cons rfl (fun K hK => ?_) AllReady.nil
            go_simp
            refine HX8.out.mono ?_
            rintro en w8 ⟨cs, S2, rfl, hrep, hout8, hg8⟩
            obtain ⟨A3, cc, rfl, hle, hrw⟩ := hrep.open_
            have HREP := Lib.hid (RepE.close x A3 cc hle hrw)
            have HOUT8 := Lib.hid hout8
            have HG8 := Lib.hid hg8
            have HE8 := Lib.hid (hout8.blk HE7.out (fun e => by cases e; have := HGW.out; have := HNR.out; have := HRE.out; omega))
            have e3 : w8.cell? ⟨gE, 1, none⟩ = some v := (blk_cell HE8.out 1).trans rfl
            have e4 : ∀ o, (w8.alloc o).cell? ⟨gE, 1, none⟩ = some v := fun o => (blk_cell (below_blk ((Below.refl _ _).alloc (Nat.le_refl _) o) HE8.out) 1).trans rfl
            clear hrep hout8 hg8 hle hrw
            refine hK _ _ ?_
            clear hK K
            refine wpAny_ready (rs := [4]) (by kernel_rfl) (by simp) ?_
            refine AllReady.cons rfl (fun K hK => ?_) AllReady.nil
            go_simp
            refine hK _ _ ?_
            clear hK K
            refine wpAny_ready (rs := [5]) (by kernel_rfl) (by simp) ?_
            refine AllReady.cons rfl (fun K hK => ?_) AllReady.nil
            have HOWN8 : Hid ((w8.alloc (.cells #[.int .i64 x.op, .int .i64 x.n, .int .i64 x.v, .slice A3 x.a.length cc] 125)).ownsRow w6.heap.size 125 4 v k xs) := Lib.hid (ownsRow_below ((HOWN.out.kept HGR7.out (own_ne HOWN.out (by have := HEB.out; have := HRE.out; have := HNR.out; have := HGW.out; omega))).kept (w := w7.drew) HOUT8.out.grown (own_ne HOWN.out (by have := HEB.out; have := HRE.out; have := HNR.out; have := HGW.out; omega))) ((Below.refl _ _).alloc (Nat.le_refl _) _))
            refine step_append_lies _ rfl (.tmp 32) (.tmp 35) 22 rfl w6.heap.size 125 z _ 4 48 Tryz.underlying22 hinfo hz0 hz1 hz2 rfl (by decide) v k xs rfl HOWN8.out ⟨w8.heap.size, 0, none⟩ 1 1 [.int .i64 x.op, .int .i64 x.n, .int .i64 x.v, .slice A3 x.a.length cc] rfl rfl (World.news_of_block (blk_new w8 _)) (by simp [Value.oneCell']) (by decide) (by unfold maxLen; omega) (by omega) (by simp; exact Nat.le_succ_of_le (Nat.le_trans HBASE.out (Nat.le_trans HGR7.out.size HOUT8.out.grown.size))) _ rfl ?_
            intro ga cap w10 hown10 hgrow10 hat10 hlt10
            have HOWN10 := Lib.hid hown10
            have HGROW10 := Lib.hid hgrow10
            have HAT10 := Lib.hid hat10
            clear hown10 hgrow10 hat10 hlt10
            have HE10 := Lib.hid (grown_blk HGROW10.out (below_blk ((Below.refl _ _).alloc (Nat.le_refl _) _) HE8.out) (ownsRow_ne HOWN.out HEB.out))
            have e5 : w10.cell? ⟨gE, 1, none⟩ = some v := (blk_cell HE10.out 1).trans rfl
            have z5 : w10.frozen? ⟨gE, 1, none⟩ = false := blk_frozen HE10.out 1
            refine hK _ _ ?_
            clear hK K
            refine wpAny_take (i := 6) (v := .pointer (some ⟨gE, 1, none⟩)) rfl (by kernel_rfl) (by kernel_rfl) (by kernel_rfl) (fun _ _ _ h => h) (Or.inl ⟨by rfl, fun w => by go_simp⟩) ?_
            refine wpAny_ready (rs := [7]) (by kernel_rfl) (by simp) ?_
            refine AllReady.cons rfl (fun K hK => ?_) AllReady.nil
            go_simp
            refine hK _ _ ?_
            clear hK K
            refine wpAny_done (by kernel_rfl) ?_ _
            refine NoPanic.normal ?_
            clear e3 e4 e5 z5
            go_wp2
            go_roundw
            case rel =>
              refine ⟨k + 1, by omega, by go_num, ?_⟩
              exact LoopG.step (fun S S' h x cs hx => hx.mono h) 1 (fun v u => rfl) HGW.out HNR.out HRE.out HEB.out HOPS.out HLEN.out HGr.out HE.out HR.out HOWN.out HROW.out HOUT.out HN1.out HN2.out HN3.out HN4.out HC.out HGR7.out HPP.out HREP.out rfl (out_drew HOUT8.out) HG8.out ((Below.refl _ _).alloc (Nat.le_refl _) _) HOWN10.out HGROW10.out HAT10.out
            case measure => simp [intOf]; omega
          · go_simp
            refine HX8.out.mono ?_
            rintro en w8 ⟨cs, S2, rfl, hrep, hout8, hg8⟩
            obtain ⟨A3, cc, rfl, hle, hrw⟩ := hrep.open_
            have HREP := Lib.hid (RepE.close x A3 cc hle hrw)
            have HOUT8 := Lib.hid hout8
            have HG8 := Lib.hid hg8
            have HE8 := Lib.hid (hout8.blk HE7.out (fun e => by cases e; have := HGW.out; have := HNR.out; have := HRE.out; omega))
            have e3 : w8.cell? ⟨gE, 1, none⟩ = some v := (blk_cell HE8.out 1).trans rfl
            have e4 : ∀ o, (w8.alloc o).cell? ⟨gE, 1, none⟩ = some v := fun o => (blk_cell (below_blk ((Below.refl _ _).alloc (Nat.le_refl _) o) HE8.out) 1).trans rfl
            clear hrep hout8 hg8 hle hrw
            refine hK _ _ ?_
            clear hK K
            refine wpAny_ready (rs := [1, 4]) (by kernel_rfl) (by simp) ?_
            refine AllReady.cons rfl (fun K hK => ?_) (AllReady.cons rfl (fun K hK => ?_) AllReady.nil)
            · go_simp
              refine hK _ _ ?_
              clear hK K
              refine wpAny_ready (rs := [4]) (by kernel_rfl) (by simp) ?_
              refine AllReady.cons rfl (fun K hK => ?_) AllReady.nil
              go_simp
              refine hK _ _ ?_
              clear hK K
              refine wpAny_ready (rs := [5]) (by kernel_rfl) (by simp) ?_
              refine AllReady.cons rfl (fun K hK => ?_) AllReady.nil
              have HOWN8 : Hid ((w8.alloc (.cells #[.int .i64 x.op, .int .i64 x.n, .int .i64 x.v, .slice A3 x.a.length cc] 125)).ownsRow w6.heap.size 125 4 v k xs) := Lib.hid (ownsRow_below ((HOWN.out.kept HGR7.out (own_ne HOWN.out (by have := HEB.out; have := HRE.out; have := HNR.out; have := HGW.out; omega))).kept (w := w7.drew) HOUT8.out.grown (own_ne HOWN.out (by have := HEB.out; have := HRE.out; have := HNR.out; have := HGW.out; omega))) ((Below.refl _ _).alloc (Nat.le_refl _) _))
              refine step_append_lies _ rfl (.tmp 32) (.tmp 35) 22 rfl w6.heap.size 125 z _ 4 48 Tryz.underlying22 hinfo hz0 hz1 hz2 rfl (by decide) v k xs rfl HOWN8.out ⟨w8.heap.size, 0, none⟩ 1 1 [.int .i64 x.op, .int .i64 x.n, .int .i64 x.v, .slice A3 x.a.length cc] rfl rfl (World.news_of_block (blk_new w8 _)) (by simp [Value.oneCell']) (by decide) (by unfold maxLen; omega) (by omega) (by simp; exact Nat.le_succ_of_le (Nat.le_trans HBASE.out (Nat.le_trans HGR7.out.size HOUT8.out.grown.size))) _ rfl ?_
              intro ga cap w10 hown10 hgrow10 hat10 hlt10
              have HOWN10 := Lib.hid hown10
              have HGROW10 := Lib.hid hgrow10
              have HAT10 := Lib.hid hat10
              clear hown10 hgrow10 hat10 hlt10
              have HE10 := Lib.hid (grown_blk HGROW10.out (below_blk ((Below.refl _ _).alloc (Nat.le_refl _) _) HE8.out) (ownsRow_ne HOWN.out HEB.out))
              have e5 : w10.cell? ⟨gE, 1, none⟩ = some v := (blk_cell HE10.out 1).trans rfl
              have z5 : w10.frozen? ⟨gE, 1, none⟩ = false := blk_frozen HE10.out 1
              refine hK _ _ ?_
              clear hK K
              refine wpAny_take (i := 6) (v := .pointer (some ⟨gE, 1, none⟩)) rfl (by kernel_rfl) (by kernel_rfl) (by kernel_rfl) (fun _ _ _ h => h) (Or.inl ⟨by rfl, fun w => by go_simp⟩) ?_
              refine wpAny_ready (rs := [7]) (by kernel_rfl) (by simp) ?_
              refine AllReady.cons rfl (fun K hK => ?_) AllReady.nil
              go_simp
              refine hK _ _ ?_
              clear hK K
              refine wpAny_done (by kernel_rfl) ?_ _
              refine NoPanic.normal ?_
              clear e3 e4 e5 z5
              go_wp2
              go_roundw
              case rel =>
                refine ⟨k + 1, by omega, by go_num, ?_⟩
                exact LoopG.step (fun S S' h x cs hx => hx.mono h) 1 (fun v u => rfl) HGW.out HNR.out HRE.out HEB.out HOPS.out HLEN.out HGr.out HE.out HR.out HOWN.out HROW.out HOUT.out HN1.out HN2.out HN3.out HN4.out HC.out HGR7.out HPP.out HREP.out rfl (out_drew HOUT8.out) HG8.out ((Below.refl _ _).alloc (Nat.le_refl _) _) HOWN10.out HGROW10.out HAT10.out
              case measure => simp [intOf]; omega
            · go_simp
              refine hK _ _ ?_
              clear hK K
              refine wpAny_ready (rs := [1]) (by kernel_rfl) (by simp) ?_
              refine AllReady.cons rfl (fun K hK => ?_) AllReady.nil
              go_simp
              refine hK _ _ ?_
              clear hK K
              refine wpAny_ready (rs := [5]) (by kernel_rfl) (by simp) ?_
              refine AllReady.cons rfl (fun K hK => ?_) AllReady.nil
              have HOWN8 : Hid ((w8.alloc (.cells #[.int .i64 x.op, .int .i64 x.n, .int .i64 x.v, .slice A3 x.a.length cc] 125)).ownsRow w6.heap.size 125 4 v k xs) := Lib.hid (ownsRow_below ((HOWN.out.kept HGR7.out (own_ne HOWN.out (by have := HEB.out; have := HRE.out; have := HNR.out; have := HGW.out; omega))).kept (w := w7.drew) HOUT8.out.grown (own_ne HOWN.out (by have := HEB.out; have := HRE.out; have := HNR.out; have := HGW.out; omega))) ((Below.refl _ _).alloc (Nat.le_refl _) _))
              refine step_append_lies _ rfl (.tmp 32) (.tmp 35) 22 rfl w6.heap.size 125 z _ 4 48 Tryz.underlying22 hinfo hz0 hz1 hz2 rfl (by decide) v k xs rfl HOWN8.out ⟨w8.heap.size, 0, none⟩ 1 1 [.int .i64 x.op, .int .i64 x.n, .int .i64 x.v, .slice A3 x.a.length cc] rfl rfl (World.news_of_block (blk_new w8 _)) (by simp [Value.oneCell']) (by decide) (by unfold maxLen; omega) (by omega) (by simp; exact Nat.le_succ_of_le (Nat.le_trans HBASE.out (Nat.le_trans HGR7.out.size HOUT8.out.grown.size))) _ rfl ?_
              intro ga cap w10 hown10 hgrow10 hat10 hlt10
              have HOWN10 := Lib.hid hown10
              have HGROW10 := Lib.hid hgrow10
              have HAT10 := Lib.hid hat10
              clear hown10 hgrow10 hat10 hlt10
              have HE10 := Lib.hid (grown_blk HGROW10.out (below_blk ((Below.refl _ _).alloc (Nat.le_refl _) _) HE8.out) (ownsRow_ne HOWN.out HEB.out))
              have e5 : w10.cell? ⟨gE, 1, none⟩ = some v := (blk_cell HE10.out 1).trans rfl
              have z5 : w10.frozen? ⟨gE, 1, none⟩ = false := blk_frozen HE10.out 1
              refine hK _ _ ?_
              clear hK K
              refine wpAny_take (i := 6) (v := .pointer (some ⟨gE, 1, none⟩)) rfl (by kernel_rfl) (by kernel_rfl) (by kernel_rfl) (fun _ _ _ h => h) (Or.inl ⟨by rfl, fun w => by go_simp⟩) ?_
              refine wpAny_ready (rs := [7]) (by kernel_rfl) (by simp) ?_
              refine AllReady.cons rfl (fun K hK => ?_) AllReady.nil
              go_simp
              refine hK _ _ ?_
              clear hK K
              refine wpAny_done (by kernel_rfl) ?_ _
              refine NoPanic.normal ?_
              clear e3 e4 e5 z5
              go_wp2
              go_roundw
              case rel =>
                refine ⟨k + 1, by omega, by go_num, ?_⟩
                exact LoopG.step (fun S S' h x cs hx => hx.mono h) 1 (fun v u => rfl) HGW.out HNR.out HRE.out HEB.out HOPS.out HLEN.out HGr.out HE.out HR.out HOWN.out HROW.out HOUT.out HN1.out HN2.out HN3.out HN4.out HC.out HGR7.out HPP.out HREP.out rfl (out_drew HOUT8.out) HG8.out ((Below.refl _ _).alloc (Nat.le_refl _) _) HOWN10.out HGROW10.out HAT10.out
              case measure => simp [intOf]; omega
    · obtain rfl : k = 2 := by omega
      cases hc : cutP [41] r with
      | none =>
        have HN : Hid (pC (n + 1) s = none) := Lib.hid (by rw [HPE.out, HOPS.out]; simp [hc])
        have HK2 : Hid (∀ W, W.heap[g]? = some (.cells (pcell r) 182 (0, 0)) → Calls Tryz.prog 147 #[.pointer (some ⟨g, 0, none⟩), .string ⟨#[41]⟩] W fun en w' => en = .panicked [{ v := .iface 179 (.agg #[]), recovered := false }] ∧ W = w') := Lib.hid (skip_none g r [41] hc)
        clear hc
        go_wp2_with (go_at_call 147; refine (HK2.out _ HGr.out).mono ?_; rintro en w7 ⟨rfl, rfl⟩)
        exact ⟨rfl, by rw [HN.out]; exact ⟨rfl, HOUT.out.grown⟩⟩
      | some t =>
        have HN : Hid (pC (n + 1) s = some (.mk co l [], t)) := Lib.hid (by rw [HPE.out, HOPS.out]; simp [hc])
        have HK2 : Hid (∀ W, W.heap[g]? = some (.cells (pcell r) 182 (0, 0)) → Calls Tryz.prog 147 #[.pointer (some ⟨g, 0, none⟩), .string ⟨#[41]⟩] W fun en w' => en = .returned (.tuple #[]) ∧ w'.heap[g]? = some (.cells (pcell t) 182 (0, 0)) ∧ W.grownBy w' (some g)) := Lib.hid (skip_some g r [41] t hc)
        clear hc
        obtain ⟨ga, cap0, rfl⟩ : ∃ ga cap, v = .slice (some ⟨ga, 0, none⟩) 2 cap := by
          rcases HOWN.out.2 with ⟨_, h⟩ | ⟨g', cap, cur, h, _⟩
          · omega
          · exact ⟨g', cap, h⟩
        go_wp2_with (first
          | (go_at_call 147; refine (HK2.out _ HGr.out).mono ?_; rintro en w7 ⟨rfl, hg7, hgr7⟩; have HG7 := Lib.hid hg7; have HGR7 := Lib.hid hgr7; have HE7 := Lib.hid (grown_blk hgr7 HE.out (fun e => by cases e; have := HGW.out; have := HNR.out; have := HRE.out; omega)); have HR7 := Lib.hid (grown_blk hgr7 HR.out (fun e => by cases e; have := HGW.out; have := HNR.out; omega)); clear hg7 hgr7 c0)
          | ((with_reducible refine gate_dst (N := 65) rfl ?_); refine wpList_load_row rfl 25 (.tmp 3) rfl gE (by go_simp) 25 _ (0, 0) _ HE7.out Tryz.underlying25 rfl size25 ?_)
          | ((with_reducible refine gate_store (t := 25) (p := 2) rfl ?_); refine store_at rfl rfl 25 (.tmp 2) (.tmp 65) rfl gR ((cellsA co) (.slice (some ⟨ga, 0, none⟩) 2 cap0)) (by go_simp) (by go_simp) 25 HR7.out size25 rfl (by simp [cellsA, cellsK, Value.oneCell']) ?_; intro w8 HB8 HBE8))
        refine bodyPost_ret (results_cell_row rfl _ _ gR 25 ((cellsA co) (.slice (some ⟨ga, 0, none⟩) 2 cap0)) (0, 0) _ rfl HB8.out Tryz.underlying25 rfl size25) rfl ?_
        rw [HN.out]
        obtain ⟨S', A, cap, hv, hle, hrow', hout'⟩ := LoopG.done (R := RepE) (fun S S' h x cs hx => hx.mono h) HGW.out HNR.out HRE.out HEB.out (by omega) HLEN.out HGr.out HOWN.out HROW.out HOUT.out HN1.out HN3.out HN4.out HGR7.out HBE8.out
        refine ⟨[.int .i64 co, .slice (some ⟨ga, 0, none⟩) 2 cap0, .slice none 0 0], S', rfl, ?_, hout', ?_⟩
        · rw [hv]; exact RepC.close (.mk co l []) A none cap 0 hle (Nat.le_refl _) hrow' (Row.nil _ _ _ _)
        · exact grown_blk HBE8.out HG7.out (fun e => by cases e; have := HGW.out; have := HNR.out; omega)
set_option maxRecDepth 100000 in
set_option maxHeartbeats 4000000 in
theorem cond_5 (n : Nat) (ihe : ExprAt n) (ih : CondAt n) (s s0 : List UInt8) (hT : cutP [116, 114, 117, 101] s = none) (h0 : cutP [40] s = some s0) (hls : s.length < n + 1) (hl : s.length ≤ 1073741824) (op : Int) (hop : opOf (wordOf s0) = some op) (hq : op = 105) (co : Int) (hco : op - 100 = co) (S : Snap) (hL : LibOk S) (g : Nat) (w : World) (hS : Agr S w) (hSg : S g = none)
    (hg : w.heap[g]? = some (.cells (pcell s) 182 (0, 0))) : Calls Tryz.prog 102 #[.pointer (some ⟨g, 0, none⟩)] w (PostC S w g (pC (n + 1) s)) := by
  have hgw := blk_lt hg
  have HG := Lib.hid hg
  have HS := Lib.hid hS
  have HSG := Lib.hid hSg
  have HLL := Lib.hid hL
  have HIE := Lib.hid ihe
  have HIH := Lib.hid ih
  have HP := Lib.hid (pre_none hT)
  have HK := Lib.hid (skip_some g s [40] s0 h0)
  have hl0 := cutP_len h0
  have hla := afterW_len s0
  simp only [List.length_cons, List.length_nil] at hl0
  obtain ⟨s1, hs1⟩ : ∃ s1, afterW s0 = s1 := ⟨_, rfl⟩
  have HO : Hid (∀ W, W.heap[g]? = some (.cells (pcell s0) 182 (0, 0)) → Calls Tryz.prog 148 #[.pointer (some ⟨g, 0, none⟩)] W fun en w' => en = .returned (.int .i64 op) ∧ w'.heap[g]? = some (.cells (pcell s1) 182 (0, 0)) ∧ W.grownBy w' (some g)) := Lib.hid fun W hW => by
    have := operator_calls g s0 (by omega) W hW
    rw [hop, hs1] at this
    exact this
  have HPE : Hid (pC (n + 1) s = (opsL (pC n) 1 s1).bind fun x => (cutP [41] x.2).map fun s5 => (.mk co [] x.1, s5)) := Lib.hid (by rw [pC_1 n s s0 op hT h0 hop hq, hs1, hco])
  have hl1 : s1.length < n ∧ s1.length ≤ 1073741824 := by rw [← hs1]; omega
  have HL1 := Lib.hid hl1
  have HGW := Lib.hid hgw
  have hrng := op_rng hop
  have ho1 : (-1000 : Int) ≤ op := by omega
  have ho2 : op ≤ (1000 : Int) := by omega
  have hcv : co = 5 := by omega
  have b2 : (co == 2) = false := by rw [hcv]; rfl
  have b3 : (co == 3) = false := by rw [hcv]; rfl
  have b4 : (co == 4) = false := by rw [hcv]; rfl
  have b5 : (co == 5) = true := by rw [hcv]; rfl
  clear hg hS hSg hL ih ihe h0 hT hop hs1 hl0 hla hls hl hl1 hgw hrng hq hcv
  obtain ⟨z, hinfo, hz0, hz1, hz2⟩ := info_parts info25
  go_enter Tryz.func102, Tryz.ntmps102
  go_wp2_with (first
    | ((with_reducible refine gate_dst (N := 2) rfl ?_); refine new_at rfl (N := 2) rfl zeroC 25 (by go_simp; rfl) ?_; intro gR w1 HGR HB1 HBE1; have HG1 := Lib.hid (below_blk HBE1.out HG.out); have h1 : w1.cell? ⟨g, 0, none⟩ = some (.string ⟨s.toArray⟩) := (blk_cell HG1.out 0).trans rfl)
    | (go_at_call 146; with_reducible refine (HP.out _).mono ?_; rintro en w2 ⟨rfl, rfl⟩)
    | (go_at_call 147; with_reducible refine (HK.out _ HG1.out).mono ?_; rintro en w3 ⟨rfl, hg3, hgr3⟩; clear h1; have HG3 := Lib.hid hg3; have HGR3 := Lib.hid (grown_trans (grown_below (row := some g) HBE1.out) hgr3); have HR3 := Lib.hid (grown_blk hgr3 HB1.out (fun e => by cases e; have := HGW.out; rw [HGR.out] at this; omega)); clear hg3 hgr3)
    | (go_at_call 148; refine (HO.out _ HG3.out).mono ?_; rintro en w4 ⟨rfl, hg4, hgr4⟩; have HG4 := Lib.hid hg4; have HGR4 := Lib.hid (grown_trans HGR3.out hgr4); have HR4 := Lib.hid (grown_blk hgr4 HR3.out (fun e => by cases e; have := HGW.out; rw [HGR.out] at this; omega)); clear hg4 hgr4)
    | ((with_reducible refine gate_dst (N := 3) rfl ?_); refine new_at rfl (N := 3) rfl zeroC 25 (by go_simp; rfl) ?_; intro gE w5 HGE HB5 HBE5)
    | ((with_reducible refine gate_store (t := 25) (p := 3) rfl ?_); refine store_at rfl rfl 25 (.tmp 3) (.tmp 18) rfl gE (cellsK co (.slice none 0 0)) (by go_simp) (by go_simp; rfl) 25 HB5.out size25 rfl (by simp [cellsA, cellsK, Value.oneCell']) ?_; intro w6 HB6 HBE6; have q0 : w6.cell? ⟨gE, 0, none⟩ = some (.int .i64 co) := (blk_cell HB6.out 0).trans rfl))
  have HNR : Hid (w.heap.size ≤ gR) := Lib.hid (by rw [HGR.out]; exact Nat.le_refl _)
  have HRE : Hid (gR < gE) := Lib.hid (by rw [HGE.out]; exact blk_lt HR4.out)
  have HEB : Hid (gE < w6.heap.size) := Lib.hid (blk_lt HB6.out)
  have HG6 := Lib.hid (grown_blk HBE6.out (below_blk HBE5.out HG4.out) (fun e => by cases e; have := HGW.out; have := HNR.out; have := HRE.out; omega))
  have HR6 := Lib.hid (grown_blk HBE6.out (below_blk HBE5.out HR4.out) (fun e => by cases e; have := HRE.out; omega))
  have HGR6 := Lib.hid (grown_new (grown_trans HGR4.out (grown_below (row := some g) HBE5.out)) HBE6.out (by have := HNR.out; have := HRE.out; omega))
  clear q0
  go_loopw [43] (fun s43 wr => ∃ k : Nat, k ≤ 1 ∧ s43 = .int .i64 k ∧ LoopG RepC 3 25 (cellsK co) 25 zeroC S w g gE gR w6.heap.size (pC n) s1 k wr) (fun s43 _ => 1 - (intOf s43).toNat)
  case atStart =>
    exact ⟨0, by omega, rfl, [], s1, [], .slice none 0 0, S, rfl, rfl, HG6.out, HB6.out, HR6.out, World.ownsRow_nil _ _ _ _, RowV.nil _ _, Out.of_grown HS.out HGR6.out (fun k e => by cases e; exact HSG.out), HSG.out,
      HS.out.new (by have := HNR.out; have := HRE.out; omega), HS.out.new HNR.out, fun b hb => by simp [Value.ownBlock] at hb, Nat.le_refl _⟩
  case round =>
    obtain ⟨k, hk, rfl, hloop⟩ := hrel
    obtain ⟨l, r, xs, v, S1, hops, hll, hgr, hE, hR, hown, hrow, hout, n1, n2, n3, n4, hbase⟩ := hloop
    have hrl := (opsL_len (pC_len n) k s1 l r hops).2
    have HOPS := Lib.hid hops
    have HLEN := Lib.hid hll
    have HGr := Lib.hid hgr
    have HE := Lib.hid hE
    have HR := Lib.hid hR
    have HOWN := Lib.hid hown
    have HROW := Lib.hid hrow
    have HOUT := Lib.hid hout
    have HN1 := Lib.hid n1
    have HN2 := Lib.hid n2
    have HN3 := Lib.hid n3
    have HN4 := Lib.hid n4
    have HBASE := Lib.hid hbase
    clear hops hll hgr hE hR hown hrow hout n1 n2 n3 n4 hbase
    have c0 : wr.cell? ⟨gE, 0, none⟩ = some (.int .i64 co) := (blk_cell HE.out 0).trans rfl
    by_cases hlt : k < 1
    · have hkb : ((k : Int) == 1) = false := by
        have hk0 : k = 0 := by omega
        rw [hk0]; rfl
      cases hc : cutP [32] r with
      | none =>
        have HN : Hid (pC (n + 1) s = none) := Lib.hid (by
          have h1 := opsL_step HOPS.out
          rw [hc] at h1
          have h2 := opsL_none h1 (1 - (k + 1))
          rw [show k + 1 + (1 - (k + 1)) = 1 by omega] at h2
          rw [HPE.out, h2]; rfl)
        have HK2 : Hid (∀ W, W.heap[g]? = some (.cells (pcell r) 182 (0, 0)) → Calls Tryz.prog 147 #[.pointer (some ⟨g, 0, none⟩), .string ⟨#[32]⟩] W fun en w' => en = .panicked [{ v := .iface 179 (.agg #[]), recovered := false }] ∧ W = w') := Lib.hid (skip_none g r [32] hc)
        clear hc
        go_wp2_with (go_at_call 147; refine (HK2.out _ HGr.out).mono ?_; rintro en w7 ⟨rfl, rfl⟩)
        exact ⟨rfl, by rw [HN.out]; exact ⟨rfl, HOUT.out.grown⟩⟩
      | some r1 =>
        have HK2 : Hid (∀ W, W.heap[g]? = some (.cells (pcell r) 182 (0, 0)) → Calls Tryz.prog 147 #[.pointer (some ⟨g, 0, none⟩), .string ⟨#[32]⟩] W fun en w' => en = .returned (.tuple #[]) ∧ w'.heap[g]? = some (.cells (pcell r1) 182 (0, 0)) ∧ W.grownBy w' (some g)) := Lib.hid (skip_some g r [32] r1 hc)
        have hl2 := cutP_len hc
        simp only [List.length_cons, List.length_nil] at hl2
        have HC := Lib.hid hc
        have HX : Hid (∀ W, Agr S1 W → W.heap[g]? = some (.cells (pcell r1) 182 (0, 0)) → Calls Tryz.prog 102 #[.pointer (some ⟨g, 0, none⟩)] W (PostC S1 W g (pC n r1))) := Lib.hid fun W hW hWg =>
          HIH.out r1 (by have := HL1.out.1; omega) (by have := HL1.out.2; omega) S1 (HLL.out.mono HOUT.out.le) g W hW HN1.out hWg
        clear hc hl2 hrl
        go_wp2_with (go_at_call 147; refine (HK2.out _ HGr.out).mono ?_; rintro en w7 ⟨rfl, hg7, hgr7⟩; have HG7 := Lib.hid hg7; have HGR7 := Lib.hid hgr7; clear hg7 hgr7)
        clear c0
        have HA7 := Lib.hid (HOUT.out.agr.grown HGR7.out (fun k e => by cases e; exact HN1.out))
        have HE7 := Lib.hid (grown_blk HGR7.out HE.out (fun e => by cases e; have := HGW.out; have := HNR.out; have := HRE.out; omega))
        have HX7 : Hid (Calls Tryz.prog 102 #[.pointer (some ⟨g, 0, none⟩)] w7.drew (PostC S1 w7.drew g (pC n r1))) := Lib.hid (HX.out w7.drew HA7.out HG7.out)
        have c3 : w7.cell? ⟨gE, 2, none⟩ = some v := (blk_cell HE7.out 2).trans rfl
        cases hp : pC n r1 with
        | none =>
          rw [hp] at HX7
          have HN : Hid (pC (n + 1) s = none) := Lib.hid (by
            have h1 := opsL_step HOPS.out
            rw [HC.out] at h1
            simp only [Option.bind_some, hp, Option.map_none] at h1
            have h2 := opsL_none h1 (1 - (k + 1))
            rw [show k + 1 + (1 - (k + 1)) = 1 by omega] at h2
            rw [HPE.out, h2]; rfl)
          have HX8 : Hid (Calls Tryz.prog 102 #[.pointer (some ⟨g, 0, none⟩)] w7.drew fun en w' => en = .panicked [{ v := .iface 179 (.agg #[]), recovered := false }] ∧ w7.drew.grownBy w' (some g)) := Lib.hid HX7.out
          clear hp
          refine Code.wp_mono (Q := fun e a' w' => a'.defers = [] ∧ e = Exit.panic [{ v := .iface 179 (.agg #[]), recovered := false }] ∧ w7.drew.grownBy w' (some g)) (fun e a' w' ⟨hd, he, hgr⟩ => by
            subst he
            exact ⟨hd, by rw [HN.out]; exact ⟨rfl, grown_trans (grown_trans HOUT.out.grown HGR7.out) (grown_trans (b := w7.drew) ⟨rfl, rfl, rfl, Nat.le_refl _, fun _ _ _ => rfl⟩ hgr)⟩⟩) ?_
          refine wp_region_any (by kernel_rfl) ?_
          change wpAny _ _ _ _ _ _ _ (World.drew _)
          refine wpAny_take (i := 0) (v := .pointer (some ⟨gE, 2, none⟩)) rfl (by kernel_rfl) (by kernel_rfl) (by kernel_rfl) (fun _ _ _ h => h) (Or.inl ⟨by rfl, fun w => by go_simp⟩) ?_
          refine wpAny_take (i := 2) (v := .pointer (some ⟨g, 0, none⟩)) rfl (by kernel_rfl) (by kernel_rfl) (by kernel_rfl) (fun _ _ _ h => h) (Or.inl ⟨by rfl, fun w => by go_simp⟩) ?_
          refine wpAny_ready (rs := [1, 3]) (by kernel_rfl) (by simp) ?_
          refine AllReady.cons rfl (fun K hK => ?_) (AllReady.cons rfl (fun K hK => ?_) AllReady.nil)
          · go_simp
            refine hK _ _ ?_
            clear hK K
            refine wpAny_ready (rs := [3]) (by kernel_rfl) (by simp) ?_
            refine AllReady.cons rfl (fun K hK => ?_) AllReady.nil
            go_simp
            refine HX8.out.mono ?_
            rintro en w8 ⟨rfl, hgr8⟩
            exact ⟨rfl, hgr8⟩
          · go_simp
            refine HX8.out.mono ?_
            rintro en w8 ⟨rfl, hgr8⟩
            exact ⟨rfl, hgr8⟩
        | some q =>
          obtain ⟨x, r2⟩ := q
          rw [hp] at HX7
          have HX8 : Hid (Calls Tryz.prog 102 #[.pointer (some ⟨g, 0, none⟩)] w7.drew fun en w' => ∃ (cs : List Value) (S2 : Snap), en = .returned (.agg cs.toArray) ∧ RepC S2 x cs ∧ Out (some g) S1 w7.drew S2 w' ∧ w'.heap[g]? = some (.cells (pcell r2) 182 (0, 0))) := Lib.hid HX7.out
          have HPP := Lib.hid hp
          clear hp
          refine wp_region_noPanic ?_
          refine wp_region_any (by kernel_rfl) ?_
          change wpAny _ _ _ _ _ _ _ (World.drew _)
          refine wpAny_take (i := 0) (v := .pointer (some ⟨gE, 2, none⟩)) rfl (by kernel_rfl) (by kernel_rfl) (by kernel_rfl) (fun _ _ _ h => h) (Or.inl ⟨by rfl, fun w => by go_simp⟩) ?_
          refine wpAny_take (i := 2) (v := .pointer (some ⟨g, 0, none⟩)) rfl (by kernel_rfl) (by kernel_rfl) (by kernel_rfl) (fun _ _ _ h => h) (Or.inl ⟨by rfl, fun w => by go_simp⟩) ?_
          refine wpAny_ready (rs := [1, 3]) (by kernel_rfl) (by simp) ?_
          refine AllReady.cons rfl (fun K hK => ?_) (AllReady.cons rfl (fun K hK => ?_) AllReady.nil)
          · go_simp
            refine hK _ _ ?_
            clear hK K
            refine wpAny_ready (rs := [3]) (by kernel_rfl) (by simp) ?_
            refine AllReady.cons rfl (fun K hK => ?_) AllReady.nil
            go_simp
            refine HX8.out.mono ?_
            rintro en w8 ⟨cs, S2, rfl, hrep, hout8, hg8⟩
            obtain ⟨A3, cc, B3, cd, rfl, hle, hld, hrw, hrw2⟩ := hrep.open_
            have HREP := Lib.hid (RepC.close x A3 B3 cc cd hle hld hrw hrw2)
            have HOUT8 := Lib.hid hout8
            have HG8 := Lib.hid hg8
            have HE8 := Lib.hid (hout8.blk HE7.out (fun e => by cases e; have := HGW.out; have := HNR.out; have := HRE.out; omega))
            have e3 : w8.cell? ⟨gE, 2, none⟩ = some v := (blk_cell HE8.out 2).trans rfl
            have e4 : ∀ o, (w8.alloc o).cell? ⟨gE, 2, none⟩ = some v := fun o => (blk_cell (below_blk ((Below.refl _ _).alloc (Nat.le_refl _) o) HE8.out) 2).trans rfl
            clear hrep hout8 hg8 hle hld hrw hrw2
            refine hK _ _ ?_
            clear hK K
            refine wpAny_ready (rs := [4]) (by kernel_rfl) (by simp) ?_
            refine AllReady.cons rfl (fun K hK => ?_) AllReady.nil
            go_simp
            refine hK _ _ ?_
            clear hK K
            refine wpAny_ready (rs := [5]) (by kernel_rfl) (by simp) ?_
            refine AllReady.cons rfl (fun K hK => ?_) AllReady.nil
            have HOWN8 : Hid ((w8.alloc (.cells #[.int .i64 x.op, .slice A3 x.a.length cc, .slice B3 x.c.length cd] 25)).ownsRow w6.heap.size 25 3 v k xs) := Lib.hid (ownsRow_below ((HOWN.out.kept HGR7.out (own_ne HOWN.out (by have := HEB.out; have := HRE.out; have := HNR.out; have := HGW.out; omega))).kept (w := w7.drew) HOUT8.out.grown (own_ne HOWN.out (by have := HEB.out; have := HRE.out; have := HNR.out; have := HGW.out; omega))) ((Below.refl _ _).alloc (Nat.le_refl _) _))
            refine step_append_lies _ rfl (.tmp 56) (.tmp 59) 23 rfl w6.heap.size 25 z _ 3 56 Tryz.underlying23 hinfo hz0 hz1 hz2 rfl (by decide) v k xs rfl HOWN8.out ⟨w8.heap.size, 0, none⟩ 1 1 [.int .i64 x.op, .slice A3 x.a.length cc, .slice B3 x.c.length cd] rfl rfl (World.news_of_block (blk_new w8 _)) (by simp [Value.oneCell']) (by decide) (by unfold maxLen; omega) (by omega) (by simp; exact Nat.le_succ_of_le (Nat.le_trans HBASE.out (Nat.le_trans HGR7.out.size HOUT8.out.grown.size))) _ rfl ?_
            intro ga cap w10 hown10 hgrow10 hat10 hlt10
            have HOWN10 := Lib.hid hown10
            have HGROW10 := Lib.hid hgrow10
            have HAT10 := Lib.hid hat10
            clear hown10 hgrow10 hat10 hlt10
            have HE10 := Lib.hid (grown_blk HGROW10.out (below_blk ((Below.refl _ _).alloc (Nat.le_refl _) _) HE8.out) (ownsRow_ne HOWN.out HEB.out))
            have e5 : w10.cell? ⟨gE, 2, none⟩ = some v := (blk_cell HE10.out 2).trans rfl
            have z5 : w10.frozen? ⟨gE, 2, none⟩ = false := blk_frozen HE10.out 2
            refine hK _ _ ?_
            clear hK K
            refine wpAny_take (i := 6) (v := .pointer (some ⟨gE, 2, none⟩)) rfl (by kernel_rfl) (by kernel_rfl) (by kernel_rfl) (fun _ _ _ h => h) (Or.inl ⟨by rfl, fun w => by go_simp⟩) ?_
            refine wpAny_ready (rs := [7]) (by kernel_rfl) (by simp) ?_
            refine AllReady.cons rfl (fun K hK => ?_) AllReady.nil
            go_simp
            refine hK _ _ ?_
            clear hK K
            refine wpAny_done (by kernel_rfl) ?_ _
            refine NoPanic.normal ?_
            clear e3 e4 e5 z5
            go_wp2
            go_roundw
            case rel =>
              refine ⟨k + 1, by omega, by go_num, ?_⟩
              exact LoopG.step (fun S S' h x cs hx => hx.mono h) 2 (fun v u => rfl) HGW.out HNR.out HRE.out HEB.out HOPS.out HLEN.out HGr.out HE.out HR.out HOWN.out HROW.out HOUT.out HN1.out HN2.out HN3.out HN4.out HC.out HGR7.out HPP.out HREP.out rfl (out_drew HOUT8.out) HG8.out ((Below.refl _ _).alloc (Nat.le_refl _) _) HOWN10.out HGROW10.out HAT10.out
            case measure => simp [intOf]; omega
          · go_simp
            refine HX8.out.mono ?_
            rintro en w8 ⟨cs, S2, rfl, hrep, hout8, hg8⟩
            obtain ⟨A3, cc, B3, cd, rfl, hle, hld, hrw, hrw2⟩ := hrep.open_
            have HREP := Lib.hid (RepC.close x A3 B3 cc cd hle hld hrw hrw2)
            have HOUT8 := Lib.hid hout8
            have HG8 := Lib.hid hg8
            have HE8 := Lib.hid (hout8.blk HE7.out (fun e => by cases e; have := HGW.out; have := HNR.out; have := HRE.out; omega))
            have e3 : w8.cell? ⟨gE, 2, none⟩ = some v := (blk_cell HE8.out 2).trans rfl
            have e4 : ∀ o, (w8.alloc o).cell? ⟨gE, 2, none⟩ = some v := fun o => (blk_cell (below_blk ((Below.refl _ _).alloc (Nat.le_refl _) o) HE8.out) 2).trans rfl
            clear hrep hout8 hg8 hle hld hrw hrw2
            refine hK _ _ ?_
            clear hK K
            refine wpAny_ready (rs := [1, 4]) (by kernel_rfl) (by simp) ?_
            refine AllReady.cons rfl (fun K hK => ?_) (AllReady.cons rfl (fun K hK => ?_) AllReady.nil)
            · go_simp
              refine hK _ _ ?_
              clear hK K
              refine wpAny_ready (rs := [4]) (by kernel_rfl) (by simp) ?_
              refine AllReady.cons rfl (fun K hK => ?_) AllReady.nil
              go_simp
              refine hK _ _ ?_
              clear hK K
              refine wpAny_ready (rs := [5]) (by kernel_rfl) (by simp) ?_
              refine AllReady.cons rfl (fun K hK => ?_) AllReady.nil
              have HOWN8 : Hid ((w8.alloc (.cells #[.int .i64 x.op, .slice A3 x.a.length cc, .slice B3 x.c.length cd] 25)).ownsRow w6.heap.size 25 3 v k xs) := Lib.hid (ownsRow_below ((HOWN.out.kept HGR7.out (own_ne HOWN.out (by have := HEB.out; have := HRE.out; have := HNR.out; have := HGW.out; omega))).kept (w := w7.drew) HOUT8.out.grown (own_ne HOWN.out (by have := HEB.out; have := HRE.out; have := HNR.out; have := HGW.out; omega))) ((Below.refl _ _).alloc (Nat.le_refl _) _))
              refine step_append_lies _ rfl (.tmp 56) (.tmp 59) 23 rfl w6.heap.size 25 z _ 3 56 Tryz.underlying23 hinfo hz0 hz1 hz2 rfl (by decide) v k xs rfl HOWN8.out ⟨w8.heap.size, 0, none⟩ 1 1 [.int .i64 x.op, .slice A3 x.a.length cc, .slice B3 x.c.length cd] rfl rfl (World.news_of_block (blk_new w8 _)) (by simp [Value.oneCell']) (by decide) (by unfold maxLen; omega) (by omega) (by simp; exact Nat.le_succ_of_le (Nat.le_trans HBASE.out (Nat.le_trans HGR7.out.size HOUT8.out.grown.size))) _ rfl ?_
              intro ga cap w10 hown10 hgrow10 hat10 hlt10
              have HOWN10 := Lib.hid hown10
              have HGROW10 := Lib.hid hgrow10
              have HAT10 := Lib.hid hat10
              clear hown10 hgrow10 hat10 hlt10
              have HE10 := Lib.hid (grown_blk HGROW10.out (below_blk ((Below.refl _ _).alloc (Nat.le_refl _) _) HE8.out) (ownsRow_ne HOWN.out HEB.out))
              have e5 : w10.cell? ⟨gE, 2, none⟩ = some v := (blk_cell HE10.out 2).trans rfl
              have z5 : w10.frozen? ⟨gE, 2, none⟩ = false := blk_frozen HE10.out 2
              refine hK _ _ ?_
              clear hK K
              refine wpAny_take (i := 6) (v := .pointer (some ⟨gE, 2, none⟩)) rfl (by kernel_rfl) (by kernel_rfl) (by kernel_rfl) (fun _ _ _ h => h) (Or.inl ⟨by rfl, fun w => by go_simp⟩) ?_
              refine wpAny_ready (rs := [7]) (by kernel_rfl) (by simp) ?_
              refine AllReady.cons rfl (fun K hK => ?_) AllReady.nil
              go_simp
              refine hK _ _ ?_
              clear hK K
              refine wpAny_done (by kernel_rfl) ?_ _
              refine NoPanic.normal ?_
              clear e3 e4 e5 z5
              go_wp2
              go_roundw
              case rel =>
                refine ⟨k + 1, by omega, by go_num, ?_⟩
                exact LoopG.step (fun S S' h x cs hx => hx.mono h) 2 (fun v u => rfl) HGW.out HNR.out HRE.out HEB.out HOPS.out HLEN.out HGr.out HE.out HR.out HOWN.out HROW.out HOUT.out HN1.out HN2.out HN3.out HN4.out HC.out HGR7.out HPP.out HREP.out rfl (out_drew HOUT8.out) HG8.out ((Below.refl _ _).alloc (Nat.le_refl _) _) HOWN10.out HGROW10.out HAT10.out
              case measure => simp [intOf]; omega
            · go_simp
              refine hK _ _ ?_
              clear hK K
              refine wpAny_ready (rs := [1]) (by kernel_rfl) (by simp) ?_
              refine AllReady.cons rfl (fun K hK => ?_) AllReady.nil
              go_simp
              refine hK _ _ ?_
              clear hK K
              refine wpAny_ready (rs := [5]) (by kernel_rfl) (by simp) ?_
              refine AllReady.cons rfl (fun K hK => ?_) AllReady.nil
              have HOWN8 : Hid ((w8.alloc (.cells #[.int .i64 x.op, .slice A3 x.a.length cc, .slice B3 x.c.length cd] 25)).ownsRow w6.heap.size 25 3 v k xs) := Lib.hid (ownsRow_below ((HOWN.out.kept HGR7.out (own_ne HOWN.out (by have := HEB.out; have := HRE.out; have := HNR.out; have := HGW.out; omega))).kept (w := w7.drew) HOUT8.out.grown (own_ne HOWN.out (by have := HEB.out; have := HRE.out; have := HNR.out; have := HGW.out; omega))) ((Below.refl _ _).alloc (Nat.le_refl _) _))
              refine step_append_lies _ rfl (.tmp 56) (.tmp 59) 23 rfl w6.heap.size 25 z _ 3 56 Tryz.underlying23 hinfo hz0 hz1 hz2 rfl (by decide) v k xs rfl HOWN8.out ⟨w8.heap.size, 0, none⟩ 1 1 [.int .i64 x.op, .slice A3 x.a.length cc, .slice B3 x.c.length cd] rfl rfl (World.news_of_block (blk_new w8 _)) (by simp [Value.oneCell']) (by decide) (by unfold maxLen; omega) (by omega) (by simp; exact Nat.le_succ_of_le (Nat.le_trans HBASE.out (Nat.le_trans HGR7.out.size HOUT8.out.grown.size))) _ rfl ?_
              intro ga cap w10 hown10 hgrow10 hat10 hlt10
              have HOWN10 := Lib.hid hown10
              have HGROW10 := Lib.hid hgrow10
              have HAT10 := Lib.hid hat10
              clear hown10 hgrow10 hat10 hlt10
              have HE10 := Lib.hid (grown_blk HGROW10.out (below_blk ((Below.refl _ _).alloc (Nat.le_refl _) _) HE8.out) (ownsRow_ne HOWN.out HEB.out))
              have e5 : w10.cell? ⟨gE, 2, none⟩ = some v := (blk_cell HE10.out 2).trans rfl
              have z5 : w10.frozen? ⟨gE, 2, none⟩ = false := blk_frozen HE10.out 2
              refine hK _ _ ?_
              clear hK K
              refine wpAny_take (i := 6) (v := .pointer (some ⟨gE, 2, none⟩)) rfl (by kernel_rfl) (by kernel_rfl) (by kernel_rfl) (fun _ _ _ h => h) (Or.inl ⟨by rfl, fun w => by go_simp⟩) ?_
              refine wpAny_ready (rs := [7]) (by kernel_rfl) (by simp) ?_
              refine AllReady.cons rfl (fun K hK => ?_) AllReady.nil
              go_simp
              refine hK _ _ ?_
              clear hK K
              refine wpAny_done (by kernel_rfl) ?_ _
              refine NoPanic.normal ?_
              clear e3 e4 e5 z5
              go_wp2
              go_roundw
              case rel =>
                refine ⟨k + 1, by omega, by go_num, ?_⟩
                exact LoopG.step (fun S S' h x cs hx => hx.mono h) 2 (fun v u => rfl) HGW.out HNR.out HRE.out HEB.out HOPS.out HLEN.out HGr.out HE.out HR.out HOWN.out HROW.out HOUT.out HN1.out HN2.out HN3.out HN4.out HC.out HGR7.out HPP.out HREP.out rfl (out_drew HOUT8.out) HG8.out ((Below.refl _ _).alloc (Nat.le_refl _) _) HOWN10.out HGROW10.out HAT10.out
              case measure => simp [intOf]; omega
    · obtain rfl : k = 1 := by omega
      cases hc : cutP [41] r with
      | none =>
        have HN : Hid (pC (n + 1) s = none) := Lib.hid (by rw [HPE.out, HOPS.out]; simp [hc])
        have HK2 : Hid (∀ W, W.heap[g]? = some (.cells (pcell r) 182 (0, 0)) → Calls Tryz.prog 147 #[.pointer (some ⟨g, 0, none⟩), .string ⟨#[41]⟩] W fun en w' => en = .panicked [{ v := .iface 179 (.agg #[]), recovered := false }] ∧ W = w') := Lib.hid (skip_none g r [41] hc)
        clear hc
        go_wp2_with (go_at_call 147; refine (HK2.out _ HGr.out).mono ?_; rintro en w7 ⟨rfl, rfl⟩)
        exact ⟨rfl, by rw [HN.out]; exact ⟨rfl, HOUT.out.grown⟩⟩
      | some t =>
        have HN : Hid (pC (n + 1) s = some (.mk co [] l, t)) := Lib.hid (by rw [HPE.out, HOPS.out]; simp [hc])
        have HK2 : Hid (∀ W, W.heap[g]? = some (.cells (pcell r) 182 (0, 0)) → Calls Tryz.prog 147 #[.pointer (some ⟨g, 0, none⟩), .string ⟨#[41]⟩] W fun en w' => en = .returned (.tuple #[]) ∧ w'.heap[g]? = some (.cells (pcell t) 182 (0, 0)) ∧ W.grownBy w' (some g)) := Lib.hid (skip_some g r [41] t hc)
        clear hc
        obtain ⟨ga, cap0, rfl⟩ : ∃ ga cap, v = .slice (some ⟨ga, 0, none⟩) 1 cap := by
          rcases HOWN.out.2 with ⟨_, h⟩ | ⟨g', cap, cur, h, _⟩
          · omega
          · exact ⟨g', cap, h⟩
        go_wp2_with (first
          | (go_at_call 147; refine (HK2.out _ HGr.out).mono ?_; rintro en w7 ⟨rfl, hg7, hgr7⟩; have HG7 := Lib.hid hg7; have HGR7 := Lib.hid hgr7; have HE7 := Lib.hid (grown_blk hgr7 HE.out (fun e => by cases e; have := HGW.out; have := HNR.out; have := HRE.out; omega)); have HR7 := Lib.hid (grown_blk hgr7 HR.out (fun e => by cases e; have := HGW.out; have := HNR.out; omega)); clear hg7 hgr7 c0)
          | ((with_reducible refine gate_dst (N := 65) rfl ?_); refine wpList_load_row rfl 25 (.tmp 3) rfl gE (by go_simp) 25 _ (0, 0) _ HE7.out Tryz.underlying25 rfl size25 ?_)
          | ((with_reducible refine gate_store (t := 25) (p := 2) rfl ?_); refine store_at rfl rfl 25 (.tmp 2) (.tmp 65) rfl gR ((cellsK co) (.slice (some ⟨ga, 0, none⟩) 1 cap0)) (by go_simp) (by go_simp) 25 HR7.out size25 rfl (by simp [cellsA, cellsK, Value.oneCell']) ?_; intro w8 HB8 HBE8))
        refine bodyPost_ret (results_cell_row rfl _ _ gR 25 ((cellsK co) (.slice (some ⟨ga, 0, none⟩) 1 cap0)) (0, 0) _ rfl HB8.out Tryz.underlying25 rfl size25) rfl ?_
        rw [HN.out]
        obtain ⟨S', A, cap, hv, hle, hrow', hout'⟩ := LoopG.done (R := RepC) (fun S S' h x cs hx => hx.mono h) HGW.out HNR.out HRE.out HEB.out (by omega) HLEN.out HGr.out HOWN.out HROW.out HOUT.out HN1.out HN3.out HN4.out HGR7.out HBE8.out
        refine ⟨[.int .i64 co, .slice none 0 0, .slice (some ⟨ga, 0, none⟩) 1 cap0], S', rfl, ?_, hout', ?_⟩
        · rw [hv]; exact RepC.close (.mk co [] l) none A 0 cap (Nat.le_refl _) hle (Row.nil _ _ _ _) hrow'
        · exact grown_blk HBE8.out HG7.out (fun e => by cases e; have := HGW.out; have := HNR.out; omega)
end Go.Proofs.YtkopmnhngjbmcaaGreatDoor.Sn

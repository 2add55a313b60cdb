/- (predicate.Parse), parsed: all texts. -/
import Derived.Test.YtkopmnhngjbmcaaGreatDoorF2
namespace Go.Proofs.YtkopmnhngjbmcaaGreatDoor.Sn
open Go Go.RowKit
set_option linter.unusedVariables false
theorem leaf_size {w : List UInt8} {e : Ex} (h : leaf w = some e) : e.size ≤ w.length := by
  have hn : ∀ (d : List UInt8) (v : Int), num d = some v → 1 ≤ d.length := fun d v hv => by
    have := itoa_ne v
    rw [num_some hv] at this
    exact List.length_pos_iff.2 this
  unfold leaf at h
  split at h
  · rename_i d hd
    obtain ⟨v, hv, rfl⟩ := Option.map_eq_some_iff.1 h
    have := cutP_len hd
    rw [Ex.size_eq]; simp [Ex.a, Ex.sizeL] at *; omega
  · split at h
    · rename_i d hd
      obtain ⟨v, hv, rfl⟩ := Option.map_eq_some_iff.1 h
      have := cutP_len hd
      rw [Ex.size_eq]; simp [Ex.a, Ex.sizeL] at *; omega
    · obtain ⟨v, hv, rfl⟩ := Option.map_eq_some_iff.1 h
      have := hn _ _ hv
      rw [Ex.size_eq]; simp [Ex.a, Ex.sizeL]; omega
theorem pE_size : ∀ (n : Nat) (s : List UInt8) (e : Ex) (r : List UInt8), pE n s = some (e, r) → e.size + r.length ≤ s.length := by
  intro n
  induction n with
  | zero => intro s e r h; cases h
  | succ n ih =>
    intro s e r h
    rw [pE] at h
    have hwa := congrArg List.length (word_after s)
    simp only [List.length_append] at hwa
    cases h0 : cutP [40] s with
    | none =>
      rw [h0] at h
      obtain ⟨e', he, heq⟩ := Option.map_eq_some_iff.1 h
      cases heq
      have := leaf_size he
      omega
    | some s0 =>
      rw [h0] at h
      obtain ⟨op, hop, h⟩ := Option.bind_eq_some_iff.1 h
      obtain ⟨s1, h1, h⟩ := Option.bind_eq_some_iff.1 h
      obtain ⟨⟨a, s2⟩, h2, h⟩ := Option.bind_eq_some_iff.1 h
      obtain ⟨s3, h3, h⟩ := Option.bind_eq_some_iff.1 h
      obtain ⟨⟨b, s4⟩, h4, h⟩ := Option.bind_eq_some_iff.1 h
      obtain ⟨s5, h5, heq⟩ := Option.map_eq_some_iff.1 h
      cases heq
      have k0 := cutP_len h0
      have k1 := cutP_len h1
      have k3 := cutP_len h3
      have k5 := cutP_len h5
      have k2 := ih _ _ _ h2
      have k4 := ih _ _ _ h4
      have ka := afterW_len s0
      rw [Ex.size_eq]
      simp only [Ex.a, Ex.sizeL, List.length_cons, List.length_nil] at *
      omega
theorem pC_size : ∀ (n : Nat) (s : List UInt8) (e : Cn) (r : List UInt8), pC n s = some (e, r) → e.size + r.length ≤ s.length := by
  intro n
  induction n with
  | zero => intro s e r h; cases h
  | succ n ih =>
    intro s e r h
    rw [pC] at h
    cases h0 : cutP [116, 114, 117, 101] s with
    | some t =>
      rw [h0] at h
      cases h
      have := cutP_len h0
      rw [Cn.size_eq]; simp [Cn.a, Cn.c, Ex.sizeL, Cn.sizeL] at *; omega
    | none =>
      rw [h0] at h
      obtain ⟨s0, hs0, h⟩ := Option.bind_eq_some_iff.1 h
      obtain ⟨op, hop, h⟩ := Option.bind_eq_some_iff.1 h
      have k0 := cutP_len hs0
      have ka := afterW_len s0
      split at h
      · obtain ⟨s1, h1, h⟩ := Option.bind_eq_some_iff.1 h
        obtain ⟨⟨a, s2⟩, h2, h⟩ := Option.bind_eq_some_iff.1 h
        obtain ⟨s3, h3, h⟩ := Option.bind_eq_some_iff.1 h
        obtain ⟨⟨b, s4⟩, h4, h⟩ := Option.bind_eq_some_iff.1 h
        obtain ⟨s5, h5, heq⟩ := Option.map_eq_some_iff.1 h
        cases heq
        have k1 := cutP_len h1
        have k3 := cutP_len h3
        have k5 := cutP_len h5
        have k2 := pE_size _ _ _ _ h2
        have k4 := pE_size _ _ _ _ h4
        rw [Cn.size_eq]
        simp only [Cn.a, Cn.c, Ex.sizeL, Cn.sizeL, List.length_cons, List.length_nil] at *
        omega
      · split at h
        · obtain ⟨s1, h1, h⟩ := Option.bind_eq_some_iff.1 h
          obtain ⟨⟨a, s2⟩, h2, h⟩ := Option.bind_eq_some_iff.1 h
          obtain ⟨s5, h5, heq⟩ := Option.map_eq_some_iff.1 h
          cases heq
          have k1 := cutP_len h1
          have k5 := cutP_len h5
          have k2 := ih _ _ _ h2
          rw [Cn.size_eq]
          simp only [Cn.a, Cn.c, Ex.sizeL, Cn.sizeL, List.length_cons, List.length_nil] at *
          omega
        · split at h
          · obtain ⟨s1, h1, h⟩ := Option.bind_eq_some_iff.1 h
            obtain ⟨⟨a, s2⟩, h2, h⟩ := Option.bind_eq_some_iff.1 h
            obtain ⟨s3, h3, h⟩ := Option.bind_eq_some_iff.1 h
            obtain ⟨⟨b, s4⟩, h4, h⟩ := Option.bind_eq_some_iff.1 h
            obtain ⟨s5, h5, heq⟩ := Option.map_eq_some_iff.1 h
            cases heq
            have k1 := cutP_len h1
            have k3 := cutP_len h3
            have k5 := cutP_len h5
            have k2 := ih _ _ _ h2
            have k4 := ih _ _ _ h4
            rw [Cn.size_eq]
            simp only [Cn.a, Cn.c, Ex.sizeL, Cn.sizeL, List.length_cons, List.length_nil] at *
            omega
          · cases h
theorem door_ret (S : Snap) (w w4 : World) (r : Option Cn) (gc ge : Nat) (tmps : Array Value) (ht2 : tmps.getD 2 undef = .pointer (some ⟨gc, 0, none⟩)) (ht3 : tmps.getD 3 undef = .pointer (some ⟨ge, 0, none⟩)) {cs : Array Value} {x : Value} (hcs : cs.size = 3)
    (hc : w4.heap[gc]? = some (.cells cs 25 (0, 0))) (he : w4.heap[ge]? = some (.cells #[x] 30 (0, 0))) (hp : PostP S w r (.returned (.tuple #[.agg cs, x])) w4) :
    bodyPostD Tryz.prog Tryz.f61 (PostP S w r) Exit.ret { tmps := tmps, defers := dfr gc ge } w4 := by
  have hx : (loadVar 30 ⟨ge, 0, none⟩).run Tryz.prog w4 = .ok x w4 := by
    have := (blk_cell he 0)
    simp only [List.getElem?_toArray, List.getElem?_cons_zero] at this
    simp [go_sem, loadVar, this]
  refine leaves_cons (f := 101) (args := #[.pointer (some ⟨gc, 0, none⟩), .pointer (some ⟨ge, 0, none⟩)]) (by simp) (by simp [go_sem]) ?_
  refine (catch_idle gc ge w4).mono ?_
  rintro e u' w'' ⟨rfl, rfl, rfl⟩
  exact ⟨_, results_cell2 rfl tmps _ gc 25 cs (0, 0) _ ht2 hc Tryz.underlying25 rfl (by rw [hcs]; exact size25) _ _ ht3 hx, hp⟩
theorem grown_cells' {W w1 : World} {gc ge : Nat} {a b : Array Value} (h : W.grownBy w1 (some gc)) (hc : W.heap[gc]? = some (.cells a 25 (0, 0))) (he : W.heap[ge]? = some (.cells b 30 (0, 0))) : w1.heap[ge]? = some (.cells b 30 (0, 0)) :=
  grown_blk h he (fun e => by cases e; rw [hc] at he; cases he)
theorem grown_cells3 {W w1 : World} {gc ge : Nat} {a b : Array Value} (h : W.grownBy w1 (some ge)) (hc : W.heap[gc]? = some (.cells a 25 (0, 0))) (he : W.heap[ge]? = some (.cells b 30 (0, 0))) : w1.heap[gc]? = some (.cells a 25 (0, 0)) :=
  grown_blk h hc (fun e => by cases e; rw [hc] at he; cases he)
set_option maxRecDepth 100000 in
set_option maxHeartbeats 2000000 in
theorem parse_bad2 (s : List UInt8) (hl : s.length ≤ 1073741824) (e : Cn) (r0 r : List UInt8) (c0 : UInt8) (r1 : List UInt8) (hr0 : r0 = r) (hr : r = c0 :: r1) (hp : pC (s.length + 1) s = some (e, r)) (S : Snap) (hL : LibOk S) (w : World) (hS : Agr S w) :
    Calls Tryz.prog 61 #[.string ⟨s.toArray⟩] w (PostP S w none) := by
  have hmf : ∀ (fn : Fn) (first cap : Array Value) (w : World), (Instr.makeFunc fn first cap).run Tryz.prog w = .ok (.func fn first cap) w := fun _ _ _ _ => rfl
  have hsize := pC_size _ _ _ _ hp
  have HX : Hid (∀ (W : World) (gp : Nat), Agr S W → S gp = none → W.heap[gp]? = some (.cells (pcell s) 182 (0, 0)) → Calls Tryz.prog 102 #[.pointer (some ⟨gp, 0, none⟩)] W fun en w' => ∃ (cs : List Value) (S' : Snap), en = .returned (.agg cs.toArray) ∧ RepC S' e cs ∧ Out (some gp) S W S' w' ∧ w'.heap[gp]? = some (.cells (pcell r) 182 (0, 0))) := Lib.hid fun W gp hW hgp hWg => by
    have := cond_at (s.length + 1) s (Nat.lt_succ_self _) hl S hL gp W hW hgp hWg
    rw [hp] at this
    exact this
  have HS := Lib.hid hS
  have HE : Hid (e.size < 1152921504606846976) := Lib.hid (by omega)
  subst hr0
  subst hr
  clear hS hp hL hsize
  go_enter_defers Tryz.func61, Tryz.ntmps61
  go_wp2_with (first
    | ((with_reducible refine gate_dst (N := 2) rfl ?_); refine new_at rfl (N := 2) rfl zeroC 25 (by go_simp; rfl) ?_; intro gc w1 HGC HBC HBE1)
    | ((with_reducible refine gate_dst (N := 3) rfl ?_); refine new_at rfl (N := 3) rfl #[.int .i64 0] 30 (by go_simp) ?_; intro ge w2 HGE HBE HBE2)
    | ((with_reducible refine gate_dst (N := 8) rfl ?_); refine new_at rfl (N := 8) rfl (pcell s) 182 (by go_simp; rfl) ?_; intro gp w3 HGP HBP HBE3)
    | (go_at_call 102; refine (HX.out _ gp (((HS.out.below HBE1.out).below HBE2.out).below HBE3.out) (HS.out.new (by rw [HGP.out]; exact (below_trans HBE1.out HBE2.out).size)) HBP.out).mono ?_; rintro en w4 ⟨cs, S', rfl, hrep, hout, hg4⟩; obtain ⟨A, c, B, dd, rfl, hc, hdd, hrow, hrow2⟩ := hrep.open_; have HREP := Lib.hid (RepC.close e A B c dd hc hdd hrow hrow2); have HOUT := Lib.hid hout; have HG4 := Lib.hid hg4; have HC4 := Lib.hid (hout.blk (below_blk HBE3.out (below_blk HBE2.out HBC.out)) (fun e => by cases e; have := HGP.out; have := blk_lt HBC.out; have := HBE2.out.size; omega)); have HE4 := Lib.hid (hout.blk (below_blk HBE3.out HBE.out) (fun e => by cases e; have := blk_lt HBE.out; have := HGP.out; omega)); have HN4 := Lib.hid (hout.new gc (HS.out.new (by rw [HGC.out]; exact Nat.le_refl _)) (Nat.lt_of_lt_of_le (blk_lt HBC.out) (below_trans HBE2.out HBE3.out).size)); have HM4 := Lib.hid (hout.new ge (HS.out.new (by rw [HGE.out]; exact HBE1.out.size)) (Nat.lt_of_lt_of_le (blk_lt HBE.out) HBE3.out.size)); have HK4 := Lib.hid (below_grown_new (below_trans (below_trans HBE1.out HBE2.out) HBE3.out) hout.grown (by rw [HGP.out]; exact (below_trans HBE1.out HBE2.out).size)); clear hrep hout hg4 hc hdd hrow hrow2)
    | ((with_reducible refine gate_store (t := 25) (p := 2) rfl ?_); refine store_at rfl rfl 25 (.tmp 2) (.tmp 10) rfl gc #[.int .i64 e.op, .slice A e.a.length c, .slice B e.c.length dd] (by go_simp) (by go_simp) 25 HC4.out size25 rfl (by simp [Value.oneCell']) ?_; intro w5 HC5 HBE5; have HG5 := Lib.hid (grown_blk HBE5.out HG4.out (fun e => by cases e; have := HGP.out; have := blk_lt HBC.out; have := HBE2.out.size; omega)); have HE5 := Lib.hid (grown_cells' HBE5.out HC4.out HE4.out); have HK5 := Lib.hid (below_grown_new HK4.out HBE5.out (by rw [HGC.out]; exact Nat.le_refl _)); have HS5 := Lib.hid (HOUT.out.agr.grown HBE5.out (fun k e => by cases e; exact HN4.out)); have p5 : w5.cell? ⟨gp, 0, none⟩ = some (.string ⟨(c0 :: r1).toArray⟩) := (blk_cell HG5.out 0).trans rfl))
  exact door_panic S w w5 gc ge _ rfl rfl HC5.out HE5.out HK5.out (by rw [HGC.out]; exact Nat.le_refl _) (by rw [HGE.out]; exact HBE1.out.size)
set_option maxRecDepth 100000 in
set_option maxHeartbeats 2000000 in
theorem parse_bad3 (s : List UInt8) (hl : s.length ≤ 1073741824) (e : Cn) (r : List UInt8) (hr : r = []) (ho : okP e = false) (hp : pC (s.length + 1) s = some (e, r)) (S : Snap) (hL : LibOk S) (w : World) (hS : Agr S w) :
    Calls Tryz.prog 61 #[.string ⟨s.toArray⟩] w (PostP S w none) := by
  have hmf : ∀ (fn : Fn) (first cap : Array Value) (w : World), (Instr.makeFunc fn first cap).run Tryz.prog w = .ok (.func fn first cap) w := fun _ _ _ _ => rfl
  have hsize := pC_size _ _ _ _ hp
  have HX : Hid (∀ (W : World) (gp : Nat), Agr S W → S gp = none → W.heap[gp]? = some (.cells (pcell s) 182 (0, 0)) → Calls Tryz.prog 102 #[.pointer (some ⟨gp, 0, none⟩)] W fun en w' => ∃ (cs : List Value) (S' : Snap), en = .returned (.agg cs.toArray) ∧ RepC S' e cs ∧ Out (some gp) S W S' w' ∧ w'.heap[gp]? = some (.cells (pcell r) 182 (0, 0))) := Lib.hid fun W gp hW hgp hWg => by
    have := cond_at (s.length + 1) s (Nat.lt_succ_self _) hl S hL gp W hW hgp hWg
    rw [hp] at this
    exact this
  have HS := Lib.hid hS
  have HE : Hid (e.size < 1152921504606846976) := Lib.hid (by omega)
  subst hr
  have HP : Hid (∀ (W : World) (S1 : Snap) (cs : List Value), Agr S1 W → RepC S1 e cs → Calls Tryz.prog 99 #[.agg cs.toArray] W fun en w' => en = .returned (.bool false) ∧ Below W.heap.size W w') := Lib.hid fun W S1 cs hA hR => by
    have := plain_calls e HE.out S1 W cs hA hR
    rw [ho] at this
    exact this
  clear ho
  clear hS hp hL hsize
  go_enter_defers Tryz.func61, Tryz.ntmps61
  go_wp2_with (first
    | ((with_reducible refine gate_dst (N := 2) rfl ?_); refine new_at rfl (N := 2) rfl zeroC 25 (by go_simp; rfl) ?_; intro gc w1 HGC HBC HBE1)
    | ((with_reducible refine gate_dst (N := 3) rfl ?_); refine new_at rfl (N := 3) rfl #[.int .i64 0] 30 (by go_simp) ?_; intro ge w2 HGE HBE HBE2)
    | ((with_reducible refine gate_dst (N := 8) rfl ?_); refine new_at rfl (N := 8) rfl (pcell s) 182 (by go_simp; rfl) ?_; intro gp w3 HGP HBP HBE3)
    | (go_at_call 102; refine (HX.out _ gp (((HS.out.below HBE1.out).below HBE2.out).below HBE3.out) (HS.out.new (by rw [HGP.out]; exact (below_trans HBE1.out HBE2.out).size)) HBP.out).mono ?_; rintro en w4 ⟨cs, S', rfl, hrep, hout, hg4⟩; obtain ⟨A, c, B, dd, rfl, hc, hdd, hrow, hrow2⟩ := hrep.open_; have HREP := Lib.hid (RepC.close e A B c dd hc hdd hrow hrow2); have HOUT := Lib.hid hout; have HG4 := Lib.hid hg4; have HC4 := Lib.hid (hout.blk (below_blk HBE3.out (below_blk HBE2.out HBC.out)) (fun e => by cases e; have := HGP.out; have := blk_lt HBC.out; have := HBE2.out.size; omega)); have HE4 := Lib.hid (hout.blk (below_blk HBE3.out HBE.out) (fun e => by cases e; have := blk_lt HBE.out; have := HGP.out; omega)); have HN4 := Lib.hid (hout.new gc (HS.out.new (by rw [HGC.out]; exact Nat.le_refl _)) (Nat.lt_of_lt_of_le (blk_lt HBC.out) (below_trans HBE2.out HBE3.out).size)); have HM4 := Lib.hid (hout.new ge (HS.out.new (by rw [HGE.out]; exact HBE1.out.size)) (Nat.lt_of_lt_of_le (blk_lt HBE.out) HBE3.out.size)); have HK4 := Lib.hid (below_grown_new (below_trans (below_trans HBE1.out HBE2.out) HBE3.out) hout.grown (by rw [HGP.out]; exact (below_trans HBE1.out HBE2.out).size)); clear hrep hout hg4 hc hdd hrow hrow2)
    | ((with_reducible refine gate_store (t := 25) (p := 2) rfl ?_); refine store_at rfl rfl 25 (.tmp 2) (.tmp 10) rfl gc #[.int .i64 e.op, .slice A e.a.length c, .slice B e.c.length dd] (by go_simp) (by go_simp) 25 HC4.out size25 rfl (by simp [Value.oneCell']) ?_; intro w5 HC5 HBE5; have HG5 := Lib.hid (grown_blk HBE5.out HG4.out (fun e => by cases e; have := HGP.out; have := blk_lt HBC.out; have := HBE2.out.size; omega)); have HE5 := Lib.hid (grown_cells' HBE5.out HC4.out HE4.out); have HK5 := Lib.hid (below_grown_new HK4.out HBE5.out (by rw [HGC.out]; exact Nat.le_refl _)); have HS5 := Lib.hid (HOUT.out.agr.grown HBE5.out (fun k e => by cases e; exact HN4.out)); have p5 : w5.cell? ⟨gp, 0, none⟩ = some (.string ⟨([] : List UInt8).toArray⟩) := (blk_cell HG5.out 0).trans rfl)
    | ((with_reducible refine gate_dst (N := 17) rfl ?_); refine load_row_w (by rfl) 25 (.tmp 2) rfl gc (by go_simp) 25 _ (0, 0) _ HC5.out Tryz.underlying25 rfl size25 ?_)
    | (go_at_call 99; refine (HP.out _ _ _ HS5.out HREP.out).mono ?_; rintro en w6 ⟨rfl, hb6⟩; have HC6 := Lib.hid (below_blk hb6 HC5.out); have HE6 := Lib.hid (below_blk hb6 HE5.out); have HK6 := Lib.hid (below_trans HK5.out hb6); have HB6 := Lib.hid hb6; clear hb6 p5))
  exact door_panic S w w6 gc ge _ rfl rfl HC6.out HE6.out HK6.out (by rw [HGC.out]; exact Nat.le_refl _) (by rw [HGE.out]; exact HBE1.out.size)
set_option maxRecDepth 100000 in
set_option maxHeartbeats 2000000 in
theorem parse_ok (s : List UInt8) (hl : s.length ≤ 1073741824) (e : Cn) (r : List UInt8) (hr : r = []) (ho : okP e = true) (hp : pC (s.length + 1) s = some (e, r)) (S : Snap) (hL : LibOk S) (w : World) (hS : Agr S w) :
    Calls Tryz.prog 61 #[.string ⟨s.toArray⟩] w (PostP S w (some e)) := by
  have hmf : ∀ (fn : Fn) (first cap : Array Value) (w : World), (Instr.makeFunc fn first cap).run Tryz.prog w = .ok (.func fn first cap) w := fun _ _ _ _ => rfl
  have hsize := pC_size _ _ _ _ hp
  have HX : Hid (∀ (W : World) (gp : Nat), Agr S W → S gp = none → W.heap[gp]? = some (.cells (pcell s) 182 (0, 0)) → Calls Tryz.prog 102 #[.pointer (some ⟨gp, 0, none⟩)] W fun en w' => ∃ (cs : List Value) (S' : Snap), en = .returned (.agg cs.toArray) ∧ RepC S' e cs ∧ Out (some gp) S W S' w' ∧ w'.heap[gp]? = some (.cells (pcell r) 182 (0, 0))) := Lib.hid fun W gp hW hgp hWg => by
    have := cond_at (s.length + 1) s (Nat.lt_succ_self _) hl S hL gp W hW hgp hWg
    rw [hp] at this
    exact this
  have HS := Lib.hid hS
  have HE : Hid (e.size < 1152921504606846976) := Lib.hid (by omega)
  subst hr
  have HP : Hid (∀ (W : World) (S1 : Snap) (cs : List Value), Agr S1 W → RepC S1 e cs → Calls Tryz.prog 99 #[.agg cs.toArray] W fun en w' => en = .returned (.bool true) ∧ Below W.heap.size W w') := Lib.hid fun W S1 cs hA hR => by
    have := plain_calls e HE.out S1 W cs hA hR
    rw [ho] at this
    exact this
  clear ho
  clear hS hp hL hsize
  go_enter_defers Tryz.func61, Tryz.ntmps61
  go_wp2_with (first
    | ((with_reducible refine gate_dst (N := 2) rfl ?_); refine new_at rfl (N := 2) rfl zeroC 25 (by go_simp; rfl) ?_; intro gc w1 HGC HBC HBE1)
    | ((with_reducible refine gate_dst (N := 3) rfl ?_); refine new_at rfl (N := 3) rfl #[.int .i64 0] 30 (by go_simp) ?_; intro ge w2 HGE HBE HBE2)
    | ((with_reducible refine gate_dst (N := 8) rfl ?_); refine new_at rfl (N := 8) rfl (pcell s) 182 (by go_simp; rfl) ?_; intro gp w3 HGP HBP HBE3)
    | (go_at_call 102; refine (HX.out _ gp (((HS.out.below HBE1.out).below HBE2.out).below HBE3.out) (HS.out.new (by rw [HGP.out]; exact (below_trans HBE1.out HBE2.out).size)) HBP.out).mono ?_; rintro en w4 ⟨cs, S', rfl, hrep, hout, hg4⟩; obtain ⟨A, c, B, dd, rfl, hc, hdd, hrow, hrow2⟩ := hrep.open_; have HREP := Lib.hid (RepC.close e A B c dd hc hdd hrow hrow2); have HOUT := Lib.hid hout; have HG4 := Lib.hid hg4; have HC4 := Lib.hid (hout.blk (below_blk HBE3.out (below_blk HBE2.out HBC.out)) (fun e => by cases e; have := HGP.out; have := blk_lt HBC.out; have := HBE2.out.size; omega)); have HE4 := Lib.hid (hout.blk (below_blk HBE3.out HBE.out) (fun e => by cases e; have := blk_lt HBE.out; have := HGP.out; omega)); have HN4 := Lib.hid (hout.new gc (HS.out.new (by rw [HGC.out]; exact Nat.le_refl _)) (Nat.lt_of_lt_of_le (blk_lt HBC.out) (below_trans HBE2.out HBE3.out).size)); have HM4 := Lib.hid (hout.new ge (HS.out.new (by rw [HGE.out]; exact HBE1.out.size)) (Nat.lt_of_lt_of_le (blk_lt HBE.out) HBE3.out.size)); have HK4 := Lib.hid (below_grown_new (below_trans (below_trans HBE1.out HBE2.out) HBE3.out) hout.grown (by rw [HGP.out]; exact (below_trans HBE1.out HBE2.out).size)); clear hrep hout hg4 hc hdd hrow hrow2)
    | ((with_reducible refine gate_store (t := 25) (p := 2) rfl ?_); refine store_at rfl rfl 25 (.tmp 2) (.tmp 10) rfl gc #[.int .i64 e.op, .slice A e.a.length c, .slice B e.c.length dd] (by go_simp) (by go_simp) 25 HC4.out size25 rfl (by simp [Value.oneCell']) ?_; intro w5 HC5 HBE5; have HG5 := Lib.hid (grown_blk HBE5.out HG4.out (fun e => by cases e; have := HGP.out; have := blk_lt HBC.out; have := HBE2.out.size; omega)); have HE5 := Lib.hid (grown_cells' HBE5.out HC4.out HE4.out); have HK5 := Lib.hid (below_grown_new HK4.out HBE5.out (by rw [HGC.out]; exact Nat.le_refl _)); have HS5 := Lib.hid (HOUT.out.agr.grown HBE5.out (fun k e => by cases e; exact HN4.out)); have p5 : w5.cell? ⟨gp, 0, none⟩ = some (.string ⟨([] : List UInt8).toArray⟩) := (blk_cell HG5.out 0).trans rfl)
    | ((with_reducible refine gate_dst (N := 17) rfl ?_); refine load_row_w (by rfl) 25 (.tmp 2) rfl gc (by go_simp) 25 _ (0, 0) _ HC5.out Tryz.underlying25 rfl size25 ?_)
    | (go_at_call 99; refine (HP.out _ _ _ HS5.out HREP.out).mono ?_; rintro en w6 ⟨rfl, hb6⟩; have HC6 := Lib.hid (below_blk hb6 HC5.out); have HE6 := Lib.hid (below_blk hb6 HE5.out); have HK6 := Lib.hid (below_trans HK5.out hb6); have HB6 := Lib.hid hb6; clear hb6 p5)
    | ((with_reducible refine gate_dst (N := 23) rfl ?_); refine wpList_load_row rfl 25 (.tmp 2) rfl gc (by go_simp) 25 _ (0, 0) _ HC6.out Tryz.underlying25 rfl size25 ?_)
    | ((with_reducible refine gate_store (t := 25) (p := 2) rfl ?_); refine store_at rfl rfl 25 (.tmp 2) (.tmp 23) rfl gc #[.int .i64 e.op, .slice A e.a.length c, .slice B e.c.length dd] (by go_simp) (by go_simp) 25 HC6.out size25 rfl (by simp [Value.oneCell']) ?_; intro w7 HC7 HBE7; have HE7 := Lib.hid (grown_cells' HBE7.out HC6.out HE6.out))
    | ((with_reducible refine gate_store (t := 30) (p := 3) rfl ?_); refine store1 rfl rfl ge 30 (.int .i64 0) HE7.out (by have z := blk_frozen HE7.out 0; have e0 : w7.cell? ⟨ge, 0, none⟩ = some (.int .i64 0) := (blk_cell HE7.out 0).trans rfl; go_simp) ?_; intro w8 HE8 HBE8 _))
  have HC8 := Lib.hid (grown_cells3 HBE8.out HC7.out HE7.out)
  refine door_ret S w w8 (some e) gc ge _ rfl rfl rfl HC8.out HE8.out ?_
  refine ⟨[.int .i64 e.op, .slice A e.a.length c, .slice B e.c.length dd], S', rfl, HREP.out, ?_⟩
  have hb7 := below_grown_new HK6.out HBE7.out (by rw [HGC.out]; exact Nat.le_refl _)
  have hb8 := below_grown_new hb7 HBE8.out (by rw [HGE.out]; exact HBE1.out.size)
  exact ⟨HOUT.out.le, (((HS5.out.below HB6.out).grown HBE7.out (fun k e => by cases e; exact HN4.out)).grown HBE8.out (fun k e => by cases e; exact HM4.out)), fun b hb hlt => HOUT.out.new b hb (Nat.lt_of_lt_of_le hlt (below_trans (below_trans HBE1.out HBE2.out) HBE3.out).size), grown_below hb8⟩
theorem parse_calls (s : List UInt8) (hl : s.length ≤ 1073741824) (S : Snap) (hL : LibOk S) (w : World) (hS : Agr S w) : Calls Tryz.prog 61 #[.string ⟨s.toArray⟩] w (PostP S w (parseL s)) := by
  cases hp : pC (s.length + 1) s with
  | none =>
    have : parseL s = none := by unfold parseL; rw [hp]
    rw [this]; exact parse_bad1 s hl hp S hL w hS
  | some q =>
    obtain ⟨e, r⟩ := q
    cases hr : r with
    | cons c0 r1 =>
      have : parseL s = none := by unfold parseL; rw [hp, hr]; simp
      rw [this]; exact parse_bad2 s hl e r r c0 r1 rfl hr hp S hL w hS
    | nil =>
      cases ho : okP e with
      | false =>
        have : parseL s = none := by unfold parseL; rw [hp, hr]; unfold okP at ho; simp [ho]
        rw [this]; exact parse_bad3 s hl e r hr ho hp S hL w hS
      | true =>
        have : parseL s = some e := by unfold parseL; rw [hp, hr]; unfold okP at ho; simp [ho]
        rw [this]; exact parse_ok s hl e r hr ho hp S hL w hS
end Go.Proofs.YtkopmnhngjbmcaaGreatDoor.Sn

/- The words of the operators (predicate.words), a lookup in them, and (predicate.group). -/
import Derived.Test.YtkopmnhngjbmcaaGreatDoorD1
import Derived.Test.YtkopmnhngjbmcaaGreatDoorA9
import Derived.Test.YtkopmnhngjbmcaaGreatDoorSh
import Derived.Deep.RegionHeld3
namespace Go.Proofs.YtkopmnhngjbmcaaGreatDoor.Sn
open Go Go.RowKit
set_option linter.unusedVariables false
section
variable {P : Program} {ops : Array Oper} {rest : List Oper} {o : Oper} {a : Act} {Q : Exit → Act → World → Prop}
theorem make_w {W : World} (hgd : o.guard = none) (t : TypeId) (ho : o.op = .makeMap t none)
    (h : ∀ g w1, Hid (g = W.heap.size) → Hid (w1.heap[g]? = some (.map #[] 0)) → Hid (Below W.heap.size W w1) → wpList P ops Q rest (a.put o.dst (.map (some g))) w1) : wpList P ops Q (o :: rest) a W := by
  refine event_run hgd (v := .map (some W.heap.size)) (w1 := W.alloc (.map #[] 0)) ?_ (h _ _ rfl (blk_new W _) ((Below.refl _ _).alloc (Nat.le_refl _) _))
  unfold execOp
  simp only [ho, Option.map, run_makeMap_plain, Sem.run_bind, Sem.run_pure, Result.andThen_ok]
theorem put_w {W : World} (hgd : o.guard = none) (hN : o.dst = none) (t k e : TypeId) (x y z : Operand) (ho : o.op = .insert t x y z)
    (hm : P.underlying t = some (.map k e)) (hk : P.underlying k = some (.int .i64)) (r clock : Nat) (es : Array MapEntry) (s : Int) (val : Value)
    (hx : a.eval x = .map (some r)) (hy : a.eval y = .int .i64 s) (hz : a.eval z = val) (hb : W.heap[r]? = some (.map es clock)) (hf : Instr.findNow (.int .i64) (.int .i64 s) es.toList 0 = some none)
    (h : ∀ w1, Hid (w1.heap[r]? = some (.map (es.push { key := .int .i64 s, val := val, born := clock }) (clock + 1))) → Hid (W.grownBy w1 (some r)) → wpList P ops Q rest a w1) : wpList P ops Q (o :: rest) a W := by
  have hp := put_at (P := P) (o' := .map (es.push { key := .int .i64 s, val := val, born := clock }) (clock + 1)) hb
  have hr := run_put_int (P := P) t k e r clock es s val hm hk hb hf
  refine skip_run hgd hN ?_ (h _ hp.1 hp.2)
  unfold execOp
  simp only [ho, hx, hy, hz, hr, Sem.run_bind, Sem.run_pure, Result.andThen_ok]
theorem gate_put {W : World} {t : TypeId} {x y z : Operand} (_ho : o.op = .insert t x y z) (h : wpList P ops Q (o :: rest) a W) : wpList P ops Q (o :: rest) a W := h
end
/-- the map's entries -/
def wes : Array MapEntry := #[⟨.int .i64 4, .string ⟨#[43]⟩, 0⟩, ⟨.int .i64 5, .string ⟨#[45]⟩, 1⟩, ⟨.int .i64 6, .string ⟨#[42]⟩, 2⟩, ⟨.int .i64 7, .string ⟨#[47]⟩, 3⟩, ⟨.int .i64 8, .string ⟨#[37]⟩, 4⟩, ⟨.int .i64 9, .string ⟨#[109, 105, 110]⟩, 5⟩, ⟨.int .i64 10, .string ⟨#[109, 97, 120]⟩, 6⟩,
  ⟨.int .i64 102, .string ⟨#[60]⟩, 7⟩, ⟨.int .i64 103, .string ⟨#[60, 61]⟩, 8⟩, ⟨.int .i64 104, .string ⟨#[61]⟩, 9⟩, ⟨.int .i64 105, .string ⟨#[110, 111, 116]⟩, 10⟩, ⟨.int .i64 106, .string ⟨#[97, 110, 100]⟩, 11⟩, ⟨.int .i64 107, .string ⟨#[111, 114]⟩, 12⟩]
set_option maxRecDepth 100000 in
set_option maxHeartbeats 4000000 in
theorem words_calls (w : World) : Calls Tryz.prog 207 #[] w fun en w' => ∃ g, en = .returned (.map (some g)) ∧ w'.heap[g]? = some (.map wes 13) ∧ w.heap.size ≤ g ∧ Below w.heap.size w w' := by
  go_enter Tryz.func207, Tryz.ntmps207
  go_wp2_with (first
    | ((with_reducible refine gate_dst (N := 1) rfl ?_); refine make_w rfl 313 rfl ?_; intro g w1 HG HM HB; have HB := Lib.hid (HB.out.mono (Nat.le_of_eq rfl)))
    | ((with_reducible refine gate_put (t := 313) rfl ?_); refine put_w rfl rfl 313 3 9 _ _ _ rfl Tryz.underlying313 Tryz.underlying3 g _ _ _ _ rfl rfl rfl HM.out rfl ?_; intro w2 HM HB2; have HB := Lib.hid (below_grown_new HB.out HB2.out (by rw [HG.out]; exact Nat.le_refl _)); clear HB2))
  go_ret
  exact ⟨g, rfl, HM.out, by rw [HG.out]; exact Nat.le_refl _, HB.out⟩
theorem run_look_hit {P : Program} {w : World} (mty kt et : TypeId) (r clock : Nat) (es : Array MapEntry) (s : Int) (j : Nat) (v : Value) (hm : P.underlying mty = some (.map kt et)) (hk : P.underlying kt = some (.int .i64)) (hb : w.heap[r]? = some (.map es clock))
    (hf : Instr.findNow (.int .i64) (.int .i64 s) es.toList 0 = some (some (j, v))) : (Instr.lookup mty (.map (some r)) (.int .i64 s) false).run P w = .ok v w := by
  have hc : (Instr.checkKey es.isEmpty 10000 kt (.int .i64 s)).run P w = .ok () w := MapKept.run_checkKey (k := .int .i64 s) hk (by simp [MapKept.IsKey]) _ 9999
  simp [Instr.lookup, run_underlying hm, MapKept.run_getObj_map hb, hc, MapKept.run_findKey hk hf, Result.andThen]
theorem wes_find {op : Int} (h : 4 ≤ op ∧ op ≤ 10 ∨ 102 ≤ op ∧ op ≤ 107) : ∃ j, Instr.findNow (.int .i64) (.int .i64 op) wes.toList 0 = some (some (j, .string ⟨(word op).toArray⟩)) := by
  have : op = 4 ∨ op = 5 ∨ op = 6 ∨ op = 7 ∨ op = 8 ∨ op = 9 ∨ op = 10 ∨ op = 102 ∨ op = 103 ∨ op = 104 ∨ op = 105 ∨ op = 106 ∨ op = 107 := by omega
  rcases this with rfl | rfl | rfl | rfl | rfl | rfl | rfl | rfl | rfl | rfl | rfl | rfl | rfl
  · exact ⟨0, rfl⟩
  · exact ⟨1, rfl⟩
  · exact ⟨2, rfl⟩
  · exact ⟨3, rfl⟩
  · exact ⟨4, rfl⟩
  · exact ⟨5, rfl⟩
  · exact ⟨6, rfl⟩
  · exact ⟨7, rfl⟩
  · exact ⟨8, rfl⟩
  · exact ⟨9, rfl⟩
  · exact ⟨10, rfl⟩
  · exact ⟨11, rfl⟩
  · exact ⟨12, rfl⟩
theorem look_word {op : Int} (h : 4 ≤ op ∧ op ≤ 10 ∨ 102 ≤ op ∧ op ≤ 107) {w : World} {g : Nat} (hm : w.heap[g]? = some (.map wes 13)) :
    (Instr.lookup 313 (.map (some g)) (.int .i64 op) false).run Tryz.prog w = .ok (.string ⟨(word op).toArray⟩) w := by
  obtain ⟨j, hj⟩ := wes_find h
  exact run_look_hit 313 3 9 g 13 wes op j _ Tryz.underlying313 Tryz.underlying3 hm hj
theorem word_len {op : Int} (h : 4 ≤ op ∧ op ≤ 10 ∨ 102 ≤ op ∧ op ≤ 107) : (word op).length ≤ 3 := by
  have : op = 4 ∨ op = 5 ∨ op = 6 ∨ op = 7 ∨ op = 8 ∨ op = 9 ∨ op = 10 ∨ op = 102 ∨ op = 103 ∨ op = 104 ∨ op = 105 ∨ op = 106 ∨ op = 107 := by omega
  rcases this with rfl | rfl | rfl | rfl | rfl | rfl | rfl | rfl | rfl | rfl | rfl | rfl | rfl <;> decide
theorem ba_append (l m : List UInt8) : (⟨l.toArray⟩ : ByteArray) ++ ⟨m.toArray⟩ = ⟨(l ++ m).toArray⟩ := by
  apply ByteArray.ext
  simp
theorem str_eq {l m : List UInt8} (h : l = m) : Value.string ⟨l.toArray⟩ = .string ⟨m.toArray⟩ := by rw [h]
set_option maxRecDepth 100000 in
set_option maxHeartbeats 4000000 in
theorem group_calls (op : Int) (hop : 4 ≤ op ∧ op ≤ 10 ∨ 102 ≤ op ∧ op ≤ 107) (bk o c : Nat) (xs : List ByteArray) (w : World) (hcells : ∀ (j : Nat) x, xs[j]? = some x → w.cell? ⟨bk, o + j, none⟩ = some (.string x))
    (hbk : bk < w.heap.size) (hN : xs.length ≤ 1000) (hcap : xs.length ≤ c) (hlen : (Lib.join (xs.map (·.data.toList)) [32]).length ≤ 1099511627776) :
    Calls Tryz.prog 145 #[.int .i64 op, .slice (some ⟨bk, o, none⟩) xs.length c] w fun en w' =>
      en = .returned (.string ⟨(40 :: (word op ++ 32 :: (Lib.join (xs.map (·.data.toList)) [32] ++ [41]))).toArray⟩) ∧ Below w.heap.size w w' := by
  have HJ : Hid (∀ W, Below w.heap.size w W → Calls Tryz.prog 208 #[.slice (some ⟨bk, o, none⟩) xs.length c, .string ⟨#[32]⟩] W fun e w' => e = .returned (.string ⟨(Lib.join (xs.map (·.data.toList)) [32]).toArray⟩) ∧ Below W.heap.size W w') := Lib.hid fun W hb =>
    Tryz.strings_Join bk o c xs ⟨#[32]⟩ W (fun j x hx => (hb.cell (p := ⟨bk, o + j, none⟩) hbk).trans (hcells j x hx)) (Nat.lt_of_lt_of_le hbk hb.size) (by omega) hcap (by show (Lib.join (xs.map (·.data.toList)) [32]).length ≤ _; omega)
  have HOP := Lib.hid hop
  have HWL := Lib.hid (word_len hop)
  have HL := Lib.hid hlen
  generalize hJ : Lib.join (xs.map (·.data.toList)) [32] = J at HJ HL ⊢
  clear hJ hop hcells hlen
  go_enter Tryz.func145, Tryz.ntmps145
  go_wp2_with fail
  have n1 : ¬ 9223372036854775807 < 1 + (word op).length := by have := HWL.out; omega
  have n2 : ¬ 9223372036854775807 < 1 + (word op).length + 1 := by have := HWL.out; omega
  have n3 : ¬ 9223372036854775807 < 1 + (word op).length + 1 + J.length := by have := HWL.out; have := HL.out; omega
  have n4 : ¬ 9223372036854775807 < 1 + (word op).length + 1 + J.length + 1 := by have := HWL.out; have := HL.out; omega
  go_region_held3 (fun w' => Below w.heap.size w w') (first | exact (Below.refl _ _).drew | exact HB5.out | exact HB6.out)
    (first
      | (go_at_call 207; refine (words_calls _).mono ?_; rintro en w5 ⟨g, rfl, hm, hge, hb5⟩; have HM := Lib.hid hm; have HB5 := Lib.hid (below_trans ‹Below w.heap.size w _› hb5); have hL := look_word HOP.out hm; clear hm hge hb5)
      | (go_at_call 208; refine (HJ.out _ ‹Below w.heap.size w _›).mono ?_; rintro en w6 ⟨rfl, hb6⟩; (try have hL6 := look_word HOP.out (below_blk hb6 HM.out)); have HB6 := Lib.hid (below_trans ‹Below w.heap.size w _› hb6); clear hb6))
  all_goals
    have HBZ := ‹Below w.heap.size w _›
    go_wp2
    go_ret
    refine ⟨?_, HBZ⟩
    show Ending.returned (.string ((((⟨[40].toArray⟩ ++ ⟨(word op).toArray⟩) ++ ⟨[32].toArray⟩) ++ ⟨J.toArray⟩) ++ ⟨[41].toArray⟩)) = _
    rw [ba_append, ba_append, ba_append, ba_append]
    simp
end Go.Proofs.YtkopmnhngjbmcaaGreatDoor.Sn

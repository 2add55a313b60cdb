/- A map[int]bool with one key (the sites that are seen in a definition). -/
import Derived.Test.YtkopmnhngjbmcaaGreatDoorSi
import Derived.Maps.OwnIn
import Derived.WideMake
namespace Go.Proofs.YtkopmnhngjbmcaaGreatDoor.Sn
open Go Go.RowKit
set_option linter.unusedVariables false
theorem run_put_int {P : Program} {w : World} (mty kt et : TypeId) (r clock : Nat) (es : Array MapEntry) (s : Int) (val : Value) (hm : P.underlying mty = some (.map kt et)) (hk : P.underlying kt = some (.int .i64)) (hb : w.heap[r]? = some (.map es clock))
    (hf : Instr.findNow (.int .i64) (.int .i64 s) es.toList 0 = some none) :
    (Instr.mapUpdate mty (.map (some r)) (.int .i64 s) val).run P w = .ok () { w with heap := w.heap.setIfInBounds r (.map (es.push { key := .int .i64 s, val := val, born := clock }) (clock + 1)) } := by
  have hc : (Instr.checkKey false 10000 kt (.int .i64 s)).run P w = .ok () w := MapKept.run_checkKey (k := .int .i64 s) hk (by simp [MapKept.IsKey]) false 9999
  simp [Instr.mapUpdate, run_underlying hm, MapKept.run_getObj_map hb, hc, MapKept.run_findKey hk hf, MapKept.run_setObj_map _ hb, Result.andThen]
theorem run_look_int {P : Program} {w : World} (mty kt et : TypeId) (r clock : Nat) (es : Array MapEntry) (s : Int) (z : Value) (hm : P.underlying mty = some (.map kt et)) (hk : P.underlying kt = some (.int .i64)) (hb : w.heap[r]? = some (.map es clock))
    (hz : (zeroValue et).run P w = .ok z w) (hf : Instr.findNow (.int .i64) (.int .i64 s) es.toList 0 = some none) :
    (Instr.lookup mty (.map (some r)) (.int .i64 s) false).run P w = .ok z w := by
  have hc : (Instr.checkKey es.isEmpty 10000 kt (.int .i64 s)).run P w = .ok () w := MapKept.run_checkKey (k := .int .i64 s) hk (by simp [MapKept.IsKey]) _ 9999
  simp [Instr.lookup, run_underlying hm, MapKept.run_getObj_map hb, hc, MapKept.run_findKey hk hf, Result.andThen, hz]
theorem put_at {P : Program} {w : World} {r : Nat} {o o' : Obj} (hb : w.heap[r]? = some o) : ({ w with heap := w.heap.setIfInBounds r o' } : World).heap[r]? = some o' ∧ w.grownBy { w with heap := w.heap.setIfInBounds r o' } (some r) := by
  have h := MapKept.heap_set (o' := o') hb
  refine ⟨h.1, rfl, rfl, rfl, by simp, fun k hk hr => h.2 k (fun e => hr (by rw [e]))⟩
theorem grown_cells {W w1 : World} {r g ck : Nat} {es : Array MapEntry} {cs : Array Value} {t : TypeId} {f : Nat × Nat} (h : W.grownBy w1 (some r)) (hm : W.heap[r]? = some (.map es ck)) (hb : W.heap[g]? = some (.cells cs t f)) : w1.heap[g]? = some (.cells cs t f) :=
  grown_blk h hb (fun e => by cases e; rw [hm] at hb; cases hb)
theorem grown_map {W w1 : World} {r g ck : Nat} {es : Array MapEntry} {cs : Array Value} {t : TypeId} {f : Nat × Nat} (h : W.grownBy w1 (some g)) (hm : W.heap[r]? = some (.map es ck)) (hb : W.heap[g]? = some (.cells cs t f)) : w1.heap[r]? = some (.map es ck) :=
  grown_blk h hm (fun e => by cases e; rw [hm] at hb; cases hb)
theorem grown_other {W w1 : World} {g g' : Nat} {o : Obj} (h : W.grownBy w1 (some g)) (hb : W.heap[g']? = some o) (hn : g' ≠ g) : w1.heap[g']? = some o :=
  grown_blk h hb (fun e => by cases e; exact hn rfl)
section
variable {P : Program} {ops : Array Oper} {rest : List Oper} {o : Oper} {a : Act} {Q : Exit → Act → World → Prop} {F : Fence} {n : Nat}
/-- a new map -/
theorem make_in {W : World} (hw : Region.wanted o (yielded ops a.tmps) = true) (t : TypeId) (ho : o.op = .makeMap t none)
    (h : ∀ g w1, Hid (g = W.heap.size) → Hid (w1.heap[g]? = some (.map #[] 0)) → Hid (Below W.heap.size W w1) → wpListIn F n P ops Q rest (a.put o.dst (.map (some g))) w1) : wpListIn F n P ops Q (o :: rest) a W := by
  refine event_in hw (fun c e => by rw [ho] at e; cases e) (by unfold Oper.about; rw [ho]) (v := .map (some W.heap.size)) (w1 := W.alloc (.map #[] 0)) ?_ (h _ _ rfl (blk_new W _) ((Below.refl _ _).alloc (Nat.le_refl _) _))
  unfold execOp
  simp only [ho, Option.map, run_makeMap_plain, Sem.run_bind, Sem.run_pure, Result.andThen_ok]
/-- a key that is new -/
theorem put_in {W : World} (hw : Region.wanted o (yielded ops a.tmps) = true) (hN : o.dst = none) (t k e : TypeId) (x y z : Operand) (ho : o.op = .insert t x y z ∨ o.op = .mapUpdate t x y z)
    (hm : P.underlying t = some (.map k e)) (hk : P.underlying k = some (.int .i64)) (r clock : Nat) (es : Array MapEntry) (s : Int) (val : Value)
    (hx : a.eval x = .map (some r)) (hy : a.eval y = .int .i64 s) (hz : a.eval z = val) (hb : W.heap[r]? = some (.map es clock)) (hf : Instr.findNow (.int .i64) (.int .i64 s) es.toList 0 = some none)
    (h : ∀ w1, Hid (w1.heap[r]? = some (.map (es.push { key := .int .i64 s, val := val, born := clock }) (clock + 1))) → Hid (W.grownBy w1 (some r)) → wpListIn F n P ops Q rest a w1) : wpListIn F n P ops Q (o :: rest) a W := by
  have hp := put_at (P := P) (o' := .map (es.push { key := .int .i64 s, val := val, born := clock }) (clock + 1)) hb
  have hr := run_put_int (P := P) t k e r clock es s val hm hk hb hf
  rcases ho with ho | ho
  · refine skip_in hw hN (fun c e => by rw [ho] at e; cases e) (by unfold Oper.about; rw [ho]) ?_ (h _ hp.1 hp.2)
    unfold execOp
    simp only [ho, hx, hy, hz, hr, Sem.run_bind, Sem.run_pure, Result.andThen_ok]
  · refine skip_in hw hN (fun c e => by rw [ho] at e; cases e) (by unfold Oper.about; rw [ho]) ?_ (h _ hp.1 hp.2)
    unfold execOp
    simp only [ho, hx, hy, hz, hr, Sem.run_bind, Sem.run_pure, Result.andThen_ok]
/-- a key that is not there -/
theorem look_in {W : World} (hw : Region.wanted o (yielded ops a.tmps) = true) (t k e : TypeId) (x y : Operand) (ho : o.op = .lookup t x y false)
    (hm : P.underlying t = some (.map k e)) (hk : P.underlying k = some (.int .i64)) (r clock : Nat) (es : Array MapEntry) (s : Int) (z : Value) (hz : ∀ w, (zeroValue e).run P w = .ok z w)
    (hx : a.eval x = .map (some r)) (hy : a.eval y = .int .i64 s) (hb : W.heap[r]? = some (.map es clock)) (hf : Instr.findNow (.int .i64) (.int .i64 s) es.toList 0 = some none)
    (h : wpListIn F n P ops Q rest (a.put o.dst z) W) : wpListIn F n P ops Q (o :: rest) a W := by
  refine event_in hw (fun c e => by rw [ho] at e; cases e) (by unfold Oper.about; rw [ho]) ?_ h
  unfold execOp
  simp only [ho, hx, hy, run_look_int t k e r clock es s z hm hk hb (hz W) hf, Sem.run_bind, Sem.run_pure, Result.andThen_ok]
theorem gate_put_in {W : World} {t : TypeId} {x y z : Operand} (_ho : o.op = .insert t x y z ∨ o.op = .mapUpdate t x y z) (h : wpListIn F n P ops Q (o :: rest) a W) : wpListIn F n P ops Q (o :: rest) a W := h
theorem store1_in {W : World} (hw : Region.wanted o (yielded ops a.tmps) = true) (hN : o.dst = none) (hd : ∀ c, o.op ≠ .defer c) (hab : o.about P W a.eval = none) (g : Nat) (t : TypeId) {b0 : Value} (a0 : Value) (HB : W.heap[g]? = some (.cells #[b0] t (0, 0)))
    (hrun : (execOp a.eval o).run P W = .ok .skip (W.setCell ⟨g, 0, none⟩ a0))
    (h : ∀ w1, Hid (w1.heap[g]? = some (.cells #[a0] t (0, 0))) → Hid (W.grownBy w1 (some g)) → w1.cell? ⟨g, 0, none⟩ = some a0 → wpListIn F n P ops Q rest a w1) : wpListIn F n P ops Q (o :: rest) a W := by
  have hb : ((W.setCell ⟨g, 0, none⟩ a0)).heap[g]? = some (.cells #[a0] t (0, 0)) := (blk_set HB 0 a0)
  exact skip_in hw hN hd hab hrun (h _ hb (grown_set (grown_refl W (some g)) 0 a0) ((blk_cell hb 0).trans rfl))
end
end Go.Proofs.YtkopmnhngjbmcaaGreatDoor.Sn

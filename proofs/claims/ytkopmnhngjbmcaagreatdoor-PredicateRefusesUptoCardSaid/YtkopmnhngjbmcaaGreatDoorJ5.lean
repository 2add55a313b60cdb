/- What the listed variables give: the library's tables and sentinels (LibOk); a world that holds them. -/
import Derived.Test.YtkopmnhngjbmcaaGreatDoorJ3
import Derived.Test.YtkopmnhngjbmcaaGreatDoorD0
import Derived.Test.YtkopmnhngjbmcaaGreatDoorCards
import Derived.Test.YtkopmnhngjbmcaaGreatDoorTie
import Derived.WalkKit
import Derived.ProofKit
import Derived.OpenShut
import Derived.Carry
import Derived.LaidMore
import Derived.Stop.LaidErr
import Derived.Deep.DeepHandedRow
import Derived.Deep.DeepWitnessRowRef
import Derived.Lib.LaidTab
import Derived.Lib.SmallJoins
namespace Go.Proofs.YtkopmnhngjbmcaaGreatDoor.Sn
open Go Go.RowKit Go.ChangeShapes
set_option linter.unusedVariables false
def laidL : List (String × DataW Unit) := [("math/bits.deBruijn32tab", Rows.laid_math_bits_deBruijn32tab), ("math/bits.deBruijn64tab", Rows.laid_math_bits_deBruijn64tab), ("internal/strconv.uint64pow10", Rows.laid_internal_strconv_uint64pow10), ("strconv.ErrRange", Rows.laid_strconv_ErrRange), ("strconv.ErrSyntax", Rows.laid_strconv_ErrSyntax)]
theorem gPow : Tryz.prog.globalNamed "internal/strconv.uint64pow10" = some 0 := by kernel_rfl
theorem gSyn : Tryz.prog.globalNamed "strconv.ErrSyntax" = some 1 := by kernel_rfl
theorem gRan : Tryz.prog.globalNamed "strconv.ErrRange" = some 2 := by kernel_rfl
theorem tSyn : (Tryz.prog.globals[1]?).map (·.type) = some 200 := by kernel_rfl
theorem tRan : (Tryz.prog.globals[2]?).map (·.type) = some 200 := by kernel_rfl
theorem plainL (W : World) (h : laidMetH Tryz.prog laidL W) : laidMet Tryz.prog laidL W := h
theorem cells391 : Tryz.prog.cellsOf 391 = 20 := by kernel_rfl
theorem cells351 : Tryz.prog.cellsOf 351 = 1 := by kernel_rfl
theorem pow_data : (Rows.laid_internal_strconv_uint64pow10 : DataW Unit) = Lib.tabData .u64 Lib.pow10Tab := by kernel_rfl
theorem tab_keep {W w' : World} (h : Agr (snapOf W) w') (ht : Lib.TabIs Tryz.prog W "internal/strconv.uint64pow10" .u64 Lib.pow10Tab) : Lib.TabIs Tryz.prog w' "internal/strconv.uint64pow10" .u64 Lib.pow10Tab := by
  unfold Lib.TabIs World.var? at ht ⊢
  rw [gPow] at ht ⊢
  simp only [Option.bind_some] at ht ⊢
  cases hh : W.heap[0]? with
  | none => rw [hh] at ht; cases ht
  | some o => rw [h 0 o hh]; rw [hh] at ht; exact ht
theorem iface_cell {n : String} {g : Nat} {nm : String} {d : DataW Unit} {r : List (String × DataW Unit)} {W : World} (hg : Tryz.prog.globalNamed n = some g) (ht : (Tryz.prog.globals[g]?).map (·.type) = some 200)
    (h : laidMet Tryz.prog ((n, .iface nm d) :: r) W) : ∃ te pe, W.cell? ⟨g, 0, none⟩ = some (.iface te pe) := by
  obtain ⟨ps, ⟨g0, t0, cs0, f0, p0, q0, hg0, ht0, hv0, hd0, _, e0⟩, _, hrows⟩ := h
  obtain rfl := Option.some.inj (hg.symm.trans hg0)
  obtain rfl := Option.some.inj (ht.symm.trans ht0)
  obtain ⟨l0⟩ := cs0
  obtain ⟨f1, u, v, hcs, _, _⟩ := iface_of_trod Tryz.underlying200 hd0
  have hcs' : l0 = [.iface u v] := hcs
  subst hcs'
  exact ⟨u, v, by simpa using World.var?_cell hg0 hv0 0⟩
/-- WHAT THE LISTED VARIABLES GIVE. -/
theorem libOk_of {W : World} (h0 : laidMetH Tryz.prog laidL W) : LibOk (snapOf W) := by
  have h := plainL W h0
  have hp : laidMet Tryz.prog (("internal/strconv.uint64pow10", Lib.tabData .u64 Lib.pow10Tab) :: [("strconv.ErrRange", Rows.laid_strconv_ErrRange), ("strconv.ErrSyntax", Rows.laid_strconv_ErrSyntax)]) W := by
    rw [← pow_data]; exact (laidMet.tail (laidMet.tail h))
  have t := Lib.tabIs_of_head gPow (by kernel_rfl) Tryz.underlying391 Tryz.underlying351 cells351 cells391 hp
  obtain ⟨te, pe, h2⟩ := iface_cell gRan tRan (laidMet.tail hp)
  obtain ⟨te', pe', h1⟩ := iface_cell gSyn tSyn (laidMet.tail (laidMet.tail hp))
  intro w' hw'
  refine ⟨tab_keep hw' t, ⟨te', pe', hw'.cell (by rw [snapOf_cell]; exact h1)⟩, ⟨te, pe, hw'.cell (by rw [snapOf_cell]; exact h2)⟩⟩
theorem own : ownKnob Tryz.prog.godebug = none := by kernel_rfl
theorem laidOut : laidOutB Tryz.prog = true := by kernel_rfl
theorem keep25 {H : Type} {enc : TypeId × Value → H} {W W' : World} {v : Value} {d : DataW H} {p : List MemPlace} (h : DataW.Trod enc Tryz.prog W 0 (fun _ => true) true 25 v d p) (hb : Below W.heap.size W W') (hl : ∀ x ∈ p, x.block < W.heap.size) :
    DataW.Trod enc Tryz.prog W' 0 (fun b => decide (b < W.heap.size)) true 25 v d p := Below.trod laidOut (by kernel_rfl) (of_decide_eq_true (by kernel_rfl)) h hb hl
set_option maxRecDepth 100000 in
/-- a condition that came in -/
theorem open_cn {H : Type} {enc : TypeId × Value → H} {W : World} {r : Reach} {base : Nat} {v : Value} {d : DataW H} {p : List MemPlace} (hv : Value.okWide Tryz.prog W r base 25 v) (h : DataW.Trod enc Tryz.prog W 0 (fun _ => true) true 25 v d p) :
    ∃ (e : Cn) (A B : Option Addr) (c dd : Nat), v = .agg #[.int .i64 e.op, .slice A e.a.length c, .slice B e.c.length dd] ∧ RepC (snapOf W) e [.int .i64 e.op, .slice A e.a.length c, .slice B e.c.length dd] ∧ e.size ≤ Rows.uptoBulk d := by
  obtain ⟨cs, rfl, _⟩ := Go.WideShapes.okWide_struct Tryz.underlying25 hv
  obtain ⟨fuel, hf⟩ := h
  obtain ⟨e, hr, hs⟩ := read_C fuel _ _ hf
  obtain ⟨A, c, B, dd, hcs, hc, hd, hrow, hrow2⟩ := hr.open_
  refine ⟨e, A, B, c, dd, ?_, RepC.close e A B c dd hc hd hrow hrow2, hs⟩
  have hcs' : cs.toList = _ := hcs
  rw [← Array.toArray_toList (xs := cs), hcs']
theorem u8_range {n : Int} (h : (Lit.int .u8 n).wf = true) : ∃ m : Nat, n = (m : Int) ∧ m < 256 := by
  have : 0 ≤ n ∧ n < 256 := by
    simp [Lit.wf, IntKind.min, IntKind.max, IntKind.bits, IntKind.signed] at h
    omega
  exact ⟨n.toNat, by omega, by omega⟩
set_option maxRecDepth 100000 in
/-- an edit that came in -/
theorem open_edit {H : Type} {enc : TypeId × Value → H} {W : World} {r : Reach} {base : Nat} {v : Value} {d : DataW H} {p : List MemPlace} (hv : Value.okWide Tryz.prog W r base 27 v) (h : DataW.Trod enc Tryz.prog W 0 (fun _ => true) true 27 v d p) :
    ∃ (v0 v1 : Value) (m b : Nat), v = .agg #[v0, v1, .int .u8 m, .int .u8 b] ∧ m < 256 ∧ b < 256 := by
  obtain ⟨v0, v1, v2, v3, y0, y1, y2, y3, n, rfl, _, _, _, _, h2, h3⟩ := Go.Joins.open_agg4 Tryz.underlying27 (by kernel_rfl) (by kernel_rfl) hv h
  obtain ⟨n2, e2, _, r2⟩ := DataW.trod_int Tryz.underlying5 h2
  obtain ⟨n3, e3, _, r3⟩ := DataW.trod_int Tryz.underlying5 h3
  cases e2; cases e3
  obtain ⟨m, rfl, hm⟩ := u8_range r2
  obtain ⟨b, rfl, hb⟩ := u8_range r3
  exact ⟨v0, v1, m, b, rfl, hm, hb⟩
end Go.Proofs.YtkopmnhngjbmcaaGreatDoor.Sn
/- The closed facts that every card asks, one theorem each (together they outgrow the kernel's memory). -/
namespace Go.Proofs.YtkopmnhngjbmcaaGreatDoor.Facts
open Go Go.RowKit
theorem andT {a b : Bool} (h : a = true) (k : b = true) : (a && b) = true := by rw [h, k]; rfl
theorem rowed : mapsRowed Tryz.prog = true := by kernel_rfl
theorem plainKeys : (Rows.predicateTextsUptoRow.plainKeys == Tryz.prog.plainKeys) = true := by kernel_rfl
theorem heard : Tryz.prog.stopsHeard = true := by kernel_rfl
theorem enters : Tryz.prog.mayEnter = true := by kernel_rfl
theorem lifted : (Rows.predicateTextsUptoRow.lifted == Tryz.prog.liftsFinal) = true := by kernel_rfl
end Go.Proofs.YtkopmnhngjbmcaaGreatDoor.Facts

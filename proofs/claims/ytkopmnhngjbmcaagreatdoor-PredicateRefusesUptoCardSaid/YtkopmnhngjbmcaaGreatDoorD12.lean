/- (parser.cond): what is said. -/
import Derived.Test.YtkopmnhngjbmcaaGreatDoorD11
namespace Go.Proofs.YtkopmnhngjbmcaaGreatDoor.Sn
open Go Go.RowKit
set_option linter.unusedVariables false
set_option linter.unusedSimpArgs false
theorem info25 : (Tryz.prog.info? 25).map (fun i => (i.zero, i.size, i.bytes)) = some (some (.agg #[.int .i64 0, .slice none 0 0, .slice none 0 0]), 3, 56) := by kernel_rfl
def zeroC : Array Value := #[.int .i64 0, .slice none 0 0, .slice none 0 0]
def cellsA (op : Int) (v : Value) : Array Value := #[.int .i64 op, v, .slice none 0 0]
def cellsK (op : Int) (v : Value) : Array Value := #[.int .i64 op, .slice none 0 0, v]
def PostC (S : Snap) (w : World) (g : Nat) (r : Option (Cn × List UInt8)) (en : Ending) (w' : World) : Prop :=
  match r with
  | some (e, t) => ∃ (cs : List Value) (S' : Snap), en = .returned (.agg cs.toArray) ∧ RepC S' e cs ∧ Out (some g) S w S' w' ∧ w'.heap[g]? = some (.cells (pcell t) 182 (0, 0))
  | none => en = wrongE ∧ w.grownBy w' (some g)
def CondAt (n : Nat) : Prop := ∀ (s : List UInt8), s.length < n → s.length ≤ 1073741824 → ∀ (S : Snap) (hL : LibOk S) (g : Nat) (w : World), Agr S w → S g = none → w.heap[g]? = some (.cells (pcell s) 182 (0, 0)) →
  Calls Tryz.prog 102 #[.pointer (some ⟨g, 0, none⟩)] w (PostC S w g (pC n s))
theorem op_rng {w : List UInt8} {op : Int} (h : opOf w = some op) : 4 ≤ op ∧ op ≤ 10 ∨ 102 ≤ op ∧ op ≤ 107 := (wtab_all _ (opOf_some h)).2.2.1
theorem pC_A (n : Nat) (s s0 : List UInt8) (op : Int) (hT : cutP [116, 114, 117, 101] s = none) (h : cutP [40] s = some s0) (hop : opOf (wordOf s0) = some op) (ho : op = 102 ∨ op = 103 ∨ op = 104) :
    pC (n + 1) s = (opsL (pE n) 2 (afterW s0)).bind fun x => (cutP [41] x.2).map fun s5 => (.mk (op - 100) x.1 [], s5) := by
  rw [pC, hT, h]
  simp only [opsL, Option.bind_some, hop]
  rw [if_pos ho]
  cases cutP [32] (afterW s0) with
  | none => rfl
  | some s1 =>
    simp only [Option.bind_some]
    cases pE n s1 with
    | none => rfl
    | some p =>
      simp only [Option.bind_some, Option.map_some]
      cases cutP [32] p.2 with
      | none => rfl
      | some s3 =>
        simp only [Option.bind_some]
        cases pE n s3 with
        | none => rfl
        | some q => rfl
theorem pC_1 (n : Nat) (s s0 : List UInt8) (op : Int) (hT : cutP [116, 114, 117, 101] s = none) (h : cutP [40] s = some s0) (hop : opOf (wordOf s0) = some op) (ho : op = 105) :
    pC (n + 1) s = (opsL (pC n) 1 (afterW s0)).bind fun x => (cutP [41] x.2).map fun s5 => (.mk (op - 100) [] x.1, s5) := by
  rw [pC, hT, h]
  simp only [opsL, Option.bind_some, hop]
  rw [if_neg (by omega), if_pos ho]
  subst ho
  cases cutP [32] (afterW s0) with
  | none => rfl
  | some s1 =>
    simp only [Option.bind_some]
    cases pC n s1 with
    | none => rfl
    | some p => rfl
theorem pC_2 (n : Nat) (s s0 : List UInt8) (op : Int) (hT : cutP [116, 114, 117, 101] s = none) (h : cutP [40] s = some s0) (hop : opOf (wordOf s0) = some op) (ho : op = 106 ∨ op = 107) :
    pC (n + 1) s = (opsL (pC n) 2 (afterW s0)).bind fun x => (cutP [41] x.2).map fun s5 => (.mk (op - 100) [] x.1, s5) := by
  rw [pC, hT, h]
  simp only [opsL, Option.bind_some, hop]
  rw [if_neg (by omega), if_neg (by omega), if_pos ho]
  cases cutP [32] (afterW s0) with
  | none => rfl
  | some s1 =>
    simp only [Option.bind_some]
    cases pC n s1 with
    | none => rfl
    | some p =>
      simp only [Option.bind_some, Option.map_some]
      cases cutP [32] p.2 with
      | none => rfl
      | some s3 =>
        simp only [Option.bind_some]
        cases pC n s3 with
        | none => rfl
        | some q => rfl
end Go.Proofs.YtkopmnhngjbmcaaGreatDoor.Sn

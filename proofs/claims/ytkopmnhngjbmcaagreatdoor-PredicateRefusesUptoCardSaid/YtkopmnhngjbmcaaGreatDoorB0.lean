/- A range over a function whose loop variable lies in a box. -/
import Derived.Test.YtkopmnhngjbmcaaGreatDoorA7
namespace Go.Proofs.YtkopmnhngjbmcaaGreatDoor.Sn
open Go Go.RowKit Go.Shelf
set_option linter.unusedVariables false
variable {F : Fence} {n : Nat} {P : Program} {w : World}
def BoxAct {α : Type} (ps : Array Tmp) (encs : α → Array Value) (a : Act) (slot : Nat) (t : TypeId) (cs : α → Array Value) (x : α) (a' : Act) (W : World) : Prop :=
  ∃ Bx, W.heap[Bx]? = some (.cells (cs x) t (0, 0)) ∧ a' = { tmps := ((ps.zip (encs x)).foldl (fun t (p, v) => t.setIfInBounds p v) a.tmps).setIfInBounds slot (.pointer (some ⟨Bx, 0, none⟩)), defers := [] }
theorem rangeFunc_boxed {α : Type} {g : Operand} {ps : Array Tmp} {assign body : Code} {Q : Exit → Act → World → Prop} {a : Act} {w : World}
    (hro : F.round = none) (h1 : 1 ≤ n) {gf : Nat} {lb : Array Value} (hg : a.eval g = .func (.func gf) #[] lb) (hFg : F.fn gf) (eg : ∀ args w, (callFunc gf args).run P w = .ok (.enter gf args) w)
    {encs : α → Array Value} {Kp : World → World → Prop} {S Sp : List α → Prop} {N : Nat} {w0 : World} (hseq : SeqStopsK F (n - 1) P gf lb encs Kp S Sp N w0)
    (hKt : ∀ {A B C : World}, Kp A B → Kp B C → Kp A C) (hKb : ∀ (W : World) (l : Nat) (o o' : Obj), w.heap.size ≤ l → W.heap[l]? = some o → o.isCells = false → o.isWalk = false → Kp W (W.putObj l o')) (hb0 : Below w0.heap.size w0 w) (hps : ∀ x, (encs x).size = ps.size)
    (I : List α → World → Prop) (Ix : Code → List α → World → Prop) (hI : OwnFrom w.heap.size I) (hIx : ∀ c, OwnFrom w.heap.size (Ix c)) (h0 : I [] w)
    (slot : Nat) (t : TypeId) (cs : α → Array Value)
    (hassign : ∀ (l : Nat) (pre : List α) (x : α) (W : World) (K : Act → World → Prop), I pre W → (∀ a' W', KeepsFrom w.heap.size W W' → Kp W W' → I pre W' → BoxAct ps encs a slot t cs x a' W' → K a' W') →
      assign.wpIn (F.inRound l) (n - 1 - 1) P (Exit.then K (fun _ _ _ => False)) { tmps := (ps.zip (encs x)).foldl (fun t (p, v) => t.setIfInBounds p v) a.tmps, defers := [] } W)
    (hbody : ∀ (l : Nat) (pre : List α) (x : α) (Bx : Nat) (W : World), w.heap.size ≤ l → (∃ r, W.heap[l]? = some (.loop r)) → I pre W → W.heap[Bx]? = some (.cells (cs x) t (0, 0)) → pre.length < N → body.wpIn (F.inRound l) (n - 1 - 1) P (ownPostG w.heap.size Kp I Ix (pre ++ [x]) W) { tmps := ((ps.zip (encs x)).foldl (fun t (p, v) => t.setIfInBounds p v) a.tmps).setIfInBounds slot (.pointer (some ⟨Bx, 0, none⟩)), defers := [] } W)
    (hdone : ∀ (D : Nat) (xs : List α) (W : World), w.heap.size ≤ D → S xs → I xs W → W.heap[D]? = some (.deferred (some [])) → Q .normal { a with defers := { target := .collected D, args := #[] } :: a.defers } W)
    (hstop : ∀ (D : Nat) (c : Code) (pre : List α) (W : World), w.heap.size ≤ D → Sp pre → Ix c pre W → W.heap[D]? = some (.deferred (some [])) → c.wpIn F n P Q { a with defers := { target := .collected D, args := #[] } :: a.defers } W) :
    (Code.rangeFunc g ps assign body).wpIn F n P Q a w :=
  wpIn_rangeFunc_ownH hro h1 hg hFg eg hseq hKt hKb hb0 hps I Ix hI hIx h0 (BoxAct ps encs a slot t cs)
    (fun x a' _ X Y row hs hg hr => by obtain ⟨Bx, e1, e2⟩ := hs; exact ⟨Bx, grown_blk hg e1 (fun e => by obtain ⟨_, o, ho, hc⟩ := hr Bx e.symm; rw [e1] at ho; cases ho; cases hc), e2⟩)
    hassign (fun l pre x a' W hl hr hi ⟨Bx, hb, ha⟩ hlt => by subst ha; exact hbody l pre x Bx W hl hr hi hb hlt) hdone hstop
/-- what is kept across a new block, and across a turn of one block that is no cells -/
theorem KeepsCells.below {W W' : World} (h : Below W.heap.size W W') : KeepsCells W W' := ⟨h.size, fun b c t f hb => below_blk h hb⟩
theorem KeepsCells.grown {W W' : World} {r : Nat} {o : Obj} (h : W.grownBy W' (some r)) (ho : W.heap[r]? = some o) (hc : o.isCells = false) : KeepsCells W W' :=
  ⟨h.size, fun b c t f hb => grown_blk h hb (fun e => by cases e; rw [ho] at hb; cases hb; cases hc)⟩
theorem KeepsCells.put (W : World) (l : Nat) (o o' : Obj) (ho : W.heap[l]? = some o) (hc : o.isCells = false) : KeepsCells W (W.putObj l o') := .grown (grownBy_putObj' W l o') ho hc
theorem KeepsFrom.below (B : Nat) {W W' : World} (h : Below W.heap.size W W') : KeepsFrom B W W' := ⟨h.size, fun k o _ hk _ => below_blk h hk⟩
theorem KeepsFrom.grown {B : Nat} {W W' : World} {r : Nat} (h : W.grownBy W' (some r)) (hr : r < B) : KeepsFrom B W W' := ⟨h.size, fun k o hk ho _ => grown_blk h ho (fun e => by cases e; omega)⟩
theorem ownFrom_agr {β : Type} {S : Snap} {w : World} {B : Nat} (hS : Agr S w) (hB : w.heap.size ≤ B) : OwnFrom B (fun (_ : β) W => Agr S W) := fun _ X Y row hs hg hr =>
  hs.grown hg (fun k e => hS.new (Nat.le_trans hB (hr k e).1))
theorem ownFrom_blk {β : Type} (B g : Nat) (cs : Array Value) (t : TypeId) : OwnFrom B (fun (_ : β) W => W.heap[g]? = some (Obj.cells cs t (0, 0))) := fun _ X Y row hs hg hr =>
  grown_blk hg hs (fun e => by obtain ⟨_, o, ho, hc⟩ := hr g e.symm; rw [hs] at ho; cases ho; cases hc)
theorem ownFrom_old {β : Type} {B g : Nat} (o : Obj) (p : β → Prop) (hg : g < B) : OwnFrom B (fun s W => p s → W.heap[g]? = some o) := fun s X Y row hs hgr hr hp =>
  grown_blk hgr (hs hp) (fun e => by have := (hr g e.symm).1; omega)
theorem prefix_get (l : List Value) (x : Value) (j : Nat) (u : Value) (h : l[j]? = some u) : ((l ++ [x]).toArray)[j]? = some u := by
  have hl : j < l.length := (List.getElem?_eq_some_iff.1 h).1
  simp only [List.getElem?_toArray]
  rw [List.getElem?_append_left hl]; exact h
theorem room_of_none {F : Fence} (hd : F.depth = none) (k : Nat) : F.room k := fun d h => by rw [hd] at h; cases h
theorem round_any {F : Fence} (hd : F.depth = none) {m m' : Nat} {P : Program} {l : Nat} {f : FuncId} {tmps : Array Value} {assign body : Code} {w : World} {R : Ending → World → Prop}
    (h : RoundIn F m P l f tmps assign body w R) : RoundIn F m' P l f tmps assign body w R := ⟨h.1, fun c cs _ => h.2 c cs (room_of_none hd _)⟩
theorem yield_any {F : Fence} (hd : F.depth = none) {m : Nat} (m' : Nat) {P : Program} {l : Nat} {args : Array Value} {W : World} {R : Ending → World → Prop} (h : YieldAt F m P l args W R) : YieldAt F m' P l args W R := by
  obtain ⟨fn, tmps, assign, body, hy, hR⟩ := h
  exact ⟨fn, tmps, assign, body, hy, round_any hd hR⟩
end Go.Proofs.YtkopmnhngjbmcaaGreatDoor.Sn

/- A SMALL LIBRARY: what lies in memory and never turns, told by a snapshot (blocks and what they hold); expressions and conditions as Lean trees. No statement is claimed here. -/
import Derived.Test.YtkopmnhngjbmcaaGreatDoorProg
import Derived.WalkKit
import Derived.WalkSpells
import Derived.WalkLawsBesides
import Derived.Recover
import Derived.Lib.Hide
import Derived.Deep.LoopGhost
import Derived.Deep.QuietTactic
import Derived.BigQuiet
import Derived.Deep.DeepCutAuto
import Derived.Deep.CutBlock
import Derived.Deep.RegionWith
import Derived.Deep.DeepFit
import Derived.Deep.MidRow
namespace Go.Proofs.YtkopmnhngjbmcaaGreatDoor.Sn
open Go Go.RowKit

/-! ### worlds -/
theorem blk_new (w : World) (o : Obj) : (w.alloc o).heap[w.heap.size]? = some o := heap_alloc_new w o
theorem blk_lt {w : World} {g : Nat} {o : Obj} (h : w.heap[g]? = some o) : g < w.heap.size := (Array.getElem?_eq_some_iff.1 h).1
theorem blk_cell {w : World} {g : Nat} {t : TypeId} {cs : Array Value} (h : w.heap[g]? = some (.cells cs t (0, 0))) (i : Nat) : w.cell? ⟨g, i, none⟩ = cs[i]? := cell_of_row w g i cs t (0, 0) h
theorem blk_frozen {w : World} {g : Nat} {t : TypeId} {cs : Array Value} (h : w.heap[g]? = some (.cells cs t (0, 0))) (i : Nat) : w.frozen? ⟨g, i, none⟩ = false := by simp [World.frozen?, h]
theorem blk_set {w : World} {g : Nat} {t : TypeId} {cs : Array Value} (h : w.heap[g]? = some (.cells cs t (0, 0))) (i : Nat) (u : Value) : (w.setCell ⟨g, i, none⟩ u).heap[g]? = some (.cells (cs.setIfInBounds i u) t (0, 0)) := by
  simp [World.setCell, Array.getElem?_modify, h]
theorem blk_far {w : World} {g : Nat} {o : Obj} (h : w.heap[g]? = some o) {p : Addr} (hp : g ≠ p.block) (u : Value) : (w.setCell p u).heap[g]? = some o := (Below.heap_setCell w p u g hp).trans h
theorem grown_refl (w : World) (row : Option Nat) : w.grownBy w row := ⟨rfl, rfl, rfl, Nat.le_refl _, fun _ _ _ => rfl⟩
theorem grown_trans {a b c : World} {row : Option Nat} (h : a.grownBy b row) (k : b.grownBy c row) : a.grownBy c row :=
  ⟨k.os.trans h.os, k.tape.trans h.tape, k.output.trans h.output, Nat.le_trans h.size k.size, fun i hi hr => (k.block i (Nat.lt_of_lt_of_le hi h.size) hr).trans (h.block i hi hr)⟩
theorem grown_below {w w' : World} {row : Option Nat} (h : Below w.heap.size w w') : w.grownBy w' row := ⟨h.os, h.tape, h.output, h.size, fun k hk _ => h.block k hk⟩
theorem below_grown {w w' : World} (h : w.grownBy w' none) : Below w.heap.size w w' := ⟨h.os, h.tape, h.output, h.size, fun k hk => h.block k hk (by simp)⟩
theorem grown_blk {w w' : World} {row : Option Nat} {g : Nat} {o : Obj} (h : w.grownBy w' row) (hb : w.heap[g]? = some o) (hr : some g ≠ row) : w'.heap[g]? = some o := (h.block g (blk_lt hb) hr).trans hb
theorem below_blk {w w' : World} {g : Nat} {o : Obj} (h : Below w.heap.size w w') (hb : w.heap[g]? = some o) : w'.heap[g]? = some o := (h.block g (blk_lt hb)).trans hb
theorem below_trans {a b c : World} (h : Below a.heap.size a b) (k : Below b.heap.size b c) : Below a.heap.size a c := h.trans (k.mono h.size)

/-! ### a snapshot -/
abbrev Snap := Nat → Option Obj
def Snap.cell (S : Snap) (a : Addr) : Option Value :=
  match S a.block with
  | some (.cells c _ _) => if a.spot.isSome then none else c[a.off]?
  | _ => none
/-- What the snapshot says stands in the world. -/
def Agr (S : Snap) (w : World) : Prop := ∀ b o, S b = some o → w.heap[b]? = some o
def SLe (S S' : Snap) : Prop := ∀ b o, S b = some o → S' b = some o
theorem SLe.refl (S : Snap) : SLe S S := fun _ _ h => h
theorem SLe.trans {S S' S'' : Snap} (h : SLe S S') (k : SLe S' S'') : SLe S S'' := fun b o hb => k b o (h b o hb)
section
variable {S S' : Snap} {w w' : World}
theorem Agr.cell (h : Agr S w) {a : Addr} {v : Value} (hc : S.cell a = some v) : w.cell? a = some v := by
  unfold Snap.cell at hc
  cases hs : S a.block with
  | none => simp [hs] at hc
  | some o =>
    rw [hs] at hc
    simp only [World.cell?, h _ _ hs]
    exact hc
theorem SLe.cell (h : SLe S S') {a : Addr} {v : Value} (hc : S.cell a = some v) : S'.cell a = some v := by
  unfold Snap.cell at hc ⊢
  cases hs : S a.block with
  | none => simp [hs] at hc
  | some o => rw [h _ _ hs]; rw [hs] at hc; exact hc
theorem Agr.lt (h : Agr S w) {b : Nat} (hb : S b ≠ none) : b < w.heap.size := by
  cases hs : S b with
  | none => exact absurd hs hb
  | some o => exact blk_lt (h b o hs)
theorem Agr.grown (h : Agr S w) {row : Option Nat} (hg : w.grownBy w' row) (hr : ∀ k, row = some k → S k = none) : Agr S w' := by
  intro b o hb
  refine grown_blk hg (h b o hb) ?_
  intro e
  have := hr b e.symm
  rw [hb] at this
  cases this
theorem Agr.below (h : Agr S w) (hb : Below w.heap.size w w') : Agr S w' := h.grown (grown_below (row := none) hb) (fun _ e => by cases e)
theorem Agr.set (h : Agr S w) {g j : Nat} (hg : S g = none) (u : Value) : Agr S (w.setCell ⟨g, j, none⟩ u) := by
  intro b o hb
  refine blk_far (h b o hb) ?_ u
  rintro rfl
  rw [hb] at hg
  cases hg
theorem Agr.alloc (h : Agr S w) (o : Obj) : Agr S (w.alloc o) := fun b o' hb => (Below.heap_alloc w o b (blk_lt (h b o' hb))).trans (h b o' hb)
theorem Agr.drewN (h : Agr S w) (n : Nat) : Agr S (w.drewN n) := h
theorem Agr.new (h : Agr S w) {b : Nat} (hb : w.heap.size ≤ b) : S b = none := by
  cases hs : S b with
  | none => rfl
  | some o => have := blk_lt (h b o hs); omega
end

/-- What a call has done: the snapshot has grown by blocks that are new; of the old blocks at most 'row' has turned. -/
structure Out (row : Option Nat) (S : Snap) (w : World) (S' : Snap) (w' : World) : Prop where
  le : SLe S S'
  agr : Agr S' w'
  new : ∀ b, S b = none → b < w.heap.size → S' b = none
  grown : w.grownBy w' row
theorem Out.refl {S : Snap} {w : World} (row : Option Nat) (h : Agr S w) : Out row S w S w := ⟨SLe.refl S, h, fun _ h _ => h, grown_refl w row⟩
theorem Out.trans {row : Option Nat} {S S' S'' : Snap} {w w' w'' : World} (h : Out row S w S' w') (k : Out row S' w' S'' w'') : Out row S w S'' w'' :=
  ⟨h.le.trans k.le, k.agr, fun b hb hl => k.new b (h.new b hb hl) (Nat.lt_of_lt_of_le hl h.grown.size), grown_trans h.grown k.grown⟩
theorem Out.of_grown {row : Option Nat} {S : Snap} {w w' : World} (h : Agr S w) (hg : w.grownBy w' row) (hr : ∀ k, row = some k → S k = none) : Out row S w S w' :=
  ⟨SLe.refl S, h.grown hg hr, fun _ h _ => h, hg⟩
theorem Out.below {S S' : Snap} {w w' : World} (h : Out none S w S' w') : Below w.heap.size w w' := below_grown h.grown
theorem Out.blk {row : Option Nat} {S S' : Snap} {w w' : World} (h : Out row S w S' w') {g : Nat} {o : Obj} (hb : w.heap[g]? = some o) (hr : some g ≠ row) : w'.heap[g]? = some o := grown_blk h.grown hb hr
/-- a block of one's own joins the snapshot -/
def Snap.add (S : Snap) (g : Nat) (o : Obj) : Snap := fun b => if b = g then some o else S b
theorem Snap.le_add {S : Snap} {g : Nat} (o : Obj) (h : S g = none) : SLe S (S.add g o) := by
  intro b o' hb
  unfold Snap.add
  by_cases e : b = g
  · subst e; rw [h] at hb; cases hb
  · rw [if_neg e]; exact hb
theorem Agr.add {S : Snap} {w : World} (h : Agr S w) {g : Nat} {o : Obj} (hg : w.heap[g]? = some o) : Agr (S.add g o) w := by
  intro b o' hb
  unfold Snap.add at hb
  by_cases e : b = g
  · subst e; rw [if_pos rfl] at hb; cases hb; exact hg
  · rw [if_neg e] at hb; exact h b o' hb
theorem Snap.cell_add {S : Snap} {g i : Nat} {cs : Array Value} {t : TypeId} {f : Nat × Nat} : (S.add g (.cells cs t f)).cell ⟨g, i, none⟩ = cs[i]? := by
  simp [Snap.cell, Snap.add]

/-! ### addresses in a row -/
theorem add_field (ad : Addr) (m j : Nat) (hj : 0 < j) : ad.add (m + j) = ⟨(ad.add m).block, (ad.add m).off + j, none⟩ := by
  unfold Addr.add
  rw [if_neg (by omega)]
  split
  · rename_i h; subst h; simp
  · simp [Nat.add_assoc]
theorem add_plain (g j : Nat) : (⟨g, 0, none⟩ : Addr).add j = ⟨g, j, none⟩ := by unfold Addr.add; split <;> simp_all

/-! ### a row of elements -/
/-- 'xs' lie at A, each of 'sz' cells, as R tells. -/
def Row {α : Type} (S : Snap) (R : α → List Value → Prop) (sz : Nat) (A : Option Addr) (xs : List α) : Prop :=
  ∀ i x, xs[i]? = some x → ∃ cs : List Value, cs.length = sz ∧ R x cs ∧ ∃ a, A = some a ∧ ∀ j u, cs[j]? = some u → S.cell (a.add (i * sz + j)) = some u
theorem Row.nil {α : Type} (S : Snap) (R : α → List Value → Prop) (sz : Nat) (A : Option Addr) : Row S R sz A [] := fun i x h => by simp at h
theorem Row.mono {α : Type} {S S' : Snap} {R R' : α → List Value → Prop} {sz : Nat} {A : Option Addr} {xs : List α} (h : Row S R sz A xs) (hS : SLe S S') (hR : ∀ x cs, x ∈ xs → R x cs → R' x cs) : Row S' R' sz A xs := by
  intro i x hx
  obtain ⟨cs, hl, hr, a, ha, hc⟩ := h i x hx
  exact ⟨cs, hl, hR x cs (List.mem_of_getElem? hx) hr, a, ha, fun j u hj => hS.cell (hc j u hj)⟩

/-! ### expressions and conditions -/
inductive Ex where
  | mk (op n v : Int) (a : List Ex)
inductive Cn where
  | mk (op : Int) (a : List Ex) (c : List Cn)
def Ex.op : Ex → Int | .mk o _ _ _ => o
def Ex.n : Ex → Int | .mk _ n _ _ => n
def Ex.v : Ex → Int | .mk _ _ v _ => v
def Ex.a : Ex → List Ex | .mk _ _ _ a => a
def Cn.op : Cn → Int | .mk o _ _ => o
def Cn.a : Cn → List Ex | .mk _ a _ => a
def Cn.c : Cn → List Cn | .mk _ _ c => c
def Ex.zero : Ex := .mk 0 0 0 []
def Cn.zero : Cn := .mk 0 [] []

inductive RepE (S : Snap) : Ex → List Value → Prop where
  | mk (op n v : Int) (xs : List Ex) (A : Option Addr) (c : Nat) (f : Nat → List Value) (hc : xs.length ≤ c) (hl : ∀ i, (f i).length = 4)
      (hr : ∀ i x, xs[i]? = some x → RepE S x (f i))
      (ha : ∀ i j u, i < xs.length → (f i)[j]? = some u → ∃ a, A = some a ∧ S.cell (a.add (i * 4 + j)) = some u) :
      RepE S (.mk op n v xs) [.int .i64 op, .int .i64 n, .int .i64 v, .slice A xs.length c]
inductive RepC (S : Snap) : Cn → List Value → Prop where
  | mk (op : Int) (xs : List Ex) (ys : List Cn) (A B : Option Addr) (c d : Nat) (f : Nat → List Value) (hc : xs.length ≤ c) (hd : ys.length ≤ d)
      (hx : Row S (RepE S) 4 A xs) (hl : ∀ i, (f i).length = 3)
      (hr : ∀ i y, ys[i]? = some y → RepC S y (f i))
      (hb : ∀ i j u, i < ys.length → (f i)[j]? = some u → ∃ a, B = some a ∧ S.cell (a.add (i * 3 + j)) = some u) :
      RepC S (.mk op xs ys) [.int .i64 op, .slice A xs.length c, .slice B ys.length d]
theorem row_of {α : Type} {S : Snap} {R : α → List Value → Prop} {sz : Nat} {A : Option Addr} {xs : List α} {f : Nat → List Value} (h0 : 0 < sz) (hl : ∀ i, (f i).length = sz)
    (hr : ∀ i x, xs[i]? = some x → R x (f i)) (ha : ∀ i j u, i < xs.length → (f i)[j]? = some u → ∃ a, A = some a ∧ S.cell (a.add (i * sz + j)) = some u) : Row S R sz A xs := by
  intro i x hx
  have hi : i < xs.length := (List.getElem?_eq_some_iff.1 hx).1
  have h0' : 0 < (f i).length := by rw [hl i]; exact h0
  obtain ⟨a, hA, _⟩ := ha i 0 (f i)[0] hi (by simp [h0'])
  refine ⟨f i, hl i, hr i x hx, a, hA, fun j u hj => ?_⟩
  obtain ⟨a', hA', h⟩ := ha i j u hi hj
  rw [hA] at hA'
  cases hA'
  exact h
theorem of_row {α : Type} {S : Snap} {R : α → List Value → Prop} {sz : Nat} {A : Option Addr} {xs : List α} (h : Row S R sz A xs) :
    ∃ f : Nat → List Value, (∀ i, (f i).length = sz) ∧ (∀ i x, xs[i]? = some x → R x (f i)) ∧ ∀ i j u, i < xs.length → (f i)[j]? = some u → ∃ a, A = some a ∧ S.cell (a.add (i * sz + j)) = some u := by
  have h' : ∀ i, ∃ cs : List Value, cs.length = sz ∧ (∀ x, xs[i]? = some x → R x cs) ∧ ∀ j u, i < xs.length → cs[j]? = some u → ∃ a, A = some a ∧ S.cell (a.add (i * sz + j)) = some u := by
    intro i
    by_cases hi : i < xs.length
    · obtain ⟨cs, hl, hr, a, ha, hc⟩ := h i xs[i] (by simp [hi])
      exact ⟨cs, hl, fun x hx => (by rw [List.getElem?_eq_getElem hi] at hx; cases hx; exact hr), fun j u _ hj => ⟨a, ha, hc j u hj⟩⟩
    · exact ⟨List.replicate sz (.bool false), by simp, fun x hx => (by rw [List.getElem?_eq_none (by omega)] at hx; cases hx), fun j u hi' => absurd hi' hi⟩
  exact ⟨fun i => Classical.choose (h' i), fun i => (Classical.choose_spec (h' i)).1, fun i => (Classical.choose_spec (h' i)).2.1, fun i j u => (Classical.choose_spec (h' i)).2.2 j u⟩

theorem RepE.open_ {S : Snap} {e : Ex} {cs : List Value} (h : RepE S e cs) :
    ∃ A c, cs = [.int .i64 e.op, .int .i64 e.n, .int .i64 e.v, .slice A e.a.length c] ∧ e.a.length ≤ c ∧ Row S (RepE S) 4 A e.a := by
  cases h with
  | mk op n v xs A c f hc hl hr ha => exact ⟨A, c, rfl, hc, row_of (by decide) hl hr ha⟩
theorem RepE.close {S : Snap} (e : Ex) (A : Option Addr) (c : Nat) (hc : e.a.length ≤ c) (h : Row S (RepE S) 4 A e.a) : RepE S e [.int .i64 e.op, .int .i64 e.n, .int .i64 e.v, .slice A e.a.length c] := by
  obtain ⟨op, n, v, xs⟩ := e
  obtain ⟨f, hl, hr, ha⟩ := of_row h
  exact RepE.mk op n v xs A c f hc hl hr ha
theorem RepE.mono {S S' : Snap} (hS : SLe S S') {e : Ex} {cs : List Value} (h : RepE S e cs) : RepE S' e cs := by
  induction h with
  | mk op n v xs A c f hc hl hr ha ih =>
    exact RepE.mk op n v xs A c f hc hl ih (fun i j u hi hj => let ⟨a, h1, h2⟩ := ha i j u hi hj; ⟨a, h1, hS.cell h2⟩)
theorem RowE.mono {S S' : Snap} (hS : SLe S S') {A : Option Addr} {xs : List Ex} (h : Row S (RepE S) 4 A xs) : Row S' (RepE S') 4 A xs := h.mono hS fun _ _ _ h => h.mono hS
theorem RepC.open_ {S : Snap} {e : Cn} {cs : List Value} (h : RepC S e cs) :
    ∃ A c B d, cs = [.int .i64 e.op, .slice A e.a.length c, .slice B e.c.length d] ∧ e.a.length ≤ c ∧ e.c.length ≤ d ∧ Row S (RepE S) 4 A e.a ∧ Row S (RepC S) 3 B e.c := by
  cases h with
  | mk op xs ys A B c d f hc hd hx hl hr hb => exact ⟨A, c, B, d, rfl, hc, hd, hx, row_of (by decide) hl hr hb⟩
theorem RepC.close {S : Snap} (e : Cn) (A B : Option Addr) (c d : Nat) (hc : e.a.length ≤ c) (hd : e.c.length ≤ d) (h : Row S (RepE S) 4 A e.a) (k : Row S (RepC S) 3 B e.c) :
    RepC S e [.int .i64 e.op, .slice A e.a.length c, .slice B e.c.length d] := by
  obtain ⟨op, xs, ys⟩ := e
  obtain ⟨f, hl, hr, ha⟩ := of_row k
  exact RepC.mk op xs ys A B c d f hc hd h hl hr ha
theorem RepC.mono {S S' : Snap} (hS : SLe S S') {e : Cn} {cs : List Value} (h : RepC S e cs) : RepC S' e cs := by
  induction h with
  | mk op xs ys A B c d f hc hd hx hl hr hb ih =>
    exact RepC.mk op xs ys A B c d f hc hd (RowE.mono hS hx) hl ih (fun i j u hi hj => let ⟨a, h1, h2⟩ := hb i j u hi hj; ⟨a, h1, hS.cell h2⟩)
theorem RowC.mono {S S' : Snap} (hS : SLe S S') {A : Option Addr} {xs : List Cn} (h : Row S (RepC S) 3 A xs) : Row S' (RepC S') 3 A xs := h.mono hS fun _ _ _ h => h.mono hS

theorem add_add (ad : Addr) (m j : Nat) : (ad.add m).add j = ad.add (m + j) := by
  unfold Addr.add
  by_cases hm : m = 0
  · subst hm; simp
  · by_cases hj : j = 0
    · subst hj; simp
    · rw [if_neg hm, if_neg hj, if_neg (by omega)]; simp [Nat.add_assoc]
/-- element k of a row of expressions, whole -/
theorem RowE.whole {S : Snap} {w : World} (hw : Agr S w) {A : Option Addr} {xs : List Ex} (h : Row S (RepE S) 4 A xs) (k : Nat) (x : Ex) (hx : xs[k]? = some x) :
    ∃ ad A3 c3, A = some ad ∧ Hid (∀ j u, [Value.int .i64 x.op, .int .i64 x.n, .int .i64 x.v, .slice A3 x.a.length c3][j]? = some u → w.cell? ((ad.add (k * 4)).add j) = some u) ∧
      Hid (RepE S x [.int .i64 x.op, .int .i64 x.n, .int .i64 x.v, .slice A3 x.a.length c3]) := by
  obtain ⟨cs, _, hr, a, ha, hc⟩ := h k x hx
  obtain ⟨A3, c3, rfl, hle, hrow⟩ := hr.open_
  exact ⟨a, A3, c3, ha, fun j u hj => by rw [add_add]; exact hw.cell (hc j u hj), RepE.close x A3 c3 hle hrow⟩
theorem RowC.whole {S : Snap} {w : World} (hw : Agr S w) {A : Option Addr} {xs : List Cn} (h : Row S (RepC S) 3 A xs) (k : Nat) (x : Cn) (hx : xs[k]? = some x) :
    ∃ ad A1 c1 A2 c2, A = some ad ∧ Hid (∀ j u, [Value.int .i64 x.op, .slice A1 x.a.length c1, .slice A2 x.c.length c2][j]? = some u → w.cell? ((ad.add (k * 3)).add j) = some u) ∧
      Hid (RepC S x [.int .i64 x.op, .slice A1 x.a.length c1, .slice A2 x.c.length c2]) := by
  obtain ⟨cs, _, hr, a, ha, hc⟩ := h k x hx
  obtain ⟨A1, c1, A2, c2, rfl, h1, h2, hrow, hrow2⟩ := hr.open_
  exact ⟨a, A1, c1, A2, c2, ha, fun j u hj => by rw [add_add]; exact hw.cell (hc j u hj), RepC.close x A1 A2 c1 c2 h1 h2 hrow hrow2⟩

/-- element i of a row of expressions, cell by cell -/
theorem RowE.at_ {S : Snap} {w : World} (hw : Agr S w) {A : Option Addr} {xs : List Ex} (h : Row S (RepE S) 4 A xs) (k : Nat) (x : Ex) (hx : xs[k]? = some x) :
    ∃ ad A3 c3, A = some ad ∧ w.cell? (ad.add (k * 4)) = some (.int .i64 x.op) ∧ w.cell? ⟨(ad.add (k * 4)).block, (ad.add (k * 4)).off + 1, none⟩ = some (.int .i64 x.n) ∧
      w.cell? ⟨(ad.add (k * 4)).block, (ad.add (k * 4)).off + 2, none⟩ = some (.int .i64 x.v) ∧ w.cell? ⟨(ad.add (k * 4)).block, (ad.add (k * 4)).off + 3, none⟩ = some (.slice A3 x.a.length c3) ∧
      RepE S x [.int .i64 x.op, .int .i64 x.n, .int .i64 x.v, .slice A3 x.a.length c3] := by
  obtain ⟨cs, _, hr, a, ha, hc⟩ := h k x hx
  obtain ⟨A3, c3, rfl, hle, hrow⟩ := hr.open_
  exact ⟨a, A3, c3, ha, hw.cell (hc 0 _ rfl), hw.cell (by rw [← add_field _ _ 1 (by omega)]; exact hc 1 _ rfl), hw.cell (by rw [← add_field _ _ 2 (by omega)]; exact hc 2 _ rfl),
    hw.cell (by rw [← add_field _ _ 3 (by omega)]; exact hc 3 _ rfl), RepE.close x A3 c3 hle hrow⟩
theorem RowC.at_ {S : Snap} {w : World} (hw : Agr S w) {A : Option Addr} {xs : List Cn} (h : Row S (RepC S) 3 A xs) (k : Nat) (x : Cn) (hx : xs[k]? = some x) :
    ∃ ad A1 c1 A2 c2, A = some ad ∧ w.cell? (ad.add (k * 3)) = some (.int .i64 x.op) ∧ w.cell? ⟨(ad.add (k * 3)).block, (ad.add (k * 3)).off + 1, none⟩ = some (.slice A1 x.a.length c1) ∧
      w.cell? ⟨(ad.add (k * 3)).block, (ad.add (k * 3)).off + 2, none⟩ = some (.slice A2 x.c.length c2) ∧
      RepC S x [.int .i64 x.op, .slice A1 x.a.length c1, .slice A2 x.c.length c2] := by
  obtain ⟨cs, _, hr, a, ha, hc⟩ := h k x hx
  obtain ⟨A1, c1, A2, c2, rfl, h1, h2, hrow, hrow2⟩ := hr.open_
  exact ⟨a, A1, c1, A2, c2, ha, hw.cell (hc 0 _ rfl), hw.cell (by rw [← add_field _ _ 1 (by omega)]; exact hc 1 _ rfl), hw.cell (by rw [← add_field _ _ 2 (by omega)]; exact hc 2 _ rfl),
    RepC.close x A1 A2 c1 c2 h1 h2 hrow hrow2⟩

/-! ### steps of a walk that name a new world -/
section
variable {P : Program} {ops : Array Oper} {rest : List Oper} {o : Oper} {a : Act} {Q : Exit → Act → World → Prop}
theorem gate_dst {W : World} {N : Tmp} (_hN : o.dst = some N) (h : wpList P ops Q (o :: rest) a W) : wpList P ops Q (o :: rest) a W := h
theorem event_run {W w1 : World} {v : Value} (hgd : o.guard = none) (hrun : (execOp a.eval o).run P W = .ok (.value v) w1) (h : wpList P ops Q rest (a.put o.dst v) w1) : wpList P ops Q (o :: rest) a W := by
  refine wpList_plain hgd fun K hK => ?_
  unfold Oper.wp
  rw [hrun]
  exact hK _ _ h
/-- A new block of cells gets a name, and so does the world. -/
theorem box_event {W : World} (hgd : o.guard = none) {N : Tmp} (_hd : o.dst = some N) {cs : Array Value} {t : TypeId}
    (hrun : (execOp a.eval o).run P W = .ok (.value (.pointer (some ⟨W.heap.size, 0, none⟩))) (W.alloc (.cells cs t (0, 0))))
    (h : ∀ g, g = W.heap.size → ∀ w1, w1.heap[g]? = some (.cells cs t (0, 0)) → Below W.heap.size W w1 → wpList P ops Q rest (a.put o.dst (.pointer (some ⟨g, 0, none⟩))) w1) : wpList P ops Q (o :: rest) a W :=
  event_run hgd hrun (h _ rfl _ (blk_new W _) ((Below.refl _ _).alloc (Nat.le_refl _) _))
theorem box1 {W : World} (hgd : o.guard = none) {N : Tmp} (_hd : o.dst = some N) (a0 : Value) (t : TypeId)
    (hrun : (execOp a.eval o).run P W = .ok (.value (.pointer (some ⟨W.heap.size, 0, none⟩))) (W.alloc (.cells #[a0] t (0, 0))))
    (h : ∀ g w1, Hid (g = W.heap.size) → Hid (w1.heap[g]? = some (.cells #[a0] t (0, 0))) → Hid (Below W.heap.size W w1) → w1.cell? ⟨g, 0, none⟩ = some a0 → wpList P ops Q rest (a.put o.dst (.pointer (some ⟨g, 0, none⟩))) w1) : wpList P ops Q (o :: rest) a W :=
  event_run hgd hrun (h _ _ rfl (blk_new W _) ((Below.refl _ _).alloc (Nat.le_refl _) _) ((blk_cell (blk_new W _) 0).trans rfl))
theorem box2 {W : World} (hgd : o.guard = none) {N : Tmp} (_hd : o.dst = some N) (a0 a1 : Value) (t : TypeId)
    (hrun : (execOp a.eval o).run P W = .ok (.value (.pointer (some ⟨W.heap.size, 0, none⟩))) (W.alloc (.cells #[a0, a1] t (0, 0))))
    (h : ∀ g w1, Hid (g = W.heap.size) → Hid (w1.heap[g]? = some (.cells #[a0, a1] t (0, 0))) → Hid (Below W.heap.size W w1) → w1.cell? ⟨g, 0, none⟩ = some a0 → w1.cell? ⟨g, 1, none⟩ = some a1 → wpList P ops Q rest (a.put o.dst (.pointer (some ⟨g, 0, none⟩))) w1) : wpList P ops Q (o :: rest) a W :=
  event_run hgd hrun (h _ _ rfl (blk_new W _) ((Below.refl _ _).alloc (Nat.le_refl _) _) ((blk_cell (blk_new W _) 0).trans rfl) ((blk_cell (blk_new W _) 1).trans rfl))
theorem box3 {W : World} (hgd : o.guard = none) {N : Tmp} (_hd : o.dst = some N) (a0 a1 a2 : Value) (t : TypeId)
    (hrun : (execOp a.eval o).run P W = .ok (.value (.pointer (some ⟨W.heap.size, 0, none⟩))) (W.alloc (.cells #[a0, a1, a2] t (0, 0))))
    (h : ∀ g w1, Hid (g = W.heap.size) → Hid (w1.heap[g]? = some (.cells #[a0, a1, a2] t (0, 0))) → Hid (Below W.heap.size W w1) → w1.cell? ⟨g, 0, none⟩ = some a0 → w1.cell? ⟨g, 1, none⟩ = some a1 → w1.cell? ⟨g, 2, none⟩ = some a2 → wpList P ops Q rest (a.put o.dst (.pointer (some ⟨g, 0, none⟩))) w1) : wpList P ops Q (o :: rest) a W :=
  event_run hgd hrun (h _ _ rfl (blk_new W _) ((Below.refl _ _).alloc (Nat.le_refl _) _) ((blk_cell (blk_new W _) 0).trans rfl) ((blk_cell (blk_new W _) 1).trans rfl) ((blk_cell (blk_new W _) 2).trans rfl))
theorem box4 {W : World} (hgd : o.guard = none) {N : Tmp} (_hd : o.dst = some N) (a0 a1 a2 a3 : Value) (t : TypeId)
    (hrun : (execOp a.eval o).run P W = .ok (.value (.pointer (some ⟨W.heap.size, 0, none⟩))) (W.alloc (.cells #[a0, a1, a2, a3] t (0, 0))))
    (h : ∀ g w1, Hid (g = W.heap.size) → Hid (w1.heap[g]? = some (.cells #[a0, a1, a2, a3] t (0, 0))) → Hid (Below W.heap.size W w1) → w1.cell? ⟨g, 0, none⟩ = some a0 → w1.cell? ⟨g, 1, none⟩ = some a1 → w1.cell? ⟨g, 2, none⟩ = some a2 → w1.cell? ⟨g, 3, none⟩ = some a3 → wpList P ops Q rest (a.put o.dst (.pointer (some ⟨g, 0, none⟩))) w1) : wpList P ops Q (o :: rest) a W :=
  event_run hgd hrun (h _ _ rfl (blk_new W _) ((Below.refl _ _).alloc (Nat.le_refl _) _) ((blk_cell (blk_new W _) 0).trans rfl) ((blk_cell (blk_new W _) 1).trans rfl) ((blk_cell (blk_new W _) 2).trans rfl) ((blk_cell (blk_new W _) 3).trans rfl))
theorem box12 {W : World} (hgd : o.guard = none) {N : Tmp} (_hd : o.dst = some N) (a0 a1 a2 a3 a4 a5 a6 a7 a8 a9 a10 a11 : Value) (t : TypeId)
    (hrun : (execOp a.eval o).run P W = .ok (.value (.pointer (some ⟨W.heap.size, 0, none⟩))) (W.alloc (.cells #[a0, a1, a2, a3, a4, a5, a6, a7, a8, a9, a10, a11] t (0, 0))))
    (h : ∀ g w1, Hid (g = W.heap.size) → Hid (w1.heap[g]? = some (.cells #[a0, a1, a2, a3, a4, a5, a6, a7, a8, a9, a10, a11] t (0, 0))) → Hid (Below W.heap.size W w1) → w1.cell? ⟨g, 0, none⟩ = some a0 → w1.cell? ⟨g, 1, none⟩ = some a1 → w1.cell? ⟨g, 2, none⟩ = some a2 → w1.cell? ⟨g, 3, none⟩ = some a3 → w1.cell? ⟨g, 4, none⟩ = some a4 → w1.cell? ⟨g, 5, none⟩ = some a5 → w1.cell? ⟨g, 6, none⟩ = some a6 → w1.cell? ⟨g, 7, none⟩ = some a7 → w1.cell? ⟨g, 8, none⟩ = some a8 → w1.cell? ⟨g, 9, none⟩ = some a9 → w1.cell? ⟨g, 10, none⟩ = some a10 → w1.cell? ⟨g, 11, none⟩ = some a11 → wpList P ops Q rest (a.put o.dst (.pointer (some ⟨g, 0, none⟩))) w1) : wpList P ops Q (o :: rest) a W :=
  event_run hgd hrun (h _ _ rfl (blk_new W _) ((Below.refl _ _).alloc (Nat.le_refl _) _) ((blk_cell (blk_new W _) 0).trans rfl) ((blk_cell (blk_new W _) 1).trans rfl) ((blk_cell (blk_new W _) 2).trans rfl) ((blk_cell (blk_new W _) 3).trans rfl) ((blk_cell (blk_new W _) 4).trans rfl) ((blk_cell (blk_new W _) 5).trans rfl) ((blk_cell (blk_new W _) 6).trans rfl) ((blk_cell (blk_new W _) 7).trans rfl) ((blk_cell (blk_new W _) 8).trans rfl) ((blk_cell (blk_new W _) 9).trans rfl) ((blk_cell (blk_new W _) 10).trans rfl) ((blk_cell (blk_new W _) 11).trans rfl))
theorem box19 {W : World} (hgd : o.guard = none) {N : Tmp} (_hd : o.dst = some N) (a0 a1 a2 a3 a4 a5 a6 a7 a8 a9 a10 a11 a12 a13 a14 a15 a16 a17 a18 : Value) (t : TypeId)
    (hrun : (execOp a.eval o).run P W = .ok (.value (.pointer (some ⟨W.heap.size, 0, none⟩))) (W.alloc (.cells #[a0, a1, a2, a3, a4, a5, a6, a7, a8, a9, a10, a11, a12, a13, a14, a15, a16, a17, a18] t (0, 0))))
    (h : ∀ g w1, Hid (g = W.heap.size) → Hid (w1.heap[g]? = some (.cells #[a0, a1, a2, a3, a4, a5, a6, a7, a8, a9, a10, a11, a12, a13, a14, a15, a16, a17, a18] t (0, 0))) → Hid (Below W.heap.size W w1) → w1.cell? ⟨g, 0, none⟩ = some a0 → w1.cell? ⟨g, 1, none⟩ = some a1 → w1.cell? ⟨g, 2, none⟩ = some a2 → w1.cell? ⟨g, 3, none⟩ = some a3 → w1.cell? ⟨g, 4, none⟩ = some a4 → w1.cell? ⟨g, 5, none⟩ = some a5 → w1.cell? ⟨g, 6, none⟩ = some a6 → w1.cell? ⟨g, 7, none⟩ = some a7 → w1.cell? ⟨g, 8, none⟩ = some a8 → w1.cell? ⟨g, 9, none⟩ = some a9 → w1.cell? ⟨g, 10, none⟩ = some a10 → w1.cell? ⟨g, 11, none⟩ = some a11 → w1.cell? ⟨g, 12, none⟩ = some a12 → w1.cell? ⟨g, 13, none⟩ = some a13 → w1.cell? ⟨g, 14, none⟩ = some a14 → w1.cell? ⟨g, 15, none⟩ = some a15 → w1.cell? ⟨g, 16, none⟩ = some a16 → w1.cell? ⟨g, 17, none⟩ = some a17 → w1.cell? ⟨g, 18, none⟩ = some a18 → wpList P ops Q rest (a.put o.dst (.pointer (some ⟨g, 0, none⟩))) w1) : wpList P ops Q (o :: rest) a W :=
  event_run hgd hrun (h _ _ rfl (blk_new W _) ((Below.refl _ _).alloc (Nat.le_refl _) _) ((blk_cell (blk_new W _) 0).trans rfl) ((blk_cell (blk_new W _) 1).trans rfl) ((blk_cell (blk_new W _) 2).trans rfl) ((blk_cell (blk_new W _) 3).trans rfl) ((blk_cell (blk_new W _) 4).trans rfl) ((blk_cell (blk_new W _) 5).trans rfl) ((blk_cell (blk_new W _) 6).trans rfl) ((blk_cell (blk_new W _) 7).trans rfl) ((blk_cell (blk_new W _) 8).trans rfl) ((blk_cell (blk_new W _) 9).trans rfl) ((blk_cell (blk_new W _) 10).trans rfl) ((blk_cell (blk_new W _) 11).trans rfl) ((blk_cell (blk_new W _) 12).trans rfl) ((blk_cell (blk_new W _) 13).trans rfl) ((blk_cell (blk_new W _) 14).trans rfl) ((blk_cell (blk_new W _) 15).trans rfl) ((blk_cell (blk_new W _) 16).trans rfl) ((blk_cell (blk_new W _) 17).trans rfl) ((blk_cell (blk_new W _) 18).trans rfl))
theorem skip_run {W w1 : World} (hgd : o.guard = none) (hN : o.dst = none) (hrun : (execOp a.eval o).run P W = .ok .skip w1) (h : wpList P ops Q rest a w1) : wpList P ops Q (o :: rest) a W := by
  refine wpList_plain hgd fun K hK => ?_
  unfold Oper.wp
  rw [hrun]
  show K (a.put o.dst undef) w1
  rw [hN]
  exact hK _ _ h
theorem grown_set {W w : World} {g : Nat} (h : W.grownBy w (some g)) (j : Nat) (u : Value) : W.grownBy (w.setCell ⟨g, j, none⟩ u) (some g) :=
  ⟨h.os, h.tape, h.output, by simpa [World.setCell] using h.size, fun k hk hr => (Below.heap_setCell w ⟨g, j, none⟩ u k (fun e => hr (by rw [e]))).trans (h.block k hk hr)⟩
theorem gate_store {W : World} {t : TypeId} {p : Tmp} {v : Operand} (_ho : o.op = .store t (.tmp p) v) (h : wpList P ops Q (o :: rest) a W) : wpList P ops Q (o :: rest) a W := h
theorem below_grown_new {w W w1 : World} {g : Nat} (h : Below w.heap.size w W) (hg : W.grownBy w1 (some g)) (hn : w.heap.size ≤ g) : Below w.heap.size w w1 :=
  h.grown hg h.size (fun k e => by cases e; exact hn)
theorem store1 {W : World} (hgd : o.guard = none) (hN : o.dst = none) (g : Nat) (t : TypeId) {b0 : Value} (a0 : Value) (HB : W.heap[g]? = some (.cells #[b0] t (0, 0)))
    (hrun : (execOp a.eval o).run P W = .ok .skip (W.setCell ⟨g, 0, none⟩ a0))
    (h : ∀ w1, Hid (w1.heap[g]? = some (.cells #[a0] t (0, 0))) → Hid (W.grownBy w1 (some g)) → w1.cell? ⟨g, 0, none⟩ = some a0 → wpList P ops Q rest a w1) : wpList P ops Q (o :: rest) a W := by
  have hb : ((W.setCell ⟨g, 0, none⟩ a0)).heap[g]? = some (.cells #[a0] t (0, 0)) := (blk_set HB 0 a0)
  refine skip_run hgd hN hrun (h _ hb (grown_set (grown_refl W (some g)) 0 a0) ((blk_cell hb 0).trans rfl))
theorem store2 {W : World} (hgd : o.guard = none) (hN : o.dst = none) (g : Nat) (t : TypeId) {b0 b1 : Value} (a0 a1 : Value) (HB : W.heap[g]? = some (.cells #[b0, b1] t (0, 0)))
    (hrun : (execOp a.eval o).run P W = .ok .skip ((W.setCell ⟨g, 0, none⟩ a0).setCell ⟨g, 1, none⟩ a1))
    (h : ∀ w1, Hid (w1.heap[g]? = some (.cells #[a0, a1] t (0, 0))) → Hid (W.grownBy w1 (some g)) → w1.cell? ⟨g, 0, none⟩ = some a0 → w1.cell? ⟨g, 1, none⟩ = some a1 → wpList P ops Q rest a w1) : wpList P ops Q (o :: rest) a W := by
  have hb : (((W.setCell ⟨g, 0, none⟩ a0).setCell ⟨g, 1, none⟩ a1)).heap[g]? = some (.cells #[a0, a1] t (0, 0)) := (blk_set (blk_set HB 0 a0) 1 a1)
  refine skip_run hgd hN hrun (h _ hb (grown_set (grown_set (grown_refl W (some g)) 0 a0) 1 a1) ((blk_cell hb 0).trans rfl) ((blk_cell hb 1).trans rfl))
theorem store3 {W : World} (hgd : o.guard = none) (hN : o.dst = none) (g : Nat) (t : TypeId) {b0 b1 b2 : Value} (a0 a1 a2 : Value) (HB : W.heap[g]? = some (.cells #[b0, b1, b2] t (0, 0)))
    (hrun : (execOp a.eval o).run P W = .ok .skip (((W.setCell ⟨g, 0, none⟩ a0).setCell ⟨g, 1, none⟩ a1).setCell ⟨g, 2, none⟩ a2))
    (h : ∀ w1, Hid (w1.heap[g]? = some (.cells #[a0, a1, a2] t (0, 0))) → Hid (W.grownBy w1 (some g)) → w1.cell? ⟨g, 0, none⟩ = some a0 → w1.cell? ⟨g, 1, none⟩ = some a1 → w1.cell? ⟨g, 2, none⟩ = some a2 → wpList P ops Q rest a w1) : wpList P ops Q (o :: rest) a W := by
  have hb : ((((W.setCell ⟨g, 0, none⟩ a0).setCell ⟨g, 1, none⟩ a1).setCell ⟨g, 2, none⟩ a2)).heap[g]? = some (.cells #[a0, a1, a2] t (0, 0)) := (blk_set (blk_set (blk_set HB 0 a0) 1 a1) 2 a2)
  refine skip_run hgd hN hrun (h _ hb (grown_set (grown_set (grown_set (grown_refl W (some g)) 0 a0) 1 a1) 2 a2) ((blk_cell hb 0).trans rfl) ((blk_cell hb 1).trans rfl) ((blk_cell hb 2).trans rfl))
theorem store4 {W : World} (hgd : o.guard = none) (hN : o.dst = none) (g : Nat) (t : TypeId) {b0 b1 b2 b3 : Value} (a0 a1 a2 a3 : Value) (HB : W.heap[g]? = some (.cells #[b0, b1, b2, b3] t (0, 0)))
    (hrun : (execOp a.eval o).run P W = .ok .skip ((((W.setCell ⟨g, 0, none⟩ a0).setCell ⟨g, 1, none⟩ a1).setCell ⟨g, 2, none⟩ a2).setCell ⟨g, 3, none⟩ a3))
    (h : ∀ w1, Hid (w1.heap[g]? = some (.cells #[a0, a1, a2, a3] t (0, 0))) → Hid (W.grownBy w1 (some g)) → w1.cell? ⟨g, 0, none⟩ = some a0 → w1.cell? ⟨g, 1, none⟩ = some a1 → w1.cell? ⟨g, 2, none⟩ = some a2 → w1.cell? ⟨g, 3, none⟩ = some a3 → wpList P ops Q rest a w1) : wpList P ops Q (o :: rest) a W := by
  have hb : (((((W.setCell ⟨g, 0, none⟩ a0).setCell ⟨g, 1, none⟩ a1).setCell ⟨g, 2, none⟩ a2).setCell ⟨g, 3, none⟩ a3)).heap[g]? = some (.cells #[a0, a1, a2, a3] t (0, 0)) := (blk_set (blk_set (blk_set (blk_set HB 0 a0) 1 a1) 2 a2) 3 a3)
  refine skip_run hgd hN hrun (h _ hb (grown_set (grown_set (grown_set (grown_set (grown_refl W (some g)) 0 a0) 1 a1) 2 a2) 3 a3) ((blk_cell hb 0).trans rfl) ((blk_cell hb 1).trans rfl) ((blk_cell hb 2).trans rfl) ((blk_cell hb 3).trans rfl))
/-- a whole value read from wherever it lies -/
theorem load_at {w : World} (hgd : o.guard = none) (ty : TypeId) (x : Operand) (ho : o.op = .load ty x) (p : Addr) (hx : a.eval x = .pointer (some p)) (cs : List Value)
    (hc : ∀ j u, cs[j]? = some u → w.cell? (p.add j) = some u) (d : TypeDesc) (hu : P.underlying ty = some d) (hd : (match d with | .struct _ | .array _ _ => true | _ => false) = true)
    (hi : (P.info? ty).map (·.size) = some cs.length) (h : wpList P ops Q rest (a.put o.dst (.agg cs.toArray)) w) : wpList P ops Q (o :: rest) a w := by
  have hl : (loadCells p cs.length).run P w = .ok cs.toArray w := run_loadCells_list (P := P) w p cs hc
  have hrun : (loadVar ty p).run P w = .ok (.agg cs.toArray) w := by
    cases hq : P.info? ty with
    | none => simp [hq] at hi
    | some i =>
      have hs : i.size = cs.length := by simpa [hq] using hi
      have hagg : (isAgg ty).run P w = .ok true w := by
        unfold isAgg
        rw [Sem.run_bind, run_underlying hu w]
        cases d <;> simp_all
      simp [loadVar, Sem.run_bind, hagg, sizeOf, typeInfo, hq, hs, hl]
  refine wpList_plain hgd fun K hK => ?_
  unfold Oper.wp execOp
  simp only [ho, hx, Instr.loadAt, Instr.sureAddr, Sem.run_bind, Sem.run_pure, Result.andThen_ok, hrun]
  exact hK _ _ h
/-- a whole value stored into a block of one's own: the world gets a name -/
theorem store_at {w : World} (hgd : o.guard = none) (hN : o.dst = none) (ty : TypeId) (x y : Operand) (ho : o.op = .store ty x y)
    (g : Nat) (cells : Array Value) (hx : a.eval x = .pointer (some ⟨g, 0, none⟩)) (hy : a.eval y = .agg cells)
    (t : TypeId) {old : Array Value} (hg : w.heap[g]? = some (.cells old t (0, 0))) (hi : (P.info? ty).map (·.size) = some cells.size)
    (hold : old.size = cells.size) (h1 : cells.all (·.oneCell') = true)
    (h : ∀ w1, Hid (w1.heap[g]? = some (.cells cells t (0, 0))) → Hid (w.grownBy w1 (some g)) → wpList P ops Q rest a w1) : wpList P ops Q (o :: rest) a w := by
  refine wpList_store_row hgd ty x y ho g cells hx hy t old hg hi hold h1 ?_
  rw [hN]
  refine h _ (setRow_heap w g old cells t (0, 0) hg) ⟨rfl, rfl, rfl, by simp, fun k hk hr => ?_⟩
  simp only [World.setRow, Array.getElem?_modify]
  rw [if_neg (fun e => hr (by rw [e]))]
/-- a new block of zeros, or of a value: block and world get a name -/
theorem new_at {W : World} (hgd : o.guard = none) {N : Tmp} (_hd : o.dst = some N) (cs : Array Value) (t : TypeId)
    (hrun : (execOp a.eval o).run P W = .ok (.value (.pointer (some ⟨W.heap.size, 0, none⟩))) (W.alloc (.cells cs t (0, 0))))
    (h : ∀ g w1, Hid (g = W.heap.size) → Hid (w1.heap[g]? = some (.cells cs t (0, 0))) → Hid (Below W.heap.size W w1) → wpList P ops Q rest (a.put o.dst (.pointer (some ⟨g, 0, none⟩))) w1) : wpList P ops Q (o :: rest) a W :=
  event_run hgd hrun (h _ _ rfl (blk_new W _) ((Below.refl _ _).alloc (Nat.le_refl _) _))
end
end Go.Proofs.YtkopmnhngjbmcaaGreatDoor.Sn
/- More steps of a walk. -/
namespace Go.Proofs.YtkopmnhngjbmcaaGreatDoor.Sn
open Go Go.RowKit
section
variable {P : Program} {ops : Array Oper} {rest : List Oper} {o : Oper} {a : Act} {Q : Exit → Act → World → Prop}
/-- a whole row read behind a guard -/
theorem load_row_w {w : World} (hw : Region.wanted o (yielded ops a.tmps) = true) (ty : TypeId) (x : Operand) (ho : o.op = .load ty x)
    (g : Nat) (hx : a.eval x = .pointer (some ⟨g, 0, none⟩)) (t : TypeId) (cs : Array Value) (fr : Nat × Nat) (d : TypeDesc) (hg : w.heap[g]? = some (.cells cs t fr))
    (hu : P.underlying ty = some d) (hd : (match d with | .struct _ | .array _ _ => true | _ => false) = true) (hi : (P.info? ty).map (·.size) = some cs.size)
    (h : wpList P ops Q rest (a.put o.dst (.agg cs)) w) : wpList P ops Q (o :: rest) a w :=
  wpList_step fun _ hK => by rw [if_pos hw]; exact wp_load_row ty x ho g hx t cs fr d hg hu hd hi (hK _ _ h)
end
end Go.Proofs.YtkopmnhngjbmcaaGreatDoor.Sn

/- What is read as an expression or a condition lies in memory as a tree. -/
import Derived.Test.YtkopmnhngjbmcaaGreatDoorRows
import Derived.Test.YtkopmnhngjbmcaaGreatDoorSn
import Derived.Test.YtkopmnhngjbmcaaGreatDoorA1
import Derived.OpenShut
namespace Go.Proofs.YtkopmnhngjbmcaaGreatDoor.Sn
open Go Go.RowKit
set_option linter.unusedVariables false
def snapOf (w : World) : Snap := fun b => w.heap[b]?
theorem agr_snapOf (w : World) : Agr (snapOf w) w := fun b o h => h
theorem snapOf_cell (w : World) (a : Addr) : (snapOf w).cell a = w.cell? a := by
  unfold Snap.cell snapOf World.cell?
  rfl
theorem choose_list {α : Type} {p : Nat → α → Prop} (n : Nat) (h : ∀ i, i < n → ∃ x, p i x) : ∃ xs : List α, xs.length = n ∧ ∀ i x, xs[i]? = some x → p i x := by
  induction n with
  | zero => exact ⟨[], rfl, fun i x hx => by simp at hx⟩
  | succ n ih =>
    obtain ⟨xs, hl, hx⟩ := ih (fun i hi => h i (by omega))
    obtain ⟨y, hy⟩ := h n (by omega)
    refine ⟨xs ++ [y], by simp [hl], fun i x hi => ?_⟩
    by_cases hlt : i < xs.length
    · rw [List.getElem?_append_left hlt] at hi; exact hx i x hi
    · have hi' : i < (xs ++ [y]).length := (List.getElem?_eq_some_iff.1 hi).1
      simp at hi'
      obtain rfl : i = n := by omega
      rw [List.getElem?_append_right (by omega), hl] at hi
      simp at hi; subst hi; exact hy
theorem sum_le {α β : Type} (f : α → Nat) (g : β → Nat) (xs : List α) (ys : List β) (hl : xs.length = ys.length) (h : ∀ (i : Nat) (x : α), xs[i]? = some x → ∃ y, ys[i]? = some y ∧ f x ≤ g y) : (xs.map f).sum ≤ (ys.map g).sum := by
  induction xs generalizing ys with
  | nil => simp
  | cons x xs ih =>
    cases ys with
    | nil => simp at hl
    | cons y ys =>
      obtain ⟨y', hy, h0⟩ := h 0 x rfl
      simp at hy; subst hy
      have := ih ys (by simpa using hl) (fun i z hz => by simpa using h (i + 1) z (by simpa using hz))
      simp only [List.map_cons, List.sum_cons]; omega
theorem bulkAll_sum {H : Type} (l : List (DataW H)) : Rows.uptoBulkAll l = (l.map Rows.uptoBulk).sum := by
  induction l with
  | nil => simp [Rows.uptoBulkAll]
  | cons x l ih => simp [Rows.uptoBulkAll, ih]
theorem Ex.sizeL_sum (l : List Ex) : Ex.sizeL l = (l.map Ex.size).sum := by
  induction l with
  | nil => rfl
  | cons x l ih => simp [Ex.sizeL, ih]
theorem Cn.sizeL_sum (l : List Cn) : Cn.sizeL l = (l.map Cn.size).sum := by
  induction l with
  | nil => rfl
  | cons x l ih => simp [Cn.sizeL, ih]
section
variable {H : Type} {enc : TypeId × Value → H} {w : World} {base : Nat} {sp : Nat → Bool} {held : Bool}
theorem read_slice {α : Type} {n : Nat} {t e : TypeId} {sz : Nat} (R : α → List Value → Prop) (f : α → Nat) (ht : Tryz.prog.underlying t = some (.slice e)) (hce : Tryz.prog.cellsOf e = sz)
    (ih : ∀ cs y, DataW.trod enc Tryz.prog w base sp held n e cs = some y → ∃ a, R a cs ∧ f a ≤ Rows.uptoBulk y.1)
    {cs : List Value} {x : DataW H × List MemPlace} (h : DataW.trod enc Tryz.prog w base sp held (n + 1) t cs = some x) :
    ∃ (xs : List α) (A : Option Addr) (c : Nat), cs = [.slice A xs.length c] ∧ xs.length ≤ c ∧ Row (snapOf w) R sz A xs ∧ (xs.map f).sum + 1 ≤ Rows.uptoBulk x.1 := by
  rcases DataW.trod_slice ht h with ⟨rfl, rfl⟩ | ⟨a, len, cap, elems, rest, n', hn, rfl, rfl, hb, hl, hm, hlen, hel, _, _⟩
  · exact ⟨[], none, 0, rfl, Nat.le_refl _, Row.nil _ _ _ _, by simp [Rows.uptoBulk]⟩
  · have hn : n = n' := by omega
    subst hn
    have each : ∀ i, i < len → ∃ z, ∃ y cs', elems[i]? = some y ∧ w.cells? base (a.add (i * sz)) sz = some cs' ∧ R z cs' ∧ f z ≤ Rows.uptoBulk y.1 := fun i hi => by
      have h1 := hel i hi
      rw [hce] at h1
      have hi' : i < elems.length := by omega
      rw [List.getElem?_eq_getElem hi'] at h1
      obtain ⟨cs', hcs, h2⟩ := Option.bind_eq_some_iff.1 h1
      obtain ⟨z, hz, hs⟩ := ih cs' _ h2
      exact ⟨z, elems[i], cs', by simp [hi'], hcs, hz, hs⟩
    obtain ⟨xs, hxl, hx⟩ := choose_list len each
    refine ⟨xs, some a, cap, by rw [hxl], by omega, ?_, ?_⟩
    · intro i x hi
      obtain ⟨y, cs', hy, hcs, hz, hs⟩ := hx i x hi
      obtain ⟨_, hcl, hcell⟩ := World.cells?_some hcs
      refine ⟨cs', hcl, hz, a, rfl, fun j u hj => ?_⟩
      have hj' : j < cs'.length := (List.getElem?_eq_some_iff.1 hj).1
      rw [snapOf_cell, ← add_add, hcell j (by omega)]
      exact hj
    · have hs := sum_le f (fun y : DataW H × List MemPlace => Rows.uptoBulk y.1) xs elems (by omega) (fun i x hi => by
        obtain ⟨y, cs', hy, _, _, hs⟩ := hx i x hi
        exact ⟨y, hy, hs⟩)
      simp only [Rows.uptoBulk]
      rw [bulkAll_sum (elems.map (·.1)), List.map_map]
      have : (elems.map (Rows.uptoBulk ∘ fun x => x.1)).sum = (elems.map (fun y : DataW H × List MemPlace => Rows.uptoBulk y.1)).sum := rfl
      omega
theorem cells3 : Tryz.prog.cellsOf 3 = 1 := by kernel_rfl
theorem cells22 : Tryz.prog.cellsOf 22 = 1 := by kernel_rfl
theorem cells23 : Tryz.prog.cellsOf 23 = 1 := by kernel_rfl
theorem cells125 : Tryz.prog.cellsOf 125 = 4 := by kernel_rfl
theorem cells25 : Tryz.prog.cellsOf 25 = 3 := by kernel_rfl
theorem list4 {α : Type} {cs : List α} (h : cs.length = 4) : ∃ c0 c1 c2 c3, cs = [c0, c1, c2, c3] := by
  match cs, h with
  | [c0, c1, c2, c3], _ => exact ⟨c0, c1, c2, c3, rfl⟩
theorem list3 {α : Type} {cs : List α} (h : cs.length = 3) : ∃ c0 c1 c2, cs = [c0, c1, c2] := by
  match cs, h with
  | [c0, c1, c2], _ => exact ⟨c0, c1, c2, rfl⟩
theorem read_E (n : Nat) : ∀ (cs : List Value) (x : DataW H × List MemPlace), DataW.trod enc Tryz.prog w base sp held n 125 cs = some x → ∃ e : Ex, RepE (snapOf w) e cs ∧ e.size ≤ Rows.uptoBulk x.1 := by
  induction n using Nat.strongRecOn with
  | _ n ih =>
    intro cs x h
    obtain ⟨ys, m, rfl, rfl, hl, hyl, hf⟩ := DataW.trod_struct Tryz.underlying125 h
    obtain ⟨y0, y1, y2, y3, rfl⟩ := list4 hyl
    rw [cells125] at hl
    obtain ⟨c0, c1, c2, c3, rfl⟩ := list4 hl
    have f0 := hf 0 _ rfl
    have f1 := hf 1 _ rfl
    have f2 := hf 2 _ rfl
    have f3 := hf 3 _ rfl
    simp [cells3, cells22] at f0 f1 f2 f3
    obtain ⟨v0, e0, _, _⟩ := DataW.trod_int Tryz.underlying3 f0
    obtain ⟨v1, e1, _, _⟩ := DataW.trod_int Tryz.underlying3 f1
    obtain ⟨v2, e2, _, _⟩ := DataW.trod_int Tryz.underlying3 f2
    cases m with
    | zero => cases f3
    | succ m =>
      obtain ⟨xs, A, c, e3, hc, hrow, hs⟩ := read_slice (RepE (snapOf w)) Ex.size Tryz.underlying22 cells125 (fun cs y hy => ih m (by omega) cs y hy) f3
      cases e0; cases e1; cases e2; cases e3
      refine ⟨.mk v0 v1 v2 xs, RepE.close (.mk v0 v1 v2 xs) A c hc hrow, ?_⟩
      rw [Ex.size_eq, Ex.sizeL_sum]
      simp only [Rows.uptoBulk, Rows.uptoBulkAll, List.map_cons, List.map_nil, Ex.a]
      omega
theorem read_C (n : Nat) : ∀ (cs : List Value) (x : DataW H × List MemPlace), DataW.trod enc Tryz.prog w base sp held n 25 cs = some x → ∃ e : Cn, RepC (snapOf w) e cs ∧ e.size ≤ Rows.uptoBulk x.1 := by
  induction n using Nat.strongRecOn with
  | _ n ih =>
    intro cs x h
    obtain ⟨ys, m, rfl, rfl, hl, hyl, hf⟩ := DataW.trod_struct Tryz.underlying25 h
    obtain ⟨y0, y1, y2, rfl⟩ := list3 hyl
    rw [cells25] at hl
    obtain ⟨c0, c1, c2, rfl⟩ := list3 hl
    have f0 := hf 0 _ rfl
    have f1 := hf 1 _ rfl
    have f2 := hf 2 _ rfl
    simp [cells3, cells22, cells23] at f0 f1 f2
    obtain ⟨v0, e0, _, _⟩ := DataW.trod_int Tryz.underlying3 f0
    cases m with
    | zero => cases f1
    | succ m =>
      obtain ⟨xs, A, c, e1, hc, hrow, hs⟩ := read_slice (RepE (snapOf w)) Ex.size Tryz.underlying22 cells125 (fun cs y hy => read_E m cs y hy) f1
      obtain ⟨zs, B, d, e2, hd, hrow2, hs2⟩ := read_slice (RepC (snapOf w)) Cn.size Tryz.underlying23 cells25 (fun cs y hy => ih m (by omega) cs y hy) f2
      cases e0; cases e1; cases e2
      refine ⟨.mk v0 xs zs, RepC.close (.mk v0 xs zs) A B c d hc hd hrow hrow2, ?_⟩
      rw [Cn.size_eq, Ex.sizeL_sum, Cn.sizeL_sum]
      simp only [Rows.uptoBulk, Rows.uptoBulkAll, List.map_cons, List.map_nil, Cn.a, Cn.c]
      omega
end
end Go.Proofs.YtkopmnhngjbmcaaGreatDoor.Sn

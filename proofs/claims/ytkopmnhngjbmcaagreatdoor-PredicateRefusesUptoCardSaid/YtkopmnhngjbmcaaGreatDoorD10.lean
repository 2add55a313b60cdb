/- (parser.expr): a bracket; every expression. -/
import Derived.Test.YtkopmnhngjbmcaaGreatDoorD9
namespace Go.Proofs.YtkopmnhngjbmcaaGreatDoor.Sn
open Go Go.RowKit
set_option linter.unusedVariables false
/-- so many operands, each behind a blank -/
def opsL {α : Type} (p : List UInt8 → Option (α × List UInt8)) : Nat → List UInt8 → Option (List α × List UInt8)
  | 0, s => some ([], s)
  | k + 1, s => (opsL p k s).bind fun x => (cutP [32] x.2).bind fun r1 => (p r1).map fun q => (x.1 ++ [q.1], q.2)
theorem opsL_step {α : Type} {p : List UInt8 → Option (α × List UInt8)} {k : Nat} {s r : List UInt8} {l : List α} (h : opsL p k s = some (l, r)) :
    opsL p (k + 1) s = (cutP [32] r).bind fun r1 => (p r1).map fun q => (l ++ [q.1], q.2) := by
  rw [opsL, h]; rfl
theorem opsL_none {α : Type} {p : List UInt8 → Option (α × List UInt8)} {k : Nat} {s : List UInt8} (h : opsL p k s = none) (j : Nat) : opsL p (k + j) s = none := by
  induction j with
  | zero => exact h
  | succ j ih => rw [← Nat.add_assoc, opsL, ih]; rfl
theorem pE_ops (n : Nat) (s s0 : List UInt8) (h : cutP [40] s = some s0) :
    pE (n + 1) s = (opOf (wordOf s0)).bind fun op => (opsL (pE n) 2 (afterW s0)).bind fun x => (cutP [41] x.2).map fun s5 => (.mk op 0 0 x.1, s5) := by
  rw [pE, h]
  simp only [opsL]
  cases opOf (wordOf s0) with
  | none => rfl
  | some op =>
    simp only [Option.bind_some]
    cases cutP [32] (afterW s0) with
    | none => rfl
    | some s1 =>
      simp only [Option.bind_some]
      cases pE n s1 with
      | none => rfl
      | some p =>
        simp only [Option.bind_some, Option.map_some]
        cases cutP [32] p.2 with
        | none => rfl
        | some s3 =>
          simp only [Option.bind_some]
          cases pE n s3 with
          | none => rfl
          | some q => rfl
theorem cutP_len {p s t : List UInt8} (h : cutP p s = some t) : s.length = p.length + t.length := by
  rw [cutP_some h]; simp
theorem opsL_len {α : Type} {p : List UInt8 → Option (α × List UInt8)} (hp : ∀ s x r, p s = some (x, r) → r.length ≤ s.length) : ∀ (k : Nat) (s : List UInt8) (l : List α) (r : List UInt8), opsL p k s = some (l, r) → l.length = k ∧ r.length ≤ s.length := by
  intro k
  induction k with
  | zero => intro s l r h; cases h; exact ⟨rfl, Nat.le_refl _⟩
  | succ k ih =>
    intro s l r h
    rw [opsL] at h
    obtain ⟨⟨l1, r1⟩, h1, h⟩ := Option.bind_eq_some_iff.1 h
    obtain ⟨r2, h2, h⟩ := Option.bind_eq_some_iff.1 h
    obtain ⟨⟨x, r3⟩, h3, h⟩ := Option.map_eq_some_iff.1 h
    cases h
    obtain ⟨i1, i2⟩ := ih s l1 r1 h1
    have := cutP_len h2
    have := hp _ _ _ h3
    refine ⟨by simp [i1], ?_⟩
    simp only at *
    omega
theorem pE_len (n : Nat) (s : List UInt8) (e : Ex) (r : List UInt8) (h : pE n s = some (e, r)) : r.length ≤ s.length := by
  rw [pE_sound n s e r h]; simp
theorem pC_len (n : Nat) (s : List UInt8) (e : Cn) (r : List UInt8) (h : pC n s = some (e, r)) : r.length ≤ s.length := by
  rw [pC_sound n s e r h]; simp
theorem afterW_len (s : List UInt8) : (afterW s).length ≤ s.length := by
  have := congrArg List.length (word_after s); simp only [List.length_append] at this; omega
/-- a row of trees, as the cells that a slice of one's own holds -/
def RowV {α : Type} (R : α → List Value → Prop) (sz : Nat) (l : List α) (xs : List Value) : Prop :=
  xs.length = l.length * sz ∧ ∀ (i : Nat) (x : α), l[i]? = some x → R x ((xs.drop (i * sz)).take sz)
theorem RowV.nil {α : Type} (R : α → List Value → Prop) (sz : Nat) : RowV R sz [] [] := ⟨by simp, fun i x h => by simp at h⟩
theorem RowV.mono {α : Type} {R R' : α → List Value → Prop} {sz : Nat} {l : List α} {xs : List Value} (h : RowV R sz l xs) (hR : ∀ x cs, R x cs → R' x cs) : RowV R' sz l xs := ⟨h.1, fun i x hx => hR _ _ (h.2 i x hx)⟩
theorem RowV.snoc {α : Type} {R : α → List Value → Prop} {sz : Nat} {l : List α} {xs : List Value} (h : RowV R sz l xs) {x : α} {cs : List Value} (hx : R x cs) (hc : cs.length = sz) : RowV R sz (l ++ [x]) (xs ++ cs) := by
  refine ⟨by simp [h.1, hc, Nat.add_mul], fun i y hy => ?_⟩
  by_cases hi : i < l.length
  · rw [List.getElem?_append_left hi] at hy
    have h1 := h.2 i y hy
    have hb : i * sz + sz ≤ xs.length := by
      rw [h.1, ← Nat.succ_mul]; exact Nat.mul_le_mul_right _ hi
    rw [List.drop_append_of_le_length (by omega), List.take_append_of_le_length (by simp; omega)]
    exact h1
  · have hi' : i < (l ++ [x]).length := (List.getElem?_eq_some_iff.1 hy).1
    simp at hi'
    obtain rfl : i = l.length := by omega
    rw [List.getElem?_append_right (Nat.le_refl _)] at hy
    simp at hy
    subst hy
    rw [← h.1, List.drop_append_of_le_length (Nat.le_refl _), List.drop_length, List.nil_append, List.take_of_length_le (by omega)]
    exact hx
theorem RowV.row {α : Type} {S : Snap} {R : α → List Value → Prop} {sz : Nat} {l : List α} {xs : List Value} (h : RowV R sz l xs) {ga : Nat} {cur : Array Value} {t : TypeId} (hS : S ga = some (.cells cur t (0, 0))) (hcur : cur.toList.take (l.length * sz) = xs) :
    Row S R sz (some ⟨ga, 0, none⟩) l := by
  intro i x hx
  have hi : i < l.length := (List.getElem?_eq_some_iff.1 hx).1
  have hb : i * sz + sz ≤ xs.length := by
    rw [h.1, ← Nat.succ_mul]; exact Nat.mul_le_mul_right _ hi
  refine ⟨(xs.drop (i * sz)).take sz, by simp; omega, h.2 i x hx, ⟨ga, 0, none⟩, rfl, fun j u hj => ?_⟩
  have hj' : j < ((xs.drop (i * sz)).take sz).length := (List.getElem?_eq_some_iff.1 hj).1
  have hj2 : j < sz := by simp at hj'; omega
  rw [List.getElem?_take, if_pos hj2, List.getElem?_drop, ← hcur, List.getElem?_take] at hj
  rw [add_plain]
  simp only [Snap.cell, hS]
  have hlt : i * sz + j < l.length * sz := by rw [← h.1]; omega
  rw [if_pos hlt] at hj
  simpa using hj
/-- operands are being read: k of them stand in a row of one's own, which the block gE leads to -/
def LoopG {α : Type} (R : Snap → α → List Value → Prop) (sz : Nat) (te : TypeId) (F : Value → Array Value) (tF : TypeId) (cR : Array Value) (S : Snap) (w : World) (g gE gR base : Nat) (p : List UInt8 → Option (α × List UInt8)) (s1 : List UInt8) (k : Nat) (wr : World) : Prop :=
  ∃ (l : List α) (r : List UInt8) (xs : List Value) (v : Value) (S1 : Snap), opsL p k s1 = some (l, r) ∧ l.length = k ∧ wr.heap[g]? = some (.cells (pcell r) 182 (0, 0)) ∧ wr.heap[gE]? = some (.cells (F v) tF (0, 0)) ∧ wr.heap[gR]? = some (.cells cR tF (0, 0)) ∧
    wr.ownsRow base te sz v k xs ∧ RowV (R S1) sz l xs ∧ Out (some g) S w S1 wr ∧ S1 g = none ∧ S1 gE = none ∧ S1 gR = none ∧ (∀ b, v.ownBlock = some b → S1 b = none) ∧ base ≤ wr.heap.size
section
variable {α : Type} {R : Snap → α → List Value → Prop} {sz : Nat} {te tF : TypeId} {F : Value → Array Value} {cR : Array Value} {S S1 S2 : Snap} {w wr wa w5 w6 w7 : World} {g gE gR base : Nat} {p : List UInt8 → Option (α × List UInt8)} {s1 r r1 r2 : List UInt8} {k : Nat} {l : List α} {xs : List Value} {v : Value}
theorem own_ge {e : TypeId} {size n : Nat} (h : wr.ownsRow base e size v n xs) : ∀ b, v.ownBlock = some b → base ≤ b := fun b hb => (h.lt b hb).1
theorem grown_own' {row : Option Nat} (h : w.grownBy w6 row) (k : w6.grownBy w7 v.ownBlock) (hb : ∀ b, v.ownBlock = some b → w.heap.size ≤ b) : w.grownBy w7 row :=
  ⟨k.os.trans h.os, k.tape.trans h.tape, k.output.trans h.output, Nat.le_trans h.size k.size, fun i hi hr => (k.block i (Nat.lt_of_lt_of_le hi h.size) (fun e => by have := hb i e.symm; omega)).trans (h.block i hi hr)⟩
theorem LoopG.step (hR : ∀ (S S' : Snap), SLe S S' → ∀ x cs, R S x cs → R S' x cs) (j : Nat) (hF : ∀ v u, (F v).setIfInBounds j u = F u) (hgw : g < w.heap.size) (hwR : w.heap.size ≤ gR) (hRE : gR < gE) (hEb : gE < base)
    (hops : opsL p k s1 = some (l, r)) (hll : l.length = k) (hg : wr.heap[g]? = some (.cells (pcell r) 182 (0, 0))) (hE : wr.heap[gE]? = some (.cells (F v) tF (0, 0))) (hgR : wr.heap[gR]? = some (.cells cR tF (0, 0)))
    (hown : wr.ownsRow base te sz v k xs) (hrow : RowV (R S1) sz l xs) (hout : Out (some g) S w S1 wr) (n1 : S1 g = none) (n2 : S1 gE = none) (n3 : S1 gR = none) (n4 : ∀ b, v.ownBlock = some b → S1 b = none)
    (hc : cutP [32] r = some r1) (hga : wr.grownBy wa (some g)) {x : α} {cs : List Value} (hp : p r1 = some (x, r2)) (hx : R S2 x cs) (hcs : cs.length = sz) (ho5 : Out (some g) S1 wa S2 w5) (hg5 : w5.heap[g]? = some (.cells (pcell r2) 182 (0, 0)))
    (h6 : Below w5.heap.size w5 w6) {ga cap : Nat} (hown7 : w7.ownsRow base te sz (.slice (some ⟨ga, 0, none⟩) (k + 1) cap) (k + 1) (xs ++ cs)) (h7 : w6.grownBy w7 v.ownBlock) (hat : v.ownBlock = some ga ∨ ga = w6.heap.size) :
    LoopG R sz te F tF cR S w g gE gR base p s1 (k + 1) (w7.setCell ⟨gE, j, none⟩ (.slice (some ⟨ga, 0, none⟩) (k + 1) cap)) := by
  have hownlt := hown.lt
  have nn : ∀ b, S1 b = none → b < wr.heap.size → S2 b = none := fun b hb hlt => ho5.new b hb (Nat.lt_of_lt_of_le hlt hga.size)
  have hE5 := ho5.blk (grown_blk hga hE (fun e => by cases e; omega)) (fun e => by cases e; omega)
  have hR5 := ho5.blk (grown_blk hga hgR (fun e => by cases e; omega)) (fun e => by cases e; omega)
  have ne7 : ∀ b, b < base → some b ≠ v.ownBlock := fun b hb e => by have := (hownlt b e.symm).1; omega
  have hE7 := grown_blk h7 (below_blk h6 hE5) (ne7 _ hEb)
  have hR7 := grown_blk h7 (below_blk h6 hR5) (ne7 _ (by omega))
  have hg7 := grown_blk h7 (below_blk h6 hg5) (ne7 _ (by omega))
  have hagr6 : Agr S2 w6 := ho5.agr.below h6
  have hown2 : ∀ b, v.ownBlock = some b → S2 b = none := fun b hb => nn b (n4 b hb) (hownlt b hb).2
  have hag7 : Agr S2 w7 := hagr6.grown h7 hown2
  have hsE : S2 gE = none := nn _ n2 (blk_lt hE)
  have hout6 : Out (some g) S w S2 w6 := (hout.trans (Out.of_grown hout.agr hga (fun k e => by cases e; exact n1))).trans (ho5.trans (Out.of_grown ho5.agr (grown_below h6) (fun k e => by cases e; exact nn _ n1 (blk_lt hg))))
  refine ⟨l ++ [x], r2, xs ++ cs, .slice (some ⟨ga, 0, none⟩) (k + 1) cap, S2, ?_, by simp [hll], ?_, ?_, ?_, ownsRow_set hown7 hEb j _, (hrow.mono (hR S1 S2 ho5.le)).snoc hx hcs, ?_, nn _ n1 (blk_lt hg), hsE, nn _ n3 (blk_lt hgR), ?_, ?_⟩
  · rw [opsL_step hops, hc]; simp [hp]
  · exact blk_far hg7 (by show g ≠ gE; omega) _
  · have := blk_set hE7 j (.slice (some ⟨ga, 0, none⟩) (k + 1) cap)
    rw [hF] at this; exact this
  · exact blk_far hR7 (by show gR ≠ gE; omega) _
  · refine ⟨hout6.le, hag7.set hsE _, hout6.new, ?_⟩
    exact grown_new (grown_own' hout6.grown h7 (fun b hb => by have := (hownlt b hb).1; omega)) (grown_set (grown_refl w7 (some gE)) j _) (by omega)
  · intro b hb
    simp only [Value.ownBlock, Option.some.injEq] at hb
    subst hb
    rcases hat with h | h
    · exact hown2 _ h
    · exact hagr6.new (by omega)
  · have h1 := hout6.grown.size
    have : base ≤ w6.heap.size := by
      rcases hat with h | h
      · have := hownlt _ h; have := hga.size; have := ho5.grown.size; have := h6.size; omega
      · have := (hown7.lt ga rfl).1; omega
    have h2 := h7.size
    simp [World.setCell]; omega
theorem LoopG.done (hR : ∀ (S S' : Snap), SLe S S' → ∀ x cs, R S x cs → R S' x cs) (hgw : g < w.heap.size) (hwR : w.heap.size ≤ gR) (hRE : gR < gE) (hEb : gE < base) (hk : 0 < k)
    (hll : l.length = k) (hg : wr.heap[g]? = some (.cells (pcell r) 182 (0, 0)))
    (hown : wr.ownsRow base te sz v k xs) (hrow : RowV (R S1) sz l xs) (hout : Out (some g) S w S1 wr) (n1 : S1 g = none) (n3 : S1 gR = none) (n4 : ∀ b, v.ownBlock = some b → S1 b = none)
    (hga : wr.grownBy wa (some g)) (h5 : wa.grownBy w5 (some gR)) :
    ∃ (S' : Snap) (A : Option Addr) (cap : Nat), v = .slice A l.length cap ∧ l.length ≤ cap ∧ Row S' (R S') sz A l ∧ Out (some g) S w S' w5 := by
  obtain ⟨hlx, h | ⟨ga, cap, cur, rfl, hb, hgc, hn, hm, hs, ht⟩⟩ := hown
  · omega
  · subst hll
    have hS1 : S1 ga = none := n4 ga rfl
    have hga5 := grown_blk h5 (grown_blk hga hgc (fun e => by cases e; omega)) (fun e => by cases e; omega)
    have hle := Snap.le_add (.cells cur te (0, 0)) hS1
    have hagr : Agr S1 w5 := (hout.agr.grown hga (fun k e => by cases e; exact n1)).grown h5 (fun k e => by cases e; exact n3)
    refine ⟨S1.add ga (.cells cur te (0, 0)), some ⟨ga, 0, none⟩, cap, rfl, hn, ?_, hout.le.trans hle, hagr.add hga5, ?_, grown_new (grown_trans hout.grown hga) h5 hwR⟩
    · exact (hrow.mono (hR _ _ hle)).row (cur := cur) (t := te) (by simp [Snap.add]) ht
    · intro b hb hlt
      unfold Snap.add
      rw [if_neg (by omega)]
      exact hout.new b hb hlt
end
end Go.Proofs.YtkopmnhngjbmcaaGreatDoor.Sn

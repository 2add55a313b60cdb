/- (predicate.cond), Text, written: the text of a condition. -/
import Derived.Test.YtkopmnhngjbmcaaGreatDoorD3
import Derived.Deep.AppendLies
namespace Go.Proofs.YtkopmnhngjbmcaaGreatDoor.Sn
open Go Go.RowKit
set_option linter.unusedVariables false
theorem below_own {w0 w1 w2 : World} {e : TypeId} {size : Nat} {v : Value} {n : Nat} {xs : List Value} (h : Below w0.heap.size w0 w1) (hg : w1.grownBy w2 v.ownBlock) (ho : w1.ownsRow w0.heap.size e size v n xs) : Below w0.heap.size w0 w2 :=
  ⟨hg.os.trans h.os, hg.tape.trans h.tape, hg.output.trans h.output, Nat.le_trans h.size hg.size, fun k hk => (hg.block k (Nat.lt_of_lt_of_le hk h.size) (ownsRow_ne ho hk)).trans (h.block k hk)⟩
theorem info9 : (Tryz.prog.info? 9).map (fun i => (i.zero, i.size, i.bytes)) = some (some (.string ⟨#[]⟩), 1, 16) := by kernel_rfl
def strCells (l : List (List UInt8)) : List Value := l.map fun t => Value.string ⟨t.toArray⟩
theorem strCells_snoc (l : List (List UInt8)) (t : List UInt8) : strCells (l ++ [t]) = strCells l ++ [.string ⟨t.toArray⟩] := by simp [strCells]
theorem txEs_map (l : List Ex) : txEs l = l.map txE := by induction l with | nil => rfl | cons x l ih => simp [txEs, ih]
theorem txCs_map (l : List Cn) : txCs l = l.map txC := by induction l with | nil => rfl | cons x l ih => simp [txCs, ih]
theorem take_snoc' {α β : Type} (f : α → β) (l : List α) (k : Nat) (x : α) (h : l[k]? = some x) : (l.map f).take (k + 1) = (l.map f).take k ++ [f x] := by
  rw [List.take_add_one, List.getElem?_map, h]; rfl
theorem okEs_get {V R : Int} {d : Nat} {l : List Ex} (h : okEs V R d l = true) {k : Nat} {x : Ex} (hx : l[k]? = some x) : okE V R d x = true := by
  cases h' : okE V R d x with
  | true => rfl
  | false => rw [okEs_false V R d l k x hx h'] at h; cases h
theorem okCs_get {V R : Int} {d : Nat} {l : List Cn} (h : okCs V R d l = true) {k : Nat} {x : Cn} (hx : l[k]? = some x) : okC V R d x = true := by
  cases h' : okC V R d x with
  | true => rfl
  | false => rw [okCs_false V R d l k x hx h'] at h; cases h
theorem okC_parts {V R : Int} {d : Nat} {e : Cn} (h : okC V R d e = true) : (1 ≤ e.op ∧ e.op ≤ 7) ∧ okEs V R (d + 1) e.a = true ∧ okCs V R (d + 1) e.c = true ∧
    (e.op ≠ 1 → (∃ x y, e.a = [x, y] ∧ e.c = []) ∨ (∃ x, e.a = [] ∧ e.c = [x]) ∨ (∃ x y, e.a = [] ∧ e.c = [x, y])) := by
  rw [okC_eq] at h
  simp only [Bool.and_eq_true, inR_true, decide_eq_true_eq] at h
  obtain ⟨⟨⟨⟨⟨hop, ha⟩, hc⟩, _⟩, hoka⟩, hokc⟩ := h
  refine ⟨hop, hoka, hokc, fun h1 => ?_⟩
  unfold wantA at ha
  unfold wantC at hc
  by_cases h2 : e.op = 2 ∨ e.op = 3 ∨ e.op = 4
  · rw [if_pos h2] at ha
    rw [if_neg (by omega), if_neg (by omega)] at hc
    left
    match hx : e.a, ha, hy : e.c, hc with
    | [x, y], _, [], _ => exact ⟨x, y, rfl, rfl⟩
  · rw [if_neg h2] at ha
    by_cases h5 : e.op = 5
    · rw [if_pos h5] at hc
      right; left
      match hx : e.a, ha, hy : e.c, hc with
      | [], _, [x], _ => exact ⟨x, rfl, rfl⟩
    · rw [if_neg h5, if_pos (by omega)] at hc
      right; right
      match hx : e.a, ha, hy : e.c, hc with
      | [], _, [x, y], _ => exact ⟨x, y, rfl, rfl⟩
theorem txC_eq (e : Cn) (h : e.op ≠ 1) : txC e = 40 :: (word (100 + e.op) ++ 32 :: (Lib.join (txEs e.a ++ txCs e.c) [32] ++ [41])) := by
  obtain ⟨op, a, c⟩ := e; simp only [Cn.op] at h; rw [txC, if_neg h]; rfl
theorem txC_1 (e : Cn) (h : e.op = 1) : txC e = [116, 114, 117, 101] := by
  obtain ⟨op, a, c⟩ := e; simp only [Cn.op] at h; rw [txC, if_pos h]
theorem txC_len (V R : Int) (hV : V ≤ 1000) (hR : R ≤ 1000) : ∀ (n : Nat) (e : Cn), e.size ≤ n → ∀ d, okC V R d e = true → (txC e).length ≤ 32 * e.size ∧ (e.op ≠ 1 → (Lib.join (txEs e.a ++ txCs e.c) [32]).length ≤ 32 * e.size) := by
  intro n
  induction n with
  | zero => intro e he; rw [e.size_eq] at he; omega
  | succ n ih =>
    intro e he d hok
    have hsz := e.size_eq
    obtain ⟨hop, hoka, hokc, hsh⟩ := okC_parts hok
    by_cases h1 : e.op = 1
    · rw [txC_1 e h1]; exact ⟨by simp; omega, fun h => absurd h1 h⟩
    · rw [txC_eq e h1]
      have hw := word_len (op := 100 + e.op) (.inr (by omega))
      rcases hsh h1 with ⟨x, y, ha, hc⟩ | ⟨x, ha, hc⟩ | ⟨x, y, ha, hc⟩
      · rw [ha] at hoka
        rw [ha, hc] at hsz ⊢
        simp only [Ex.sizeL, Cn.sizeL] at hsz
        have := txE_len V R hV hR _ x (Nat.le_refl _) _ (okEs_get (k := 0) hoka rfl)
        have := txE_len V R hV hR _ y (Nat.le_refl _) _ (okEs_get (k := 1) hoka rfl)
        simp only [txEs, txCs, List.append_nil, join_2, List.length_cons, List.length_append, List.length_nil]
        omega
      · rw [hc] at hokc
        rw [ha, hc] at hsz ⊢
        simp only [Ex.sizeL, Cn.sizeL] at hsz
        have := (ih x (by omega) _ (okCs_get (k := 0) hokc rfl)).1
        simp only [txEs, txCs, List.nil_append, join_1, List.length_cons, List.length_append, List.length_nil]
        omega
      · rw [hc] at hokc
        rw [ha, hc] at hsz ⊢
        simp only [Ex.sizeL, Cn.sizeL] at hsz
        have := (ih x (by omega) _ (okCs_get (k := 0) hokc rfl)).1
        have := (ih y (by omega) _ (okCs_get (k := 1) hokc rfl)).1
        simp only [txEs, txCs, List.nil_append, join_2, List.length_cons, List.length_append, List.length_nil]
        omega
/-- a bracket of strings that the call has gathered itself -/
theorem group_owned (op : Int) (hop : 4 ≤ op ∧ op ≤ 10 ∨ 102 ≤ op ∧ op ≤ 107) (T : List (List UInt8)) (hT : T ≠ []) (hN : T.length ≤ 1000) (hlen : (Lib.join T [32]).length ≤ 1099511627776) (W : World) (base : Nat) (v : Value) (n : Nat) (hn : n = T.length)
    (ho : W.ownsRow base 9 1 v n (strCells T)) :
    Calls Tryz.prog 145 #[.int .i64 op, v] W fun en w' => en = .returned (.string ⟨(40 :: (word op ++ 32 :: (Lib.join T [32] ++ [41]))).toArray⟩) ∧ Below W.heap.size W w' := by
  subst hn
  have hpos : 0 < T.length := List.length_pos_iff.2 hT
  have hcell := fun g (hg : v.ownBlock = some g) => ho.cells hg
  rcases ho.2 with ⟨_, h0⟩ | ⟨g, cap, cur, rfl, _, hg, hcap, _⟩
  · omega
  · have hx : (T.map fun t => (⟨t.toArray⟩ : ByteArray)).length = T.length := by simp
    have hj : (T.map fun t => (⟨t.toArray⟩ : ByteArray)).map (·.data.toList) = T := by simp [Function.comp_def]
    have := group_calls op hop g 0 cap (T.map fun t => (⟨t.toArray⟩ : ByteArray)) W (fun j x hj => by
      have h1 := hcell g rfl j (.string x) (by
        simp only [strCells, List.getElem?_map] at hj ⊢
        rw [Option.map_eq_some_iff] at hj ⊢
        obtain ⟨t, ht, rfl⟩ := hj
        exact ⟨t, ht, rfl⟩)
      rw [add_plain] at h1
      rw [Nat.zero_add]; exact h1) (blk_lt hg) (by rw [hx]; exact hN) (by rw [hx]; exact hcap) (by rw [hj]; exact hlen)
    rw [hx, hj] at this
    exact this
set_option maxRecDepth 100000 in
set_option maxHeartbeats 3000000 in
theorem condT_calls (V R : Int) (hV : V ≤ 1000) (hR : R ≤ 1000) : ∀ (n : Nat) (e : Cn), e.size ≤ n → n < 1073741824 → ∀ (d : Nat), okC V R d e = true → ∀ (S : Snap) (hL : LibOk S) (w : World) (cs : List Value), Agr S w → RepC S e cs →
    Calls Tryz.prog 100 #[.agg cs.toArray] w fun en w' => en = .returned (.string ⟨(txC e).toArray⟩) ∧ Below w.heap.size w w' := by
  intro n
  induction n with
  | zero => intro e he; rw [e.size_eq] at he; omega
  | succ n ih =>
    intro e he hn d hok S hL w cs hS hr
    obtain ⟨A, c, B, dd, rfl, hc, hdd, hrow, hrow2⟩ := hr.open_
    obtain ⟨hop, hoka, hokc, hsh⟩ := okC_parts hok
    have hlens := txC_len V R hV hR _ e (Nat.le_refl _) d hok
    have hsz := e.size_eq
    by_cases h1 : e.op = 1
    · have HT : Hid (txC e = [116, 114, 117, 101]) := Lib.hid (txC_1 e h1)
      rw [HT.out]
      have b1 : (e.op == 1) = true := by rw [h1]; rfl
      clear hS hr hrow hrow2 he ih hlens hok hsh hoka hokc hsz h1
      go_enter Tryz.func100, Tryz.ntmps100
      go_wp2_with (first
        | ((with_reducible refine gate_dst (N := 1) rfl ?_); refine box3 rfl (N := 1) rfl (.int .i64 e.op) (.slice A e.a.length c) (.slice B e.c.length dd) 25 (by go_simp) ?_; intro g1 w1 HG1 HB1 HBE1 q0 q1 q2))
      go_ret
      exact ⟨rfl, HBE1.out⟩
    · have HT : Hid (txC e = 40 :: (word (100 + e.op) ++ 32 :: (Lib.join (txEs e.a ++ txCs e.c) [32] ++ [41]))) := Lib.hid (txC_eq e h1)
      have b1 : (e.op == 1) = false := beq_eq_false_iff_ne.2 h1
      have hla := Ex.length_le e.a
      have hlc := Cn.length_le e.c
      have ha1 : e.a.length ≤ 1073741824 := by omega
      have hc1 : e.c.length ≤ 1073741824 := by omega
      have hop1 : (1 : Int) ≤ e.op := hop.1
      have hop7 : e.op ≤ (7 : Int) := hop.2
      have HNE : Hid (txEs e.a ++ txCs e.c ≠ []) := Lib.hid (by
        rcases hsh h1 with ⟨x, y, ha, hc⟩ | ⟨x, ha, hc⟩ | ⟨x, y, ha, hc⟩ <;> rw [ha, hc] <;> simp [txEs, txCs])
      have HTL : Hid ((txEs e.a ++ txCs e.c).length = e.a.length + e.c.length) := Lib.hid (by rw [txEs_map, txCs_map]; simp)
      have HT2 : Hid (e.a.length + e.c.length ≤ 2) := Lib.hid (by
        rcases hsh h1 with ⟨x, y, ha, hc⟩ | ⟨x, ha, hc⟩ | ⟨x, y, ha, hc⟩ <;> rw [ha, hc] <;> simp)
      have HGR : Hid (∀ (W : World) (base : Nat) (v : Value), W.ownsRow base 9 1 v (e.a.length + e.c.length) (strCells (txEs e.a ++ txCs e.c)) → Calls Tryz.prog 145 #[.int .i64 (100 + e.op), v] W fun en w' => en = .returned (.string ⟨(txC e).toArray⟩) ∧ Below W.heap.size W w') := Lib.hid fun W base v ho => by
        rw [HT.out]
        exact group_owned (100 + e.op) (.inr (by omega)) _ HNE.out (by have := HTL.out; have := HT2.out; omega) (by have := hlens.2 h1; omega) W base v _ HTL.out.symm ho
      have HS := Lib.hid hS
      have HR := Lib.hid hrow
      have HR2 := Lib.hid hrow2
      have HSZ := Lib.hid hsz
      have HE := Lib.hid he
      have HIH := Lib.hid ih
      have HOKA := Lib.hid hoka
      have HOKC := Lib.hid hokc
      have HLL := Lib.hid hL
      clear hS hr hrow hrow2 he ih hlens hok hsh hoka hokc hsz hla hlc h1 hop hL HT
      obtain ⟨z, hinfo, hz0, hz1, hz2⟩ := info_parts info9
      go_enter Tryz.func100, Tryz.ntmps100
      go_wp2_with (first
        | ((with_reducible refine gate_dst (N := 1) rfl ?_); refine box3 rfl (N := 1) rfl (.int .i64 e.op) (.slice A e.a.length c) (.slice B e.c.length dd) 25 (by go_simp) ?_; intro g1 w1 HG1 HB1 HBE1 q0 q1 q2))
      clear q0 q1 q2
      go_loopw [3, 14] (fun s3 s14 wr => ∃ (k : Nat) (v : Value), k ≤ e.a.length ∧ v = s3 ∧ s14 = .int .i64 k ∧ wr.ownsRow w1.heap.size 9 1 v k (strCells ((txEs e.a).take k)) ∧ Below w1.heap.size w1 wr) (fun _ s14 _ => e.a.length - (intOf s14).toNat)
      case atStart => exact ⟨0, _, Nat.zero_le _, rfl, rfl, World.ownsRow_nil _ _ _ _, Below.refl _ _⟩
      case round =>
        obtain ⟨k, v, hk, rfl, rfl, hown, hB⟩ := hrel
        have HOWN := Lib.hid hown
        have HB := Lib.hid hB
        clear hown hB
        by_cases hlt : k < e.a.length
        · have hx : e.a[k]? = some e.a[k] := by simp [hlt]
          obtain ⟨ad, A3, c3, rfl, HC, hrep⟩ := RowE.whole ((HS.out.below HBE1.out).below HB.out) HR.out k e.a[k] hx
          have HTS : Hid ((txEs e.a).take (k + 1) = (txEs e.a).take k ++ [txE e.a[k]]) := Lib.hid (by rw [txEs_map]; exact take_snoc' txE e.a k _ hx)
          have HEX : Hid (∀ W, Below wr.heap.size wr W → Calls Tryz.prog 144 #[.agg #[.int .i64 e.a[k].op, .int .i64 e.a[k].n, .int .i64 e.a[k].v, .slice A3 e.a[k].a.length c3]] W fun en w' => en = .returned (.string ⟨(txE e.a[k]).toArray⟩) ∧ Below W.heap.size W w') := Lib.hid fun W hW =>
            exprT_calls V R hV hR n e.a[k] (by have := HSZ.out; have := HE.out; have h1 := Ex.sizeL_take_succ e.a k _ hx; have h2 := Ex.sizeL_take_le e.a (k + 1); omega) (by omega) (d + 1) (okEs_get HOKA.out hx) S HLL.out W [.int .i64 e.a[k].op, .int .i64 e.a[k].n, .int .i64 e.a[k].v, .slice A3 e.a[k].a.length c3] (((HS.out.below HBE1.out).below HB.out).below hW) hrep.out
          clear hx
          go_wp2_with (first
            | ((with_reducible refine gate_dst (N := 17) rfl ?_); refine load_at rfl 125 (.tmp 16) rfl (ad.add (k * 4)) (by go_simp) [.int .i64 e.a[k].op, .int .i64 e.a[k].n, .int .i64 e.a[k].v, .slice A3 e.a[k].a.length c3] HC.out _ Tryz.underlying125 rfl size125 ?_)
            | ((with_reducible refine gate_dst (N := 5) rfl ?_); refine new_at rfl (N := 5) rfl #[.int .i64 0, .int .i64 0, .int .i64 0, .slice none 0 0] 125 (by go_simp) ?_; intro g5 u1 HG5 HB5 HBE5)
            | ((with_reducible refine gate_store (t := 125) (p := 5) rfl ?_); refine store_at rfl rfl 125 (.tmp 5) (.tmp 17) rfl g5 #[.int .i64 e.a[k].op, .int .i64 e.a[k].n, .int .i64 e.a[k].v, .slice A3 e.a[k].a.length c3] (by go_simp) (by go_simp) 125 HB5.out size125 rfl (by simp [Value.oneCell']) ?_; intro u2 HB6 HBE6; have HBA := Lib.hid (below_grown_new HBE5.out HBE6.out (by rw [HG5.out]; exact Nat.le_refl _)))
            | ((with_reducible refine gate_dst (N := 19) rfl ?_); refine wpList_load_row rfl 125 (.tmp 5) rfl g5 (by go_simp) 125 _ (0, 0) _ HB6.out Tryz.underlying125 rfl size125 ?_)
            | (go_at_call 144; refine (HEX.out _ HBA.out).mono ?_; rintro en u3 ⟨rfl, hb3⟩; have HBA := Lib.hid (below_trans HBA.out hb3); clear hb3)
            | ((with_reducible refine gate_dst (N := 21) rfl ?_); refine slice_at rfl (N := 21) rfl #[.string ⟨(txE e.a[k]).toArray⟩] 9 1 1 (by go_simp) ?_; intro gn u4 HGN HBN HBEN; have HBA := Lib.hid (below_trans HBA.out HBEN.out))
            | ((with_reducible refine gate_dst (N := 22) rfl ?_); refine wpList_append_lies _ rfl (.tmp 18) (.tmp 21) 41 rfl w1.heap.size 9 z _ 1 16 Tryz.underlying41 hinfo hz0 hz1 hz2 rfl (by decide) v k _ (by go_simp) (ownsRow_below HOWN.out HBA.out) ⟨gn, 0, none⟩ 1 1 [.string ⟨(txE e.a[k]).toArray⟩] (by go_simp) rfl (World.news_of_block HBN.out) (by simp [Value.oneCell']) (by decide) (by unfold maxLen; omega) (by omega) (Nat.le_trans HB.out.size HBA.out.size) _ rfl ?_; intro ga cap u5 hown2 hgrow2 hat2 hlt2; have HOWN2 := Lib.hid hown2; have HBZ := Lib.hid (below_own (below_trans HB.out HBA.out) hgrow2 (ownsRow_below HOWN.out HBA.out)); clear hown2 hgrow2 hat2 hlt2))
          go_roundw
          case rel => exact ⟨k + 1, _, by omega, rfl, by go_num, by rw [HTS.out, strCells_snoc]; exact HOWN2.out, HBZ.out⟩
          case measure => simp [intOf]; omega
        · have hke : k = e.a.length := by omega
          have HK : Hid (k = e.a.length) := Lib.hid hke
          have HOWN : Hid (wr.ownsRow w1.heap.size 9 1 v e.a.length (strCells (txEs e.a))) := Lib.hid (by
            have h := HOWN.out
            rw [HK.out, List.take_of_length_le (by rw [txEs_map]; simp)] at h; exact h)
          clear hke
          obtain ⟨wo, rfl⟩ : ∃ wo : World, wo = wr := ⟨_, rfl⟩
          obtain ⟨vo, rfl⟩ : ∃ vo : Value, vo = v := ⟨_, rfl⟩
          have h3 : wo.cell? ⟨g1, 2, none⟩ = some (.slice B e.c.length dd) := (blk_cell (below_blk HB.out HB1.out) 2).trans rfl
          have h0 : wo.cell? ⟨g1, 0, none⟩ = some (.int .i64 e.op) := (blk_cell (below_blk HB.out HB1.out) 0).trans rfl
          go_wp2
          clear h3 h0
          go_loopw [3, 27] (fun s3 s27 wr => ∃ (m : Nat) (v : Value), m ≤ e.c.length ∧ v = s3 ∧ s27 = .int .i64 m ∧ wr.ownsRow w1.heap.size 9 1 v (e.a.length + m) (strCells (txEs e.a ++ (txCs e.c).take m)) ∧ Below w1.heap.size w1 wr) (fun _ s27 _ => e.c.length - (intOf s27).toNat)
          case atStart => exact ⟨0, _, Nat.zero_le _, rfl, rfl, by rw [List.take_zero, List.append_nil]; exact HOWN.out, HB.out⟩
          case round =>
            obtain ⟨m, v, hm, rfl, rfl, hown, hB⟩ := hrel
            have HOWN := Lib.hid hown
            have HB := Lib.hid hB
            clear hown hB
            by_cases hlt2 : m < e.c.length
            · have hx : e.c[m]? = some e.c[m] := by simp [hlt2]
              obtain ⟨ad, A1, c1, A2, c2, rfl, HC, hrep⟩ := RowC.whole ((HS.out.below HBE1.out).below HB.out) HR2.out m e.c[m] hx
              have HTS : Hid ((txCs e.c).take (m + 1) = (txCs e.c).take m ++ [txC e.c[m]]) := Lib.hid (by rw [txCs_map]; exact take_snoc' txC e.c m _ hx)
              have HEX : Hid (∀ W, Below wr.heap.size wr W → Calls Tryz.prog 100 #[.agg #[.int .i64 e.c[m].op, .slice A1 e.c[m].a.length c1, .slice A2 e.c[m].c.length c2]] W fun en w' => en = .returned (.string ⟨(txC e.c[m]).toArray⟩) ∧ Below W.heap.size W w') := Lib.hid fun W hW =>
                HIH.out e.c[m] (by have := HSZ.out; have := HE.out; have h1 := Cn.sizeL_take_succ e.c m _ hx; have h2 := Cn.sizeL_take_le e.c (m + 1); omega) (by omega) (d + 1) (okCs_get HOKC.out hx) S HLL.out W [.int .i64 e.c[m].op, .slice A1 e.c[m].a.length c1, .slice A2 e.c[m].c.length c2] (((HS.out.below HBE1.out).below HB.out).below hW) hrep.out
              clear hx
              go_wp2_with (first
                | ((with_reducible refine gate_dst (N := 30) rfl ?_); refine load_at rfl 25 (.tmp 29) rfl (ad.add (m * 3)) (by go_simp) [.int .i64 e.c[m].op, .slice A1 e.c[m].a.length c1, .slice A2 e.c[m].c.length c2] HC.out _ Tryz.underlying25 rfl size25 ?_)
                | ((with_reducible refine gate_dst (N := 7) rfl ?_); refine new_at rfl (N := 7) rfl #[.int .i64 0, .slice none 0 0, .slice none 0 0] 25 (by go_simp) ?_; intro g5 u1 HG5 HB5 HBE5)
                | ((with_reducible refine gate_store (t := 25) (p := 7) rfl ?_); refine store_at rfl rfl 25 (.tmp 7) (.tmp 30) rfl g5 #[.int .i64 e.c[m].op, .slice A1 e.c[m].a.length c1, .slice A2 e.c[m].c.length c2] (by go_simp) (by go_simp) 25 HB5.out size25 rfl (by simp [Value.oneCell']) ?_; intro u2 HB6 HBE6; have HBA := Lib.hid (below_grown_new HBE5.out HBE6.out (by rw [HG5.out]; exact Nat.le_refl _)))
                | ((with_reducible refine gate_dst (N := 32) rfl ?_); refine wpList_load_row rfl 25 (.tmp 7) rfl g5 (by go_simp) 25 _ (0, 0) _ HB6.out Tryz.underlying25 rfl size25 ?_)
                | (go_at_call 100; refine (HEX.out _ HBA.out).mono ?_; rintro en u3 ⟨rfl, hb3⟩; have HBA := Lib.hid (below_trans HBA.out hb3); clear hb3)
                | ((with_reducible refine gate_dst (N := 34) rfl ?_); refine slice_at rfl (N := 34) rfl #[.string ⟨(txC e.c[m]).toArray⟩] 9 1 1 (by go_simp) ?_; intro gn u4 HGN HBN HBEN; have HBA := Lib.hid (below_trans HBA.out HBEN.out))
                | ((with_reducible refine gate_dst (N := 35) rfl ?_); refine wpList_append_lies _ rfl (.tmp 31) (.tmp 34) 41 rfl w1.heap.size 9 z _ 1 16 Tryz.underlying41 hinfo hz0 hz1 hz2 rfl (by decide) v (e.a.length + m) _ (by go_simp) (ownsRow_below HOWN.out HBA.out) ⟨gn, 0, none⟩ 1 1 [.string ⟨(txC e.c[m]).toArray⟩] (by go_simp) rfl (World.news_of_block HBN.out) (by simp [Value.oneCell']) (by decide) (by unfold maxLen; omega) (by omega) (Nat.le_trans HB.out.size HBA.out.size) _ rfl ?_; intro ga cap u5 hown2 hgrow2 hat2 hlt2; have HOWN2 := Lib.hid hown2; have HBZ := Lib.hid (below_own (below_trans HB.out HBA.out) hgrow2 (ownsRow_below HOWN.out HBA.out)); clear hown2 hgrow2 hat2 hlt2))
              go_roundw
              case rel => exact ⟨m + 1, _, by omega, rfl, by go_num, by rw [HTS.out, ← List.append_assoc, strCells_snoc]; exact HOWN2.out, HBZ.out⟩
              case measure => simp [intOf]; omega
            · have hme : m = e.c.length := by omega
              have HM : Hid (m = e.c.length) := Lib.hid hme
              have HOWN : Hid (wr.ownsRow w1.heap.size 9 1 v (e.a.length + e.c.length) (strCells (txEs e.a ++ txCs e.c))) := Lib.hid (by
                have h := HOWN.out
                rw [HM.out, List.take_of_length_le (l := txCs e.c) (by rw [txCs_map]; simp)] at h; exact h)
              clear hme
              have h0 : wr.cell? ⟨g1, 0, none⟩ = some (.int .i64 e.op) := (blk_cell (below_blk HB.out HB1.out) 0).trans rfl
              go_wp2_with (go_at_call 145; refine (HGR.out _ _ _ HOWN.out).mono ?_; rintro en u3 ⟨rfl, hb3⟩; have HB3 := Lib.hid hb3; clear hb3)
              go_ret
              exact ⟨rfl, below_trans HBE1.out (below_trans HB.out HB3.out)⟩
end Go.Proofs.YtkopmnhngjbmcaaGreatDoor.Sn

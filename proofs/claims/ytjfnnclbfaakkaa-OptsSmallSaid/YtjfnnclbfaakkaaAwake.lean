/-
  The contract of awake: the examples of the chapter. No conditions.
-/
import Derived.Test.YtjfnnclbfaakkaaWrite
import Derived.Test.YtjfnnclbfaakkaaRecord
import Derived.Test.YtjfnnclbfaakkaaSameL
namespace Go.Proofs.Ytjfnnclbfaakkaa
open Go.RowKit
set_option linter.unusedVariables false
set_option linter.unusedSimpArgs false

/-- Bytes in a block of their own, known whole. -/
theorem By.blk {w : World} {b : Nat} {d : List Int} (h : w.heap[b]? = some (.cells (d.map (Value.int .u8)).toArray 5 (0, 0))) (hr : ∀ x ∈ d, 0 ≤ x ∧ x ≤ 255) : By w (some ⟨b, 0, none⟩) d :=
  ⟨hr, fun _ => ⟨b, 0, rfl, blk_lt h, fun i x hi => by
    rw [Nat.zero_add, blk_cell h i]
    simp [hi]⟩⟩
/-- Blocks made one behind another. -/
def allocs (w : World) : List Obj → World
  | [] => w
  | o :: r => allocs (w.alloc o) r
theorem allocs_below (w : World) (os : List Obj) : Below w.heap.size w (allocs w os) := by
  induction os generalizing w with
  | nil => exact Below.refl _ _
  | cons o r ih => exact ((Below.refl _ w).alloc (Nat.le_refl _) o).trans ((ih (w.alloc o)).mono (by simp))
theorem allocs_get (w : World) (os : List Obj) : ∀ (k : Nat) (o : Obj), os[k]? = some o → (allocs w os).heap[w.heap.size + k]? = some o := by
  induction os generalizing w with
  | nil => intro k o h; simp at h
  | cons o r ih =>
    intro k p h
    cases k with
    | zero =>
      simp only [List.getElem?_cons_zero, Option.some.injEq] at h
      subst h
      exact ((allocs_below (w.alloc o) r).block _ (by simp)).trans (heap_alloc_last w o)
    | succ k =>
      have := ih (w.alloc o) k p (by simpa using h)
      rw [World.size_alloc] at this
      rw [show w.heap.size + (k + 1) = w.heap.size + 1 + k by omega]
      exact this
/-- Options in a block of their own, known whole. -/
theorem Ops.blk {w : World} {b : Nat} {css : List (List Value)} {l : List Op1} (h : w.heap[b]? = some (.cells css.flatten.toArray 36 (0, 0))) (ho : OpVs w css l) : Ops w (some ⟨b, 0, none⟩) l :=
  ⟨css, ⟨ho.each, fun _ => ⟨b, 0, rfl, blk_lt h, fun i cs hi j v hv => by
    rw [blk_cell h]
    have := get_flatten ho.each i cs j v hi hv
    simpa using this⟩⟩, ho⟩
set_option maxRecDepth 100000 in
set_option maxHeartbeats 8000000 in
theorem awake_any (w : World) : Calls Try.prog 14 #[] w fun e w' => e = .returned (.bool true) ∧ Below w.heap.size w w' := by
  have e1 : readS [1, 7, 7, 4, 0, 0, 0, 0] = (0, [(1, []), (7, [4, 0, 0, 0, 0])]) := by decide +kernel
  have e2 : writeS [(1, []), (7, [4, 0, 0, 0, 0])] = (0, [1, 7, 7, 4, 0, 0, 0, 0]) := by decide +kernel
  have e3 : writeS [(7, [4, 0, 0, 0, 0])] = (0, [7, 7, 4, 0, 0, 0, 0, 0]) := by decide +kernel
  have e4 : recS (7, [4, 0, 0, 0, 0]) 167772161 = (0, (7, [8, 10, 0, 0, 1])) := by decide +kernel
  have e5 : recS (7, [8, 10, 0, 0, 1]) 1 = (4, (0, [])) := by decide +kernel
  have E1 := Lib.hid e1
  have E2 := Lib.hid e2
  have E3 := Lib.hid e3
  have E4 := Lib.hid e4
  have E5 := Lib.hid e5
  clear e1 e2 e3 e4 e5
  go_enter Try.func14, Try.ntmps14
  go_upto_region 2 with fail
  obtain ⟨Y1, hY1⟩ : ∃ Y1, (w.alloc (Obj.cells #[Value.int IntKind.u8 4, Value.int IntKind.u8 0, Value.int IntKind.u8 0, Value.int IntKind.u8 0, Value.int IntKind.u8 0] 5)).alloc (Obj.cells #[Value.int IntKind.u8 7, Value.slice (some ⟨w.heap.size, 0, none⟩) 5 5] 36) = Y1 := ⟨_, rfl⟩
  have hB1 : Below w.heap.size w Y1 := by rw [← hY1]; exact ((Below.refl _ _).alloc (Nat.le_refl _) _).alloc (by simp) _
  have hb1 : Y1.heap[w.heap.size]? = some (.cells #[Value.int IntKind.u8 4, Value.int IntKind.u8 0, Value.int IntKind.u8 0, Value.int IntKind.u8 0, Value.int IntKind.u8 0] 5 (0, 0)) := by
    rw [← hY1, Below.heap_alloc _ _ _ (by simp)]
    exact heap_alloc_last _ _
  have ht1 : Y1.heap[w.heap.size + 1]? = some (.cells #[.int .u8 7, .slice (some ⟨w.heap.size, 0, none⟩) 5 5] 36 (0, 0)) := by
    rw [← hY1]
    have := heap_alloc_last (w.alloc (Obj.cells #[Value.int IntKind.u8 4, Value.int IntKind.u8 0, Value.int IntKind.u8 0, Value.int IntKind.u8 0, Value.int IntKind.u8 0] 5)) (Obj.cells #[Value.int IntKind.u8 7, Value.slice (some ⟨w.heap.size, 0, none⟩) 5 5] 36)
    simpa using this
  have HB1 := Lib.hid hB1
  have Hb1 := Lib.hid hb1
  have Ht1 := Lib.hid ht1
  rw [hY1]
  clear hY1 hB1 hb1 ht1
  go_wp2_with fail
  refine (read_any [1, 7, 7, 4, 0, 0, 0, 0] (some ⟨Y1.heap.size, 0, none⟩) 8 _ (By.blk (heap_alloc_last _ _) (by decide)) (by decide) (lt_maxLen' (by decide))).mono ?_
  rintro e Y2 ⟨v2, css, rfl, hG, hb⟩
  rw [E1.out] at hG ⊢
  have hb2 : Below Y1.heap.size Y1 Y2 := ((Below.refl _ _).alloc (Nat.le_refl _) _).trans (hb.mono (by simp))
  rcases own_cases hG.row with ⟨_, h0, _⟩ | ⟨g2, c2, rfl, _, _, hc2, hc2m⟩
  · simp at h0
  obtain ⟨A2, c2', e2, _, _, hO2⟩ := hG.ops
  cases e2
  have HO2 := Lib.hid hO2
  have HB2 := Lib.hid (HB1.out.trans (hb2.mono HB1.out.size))
  have Hb2 := Lib.hid (blk_below hb2 Hb1.out)
  have Ht2 := Lib.hid (blk_below hb2 Ht1.out)
  clear hG hO2 hb hb2 HB1 Hb1 Ht1
  have o0 := blk_cell Ht2.out 0
  have o1 := blk_cell Ht2.out 1
  simp at o0 o1
  have hlt := blk_lt Ht2.out
  simp only [List.length_cons, List.length_nil, Nat.reduceAdd]
  simp only [List.length_cons, List.length_nil, Nat.reduceAdd] at hc2 hc2m HO2
  go_wp2_with fail
  obtain ⟨X2, hX2⟩ : ∃ X2, Y2.alloc (Obj.cells #[Value.int IntKind.u8 1, Value.slice none 0 0, Value.int IntKind.u8 7, Value.slice (some ⟨w.heap.size, 0, none⟩) 5 5] 36) = X2 := ⟨_, rfl⟩
  have hbx : Below Y2.heap.size Y2 X2 := by rw [← hX2]; exact (Below.refl _ _).alloc (Nat.le_refl _) _
  have hops : Ops X2 (some ⟨Y2.heap.size, 0, none⟩) [(1, []), (7, [4, 0, 0, 0, 0])] := by
    refine Ops.blk (css := [[Value.int IntKind.u8 1, Value.slice none 0 0], [Value.int IntKind.u8 7, Value.slice (some ⟨w.heap.size, 0, none⟩) 5 5]]) (by rw [← hX2]; exact heap_alloc_last _ _) (.cons ⟨by decide, none, 0, rfl, by simp, by simp, By.nil _ _, fun _ => rfl⟩ (.cons ⟨by decide, some ⟨w.heap.size, 0, none⟩, 5, rfl, by simp, lt_maxLen' (by decide), By.blk (blk_below hbx Hb2.out) (by decide), by simp⟩ .nil))
  rw [hX2]
  refine (sameL_any [(1, []), (7, [4, 0, 0, 0, 0])] [(1, []), (7, [4, 0, 0, 0, 0])] (some ⟨g2, 0, none⟩) (some ⟨Y2.heap.size, 0, none⟩) c2 2 _ (HO2.out.below hbx) hops (by decide) (by decide) (by decide) (by decide)).mono ?_
  rintro e Y3 ⟨rfl, hb⟩
  rw [show decide (([(1, []), (7, [4, 0, 0, 0, 0])] : List Op1) = [(1, []), (7, [4, 0, 0, 0, 0])]) = true by decide]
  have hb3 := bthen hbx hb
  have HO3 := Lib.hid (HO2.out.below hb3)
  have HB3 := Lib.hid (HB2.out.trans (hb3.mono HB2.out.size))
  have Hb3 := Lib.hid (blk_below hb3 Hb2.out)
  have Ht3 := Lib.hid (blk_below hb3 Ht2.out)
  clear hops hX2 hbx hb hb3 HB2 Hb2 Ht2 HO2 o0 o1 hlt
  go_wp2_with fail
  refine (write_any [(1, []), (7, [4, 0, 0, 0, 0])] (some ⟨g2, 0, none⟩) c2 _ HO3.out (by decide) (by decide)).mono ?_
  rintro e Y4 ⟨v4, rfl, hrow4, hb4⟩
  rw [E2.out] at hrow4 ⊢
  obtain ⟨A4, c4, rfl, _, _, by4, _⟩ := By.of_own2 hrow4 (by decide)
  have HY4 := Lib.hid by4
  have HO4 := Lib.hid (HO3.out.below hb4)
  have HB4 := Lib.hid (HB3.out.trans (hb4.mono HB3.out.size))
  have Hb4 := Lib.hid (blk_below hb4 Hb3.out)
  have Ht4 := Lib.hid (blk_below hb4 Ht3.out)
  clear hrow4 by4 hb4 HB3 Hb3 Ht3 HO3
  simp only [List.length_cons, List.length_nil, Nat.reduceAdd]
  have hc2' : (2 : Int) ≤ c2 := by omega
  have hc1' : (1 : Int) ≤ c2 := by omega
  have hcn : ¬ c2 = 1 := by omega
  go_wp2_with fail
  refine (write_any [(7, [4, 0, 0, 0, 0])] (some ⟨g2, 2, none⟩) (c2 - 1) _ (by have := HO4.out.drop 1; simpa using this) (by decide) (by decide)).mono ?_
  rintro e Y5 ⟨v5, rfl, hrow5, hb5⟩
  rw [E3.out] at hrow5 ⊢
  obtain ⟨A5, c5, rfl, _, _, by5, _⟩ := By.of_own2 hrow5 (by decide)
  have HY5 := Lib.hid by5
  have HZ4 := Lib.hid (HY4.out.below hb5)
  have HB5 := Lib.hid (HB4.out.trans (hb5.mono HB4.out.size))
  have Hb5 := Lib.hid (blk_below hb5 Hb4.out)
  have Ht5 := Lib.hid (blk_below hb5 Ht4.out)
  clear hrow5 by5 hb5 HB4 Hb4 Ht4 HO4 HY4
  have o0 := blk_cell Ht5.out 0
  have o1 := blk_cell Ht5.out 1
  simp at o0 o1
  have hlt := blk_lt Ht5.out
  simp only [List.length_cons, List.length_nil, Nat.reduceAdd]
  go_wp2_with fail
  refine (record_any 7 [4, 0, 0, 0, 0] (some ⟨w.heap.size, 0, none⟩) 5 167772161 _ (by decide) (By.blk Hb5.out (by decide)) (by decide) (by decide)).mono ?_
  rintro e Y6 ⟨v6, rfl, hrow6, hb6⟩
  rw [E4.out] at hrow6 ⊢
  obtain ⟨A6, c6, rfl, _, _, by6, _⟩ := By.of_own2 hrow6 (by decide)
  have HY6 := Lib.hid by6
  have HZ4' := Lib.hid (HZ4.out.below hb6)
  have HZ5 := Lib.hid (HY5.out.below hb6)
  have HB6 := Lib.hid (HB5.out.trans (hb6.mono HB5.out.size))
  clear hrow6 by6 hb6 HB5 Hb5 Ht5 HZ4 HY5 o0 o1 hlt
  simp only [List.length_cons, List.length_nil, Nat.reduceAdd]
  go_upto_region 8 with fail
  obtain ⟨X6, hX6⟩ : ∃ X6, Y6.alloc (Obj.cells #[Value.int IntKind.u8 7, Value.slice A6 5 c6] 36) = X6 := ⟨_, rfl⟩
  have hbx : Below Y6.heap.size Y6 X6 := by rw [← hX6]; exact (Below.refl _ _).alloc (Nat.le_refl _) _
  have ht6 : X6.heap[Y6.heap.size]? = some (.cells #[.int .u8 7, .slice A6 5 c6] 36 (0, 0)) := by rw [← hX6]; exact heap_alloc_last _ _
  rw [hX6]
  have HX6 := Lib.hid (HY6.out.below hbx)
  have HX4 := Lib.hid (HZ4'.out.below hbx)
  have HX5 := Lib.hid (HZ5.out.below hbx)
  have HBX6 := Lib.hid (HB6.out.trans (hbx.mono HB6.out.size))
  have Ht6 := Lib.hid ht6
  clear hX6 hbx ht6 HZ4' HZ5 HB6 HY6
  have o0 := blk_cell Ht6.out 0
  have o1 := blk_cell Ht6.out 1
  simp at o0 o1
  have hlt := blk_lt Ht6.out
  go_wp2_with fail
  refine (record_any 7 [8, 10, 0, 0, 1] A6 c6 1 _ (by decide) HX6.out (by decide) (by decide)).mono ?_
  rintro e Y7 ⟨v7, rfl, hrow7, hb7⟩
  rw [E5.out] at hrow7 ⊢
  obtain ⟨A7, c7, rfl, _, _, _, _⟩ := By.of_own2 hrow7 (by decide)
  have HZ4 := Lib.hid (HX4.out.below hb7)
  have HZ5 := Lib.hid (HX5.out.below hb7)
  have HZ6 := Lib.hid (HX6.out.below hb7)
  have HB7 := Lib.hid (HBX6.out.trans (hb7.mono HBX6.out.size))
  have Ht7 := Lib.hid (blk_below hb7 Ht6.out)
  clear hrow7 hb7 HX4 HX5 HX6 HBX6 Ht6 o0 o1 hlt
  simp only [List.length_cons, List.length_nil, Nat.reduceAdd]
  go_upto_region 9 with fail
  obtain ⟨X7, hX7⟩ : ∃ X7, Y7.alloc (Obj.cells #[Value.int IntKind.u8 0, Value.slice A7 0 c7] 36) = X7 := ⟨_, rfl⟩
  have hbx : Below Y7.heap.size Y7 X7 := by rw [← hX7]; exact (Below.refl _ _).alloc (Nat.le_refl _) _
  rw [hX7]
  have HX4 := Lib.hid (HZ4.out.below hbx)
  have HX5 := Lib.hid (HZ5.out.below hbx)
  have HX6 := Lib.hid (HZ6.out.below hbx)
  have HBX7 := Lib.hid (HB7.out.trans (hbx.mono HB7.out.size))
  have HtX := Lib.hid (blk_below hbx Ht7.out)
  clear hX7 hbx HZ4 HZ5 HZ6 HB7 Ht7
  go_wp2_with fail
  refine (sameBytes_any [1, 7, 7, 4, 0, 0, 0, 0] [1, 7, 7, 4, 0, 0, 0, 0] A4 (some ⟨X7.heap.size, 0, none⟩) c4 8 _ (HX4.out.alloc _) (By.blk (heap_alloc_last _ _) (by decide)) (by decide) (by decide)).mono ?_
  rintro e Y8 ⟨rfl, hb⟩
  rw [show decide (([1, 7, 7, 4, 0, 0, 0, 0] : List Int) = [1, 7, 7, 4, 0, 0, 0, 0]) = true by decide]
  have hbb : Below X7.heap.size X7 Y8 := ((Below.refl _ _).alloc (Nat.le_refl _) _).trans (hb.mono (by simp))
  have HQ5 := Lib.hid (HX5.out.below hbb)
  have HQ6 := Lib.hid (HX6.out.below hbb)
  have HB8 := Lib.hid (HBX7.out.trans (hbb.mono HBX7.out.size))
  have Ht8 := Lib.hid (blk_below hbb HtX.out)
  clear hb hbb HX4 HX5 HX6 HBX7 HtX
  go_wp2_with fail
  refine (sameBytes_any [7, 7, 4, 0, 0, 0, 0, 0] [7, 7, 4, 0, 0, 0, 0, 0] A5 (some ⟨Y8.heap.size, 0, none⟩) c5 8 _ (HQ5.out.alloc _) (By.blk (heap_alloc_last _ _) (by decide)) (by decide) (by decide)).mono ?_
  rintro e Y9 ⟨rfl, hb⟩
  rw [show decide (([7, 7, 4, 0, 0, 0, 0, 0] : List Int) = [7, 7, 4, 0, 0, 0, 0, 0]) = true by decide]
  have hbb : Below Y8.heap.size Y8 Y9 := ((Below.refl _ _).alloc (Nat.le_refl _) _).trans (hb.mono (by simp))
  have HR6 := Lib.hid (HQ6.out.below hbb)
  have HB9 := Lib.hid (HB8.out.trans (hbb.mono HB8.out.size))
  have Ht9 := Lib.hid (blk_below hbb Ht8.out)
  clear hb hbb HQ5 HQ6 HB8 Ht8
  have o0 := blk_cell Ht9.out 0
  have o1 := blk_cell Ht9.out 1
  simp at o0 o1
  have hlt := blk_lt Ht9.out
  go_wp2_with fail
  refine (sameBytes_any [8, 10, 0, 0, 1] [8, 10, 0, 0, 1] A6 (some ⟨Y9.heap.size, 0, none⟩) c6 5 _ (HR6.out.alloc _) (By.blk (heap_alloc_last _ _) (by decide)) (by decide) (by decide)).mono ?_
  rintro e Y10 ⟨rfl, hb⟩
  rw [show decide (([8, 10, 0, 0, 1] : List Int) = [8, 10, 0, 0, 1]) = true by decide]
  have hbb : Below Y9.heap.size Y9 Y10 := ((Below.refl _ _).alloc (Nat.le_refl _) _).trans (hb.mono (by simp))
  have HB10 := Lib.hid (HB9.out.trans (hbb.mono HB9.out.size))
  clear hb hbb HR6 HB9 Ht9 o0 o1 hlt
  go_upto_region 12 with fail
  obtain ⟨Z, hZ⟩ : ∃ Z, ((((((((Y10.alloc (Obj.cells #[Value.int IntKind.u8 7, Value.int IntKind.u8 6, Value.int IntKind.u8 4, Value.int IntKind.u8 0, Value.int IntKind.u8 0, Value.int IntKind.u8 0] 5)).alloc (Obj.cells #[Value.int IntKind.u8 5] 5)).alloc (Obj.cells #[Value.int IntKind.u8 5, Value.int IntKind.u8 9, Value.int IntKind.u8 0] 5)).alloc (Obj.cells #[Value.int IntKind.u8 5, Value.int IntKind.u8 1] 5)).alloc (Obj.cells #[Value.int IntKind.u8 0, Value.int IntKind.u8 0, Value.int IntKind.u8 3] 5)).alloc (Obj.cells #[Value.int IntKind.u8 7, Value.int IntKind.u8 3, Value.int IntKind.u8 4, Value.int IntKind.u8 7, Value.int IntKind.u8 3, Value.int IntKind.u8 4] 5)).alloc (Obj.cells #[Value.int IntKind.u8 68, Value.int IntKind.u8 12, Value.int IntKind.u8 5, Value.int IntKind.u8 1, Value.int IntKind.u8 0, Value.int IntKind.u8 0, Value.int IntKind.u8 0, Value.int IntKind.u8 0, Value.int IntKind.u8 0, Value.int IntKind.u8 0, Value.int IntKind.u8 0, Value.int IntKind.u8 0] 5)).alloc (Obj.cells #[Value.slice (some ⟨Y10.heap.size, 0, none⟩) 6 6, Value.int IntKind.i64 61, Value.slice (some ⟨Y10.heap.size + 1, 0, none⟩) 1 1, Value.int IntKind.i64 60, Value.slice (some ⟨Y10.heap.size + 1 + 1, 0, none⟩) 3 3, Value.int IntKind.i64 60, Value.slice (some ⟨Y10.heap.size + 1 + 1 + 1, 0, none⟩) 2 2, Value.int IntKind.i64 61, Value.slice (some ⟨Y10.heap.size + 1 + 1 + 1 + 1, 0, none⟩) 3 3, Value.int IntKind.i64 62, Value.slice (some ⟨Y10.heap.size + 1 + 1 + 1 + 1 + 1, 0, none⟩) 6 6, Value.int IntKind.i64 63, Value.slice (some ⟨Y10.heap.size + 1 + 1 + 1 + 1 + 1 + 1, 0, none⟩) 12 12, Value.int IntKind.i64 0] 67)) = Z := ⟨_, rfl⟩
  have hZ' : allocs Y10 [Obj.cells #[Value.int IntKind.u8 7, Value.int IntKind.u8 6, Value.int IntKind.u8 4, Value.int IntKind.u8 0, Value.int IntKind.u8 0, Value.int IntKind.u8 0] 5, Obj.cells #[Value.int IntKind.u8 5] 5, Obj.cells #[Value.int IntKind.u8 5, Value.int IntKind.u8 9, Value.int IntKind.u8 0] 5, Obj.cells #[Value.int IntKind.u8 5, Value.int IntKind.u8 1] 5, Obj.cells #[Value.int IntKind.u8 0, Value.int IntKind.u8 0, Value.int IntKind.u8 3] 5, Obj.cells #[Value.int IntKind.u8 7, Value.int IntKind.u8 3, Value.int IntKind.u8 4, Value.int IntKind.u8 7, Value.int IntKind.u8 3, Value.int IntKind.u8 4] 5, Obj.cells #[Value.int IntKind.u8 68, Value.int IntKind.u8 12, Value.int IntKind.u8 5, Value.int IntKind.u8 1, Value.int IntKind.u8 0, Value.int IntKind.u8 0, Value.int IntKind.u8 0, Value.int IntKind.u8 0, Value.int IntKind.u8 0, Value.int IntKind.u8 0, Value.int IntKind.u8 0, Value.int IntKind.u8 0] 5, Obj.cells #[Value.slice (some ⟨Y10.heap.size, 0, none⟩) 6 6, Value.int IntKind.i64 61, Value.slice (some ⟨Y10.heap.size + 1, 0, none⟩) 1 1, Value.int IntKind.i64 60, Value.slice (some ⟨Y10.heap.size + 1 + 1, 0, none⟩) 3 3, Value.int IntKind.i64 60, Value.slice (some ⟨Y10.heap.size + 1 + 1 + 1, 0, none⟩) 2 2, Value.int IntKind.i64 61, Value.slice (some ⟨Y10.heap.size + 1 + 1 + 1 + 1, 0, none⟩) 3 3, Value.int IntKind.i64 62, Value.slice (some ⟨Y10.heap.size + 1 + 1 + 1 + 1 + 1, 0, none⟩) 6 6, Value.int IntKind.i64 63, Value.slice (some ⟨Y10.heap.size + 1 + 1 + 1 + 1 + 1 + 1, 0, none⟩) 12 12, Value.int IntKind.i64 0] 67] = Z := hZ
  obtain ⟨L, hL⟩ : ∃ L, Y10.heap.size + 1 + 1 + 1 + 1 + 1 + 1 + 1 = L := ⟨_, rfl⟩
  have hLZ : Z.heap[L]? = some (.cells #[Value.slice (some ⟨Y10.heap.size, 0, none⟩) 6 6, Value.int IntKind.i64 61, Value.slice (some ⟨Y10.heap.size + 1, 0, none⟩) 1 1, Value.int IntKind.i64 60, Value.slice (some ⟨Y10.heap.size + 1 + 1, 0, none⟩) 3 3, Value.int IntKind.i64 60, Value.slice (some ⟨Y10.heap.size + 1 + 1 + 1, 0, none⟩) 2 2, Value.int IntKind.i64 61, Value.slice (some ⟨Y10.heap.size + 1 + 1 + 1 + 1, 0, none⟩) 3 3, Value.int IntKind.i64 62, Value.slice (some ⟨Y10.heap.size + 1 + 1 + 1 + 1 + 1, 0, none⟩) 6 6, Value.int IntKind.i64 63, Value.slice (some ⟨Y10.heap.size + 1 + 1 + 1 + 1 + 1 + 1, 0, none⟩) 12 12, Value.int IntKind.i64 0] 67 (0, 0)) := by
    rw [← hZ', ← hL]
    exact allocs_get Y10 _ 7 _ rfl
  have hbz : Below Y10.heap.size Y10 Z := by rw [← hZ']; exact allocs_below _ _
  have hk0 : Z.heap[Y10.heap.size]? = some (.cells #[Value.int IntKind.u8 7, Value.int IntKind.u8 6, Value.int IntKind.u8 4, Value.int IntKind.u8 0, Value.int IntKind.u8 0, Value.int IntKind.u8 0] 5 (0, 0)) := by
    rw [← hZ']
    exact allocs_get Y10 _ 0 _ rfl
  have hk1 : Z.heap[Y10.heap.size + 1]? = some (.cells #[Value.int IntKind.u8 5] 5 (0, 0)) := by
    rw [← hZ']
    exact allocs_get Y10 _ 1 _ rfl
  have hk2 : Z.heap[Y10.heap.size + 1 + 1]? = some (.cells #[Value.int IntKind.u8 5, Value.int IntKind.u8 9, Value.int IntKind.u8 0] 5 (0, 0)) := by
    rw [← hZ']
    exact allocs_get Y10 _ 2 _ rfl
  have hk3 : Z.heap[Y10.heap.size + 1 + 1 + 1]? = some (.cells #[Value.int IntKind.u8 5, Value.int IntKind.u8 1] 5 (0, 0)) := by
    rw [← hZ']
    exact allocs_get Y10 _ 3 _ rfl
  have hk4 : Z.heap[Y10.heap.size + 1 + 1 + 1 + 1]? = some (.cells #[Value.int IntKind.u8 0, Value.int IntKind.u8 0, Value.int IntKind.u8 3] 5 (0, 0)) := by
    rw [← hZ']
    exact allocs_get Y10 _ 4 _ rfl
  have hk5 : Z.heap[Y10.heap.size + 1 + 1 + 1 + 1 + 1]? = some (.cells #[Value.int IntKind.u8 7, Value.int IntKind.u8 3, Value.int IntKind.u8 4, Value.int IntKind.u8 7, Value.int IntKind.u8 3, Value.int IntKind.u8 4] 5 (0, 0)) := by
    rw [← hZ']
    exact allocs_get Y10 _ 5 _ rfl
  have hk6 : Z.heap[Y10.heap.size + 1 + 1 + 1 + 1 + 1 + 1]? = some (.cells #[Value.int IntKind.u8 68, Value.int IntKind.u8 12, Value.int IntKind.u8 5, Value.int IntKind.u8 1, Value.int IntKind.u8 0, Value.int IntKind.u8 0, Value.int IntKind.u8 0, Value.int IntKind.u8 0, Value.int IntKind.u8 0, Value.int IntKind.u8 0, Value.int IntKind.u8 0, Value.int IntKind.u8 0] 5 (0, 0)) := by
    rw [← hZ']
    exact allocs_get Y10 _ 6 _ rfl
  have hF : ∀ (k : Nat) (x : List Int × Int), ([([7, 6, 4, 0, 0, 0], 61), ([5], 60), ([5, 9, 0], 60), ([5, 1], 61), ([0, 0, 3], 62), ([7, 3, 4, 7, 3, 4], 63), ([68, 12, 5, 1, 0, 0, 0, 0, 0, 0, 0, 0], 0)] : List (List Int × Int))[k]? = some x → ∃ bk, Z.cell? ⟨L, k * 2, none⟩ = some (.slice (some ⟨bk, 0, none⟩) x.1.length x.1.length) ∧ Z.cell? ⟨L, k * 2 + 1, none⟩ = some (.int .i64 x.2) ∧ By Z (some ⟨bk, 0, none⟩) x.1 ∧ x.1.length ≤ 40 ∧ (readS x.1).1 = x.2 := by
    intro k x hx
    have hk : k < 7 := by
      have := (List.getElem?_eq_some_iff.1 hx).1
      simpa using this
    rcases (by omega : k = 0 ∨ k = 1 ∨ k = 2 ∨ k = 3 ∨ k = 4 ∨ k = 5 ∨ k = 6) with rfl | rfl | rfl | rfl | rfl | rfl | rfl
    · cases hx
      exact ⟨_, blk_cell hLZ 0, blk_cell hLZ 1, By.blk (d := [7, 6, 4, 0, 0, 0]) hk0 (by decide), by decide, by decide +kernel⟩
    · cases hx
      exact ⟨_, blk_cell hLZ 2, blk_cell hLZ 3, By.blk (d := [5]) hk1 (by decide), by decide, by decide +kernel⟩
    · cases hx
      exact ⟨_, blk_cell hLZ 4, blk_cell hLZ 5, By.blk (d := [5, 9, 0]) hk2 (by decide), by decide, by decide +kernel⟩
    · cases hx
      exact ⟨_, blk_cell hLZ 6, blk_cell hLZ 7, By.blk (d := [5, 1]) hk3 (by decide), by decide, by decide +kernel⟩
    · cases hx
      exact ⟨_, blk_cell hLZ 8, blk_cell hLZ 9, By.blk (d := [0, 0, 3]) hk4 (by decide), by decide, by decide +kernel⟩
    · cases hx
      exact ⟨_, blk_cell hLZ 10, blk_cell hLZ 11, By.blk (d := [7, 3, 4, 7, 3, 4]) hk5 (by decide), by decide, by decide +kernel⟩
    · cases hx
      exact ⟨_, blk_cell hLZ 12, blk_cell hLZ 13, By.blk (d := [68, 12, 5, 1, 0, 0, 0, 0, 0, 0, 0, 0]) hk6 (by decide), by decide, by decide +kernel⟩
  have HF := Lib.hid hF
  have HBZ := Lib.hid (HB10.out.trans (hbz.mono HB10.out.size))
  have hlz := blk_lt hLZ
  rw [hZ, hL]
  clear hF hk0 hk1 hk2 hk3 hk4 hk5 hk6 hLZ hbz hZ' hZ hL HB10
  obtain ⟨exs, hexs⟩ : ∃ exs : List (List Int × Int), [([7, 6, 4, 0, 0, 0], 61), ([5], 60), ([5, 9, 0], 60), ([5, 1], 61), ([0, 0, 3], 62), ([7, 3, 4, 7, 3, 4], 63), ([68, 12, 5, 1, 0, 0, 0, 0, 0, 0, 0, 0], 0)] = exs := ⟨_, rfl⟩
  rw [hexs] at HF
  have hel : exs.length = 7 := by rw [← hexs]; rfl
  have HEL := Lib.hid hel
  clear hexs hel
  go_loopw [98] (fun i wr => ∃ k : Nat, k ≤ 7 ∧ i = .int .i64 k ∧ Below Z.heap.size Z wr) (fun i _ => 7 - (intOf i).toNat)
  case atStart => exact ⟨0, by omega, rfl, Below.refl _ _⟩
  case round =>
    obtain ⟨k, hk, rfl, hb⟩ := hrel
    by_cases hk7 : k < 7
    · obtain ⟨x, hx⟩ : ∃ x, exs[k]? = some x := ⟨exs[k]'(by rw [HEL.out]; exact hk7), List.getElem?_eq_getElem _⟩
      obtain ⟨bk, x0, x1, hby, hxl, hxe⟩ := HF.out k x hx
      obtain ⟨xd, xe⟩ := x
      simp only at x0 x1 hby hxl hxe
      replace x0 := kc hb x0
      replace x1 := kc hb x1
      have t1 : decide ((k : Int) < 7) = true := by simp; omega
      have hpos : (k : Int) < 7 := by omega
      have HBy := Lib.hid (hby.below hb)
      have HB := Lib.hid hb
      have HXE := Lib.hid hxe
      have HXL := Lib.hid hxl
      clear hby hx hb hxe hxl
      go_upto_region 14 with fail
      obtain ⟨V1, hV1⟩ : ∃ V1, wr.alloc (Obj.cells #[Value.slice (some ⟨bk, 0, none⟩) xd.length xd.length, Value.int IntKind.i64 xe] 67) = V1 := ⟨_, rfl⟩
      have hbv : Below wr.heap.size wr V1 := by rw [← hV1]; exact (Below.refl _ _).alloc (Nat.le_refl _) _
      have hv : V1.heap[wr.heap.size]? = some (.cells #[.slice (some ⟨bk, 0, none⟩) xd.length xd.length, .int .i64 xe] 67 (0, 0)) := by rw [← hV1]; exact heap_alloc_last _ _
      rw [hV1]
      have HBV := Lib.hid (HBy.out.below hbv)
      have HV := Lib.hid hv
      have HB1 := Lib.hid (bthen HB.out hbv)
      obtain ⟨vb, hvb⟩ : ∃ vb, wr.heap.size = vb := ⟨_, rfl⟩
      rw [hvb] at HV ⊢
      clear hV1 hbv hv x0 x1
      have v0 := blk_cell HV.out 0
      have v1 := blk_cell HV.out 1
      simp at v0 v1
      have hlv := blk_lt HV.out
      go_wp2_with fail
      refine (read_any xd (some ⟨bk, 0, none⟩) xd.length _ HBV.out (Nat.le_refl _) (lt_maxLen' (by have := HXL.out; omega))).mono ?_
      rintro e V2 ⟨vr, css2, rfl, hG2, hb2⟩
      rw [HXE.out]
      replace v0 := kc hb2 v0
      replace v1 := kc hb2 v1
      have hlv2 := cell_lt v1
      replace hlv2 : vb < V2.heap.size := hlv2
      have HB2 := Lib.hid (bthen HB1.out hb2)
      clear hG2 hb2 hlv
      go_wp2_with fail
      exact ⟨⟨k + 1, by omega, by go_num, HB2.out⟩, by simp [intOf]; omega⟩
    · obtain rfl : k = 7 := by omega
      go_wp2_with fail
      go_ret
      exact ⟨rfl, HBZ.out.trans (hb.mono HBZ.out.size)⟩

end Go.Proofs.Ytjfnnclbfaakkaa

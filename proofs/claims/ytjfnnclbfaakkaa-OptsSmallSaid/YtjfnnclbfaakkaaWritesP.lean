/-
  Plain lemmas for OptsWrites: two lists of the call's own, a region that appends to both, the bounds of what Write returns. No conditions.
-/
import Derived.Test.YtjfnnclbfaakkaaReadsP
import Derived.Test.YtjfnnclbfaakkaaKept
import Derived.Test.YtjfnnclbfaakkaaFind
import Derived.Test.YtjfnnclbfaakkaaRefU
namespace Go.Proofs.Ytjfnnclbfaakkaa
open Go.RowKit
set_option linter.unusedVariables false
set_option linter.unusedSimpArgs false

theorem wf_small {r : List Op1} : ∀ {out : List Int} {seen : List Op1} {tw : Bool}, (∀ o ∈ r, (0 ≤ o.1 ∧ o.1 ≤ 255) ∧ ∀ x ∈ o.2, 0 ≤ x ∧ x ≤ 255) → (∀ x ∈ out, 0 ≤ x ∧ x ≤ 255) → (wf out seen tw r).2.length ≤ 43 ∧ ∀ x ∈ (wf out seen tw r).2, 0 ≤ x ∧ x ≤ 255 := by
  induction r with
  | nil =>
    intro out seen tw _ ho
    rw [wf]
    by_cases h1 : tw = true
    · rw [if_pos h1]; simp
    · rw [if_neg h1]
      by_cases h2 : 40 < out.length
      · rw [if_pos h2]; simp
      · rw [if_neg h2]
        simp only [padS]
        refine ⟨by rw [List.length_append, List.length_replicate]; omega, fun x hx => ?_⟩
        rcases List.mem_append.1 hx with hx | hx
        · exact ho x hx
        · have := (List.mem_replicate.1 hx).2
          omega
  | cons o r ih =>
    intro out seen tw h ho
    rw [wf]
    by_cases h1 : rightS o = false
    · rw [if_pos h1]; simp
    · rw [if_neg h1]
      refine ih (fun p hp => h p (by simp [hp])) fun x hx => ?_
      by_cases h2 : 40 < out.length
      · rw [if_pos h2] at hx
        exact ho x hx
      · rw [if_neg h2] at hx
        rcases List.mem_append.1 hx with hx | hx
        · exact ho x hx
        · have hl := bytesO_len (o := o) (by simpa using h1)
          have h3 := h o (by simp)
          unfold bytesO at hx hl
          rcases List.mem_cons.1 hx with rfl | hx
          · exact h3.1
          · split at hx
            · simp at hx
            · rename_i hk
              rw [if_neg hk] at hl
              simp at hl
              rcases List.mem_cons.1 hx with rfl | hx
              · omega
              · exact h3.2 x hx
theorem write_small {l : List Op1} (h : ∀ o ∈ l, (0 ≤ o.1 ∧ o.1 ≤ 255) ∧ ∀ x ∈ o.2, 0 ≤ x ∧ x ≤ 255) : (writeS l).2.length ≤ 43 ∧ ∀ x ∈ (writeS l).2, 0 ≤ x ∧ x ≤ 255 := wf_small h (by simp)
theorem fnS_mem {l : List Op1} {kind : Int} {P : Op1 → Prop} (h0 : P (0, [])) (h : ∀ o ∈ l, P o) : P (fnS l kind).2 := by
  unfold fnS
  simp only
  cases hf : findS l kind with
  | none => exact h0
  | some o => exact h o (List.mem_of_find?_eq_some hf)
theorem opvs_facts {W : World} {css : List (List Value)} {l : List Op1} (h : OpVs W css l) : ∀ o ∈ l, (0 ≤ o.1 ∧ o.1 ≤ 255) ∧ ∀ x ∈ o.2, 0 ≤ x ∧ x ≤ 255 := by
  induction h with
  | nil => simp
  | cons h1 _ ih =>
    intro o ho
    rcases List.mem_cons.1 ho with rfl | ho
    · obtain ⟨A, c, _, _, _, hb, _⟩ := h1.mem
      exact ⟨h1.kind, hb.rng⟩
    · exact ih o ho

/-- A lent slice is a slice of the call's own. -/
theorem lent_own {W : World} {B g : Nat} {d : List Int} (hg : W.heap[g]? = some (.cells (lentC d) 5 (0, 0))) (hB : B ≤ g) (hd : d.length ≤ 2 ^ 40) : W.ownsRow B 5 1 (.slice (some ⟨g, 0, none⟩) d.length (d.length + 12)) d.length (d.map (Value.int .u8)) := by
  refine ⟨by simp, .inr ⟨g, d.length + 12, _, rfl, hB, hg, Nat.le_add_right _ _, lt_maxLen' (by omega), by simp [lentC, mks_len], ?_⟩⟩
  have e : d.length * 1 = (d.map (Value.int .u8)).length := by simp
  rw [e]
  simp only [lentC, List.map_append]
  rw [List.take_left]
/-- The options' data are lent. -/
inductive Lnts (W : World) : List (List Value) → List Op1 → Prop
  | nil : Lnts W [] []
  | cons {k : Int} {d : List Int} {g : Nat} {css : List (List Value)} {l : List Op1} : W.heap[g]? = some (.cells (lentC d) 5 (0, 0)) → Lnts W css l → Lnts W ([.int .u8 k, .slice (some ⟨g, 0, none⟩) d.length (d.length + 12)] :: css) ((k, d) :: l)
theorem Lnts.keep {W W' : World} {css : List (List Value)} {l : List Op1} (h : Lnts W css l) (hk : KeepB 0 W W') : Lnts W' css l := by
  induction h with
  | nil => exact .nil
  | cons h1 _ ih => exact .cons ((hk _ _ (Nat.zero_le _) h1).trans h1) ih
theorem Lnts.push {W : World} {css : List (List Value)} {l : List Op1} (h : Lnts W css l) {k : Int} {d : List Int} {g n : Nat} (hn : d.length = n) (hg : W.heap[g]? = some (.cells (lentC d) 5 (0, 0))) : Lnts W (css ++ [[.int .u8 k, .slice (some ⟨g, 0, none⟩) n (n + 12)]]) (l ++ [(k, d)]) := by
  subst hn
  induction h with
  | nil => exact .cons hg .nil
  | cons h1 _ ih => exact .cons h1 ih
theorem Lnts.get {W : World} {css : List (List Value)} {l : List Op1} (h : Lnts W css l) : ∀ (i : Nat) (k : Int) (d : List Int), l[i]? = some (k, d) → ∃ g, css[i]? = some [.int .u8 k, .slice (some ⟨g, 0, none⟩) d.length (d.length + 12)] ∧ W.heap[g]? = some (.cells (lentC d) 5 (0, 0)) := by
  induction h with
  | nil => intro i k d hi; simp at hi
  | cons h1 _ ih =>
    intro i k d hi
    cases i with
    | zero =>
      simp only [List.getElem?_cons_zero, Option.some.injEq, Prod.mk.injEq] at hi
      obtain ⟨rfl, rfl⟩ := hi
      exact ⟨_, rfl, h1⟩
    | succ i => exact ih i k d (by simpa using hi)
/-- Between the rounds of the first loop. -/
structure WsI (w : World) (l : List Op1) (k : Nat) (v5 v6 : Value) (css5 css6 : List (List Value)) (W : World) : Prop where
  below : Below w.heap.size w W
  got : Got w.heap.size W v5 css5 (l.take k)
  lnt : Lnts W css5 (l.take k)
  row : W.ownsRow w.heap.size 80 2 v6 (l.take k).length css6.flatten
  own : Owns w.heap.size W css6 (l.take k)
theorem WsI.zero (w : World) (l : List Op1) : WsI w l 0 (.slice none 0 0) (.slice none 0 0) [] [] w :=
  ⟨Below.refl _ _, by rw [List.take_zero]; exact Got.nil _ _, by rw [List.take_zero]; exact .nil, by rw [List.take_zero]; exact World.ownsRow_nil _ _ _ _, by rw [List.take_zero]; exact .nil⟩
theorem WsI.later {w W W' : World} {l : List Op1} {k : Nat} {v5 v6 : Value} {css5 css6 : List (List Value)} (h : WsI w l k v5 v6 css5 css6 W) (hb : Below W.heap.size W W') : WsI w l k v5 v6 css5 css6 W' :=
  ⟨h.below.trans (hb.mono h.below.size), h.got.below hb, h.lnt.keep (KeepB.of_below hb), own_below h.row hb, h.own.keep (KeepB.of_below hb)⟩
theorem own_blk {W : World} {B n size : Nat} {e : TypeId} {v : Value} {xs : List Value} (h : W.ownsRow B e size v n xs) {b : Nat} (hb : v.ownBlock = some b) : ∃ F, W.heap[b]? = some (.cells F e (0, 0)) := by
  obtain ⟨_, (⟨rfl, _⟩ | ⟨g, cap, cur, rfl, _, h2, _⟩)⟩ := h
  · cases hb
  · cases hb
    exact ⟨cur, h2⟩
/-- A region in which two rows of the call's own grow, each once. -/
structure I2 (B n5 n6 c5 c6 : Nat) (v5 v6 : Value) (xs5 xs6 : List Value) (Y5 Y6 : List Value → World → Prop) (w1 : World) (P : Nat → Value → World → Prop) (D : Nat → Prop) (g : Nat → Value) (W : World) : Prop where
  b : Below B w1 W
  base : B ≤ w1.heap.size
  keep : ∀ b, b < w1.heap.size → v5.ownBlock ≠ some b → v6.ownBlock ≠ some b → W.heap[b]? = w1.heap[b]?
  old5 : ∀ b, v5.ownBlock = some b → b < w1.heap.size
  old6 : ∀ b, v6.ownBlock = some b → b < w1.heap.size
  e : ∀ i, D i → i ≠ c5 → i ≠ c6 → P i (g i) W
  r5 : ¬ D c5 → W.ownsRow B 36 2 v5 n5 xs5
  a5 : D c5 → ∃ ys, Y5 ys W ∧ W.ownsRow B 36 2 (g c5) (n5 + 1) (xs5 ++ ys)
  r6 : ¬ D c6 → W.ownsRow B 80 2 v6 n6 xs6
  a6 : D c6 → ∃ ys, Y6 ys W ∧ W.ownsRow B 80 2 (g c6) (n6 + 1) (xs6 ++ ys)
/-- What holds of new blocks stays. -/
def New (n : Nat) (P : World → Prop) : Prop := ∀ X Y : World, P X → (∀ b, n ≤ b → b < X.heap.size → Y.heap[b]? = X.heap[b]?) → P Y
section
variable {B n5 n6 c5 c6 : Nat} {v5 v6 : Value} {xs5 xs6 : List Value} {Y5 Y6 : List Value → World → Prop} {w1 : World} {P : Nat → Value → World → Prop} {D : Nat → Prop} {g : Nat → Value} {W W' : World}
theorem I2.zero (hB : B ≤ w1.heap.size) (h5 : w1.ownsRow B 36 2 v5 n5 xs5) (h6 : w1.ownsRow B 80 2 v6 n6 xs6) (g : Nat → Value) : I2 B n5 n6 c5 c6 v5 v6 xs5 xs6 Y5 Y6 w1 P (fun _ => False) g w1.drew := by
  have hb : Below w1.heap.size w1 w1.drew := (Below.refl _ _).drew
  exact ⟨hb.mono hB, hB, fun b _ _ _ => rfl, fun b e => (h5.lt b e).2, fun b e => (h6.lt b e).2, fun _ h => h.elim, fun _ => own_below h5 hb, fun h => h.elim, fun _ => own_below h6 hb, fun h => h.elim⟩
theorem I2.upd (hP : ∀ i v, New w1.heap.size (P i v)) (h5 : ∀ ys, New w1.heap.size (Y5 ys)) (h6 : ∀ ys, New w1.heap.size (Y6 ys)) (h : I2 B n5 n6 c5 c6 v5 v6 xs5 xs6 Y5 Y6 w1 P D g W) (i : Nat) (hi5 : i ≠ c5) (hi6 : i ≠ c6) (x : Value) (hb : Below W.heap.size W W') (hx : P i x W') :
    I2 B n5 n6 c5 c6 v5 v6 xs5 xs6 Y5 Y6 w1 P (fun j => D j ∨ j = i) (fun j => if j = i then x else g j) W' := by
  have d5 : (D c5 ∨ c5 = i) → D c5 := fun h => h.resolve_right fun e => hi5 e.symm
  have d6 : (D c6 ∨ c6 = i) → D c6 := fun h => h.resolve_right fun e => hi6 e.symm
  have hs := h.b.size
  refine ⟨h.b.trans (hb.mono (Nat.le_trans h.base hs)), h.base, fun b hb1 e5 e6 => (hb.block b (by omega)).trans (h.keep b hb1 e5 e6), h.old5, h.old6, fun j hj j5 j6 => ?_, fun hd => own_below (h.r5 fun h => hd (.inl h)) hb, fun hd => ?_, fun hd => own_below (h.r6 fun h => hd (.inl h)) hb, fun hd => ?_⟩
  · show P j (if j = i then x else g j) W'
    by_cases hji : j = i
    · rw [if_pos hji, hji]; exact hx
    · rw [if_neg hji]
      exact hP _ _ _ _ (h.e j (hj.resolve_right hji) j5 j6) fun b _ hlt => hb.block b hlt
  · show ∃ ys, _ ∧ W'.ownsRow B 36 2 (if c5 = i then x else g c5) _ _
    rw [if_neg (fun e => hi5 e.symm)]
    obtain ⟨ys, h1, h2⟩ := h.a5 (d5 hd)
    exact ⟨ys, h5 _ _ _ h1 fun b _ hlt => hb.block b hlt, own_below h2 hb⟩
  · show ∃ ys, _ ∧ W'.ownsRow B 80 2 (if c6 = i then x else g c6) _ _
    rw [if_neg (fun e => hi6 e.symm)]
    obtain ⟨ys, h1, h2⟩ := h.a6 (d6 hd)
    exact ⟨ys, h6 _ _ _ h1 fun b _ hlt => hb.block b hlt, own_below h2 hb⟩
theorem I2.turn5 (hP : ∀ i v, New w1.heap.size (P i v)) (h5 : ∀ ys, New w1.heap.size (Y5 ys)) (h6 : ∀ ys, New w1.heap.size (Y6 ys)) (hc : c5 ≠ c6) (h : I2 B n5 n6 c5 c6 v5 v6 xs5 xs6 Y5 Y6 w1 P D g W) (hn : ¬ D c5) (x : Value) (hg : W.grownBy W' v5.ownBlock) {ys : List Value} (hy : Y5 ys W) (hr : W'.ownsRow B 36 2 x (n5 + 1) (xs5 ++ ys)) :
    I2 B n5 n6 c5 c6 v5 v6 xs5 xs6 Y5 Y6 w1 P (fun j => D j ∨ j = c5) (fun j => if j = c5 then x else g j) W' := by
  have d6 : (D c6 ∨ c6 = c5) → D c6 := fun h => h.resolve_right fun e => hc e.symm
  have hs := h.b.size
  have hnew : ∀ b, w1.heap.size ≤ b → b < W.heap.size → W'.heap[b]? = W.heap[b]? := fun b h1 h2 => hg.block b h2 fun e => by have := h.old5 b e.symm; omega
  have h80 : ∀ (b : Nat) (F : Array Value), W.heap[b]? = some (.cells F 80 (0, 0)) → W'.heap[b]? = W.heap[b]? := fun b F hF => hg.block b (blk_lt hF) fun e => by
    obtain ⟨F', h1⟩ := own_blk (h.r5 hn) e.symm
    exact blk_ne (by decide) h1 hF rfl
  refine ⟨h.b.grown hg (Nat.le_trans h.base hs) fun b e => ((h.r5 hn).lt b e).1, h.base, fun b hb1 e5 e6 => (hg.block b (by omega) (fun e => e5 e.symm)).trans (h.keep b hb1 e5 e6), h.old5, h.old6, fun j hj j5 j6 => ?_, fun hd => absurd (.inr rfl) hd, fun _ => ?_, fun hd => ?_, fun hd => ?_⟩
  · show P j (if j = c5 then x else g j) W'
    rw [if_neg j5]
    exact hP _ _ _ _ (h.e j (hj.resolve_right j5) j5 j6) hnew
  · show ∃ ys, _ ∧ W'.ownsRow B 36 2 (if c5 = c5 then x else g c5) _ _
    rw [if_pos rfl]
    exact ⟨ys, h5 _ _ _ hy hnew, hr⟩
  · have hr6 := h.r6 fun h => hd (.inl h)
    exact own_of_block hr6 fun b _ e _ => by
      obtain ⟨F, hF⟩ := own_blk hr6 e
      exact h80 b F hF
  · show ∃ ys, _ ∧ W'.ownsRow B 80 2 (if c6 = c5 then x else g c6) _ _
    rw [if_neg (fun e => hc e.symm)]
    obtain ⟨zs, h1, h2⟩ := h.a6 (d6 hd)
    exact ⟨zs, h6 _ _ _ h1 hnew, own_of_block h2 fun b _ e _ => by
      obtain ⟨F, hF⟩ := own_blk h2 e
      exact h80 b F hF⟩
theorem I2.turn6 (hP : ∀ i v, New w1.heap.size (P i v)) (h5 : ∀ ys, New w1.heap.size (Y5 ys)) (h6 : ∀ ys, New w1.heap.size (Y6 ys)) (hc : c5 ≠ c6) (h : I2 B n5 n6 c5 c6 v5 v6 xs5 xs6 Y5 Y6 w1 P D g W) (hn : ¬ D c6) (x : Value) (hg : W.grownBy W' v6.ownBlock) {ys : List Value} (hy : Y6 ys W) (hr : W'.ownsRow B 80 2 x (n6 + 1) (xs6 ++ ys)) :
    I2 B n5 n6 c5 c6 v5 v6 xs5 xs6 Y5 Y6 w1 P (fun j => D j ∨ j = c6) (fun j => if j = c6 then x else g j) W' := by
  have d5 : (D c5 ∨ c5 = c6) → D c5 := fun h => h.resolve_right hc
  have hs := h.b.size
  have hnew : ∀ b, w1.heap.size ≤ b → b < W.heap.size → W'.heap[b]? = W.heap[b]? := fun b h1 h2 => hg.block b h2 fun e => by have := h.old6 b e.symm; omega
  have h36 : ∀ (b : Nat) (F : Array Value), W.heap[b]? = some (.cells F 36 (0, 0)) → W'.heap[b]? = W.heap[b]? := fun b F hF => hg.block b (blk_lt hF) fun e => by
    obtain ⟨F', h1⟩ := own_blk (h.r6 hn) e.symm
    exact blk_ne (by decide) h1 hF rfl
  refine ⟨h.b.grown hg (Nat.le_trans h.base hs) fun b e => ((h.r6 hn).lt b e).1, h.base, fun b hb1 e5 e6 => (hg.block b (by omega) (fun e => e6 e.symm)).trans (h.keep b hb1 e5 e6), h.old5, h.old6, fun j hj j5 j6 => ?_, fun hd => ?_, fun hd => ?_, fun hd => absurd (.inr rfl) hd, fun _ => ?_⟩
  · show P j (if j = c6 then x else g j) W'
    rw [if_neg j6]
    exact hP _ _ _ _ (h.e j (hj.resolve_right j6) j5 j6) hnew
  · have hr5 := h.r5 fun h => hd (.inl h)
    exact own_of_block hr5 fun b _ e _ => by
      obtain ⟨F, hF⟩ := own_blk hr5 e
      exact h36 b F hF
  · show ∃ ys, _ ∧ W'.ownsRow B 36 2 (if c5 = c6 then x else g c5) _ _
    rw [if_neg hc]
    obtain ⟨zs, h1, h2⟩ := h.a5 (d5 hd)
    exact ⟨zs, h5 _ _ _ h1 hnew, own_of_block h2 fun b _ e _ => by
      obtain ⟨F, hF⟩ := own_blk h2 e
      exact h36 b F hF⟩
  · show ∃ ys, _ ∧ W'.ownsRow B 80 2 (if c6 = c6 then x else g c6) _ _
    rw [if_pos rfl]
    exact ⟨ys, h6 _ _ _ hy hnew, hr⟩
theorem I2.size (h : I2 B n5 n6 c5 c6 v5 v6 xs5 xs6 Y5 Y6 w1 P D g W) : w1.heap.size ≤ W.heap.size := h.b.size
/-- The cells of a block that is none of the two rows. -/
theorem I2.cell8 (h : I2 B n5 n6 c5 c6 v5 v6 xs5 xs6 Y5 Y6 w1 P D g W) {b8 : Nat} (h5 : ∀ b, v5.ownBlock = some b → b < b8) (h6 : ∀ b, v6.ownBlock = some b → b < b8) {F : Array Value} {e : TypeId} (h8 : w1.heap[b8]? = some (.cells F e (0, 0))) (j : Nat) : W.cell? ⟨b8, j, none⟩ = w1.cell? ⟨b8, j, none⟩ := by
  have h1 := (h.keep b8 (blk_lt h8) (fun e => by have := h5 _ e; omega) (fun e => by have := h6 _ e; omega)).trans h8
  rw [blk_cell h1 j, blk_cell h8 j]
/-- Bytes that are not of the two rows stay. -/
theorem I2.kb (h : I2 B n5 n6 c5 c6 v5 v6 xs5 xs6 Y5 Y6 w1 P D g W) (h5 : w1.ownsRow B 36 2 v5 n5 xs5) (h6 : w1.ownsRow B 80 2 v6 n6 xs6) : KeepB 0 w1 W := fun b F _ hF => h.keep b (blk_lt hF) (fun e => by
  obtain ⟨F', h1⟩ := own_blk h5 e
  exact blk_ne (by decide) h1 hF rfl) (fun e => by
  obtain ⟨F', h1⟩ := own_blk h6 e
  exact blk_ne (by decide) h1 hF rfl)
end
/-- What is appended to the two lists. -/
def YA (n1 : Nat) (kd : Int) (d : List Int) (n : Nat) (ys : List Value) (W : World) : Prop := ∃ q, ys = [.int .u8 kd, .slice (some ⟨q, 0, none⟩) n (n + 12)] ∧ n1 ≤ q ∧ W.heap[q]? = some (.cells (lentC d) 5 (0, 0))
def YB (n1 : Nat) (kd : Int) (d : List Int) (n : Nat) (ys : List Value) (W : World) : Prop := ∃ A c, ys = [.int .u8 kd, .slice A n c] ∧ W.ownsRow n1 5 1 (.slice A n c) n (d.map (Value.int .u8))
theorem YA.new {n1 : Nat} {kd : Int} {d : List Int} {n : Nat} (ys : List Value) : New n1 (YA n1 kd d n ys) := fun X Y h hk => by
  obtain ⟨q, h1, h2, h3⟩ := h
  exact ⟨q, h1, h2, (hk q h2 (blk_lt h3)).trans h3⟩
theorem YB.new {n1 : Nat} {kd : Int} {d : List Int} {n : Nat} (ys : List Value) : New n1 (YB n1 kd d n ys) := fun X Y h hk => by
  obtain ⟨A, c, h1, h2⟩ := h
  exact ⟨A, c, h1, own_of_block h2 fun b hb _ hlt => hk b hb hlt⟩
/-- One round. -/
theorem WsI.push {w w1 W : World} {l : List Op1} {k : Nat} {v5 v6 : Value} {css5 css6 : List (List Value)} {kd : Int} {d : List Int} {n c5 c6 : Nat} {P : Nat → Value → World → Prop} {D : Nat → Prop} {g : Nat → Value}
    (h : WsI w l k v5 v6 css5 css6 w1) (hx : l[k]? = some (kd, d)) (hn : d.length = n) (hn2 : n ≤ 2 ^ 40) (hk : 0 ≤ kd ∧ kd ≤ 255) (hr : ∀ x ∈ d, 0 ≤ x ∧ x ≤ 255) (hi : I2 w.heap.size k k c5 c6 v5 v6 css5.flatten css6.flatten (YA w1.heap.size kd d n) (YB w1.heap.size kd d n) w1 P D g W) (h5 : D c5) (h6 : D c6) :
    ∃ cs5 cs6, WsI w l (k + 1) (g c5) (g c6) (css5 ++ [cs5]) (css6 ++ [cs6]) W := by
  have htk : l.take (k + 1) = l.take k ++ [(kd, d)] := by rw [List.take_add_one, hx]; rfl
  have hlk : (l.take k).length = k := by
    rw [List.length_take]
    have := (List.getElem?_eq_some_iff.1 hx).1
    omega
  have hb5 := h.got.row
  have hb6 := h.row
  rw [hlk] at hb5 hb6
  have hkb := hi.kb hb5 hb6
  obtain ⟨ys5, ⟨q, rfl, hq1, hq2⟩, hr5⟩ := hi.a5 h5
  obtain ⟨ys6, ⟨A, c, rfl, hr6o⟩, hr6⟩ := hi.a6 h6
  subst hn
  refine ⟨[.int .u8 kd, .slice (some ⟨q, 0, none⟩) d.length (d.length + 12)], [.int .u8 kd, .slice A d.length c], h.below.trans hi.b, ⟨?_, ?_, ?_⟩, ?_, ?_, ?_⟩
  · rw [htk, List.length_append, hlk, List.flatten_append]
    simpa using hr5
  · rw [htk]
    exact (h.got.each.keep (hkb.mono (Nat.zero_le _))).push ⟨hk, hr, _, rfl, lent_own hq2 (Nat.le_trans h.below.size hq1) hn2⟩
  · rw [List.pairwise_append]
    refine ⟨h.got.ord, by simp, fun a ha b hb g1 g2 hg1 hg2 => ?_⟩
    simp only [List.mem_singleton] at hb
    subst hb
    have h1 := (h.got.each.lt a ha g1 hg1).2
    have hg3 : q = g2 := Option.some.inj hg2
    omega
  · rw [htk]
    exact (h.lnt.keep hkb).push rfl hq2
  · rw [htk, List.length_append, hlk, List.flatten_append]
    simpa using hr6
  · rw [htk]
    exact (h.own.keep (hkb.mono (Nat.zero_le _))).push ⟨hk, hr, _, rfl, own_base hr6o h.below.size⟩
theorem WsI.ops5 {w W : World} {l : List Op1} {v5 v6 : Value} {css5 css6 : List (List Value)} (h : WsI w l l.length v5 v6 css5 css6 W) : ∃ A c, v5 = .slice A l.length c ∧ l.length ≤ c ∧ c ≤ maxLen ∧ Ops W A l := by
  have := h.got
  rw [List.take_length] at this
  exact this.ops
theorem WsI.ops6 {w W : World} {l : List Op1} {v5 v6 : Value} {css5 css6 : List (List Value)} (h : WsI w l l.length v5 v6 css5 css6 W) : ∃ A c, v6 = .slice A l.length c ∧ l.length ≤ c ∧ c ≤ maxLen ∧ Ops W A l := by
  have h1 := h.row
  have h2 := h.own
  rw [List.take_length] at h1 h2
  exact Ops.of_own h1 h2.opvs rfl
/-- The slices that must lie apart. -/
theorem wr_lz {B nb no lb lo : Nat} {W : World} {vb vo : Value} {xb xo : List Value} {css : List (List Value)} (hz : Lz 5 B (datL css) W) (hzb : ∀ t ∈ datL css, ∀ b, t.g = some b → b < nb) (hb : W.ownsRow nb 5 1 vb lb xb) (hbo : ∀ b, vb.ownBlock = some b → b < no) (ho : W.ownsRow no 5 1 vo lo xo) (hBn : B ≤ nb) (hn : nb ≤ no) (hlb : lb ≤ 2 ^ 20) (hlo : lo ≤ 2 ^ 20) (hl : (datL css).length + 2 ≤ 2 ^ 18) :
    Lz 5 B (sliOf vb :: sliOf vo :: datL css) W ∧ (sliOf vb).v = vb ∧ (sliOf vo).v = vo := by
  obtain ⟨s1, s2, s3, s4⟩ := own_sli hb hlb
  obtain ⟨t1, t2, t3, t4⟩ := own_sli ho hlo
  have hz2 : Lz 5 B (sliOf vo :: datL css) W := Lz.cons t1 hz (fun t ht b e1 e2 => by
    have := hzb t ht b e2
    have := (t3 b e1).1
    omega) (by omega) (fun b e => ⟨Nat.le_trans (Nat.le_trans hBn hn) (t3 b e).1, (t3 b e).2⟩)
  refine ⟨Lz.cons s1 hz2 (fun t ht b e1 e2 => ?_) (by simp; omega) (fun b e => ⟨Nat.le_trans hBn (s3 b e).1, (s3 b e).2⟩), s2, t2⟩
  rcases List.mem_cons.1 ht with rfl | ht
  · have := (t3 b e2).1
    have := hbo b (s4.symm.trans e1)
    omega
  · have := hzb t ht b e2
    have := (s3 b e1).1
    omega
/-- Lent, kept, copied: with the length's letter. -/
theorem by_lent_w {w : World} {g : Nat} {d : List Int} (hg : w.heap[g]? = some (.cells (lentC d) 5 (0, 0))) (hr : ∀ x ∈ d, 0 ≤ x ∧ x ≤ 255) : By w (some ⟨g, 0, none⟩) d :=
  ⟨hr, fun _ => ⟨g, 0, rfl, blk_lt hg, fun i x hi => by
    have hl : i < d.length := (List.getElem?_eq_some_iff.1 hi).1
    rw [Nat.zero_add, blk_cell hg i, lentC_lo hl, List.getD_eq_getElem?_getD, hi]
    rfl⟩⟩
theorem lent_w (d : List Int) (n : Nat) (A : Option Addr) (c : Nat) (w : World) (hN : d.length = n) (hd : By w A d) (hn : n ≤ 2 ^ 40) (hA : A = none → c = 0) :
    Calls Try.prog 28 #[.slice A n c] w fun e w' => ∃ g, e = .returned (.slice (some ⟨g, 0, none⟩) n (n + 12)) ∧ w.heap.size ≤ g ∧ w'.heap[g]? = some (.cells (lentC d) 5 (0, 0)) ∧ Below w.heap.size w w' := by
  subst hN
  exact lent_any d A c w hd hn hA
theorem kept_w (d : List Int) (n g : Nat) (A : Option Addr) (c : Nat) (w : World) (hN : d.length = n) (hg : w.heap[g]? = some (.cells (lentC d) 5 (0, 0))) (hd : By w A d) (hn : n ≤ 2 ^ 40) :
    Calls Try.prog 31 #[.slice (some ⟨g, 0, none⟩) n (n + 12), .slice A n c] w fun e w' => e = .returned (.bool true) ∧ Below w.heap.size w w' := by
  subst hN
  exact kept_any d g A c w hg hd hn
theorem theirs_w (k : Int) (d : List Int) (n : Nat) (A : Option Addr) (c : Nat) (w : World) (hN : d.length = n) (hd : By w A d) (hn : n ≤ 2 ^ 40) (hA : A = none → c = 0) :
    Calls Try.prog 38 #[.agg #[.int .u8 k, .slice A n c]] w fun e w' => ∃ A' c', e = .returned (.agg #[.int .u8 k, .slice A' n c']) ∧ w'.ownsRow w.heap.size 5 1 (.slice A' n c') n (d.map (Value.int .u8)) ∧ Below w.heap.size w w' := by
  subst hN
  exact theirs_any k d A c w hd hn hA
/-- What region 10's operations leave. -/
def PX (n1 m : Nat) (kd : Int) (d : List Int) (vals : List Value) : Nat → Value → World → Prop
  | 5, v, W => ∃ q, v = .slice (some ⟨q, 0, none⟩) m (m + 12) ∧ n1 ≤ q ∧ W.heap[q]? = some (.cells (lentC d) 5 (0, 0))
  | 6, v, W => ∃ q, v = .agg #[.int .u8 kd, .slice (some ⟨q, 0, none⟩) m (m + 12)] ∧ n1 ≤ q ∧ W.heap[q]? = some (.cells (lentC d) 5 (0, 0))
  | 7, v, W => ∃ b q, v = .slice (some ⟨b, 0, none⟩) 1 1 ∧ n1 ≤ b ∧ W.heap[b]? = some (.cells #[.int .u8 kd, .slice (some ⟨q, 0, none⟩) m (m + 12)] 36 (0, 0)) ∧ n1 ≤ q ∧ W.heap[q]? = some (.cells (lentC d) 5 (0, 0))
  | 11, v, W => ∃ A c, v = .agg #[.int .u8 kd, .slice A m c] ∧ W.ownsRow n1 5 1 (.slice A m c) m (d.map (Value.int .u8))
  | 12, v, W => ∃ b A c, v = .slice (some ⟨b, 0, none⟩) 1 1 ∧ n1 ≤ b ∧ W.heap[b]? = some (.cells #[.int .u8 kd, .slice A m c] 80 (0, 0)) ∧ W.ownsRow n1 5 1 (.slice A m c) m (d.map (Value.int .u8))
  | i, v, _ => v = vals.getD i undef
theorem PX.new {n1 m : Nat} {kd : Int} {d : List Int} {vals : List Value} (i : Nat) (v : Value) : New n1 (PX n1 m kd d vals i v) := fun X Y h hk => by
  have hk2 : ∀ (b : Nat) (o : Obj), n1 ≤ b → X.heap[b]? = some o → Y.heap[b]? = some o := fun b o h1 h2 => (hk b h1 (blk_lt h2)).trans h2
  have ho : ∀ {A : Option Addr} {c : Nat}, X.ownsRow n1 5 1 (.slice A m c) m (d.map (Value.int .u8)) → Y.ownsRow n1 5 1 (.slice A m c) m (d.map (Value.int .u8)) := fun h => own_of_block h fun b hb _ hlt => hk b hb hlt
  by_cases h5 : i = 5
  · subst h5
    obtain ⟨q, e, h1, h2⟩ := h
    exact ⟨q, e, h1, hk2 _ _ h1 h2⟩
  by_cases h6 : i = 6
  · subst h6
    obtain ⟨q, e, h1, h2⟩ := h
    exact ⟨q, e, h1, hk2 _ _ h1 h2⟩
  by_cases h7 : i = 7
  · subst h7
    obtain ⟨b, q, e, h1, h2, h3, h4⟩ := h
    exact ⟨b, q, e, h1, hk2 _ _ h1 h2, h3, hk2 _ _ h3 h4⟩
  by_cases h11 : i = 11
  · subst h11
    obtain ⟨A, c, e, h1⟩ := h
    exact ⟨A, c, e, ho h1⟩
  by_cases h12 : i = 12
  · subst h12
    obtain ⟨b, A, c, e, h1, h2, h3⟩ := h
    exact ⟨b, A, c, e, h1, hk2 _ _ h1 h2, ho h3⟩
  unfold PX at h ⊢
  split at h <;> first | contradiction | exact h
/-- The cells of one of the options. -/
theorem got_at_w {n m : Nat} {W : World} {A4 : Option Addr} {c4 : Nat} {css : List (List Value)} {rl : List Op1} (h : Got n W (.slice A4 m c4) css rl) (hl : Lnts W css rl) {k : Nat} {kd : Int} {d : List Int} (hk : rl[k]? = some (kd, d)) :
    ∃ b4 g, A4 = some ⟨b4, 0, none⟩ ∧ css[k]? = some [.int .u8 kd, .slice (some ⟨g, 0, none⟩) d.length (d.length + 12)] ∧ W.cell? ⟨b4, k * 2, none⟩ = some (.int .u8 kd) ∧ W.cell? ⟨b4, k * 2 + 1, none⟩ = some (.slice (some ⟨g, 0, none⟩) d.length (d.length + 12)) ∧ W.heap[g]? = some (.cells (lentC d) 5 (0, 0)) := by
  obtain ⟨g, hcs, hg⟩ := hl.get k kd d hk
  have hlt := (List.getElem?_eq_some_iff.1 hk).1
  rcases own_cases h.row with ⟨_, h0, _⟩ | ⟨b4, cap, e1, _, hlt2, _, _⟩
  · omega
  · injection e1 with e1 e2 e3
    subst e1 e3
    have hrow := h.row
    have hm : m = rl.length := e2
    subst hm
    have hrd := Rd.of_own hrow (fun cs hc => h.each.opvs.each cs hc) hlt2
    refine ⟨b4, g, rfl, hcs, ?_, ?_, hg⟩
    · have := hrd.cell hcs (j := 0) rfl
      simpa using this
    · have := hrd.cell hcs (j := 1) rfl
      simpa using this
theorem WsI.row5 {w W : World} {l : List Op1} {k : Nat} {v5 v6 : Value} {css5 css6 : List (List Value)} (h : WsI w l k v5 v6 css5 css6 W) (hk : k ≤ l.length) : W.ownsRow w.heap.size 36 2 v5 k css5.flatten := by
  have := h.got.row
  rwa [show (l.take k).length = k by rw [List.length_take]; omega] at this
theorem WsI.row6 {w W : World} {l : List Op1} {k : Nat} {v5 v6 : Value} {css5 css6 : List (List Value)} (h : WsI w l k v5 v6 css5 css6 W) (hk : k ≤ l.length) : W.ownsRow w.heap.size 80 2 v6 k css6.flatten := by
  have := h.row
  rwa [show (l.take k).length = k by rw [List.length_take]; omega] at this
end Go.Proofs.Ytjfnnclbfaakkaa

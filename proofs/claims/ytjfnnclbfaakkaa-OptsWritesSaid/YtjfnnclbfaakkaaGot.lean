/-
  A list of options in memory of one's own: plain lemmas. No conditions.
-/
import Derived.Test.YtjfnnclbfaakkaaIter
import Derived.Maps.AppendAt
namespace Go.Proofs.Ytjfnnclbfaakkaa
open Go.RowKit
set_option linter.unusedVariables false
set_option linter.unusedSimpArgs false

theorem info36 : (Try.prog.info? 36).map (fun i => (i.zero, i.size, i.bytes)) = some (some (.agg #[.int .u8 0, .slice none 0 0]), 2, 32) := by kernel_rfl
theorem info5b : (Try.prog.info? 5).map (fun i => (i.zero, i.size, i.bytes)) = some (some (.int .u8 0), 1, 1) := by kernel_rfl

/-- An option whose data lie in a block of their own. -/
structure OpOwn (n : Nat) (W : World) (cs : List Value) (o : Op1) : Prop where
  kind : 0 ≤ o.1 ∧ o.1 ≤ 255
  rng : ∀ x ∈ o.2, 0 ≤ x ∧ x ≤ 255
  mem : ∃ v, cs = [.int .u8 o.1, v] ∧ W.ownsRow n 5 1 v o.2.length (o.2.map (Value.int .u8))
theorem OpOwn.opv {n : Nat} {W : World} {cs : List Value} {o : Op1} (h : OpOwn n W cs o) : OpV W cs o := by
  obtain ⟨v, rfl, hr⟩ := h.mem
  obtain ⟨A, c, rfl, h1, h2, h3, h4⟩ := By.of_own2 hr h.rng
  exact ⟨h.kind, A, c, rfl, h1, h2, h3, h4⟩
/-- All blocks of bytes from n on are kept. -/
def KeepB (n : Nat) (W W' : World) : Prop := ∀ g F, n ≤ g → W.heap[g]? = some (.cells F 5 (0, 0)) → W'.heap[g]? = W.heap[g]?
theorem KeepB.mono {n n' : Nat} {W W' : World} (h : KeepB n W W') (hn : n ≤ n') : KeepB n' W W' := fun g F hg hF => h g F (Nat.le_trans hn hg) hF
theorem KeepB.trans {n : Nat} {X Y Z : World} (h : KeepB n X Y) (k : KeepB n Y Z) : KeepB n X Z := fun g F hg hF => (k g F hg ((h g F hg hF).trans hF)).trans (h g F hg hF)
theorem KeepB.of_keep {n : Nat} {L : Nat → Prop} {X Y : World} (h : Keep L X Y) (hL : ∀ b, n ≤ b → L b) : KeepB n X Y := fun g F hg hF => h.low g (hL g hg) (blk_lt hF)
theorem KeepB.of_below {n : Nat} {X Y : World} (h : Below X.heap.size X Y) : KeepB n X Y := fun g F hg hF => h.block g (blk_lt hF)
theorem KeepB.of_grown {n : Nat} {X Y : World} {v : Value} {e : TypeId} {m k size : Nat} {xs : List Value} (h : X.grownBy Y v.ownBlock) (hr : X.ownsRow m e size v k xs) (he : e ≠ 5) : KeepB n X Y := fun g F hg hF => by
  refine h.block g (blk_lt hF) fun e1 => ?_
  obtain ⟨_, (⟨rfl, _⟩ | ⟨g', cap, cur, rfl, _, h2, _⟩)⟩ := hr
  · cases e1
  · cases e1
    rw [h2] at hF
    cases hF
    exact he rfl
theorem own_keepB {n : Nat} {W W' : World} {v : Value} {k : Nat} {xs : List Value} (h : W.ownsRow n 5 1 v k xs) (hk : KeepB n W W') : W'.ownsRow n 5 1 v k xs := by
  obtain ⟨hl, (⟨rfl, rfl⟩ | ⟨g, cap, cur, rfl, h1, h2, h3⟩)⟩ := h
  · exact ⟨hl, .inl ⟨rfl, rfl⟩⟩
  · exact ⟨hl, .inr ⟨g, cap, cur, rfl, h1, (hk g cur h1 h2).trans h2, h3⟩⟩
theorem OpOwn.keep {n : Nat} {W W' : World} {cs : List Value} {o : Op1} (h : OpOwn n W cs o) (hk : KeepB n W W') : OpOwn n W' cs o := by
  obtain ⟨v, e, hr⟩ := h.mem
  exact ⟨h.kind, h.rng, v, e, own_keepB hr hk⟩

inductive Owns (n : Nat) (W : World) : List (List Value) → List Op1 → Prop
  | nil : Owns n W [] []
  | cons {cs : List Value} {o : Op1} {css : List (List Value)} {l : List Op1} : OpOwn n W cs o → Owns n W css l → Owns n W (cs :: css) (o :: l)
theorem Owns.keep {n : Nat} {W W' : World} {css : List (List Value)} {l : List Op1} (h : Owns n W css l) (hk : KeepB n W W') : Owns n W' css l := by
  induction h with
  | nil => exact .nil
  | cons h1 _ ih => exact .cons (h1.keep hk) ih
theorem Owns.push {n : Nat} {W : World} {css : List (List Value)} {l : List Op1} (h : Owns n W css l) {cs : List Value} {o : Op1} (h1 : OpOwn n W cs o) : Owns n W (css ++ [cs]) (l ++ [o]) := by
  induction h with
  | nil => exact .cons h1 .nil
  | cons h2 _ ih => exact .cons h2 ih
theorem Owns.opvs {n : Nat} {W : World} {css : List (List Value)} {l : List Op1} (h : Owns n W css l) : OpVs W css l := by
  induction h with
  | nil => exact .nil
  | cons h1 _ ih => exact .cons h1.opv ih
/-- The block of an option's data. -/
def blkOf (cs : List Value) : Option Nat := (cs.getD 1 undef).ownBlock
theorem Owns.lt {n : Nat} {W : World} {css : List (List Value)} {l : List Op1} (h : Owns n W css l) : ∀ cs ∈ css, ∀ g, blkOf cs = some g → n ≤ g ∧ g < W.heap.size := by
  induction h with
  | nil => simp
  | cons h1 _ ih =>
    intro cs hcs g hg
    rcases List.mem_cons.1 hcs with rfl | h2
    · obtain ⟨v, rfl, hr⟩ := h1.mem
      exact hr.lt g hg
    · exact ih cs h2 g hg

/-- A slice that is a list of options: its row, and all data, lie in blocks of their own, none below n. -/
structure Got (n : Nat) (W : World) (v : Value) (css : List (List Value)) (l : List Op1) : Prop where
  row : W.ownsRow n 36 2 v l.length css.flatten
  each : Owns n W css l
  ord : css.Pairwise fun a b => ∀ g h, blkOf a = some g → blkOf b = some h → g < h
theorem Got.nil (n : Nat) (W : World) : Got n W (.slice none 0 0) [] [] := ⟨World.ownsRow_nil _ _ _ _, .nil, .nil⟩
theorem Got.keep {n : Nat} {W W' : World} {v : Value} {css : List (List Value)} {l : List Op1} (h : Got n W v css l) (hk : ∀ g, n ≤ g → g < W.heap.size → W'.heap[g]? = W.heap[g]?) : Got n W' v css l :=
  ⟨own_of_block h.row fun g hg _ hlt => hk g hg hlt, h.each.keep fun g F hg hF => hk g hg (blk_lt hF), h.ord⟩
theorem Got.below {n : Nat} {W W' : World} {v : Value} {css : List (List Value)} {l : List Op1} (h : Got n W v css l) (hb : Below W.heap.size W W') : Got n W' v css l := h.keep fun g _ hlt => hb.block g hlt
theorem Got.base {n m : Nat} {W : World} {v : Value} {css : List (List Value)} {l : List Op1} (h : Got n W v css l) (hm : m ≤ n) : Got m W v css l := by
  refine ⟨own_base h.row hm, ?_, h.ord⟩
  have := h.each
  clear h
  induction this with
  | nil => exact .nil
  | cons h1 _ ih =>
    refine .cons ?_ ih
    obtain ⟨v, e, hr⟩ := h1.mem
    exact ⟨h1.kind, h1.rng, v, e, own_base hr hm⟩
theorem Got.push {n : Nat} {W0 W1 : World} {v v' : Value} {css : List (List Value)} {l : List Op1} (h : Got n W0 v css l) (hk : KeepB n W0 W1) (x : Yv) (hn : n ≤ W0.heap.size) (hx : x.Own W0.heap.size W1)
    (hr : W1.ownsRow n 36 2 v' (l.length + 1) (css.flatten ++ [.int .u8 x.k, .slice x.A x.d.length x.c])) : Got n W1 v' (css ++ [[.int .u8 x.k, .slice x.A x.d.length x.c]]) (l ++ [(x.k, x.d)]) := by
  refine ⟨by simpa using hr, (h.each.keep hk).push ⟨hx.kind, hx.rng, _, rfl, own_base hx.row hn⟩, ?_⟩
  rw [List.pairwise_append]
  refine ⟨h.ord, by simp, fun a ha b hb g g' hg hg' => ?_⟩
  simp only [List.mem_singleton] at hb
  subst hb
  have h1 := (h.each.lt a ha g hg).2
  have h2 := (hx.row.lt g' hg').1
  omega
theorem Got.ops {n : Nat} {W : World} {v : Value} {css : List (List Value)} {l : List Op1} (h : Got n W v css l) : ∃ A c, v = .slice A l.length c ∧ l.length ≤ c ∧ c ≤ maxLen ∧ Ops W A l := Ops.of_own h.row h.each.opvs rfl

/-- How often a group was met: once, or never. -/
def cnt (acc : List Op1) (j : Int) : Int := if acc.any (fun p => grp p.1 == j) then 1 else 0
theorem cnt_push (acc : List Op1) (o : Op1) (j : Int) : cnt (acc ++ [o]) j = if grp o.1 = j then 1 else cnt acc j := by
  unfold cnt
  rw [List.any_append]
  by_cases h : grp o.1 = j
  · rw [if_pos h]
    have : (List.any [o] fun p => grp p.1 == j) = true := by simp [h]
    rw [this, Bool.or_true]
    rfl
  · rw [if_neg h]
    have : (List.any [o] fun p => grp p.1 == j) = false := by simp [h]
    rw [this, Bool.or_false]
structure Met (acc : List Op1) (M : Array Value) : Prop where
  size : M.size = 4
  get : ∀ j : Nat, 0 < j → j < 4 → M[j]? = some (.int .i64 (cnt acc j))
theorem Met.nil : Met [] #[.int .i64 0, .int .i64 0, .int .i64 0, .int .i64 0] := ⟨rfl, fun j h1 h2 => by
  rcases (by omega : j = 1 ∨ j = 2 ∨ j = 3) with rfl | rfl | rfl <;> rfl⟩
theorem Met.push0 {acc : List Op1} {M : Array Value} (h : Met acc M) (o : Op1) (ho : grp o.1 = 0) : Met (acc ++ [o]) M := ⟨h.size, fun j h1 h2 => by
  rw [h.get j h1 h2]
  have : (0 : Int) ≠ j := by omega
  rw [cnt_push, ho, if_neg this]⟩
theorem Met.push {acc : List Op1} {M : Array Value} (h : Met acc M) (o : Op1) {g : Nat} (ho : grp o.1 = g) (h4 : g < 4) : Met (acc ++ [o]) (M.setIfInBounds g (.int .i64 1)) := ⟨by simp [h.size], fun j h1 h2 => by
  by_cases hj : g = j
  · subst hj
    rw [cnt_push, ho, if_pos rfl]
    simp [h.size, h4]
  · rw [Array.getElem?_setIfInBounds_ne hj, h.get j h1 h2]
    have : (g : Int) ≠ j := by omega
    rw [cnt_push, ho, if_neg this]⟩
theorem cell_two_new (w : World) (x y : Value) (t : TypeId) : ∀ j u, [x, y][j]? = some u → (w.alloc (.cells #[x, y] t)).cell? ((⟨w.heap.size, 0, none⟩ : Addr).add j) = some u := by
  intro j u hj
  rw [Go.WideShapes.add_plain]
  match j, hj with
  | 0, hj =>
    simp at hj
    subst hj
    exact blk_cell (heap_alloc_last w (.cells #[x, y] t)) 0
  | 1, hj =>
    simp at hj
    subst hj
    exact blk_cell (heap_alloc_last w (.cells #[x, y] t)) 1
theorem yl_len : ∀ (f : Nat) (b : List Int), (yl f b).length ≤ f
  | 0, _ => by simp [yl]
  | f + 1, [] => by simp [yl]
  | f + 1, k :: r => by
    unfold yl
    split
    · split <;> simp
    · split
      · simpa using yl_len f r
      · split
        · simp
        · rename_i n q
          split
          · simp
          · split
            · simp
            · split
              · simpa using yl_len f _
              · simp
theorem grp_cases (k : Int) : grp k = 0 ∨ grp k = 1 ∨ grp k = 2 ∨ grp k = 3 := by
  unfold grp
  repeat' split
  all_goals simp

end Go.Proofs.Ytjfnnclbfaakkaa

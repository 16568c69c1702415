/-
  Plain laws, of no program: a range over a function whose iterator has variables of its own, walked at the fence that asks nothing. What the caller's condition speaks of lies below the heap's size where the loop begins, or is kept by whatever leaves that alone. Conditions: those of the theorems.
-/
import Derived.RangeFuncNested
import Derived.RangeFuncBound
import Derived.RangeFuncCalls
import Derived.RangeFuncLeaves
import Derived.Laws.Rows
namespace Go.Proofs.Ytjfnnclbfaakkaa
open Go.RowKit

/-- What lies in the blocks of L lies as it lay. -/
structure Keep (L : Nat → Prop) (W W' : World) : Prop where
  frame : Below 0 W W'
  low : ∀ b, L b → b < W.heap.size → W'.heap[b]? = W.heap[b]?
theorem Keep.size {L : Nat → Prop} {W W' : World} (h : Keep L W W') : W.heap.size ≤ W'.heap.size := h.frame.size
theorem Keep.refl (L : Nat → Prop) (W : World) : Keep L W W := ⟨Below.refl _ _, fun _ _ _ => rfl⟩
theorem Keep.trans {L : Nat → Prop} {X Y Z : World} (h : Keep L X Y) (k : Keep L Y Z) : Keep L X Z :=
  ⟨h.frame.trans k.frame, fun b h1 h2 => (k.low b h1 (Nat.lt_of_lt_of_le h2 h.size)).trans (h.low b h1 h2)⟩
theorem Keep.mono {L L' : Nat → Prop} {X Y : World} (h : Keep L X Y) (hL : ∀ b, L' b → L b) : Keep L' X Y := ⟨h.frame, fun b h1 h2 => h.low b (hL b h1) h2⟩
theorem Keep.of_below {L : Nat → Prop} {X Y : World} (h : Below X.heap.size X Y) : Keep L X Y := ⟨h.mono (Nat.zero_le _), fun b _ h2 => h.block b h2⟩
theorem Keep.below {L : Nat → Prop} {n : Nat} {X Y : World} (h : Keep L X Y) (hn : ∀ b, b < n → L b) (hx : n ≤ X.heap.size) : Below n X Y :=
  ⟨h.frame.os, h.frame.tape, h.frame.output, h.size, fun b hb => h.low b (hn b hb) (by omega)⟩
theorem Keep.setCell {L : Nat → Prop} {b : Nat} {X Y : World} (h : Keep L X Y) (h1 : ¬ L b) (o : Nat) (v : Value) : Keep L X (Y.setCell ⟨b, o, none⟩ v) :=
  ⟨h.frame.setCell (p := ⟨b, o, none⟩) (Nat.zero_le _) v, fun k hk hk2 => (Below.heap_setCell Y ⟨b, o, none⟩ v k (by show k ≠ b; rintro rfl; exact h1 hk)).trans (h.low k hk hk2)⟩
theorem Keep.grown {L : Nat → Prop} {X Y Z : World} {row : Option Nat} (h : Keep L X Y) (hg : Y.grownBy Z row) (hr : ∀ k, row = some k → ¬ L k) : Keep L X Z :=
  h.trans ⟨(Below.refl 0 Y).grown hg (Nat.zero_le _) (fun _ _ => Nat.zero_le _), fun b hb hlt => hg.block b hlt (fun e => hr b e.symm hb)⟩
theorem Keep.alloc {L : Nat → Prop} {X Y : World} (h : Keep L X Y) (o : Obj) : Keep L X (Y.alloc o) := h.trans (Keep.of_below ((Below.refl _ _).alloc (Nat.le_refl _) o))
theorem Keep.cell {L : Nat → Prop} {b o : Nat} {X Y : World} {v : Value} (h : Keep L X Y) (hb : L b) (hc : X.cell? ⟨b, o, none⟩ = some v) : Y.cell? ⟨b, o, none⟩ = some v := by
  have hlt : b < X.heap.size := by
    rcases Nat.lt_or_ge b X.heap.size with hlt | hge
    · exact hlt
    · unfold World.cell? at hc
      rw [Array.getElem?_eq_none hge] at hc
      cases hc
  exact (World.cell?_of_block (h.low b hb hlt)).trans hc
theorem Keep.frozen {L : Nat → Prop} {b o : Nat} {X Y : World} (h : Keep L X Y) (hb : L b) (hlt : b < X.heap.size) : Y.frozen? ⟨b, o, none⟩ = X.frozen? ⟨b, o, none⟩ := World.frozen?_of_block (h.low b hb hlt)
theorem below_put {B : Nat} (W : World) {l : Nat} {o : Obj} (o' : Obj) (hB : B ≤ l) (h : W.heap[l]? = some o) : Below B W (W.putObj l o') :=
  (Below.refl B W).grown (grownBy_putObj' W l o') (by have := (Array.getElem?_eq_some_iff.1 h).1; omega) (fun k e => by cases e; omega)
theorem keep_put {L : Nat → Prop} (W : World) {l : Nat} {o : Obj} (o' : Obj) (hn : ¬ L l) (h : W.heap[l]? = some o) : Keep L W (W.putObj l o') :=
  ⟨below_put W o' (Nat.zero_le _) h, fun k hk _ => World.putObj_heap_other (by rintro rfl; exact hn hk)⟩

/-- A block of cells, known whole. -/
theorem blk_cell {w : World} {b : Nat} {F : Array Value} {t : TypeId} (h : w.heap[b]? = some (.cells F t (0, 0))) (j : Nat) : w.cell? ⟨b, j, none⟩ = F[j]? := cell_of_row w b j F t (0, 0) h
theorem blk_free {w : World} {b : Nat} {F : Array Value} {t : TypeId} (h : w.heap[b]? = some (.cells F t (0, 0))) (j : Nat) : w.frozen? ⟨b, j, none⟩ = false := by
  simp only [World.frozen?, h]
  simp
theorem blk_set {w : World} {b : Nat} {F : Array Value} {t : TypeId} (h : w.heap[b]? = some (.cells F t (0, 0))) (j : Nat) (v : Value) : (w.setCell ⟨b, j, none⟩ v).heap[b]? = some (.cells (F.setIfInBounds j v) t (0, 0)) := by
  obtain ⟨hlt, hk⟩ := Array.getElem?_eq_some_iff.1 h
  show (w.heap.modify b _)[b]? = _
  rw [Array.getElem?_eq_getElem (by rw [Array.size_modify]; exact hlt), Array.getElem_modify_self, hk]
  simp
theorem blk_lt {w : World} {b : Nat} {o : Obj} (h : w.heap[b]? = some o) : b < w.heap.size := (Array.getElem?_eq_some_iff.1 h).1
theorem blk_below {w w' : World} {b : Nat} {o : Obj} (hb : Below w.heap.size w w') (h : w.heap[b]? = some o) : w'.heap[b]? = some o := (hb.block b (blk_lt h)).trans h
theorem blk_keep {L : Nat → Prop} {b : Nat} {w w' : World} {o : Obj} (hk : Keep L w w') (hb : L b) (h : w.heap[b]? = some o) : w'.heap[b]? = some o := (hk.low b hb (blk_lt h)).trans h

/-- What an iterator's value does, whatever loop calls it: of each element it says T, which speaks of blocks that were not there behind the last round; between the rounds it alters the blocks of M alone of those that were there; the rounds keep the blocks of L. -/
def Yields {α : Type} (n : Nat) (P : Program) (g : Nat) (lb : Array Value) (encs : α → Array Value) (T : Nat → α → World → Prop) (S Sp : List α → Prop) (L M : Nat → Prop) (w : World) : Prop :=
  ∀ (l : Nat) (J Jx : List α → World → Prop) (W : World), Below w.heap.size w W →
    (∀ pre x W0 W1, W.heap.size ≤ W0.heap.size → J pre W0 → Keep (fun b => ¬ M b) W0 W1 → T W0.heap.size x W1 → Sp (pre ++ [x]) → YieldAt Fence.wide (n - 1) P l (encs x) W1 fun e W' =>
      (e = .returned (.bool true) ∧ J (pre ++ [x]) W' ∧ Keep L W1 W') ∨ (e = .returned (.bool false) ∧ Jx (pre ++ [x]) W')) →
    J [] W →
    CallsIn Fence.wide n P g (#[.func (.yield l) #[] #[]] ++ lb) W fun e W' => (∃ v, e = .returned v) ∧ ∃ xs W0, Keep (fun b => ¬ M b) W0 W' ∧ ((S xs ∧ J xs W0) ∨ (Sp xs ∧ Jx xs W0))

/-- How the body of a round may be left; B: the loop's own blocks are B and B + 1. -/
def bodyEnd {α : Type} (L : Nat → Prop) (B : Nat) (I : List α → World → Prop) (Ix : Code → List α → World → Prop) (xs : List α) (W : World) : Exit → Act → World → Prop
  | .normal, _, W' => Keep (fun b => L b ∨ b = B ∨ b = B + 1) W W' ∧ I xs W'
  | .ret, _, W' => Keep (fun b => b = B ∨ b = B + 1) W W' ∧ Ix .ret xs W'
  | .exit id, _, W' => Keep (fun b => b = B ∨ b = B + 1) W W' ∧ Ix (.exit id) xs W'
  | .goto t, _, W' => Keep (fun b => b = B ∨ b = B + 1) W W' ∧ Ix (.goto t) xs W'
  | .panic _, _, _ => False
  | .outgrown, _, _ => False

/-- The loop. -/
theorem wpIn_yields {α : Type} {n : Nat} {P : Program} {g : Operand} {ps : Array Tmp} {assign body : Code} {Q : Exit → Act → World → Prop} {a : Act} {w : World} {gf : Nat} {lb : Array Value}
    (hg : a.eval g = .func (.func gf) #[] lb) (eg : ∀ args w, (callFunc gf args).run P w = .ok (.enter gf args) w) {encs : α → Array Value} {T : Nat → α → World → Prop} {S Sp : List α → Prop} {L M : Nat → Prop}
    (hseq : Yields (n - 1) P gf lb encs T S Sp L M w) (h1 : 1 ≤ n) (hL : ∀ b, L b → b < w.heap.size) (hM : ∀ b, M b → b < w.heap.size) (hps : ∀ x, (encs x).size = ps.size)
    (I : List α → World → Prop) (Ix : Code → List α → World → Prop)
    (hI : ∀ s W W', I s W → Keep (fun b => ¬ M b ∧ b ≠ w.heap.size + 1) W W' → I s W') (hIx : ∀ c s W W', Ix c s W → Keep (fun b => ¬ M b ∧ b ≠ w.heap.size + 1) W W' → Ix c s W') (h0 : I [] w)
    (hT : ∀ m x W W', w.heap.size + 2 ≤ m → T m x W → Keep (fun b => b ≠ w.heap.size + 1) W W' → T m x W')
    (Ax : α → Act → World → Prop) (hAx : ∀ x a' W l o o', Ax x a' W → W.heap[l]? = some o → o.isCells = false → Ax x a' (W.putObj l o'))
    (hassign : ∀ (l : Nat) (x : α) (W : World) (K : Act → World → Prop), w.heap.size ≤ W.heap.size → (∀ a' W', Below W.heap.size W W' → Ax x a' W' → K a' W') →
      assign.wpIn (Fence.wide.inRound l) (n - 1 - 1) P (Exit.then K (fun _ _ _ => False)) { tmps := (ps.zip (encs x)).foldl (fun t (p, v) => t.setIfInBounds p v) a.tmps, defers := [] } W)
    (hbody : ∀ (l : Nat) (pre : List α) (x : α) (a' : Act) (W0 W : World), w.heap.size + 2 ≤ W0.heap.size → I pre W0 → Keep (fun b => ¬ M b ∧ b ≠ w.heap.size + 1) W0 W → T W0.heap.size x W → Sp (pre ++ [x]) → Ax x a' W →
      body.wpIn (Fence.wide.inRound l) (n - 1 - 1) P (bodyEnd L w.heap.size I Ix (pre ++ [x]) W) a' W)
    (hdone : ∀ (D : Nat) (xs : List α) (W : World), w.heap.size ≤ D → S xs → I xs W → W.heap[D]? = some (.deferred (some [])) → Q .normal { a with defers := { target := .collected D, args := #[] } :: a.defers } W)
    (hstop : ∀ (D : Nat) (c : Code) (pre : List α) (W : World), w.heap.size ≤ D → Sp pre → Ix c pre W → W.heap[D]? = some (.deferred (some [])) → c.wpIn Fence.wide n P Q { a with defers := { target := .collected D, args := #[] } :: a.defers } W) :
    (Code.rangeFunc g ps assign body).wpIn Fence.wide n P Q a w := by
  refine wpIn_rangeFunc ?_
  intro fn hfn
  rw [show Fence.wide.round = none from rfl]
  obtain ⟨rec, hrec⟩ : ∃ rec : LoopState → Option Code → Loop, rec = fun st pe => { state := st, pending := pe, fn, tmps := a.tmps, params := ps, assign, body, defers := w.heap.size } := ⟨_, rfl⟩
  obtain ⟨V, hV⟩ : ∃ V, (w.alloc (.deferred (some []))).alloc (.loop (rec .ready none)) = V := ⟨_, rfl⟩
  have zV : V.heap.size = w.heap.size + 2 := by rw [← hV]; simp
  have bV : Below w.heap.size w V := by rw [← hV]; exact ((Below.refl _ w).alloc (Nat.le_refl _) _).alloc (by simp) _
  have lV : V.heap[w.heap.size + 1]? = some (.loop (rec .ready none)) := by
    rw [← hV]; have := World.alloc_heap_new (w.alloc (.deferred (some []))) (.loop (rec .ready none)); rwa [World.size_alloc] at this
  have dV : V.heap[w.heap.size]? = some (.deferred (some [])) := by
    rw [← hV]; exact (Below.heap_alloc _ _ _ (by simp)).trans (World.alloc_heap_new w _)
  have nM0 : ¬ M w.heap.size := fun h => by have := hM _ h; omega
  have nM1 : ¬ M (w.heap.size + 1) := fun h => by have := hM _ h; omega
  refine ⟨w.heap.size + 1, [{ target := .collected w.heap.size, args := #[] }], V, { target := .fn (.func gf) lb, args := #[.func (.yield (w.heap.size + 1)) #[] #[]] }, V, gf,
    #[.func (.yield (w.heap.size + 1)) #[] #[]] ++ lb, V, ?_, ?_, ?_, ?_, fun _ => h1, ?_⟩
  · rw [← hV, hrec]; exact run_enterLoop_outer _ _ _ _ _
  · simp only [resolve, hg]
    simp [go_sem]
  · intro f' hf'; simp [Target.leads] at hf'; subst hf'; trivial
  · simp [invoke, go_sem, eg]
  · have kp : ∀ (X : World) {o : Obj} (o' : Obj), X.heap[w.heap.size + 1]? = some o → Keep (fun b => ¬ M b ∧ b ≠ w.heap.size + 1) X (X.putObj (w.heap.size + 1) o') := fun X o o' h => keep_put X o' (fun h => h.2 rfl) h
    refine (hseq (w.heap.size + 1)
      (fun pre W => I pre W ∧ W.heap[w.heap.size + 1]? = some (.loop (rec .ready none)) ∧ W.heap[w.heap.size]? = some (.deferred (some [])))
      (fun pre W => ∃ c, Ix c pre W ∧ W.heap[w.heap.size + 1]? = some (.loop (rec .done (some c))) ∧ W.heap[w.heap.size]? = some (.deferred (some [])))
      V bV ?_ ⟨hI _ _ _ h0 (Keep.of_below bV), lV, dV⟩).mono ?_
    · rintro pre x W0 W hW0 ⟨hi, hl0, hk0⟩ hkw htx hsp
      have hl := blk_keep hkw nM1 hl0
      have hk := blk_keep hkw nM0 hk0
      have hlt : w.heap.size + 1 < W.heap.size := (Array.getElem?_eq_some_iff.1 hl).1
      have hy := run_yield (P := P) (args := encs x) hl (by rw [hrec]; exact hps x)
      rw [hrec] at hy
      refine ⟨fn, _, assign, body, hy, roundIn_of_wpIn hfn (hassign _ x W _ (by omega) ?_)⟩
      clear hy
      intro a' X hba hax
      have lX : X.heap[w.heap.size + 1]? = some (.loop (rec .ready none)) := (hba.block _ hlt).trans hl
      have dX : X.heap[w.heap.size]? = some (.deferred (some [])) := (hba.block _ (by omega)).trans hk
      have sX : W.heap.size ≤ X.heap.size := hba.size
      refine ⟨_, run_beginRound lX (by rw [hrec]), ?_⟩
      have lY : (X.putObj (w.heap.size + 1) (.loop { rec .ready none with state := .busy })).heap[w.heap.size + 1]? = some (.loop { rec .ready none with state := .busy }) := World.putObj_heap_same (by omega)
      have dY : (X.putObj (w.heap.size + 1) (.loop { rec .ready none with state := .busy })).heap[w.heap.size]? = some (.deferred (some [])) := (World.putObj_heap_other (by omega)).trans dX
      have kXY : Keep (fun b => b ≠ w.heap.size + 1) W (X.putObj (w.heap.size + 1) (.loop { rec .ready none with state := .busy })) := (Keep.of_below hba).trans (keep_put X _ (fun h => h rfl) lX)
      have k1 : Keep L W (X.putObj (w.heap.size + 1) (.loop { rec .ready none with state := .busy })) := kXY.mono (fun b hb e => by have := hL b hb; omega)
      refine wpIn_mono (hbody _ pre x a' W0 _ (by omega) hi ((hkw.mono (fun b h => h.1)).trans (kXY.mono (fun b h => h.2))) (hT _ _ _ _ (by omega) htx kXY) hsp (hAx _ _ _ _ _ _ hax lX rfl)) ?_
      have fin : ∀ (m : Nat → Prop) (jump : Option Code) (Z : World), Keep m (X.putObj (w.heap.size + 1) (.loop { rec .ready none with state := .busy })) Z → m w.heap.size → m (w.heap.size + 1) →
          (Instr.endRound (w.heap.size + 1) jump).run P Z = .ok (.bool jump.isNone) (Z.putObj (w.heap.size + 1) (.loop (rec (if jump.isNone then .ready else .done) jump))) ∧
          Z.heap[w.heap.size + 1]? = some (.loop { rec .ready none with state := .busy }) ∧
          (Z.putObj (w.heap.size + 1) (.loop (rec (if jump.isNone then .ready else .done) jump))).heap[w.heap.size + 1]? = some (.loop (rec (if jump.isNone then .ready else .done) jump)) ∧
          (Z.putObj (w.heap.size + 1) (.loop (rec (if jump.isNone then .ready else .done) jump))).heap[w.heap.size]? = some (.deferred (some [])) := fun m jump Z hZ m0 m1 => by
        have lZ := (hZ.low (w.heap.size + 1) m1 (by rw [World.putObj_size]; omega)).trans lY
        have dZ := (hZ.low w.heap.size m0 (by rw [World.putObj_size]; omega)).trans dY
        have := run_endRound (P := P) jump lZ
        rw [hrec] at this ⊢
        exact ⟨this, by rw [hrec] at lZ; exact lZ, World.putObj_heap_same (Array.getElem?_eq_some_iff.1 lZ).1, (World.putObj_heap_other (by omega)).trans dZ⟩
      rintro e a3 Z hp
      cases e with
      | normal =>
        obtain ⟨hZ, hi3⟩ := hp
        obtain ⟨hr, l3, l4, d4⟩ := fin _ none Z hZ (.inr (.inl rfl)) (.inr (.inr rfl))
        exact ⟨_, _, hr, .inl ⟨rfl, ⟨hI _ _ _ hi3 (kp _ _ l3), l4, d4⟩, (k1.trans (hZ.mono (fun b h => .inl h))).trans (keep_put Z _ (fun h => by have := hL _ h; omega) l3)⟩⟩
      | ret =>
        obtain ⟨hZ, hi3⟩ := hp
        obtain ⟨hr, l3, l4, d4⟩ := fin _ (some .ret) Z hZ (.inl rfl) (.inr rfl)
        exact ⟨_, _, hr, .inr ⟨rfl, .ret, hIx _ _ _ _ hi3 (kp _ _ l3), l4, d4⟩⟩
      | exit id =>
        obtain ⟨hZ, hi3⟩ := hp
        obtain ⟨hr, l3, l4, d4⟩ := fin _ (some (.exit id)) Z hZ (.inl rfl) (.inr rfl)
        exact ⟨_, _, hr, .inr ⟨rfl, .exit id, hIx _ _ _ _ hi3 (kp _ _ l3), l4, d4⟩⟩
      | goto t =>
        obtain ⟨hZ, hi3⟩ := hp
        obtain ⟨hr, l3, l4, d4⟩ := fin _ (some (.goto t)) Z hZ (.inl rfl) (.inr rfl)
        exact ⟨_, _, hr, .inr ⟨rfl, .goto t, hIx _ _ _ _ hi3 (kp _ _ l3), l4, d4⟩⟩
      | panic ch => exact hp.elim
      | outgrown => exact hp.elim
    · rintro e Z ⟨⟨v, rfl⟩, xs, Z0, hZ0, (⟨hS, hi, hl, hk⟩ | ⟨hSp, c, hi, hl, hk⟩)⟩
      · replace hl := blk_keep hZ0 nM1 hl
        replace hk := blk_keep hZ0 nM0 hk
        exact ⟨none, _, by have := run_endLoop (P := P) hl (by rw [hrec]; simp); rw [hrec] at this; exact this, hdone _ xs _ (Nat.le_refl _) hS (hI _ _ _ hi ((hZ0.mono (fun b h => h.1)).trans (kp _ _ hl))) ((World.putObj_heap_other (by omega)).trans hk)⟩
      · replace hl := blk_keep hZ0 nM1 hl
        replace hk := blk_keep hZ0 nM0 hk
        exact ⟨some c, _, by have := run_endLoop (P := P) hl (by rw [hrec]; simp); rw [hrec] at this; exact this, hstop _ c xs _ (Nat.le_refl _) hSp (hIx c _ _ _ hi ((hZ0.mono (fun b h => h.1)).trans (kp _ _ hl))) ((World.putObj_heap_other (by omega)).trans hk)⟩
end Go.Proofs.Ytjfnnclbfaakkaa

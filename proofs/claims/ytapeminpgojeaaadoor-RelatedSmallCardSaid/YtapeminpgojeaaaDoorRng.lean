/-
  Plain laws, of no program: a range over a function whose iterator has variables of its own, walked at the fence that asks nothing. What the caller's condition speaks of lies below the heap's size where the loop begins, or is kept by whatever leaves that alone. Conditions: those of the theorems.
-/
import Derived.RangeFuncNested
import Derived.RangeFuncBound
import Derived.RangeFuncCalls
import Derived.RangeFuncLeaves
import Derived.Laws.Rows
namespace Go.Proofs.YtapeminpgojeaaaDoor
open Go.RowKit

/-- A condition that abides whatever leaves the blocks below B alone. -/
def Apart {β : Type} (B : Nat) (J : β → World → Prop) : Prop := ∀ s W W', J s W → Below B W W' → J s W'
/-- What lies below n₀, and from B on, lies as it lay. -/
structure Keep (n₀ B : Nat) (W W' : World) : Prop where
  low : Below n₀ W W'
  size : W.heap.size ≤ W'.heap.size
  high : ∀ b, B ≤ b → b < W.heap.size → W'.heap[b]? = W.heap[b]?
theorem Keep.refl (n₀ B : Nat) (W : World) : Keep n₀ B W W := ⟨Below.refl _ _, Nat.le_refl _, fun _ _ _ => rfl⟩
theorem Keep.trans {n₀ B : Nat} {X Y Z : World} (h : Keep n₀ B X Y) (k : Keep n₀ B Y Z) : Keep n₀ B X Z :=
  ⟨h.low.trans k.low, Nat.le_trans h.size k.size, fun b h1 h2 => (k.high b h1 (Nat.lt_of_lt_of_le h2 h.size)).trans (h.high b h1 h2)⟩
theorem Keep.mono {n₀ B B' : Nat} {X Y : World} (h : Keep n₀ B X Y) (hB : B ≤ B') : Keep n₀ B' X Y := ⟨h.low, h.size, fun b h1 h2 => h.high b (Nat.le_trans hB h1) h2⟩
theorem Keep.of_below {n₀ B : Nat} {X Y : World} (h : Below X.heap.size X Y) (hn : n₀ ≤ X.heap.size) : Keep n₀ B X Y := ⟨h.mono hn, h.size, fun b _ h2 => h.block b h2⟩
theorem Keep.setCell {n₀ B b : Nat} {X Y : World} (h : Keep n₀ B X Y) (h1 : n₀ ≤ b) (h2 : b < B) (o : Nat) (v : Value) : Keep n₀ B X (Y.setCell ⟨b, o, none⟩ v) :=
  ⟨h.low.setCell (p := ⟨b, o, none⟩) h1 v, Nat.le_trans h.size (by simp [World.setCell]), fun k hk hk2 => (Below.heap_setCell Y ⟨b, o, none⟩ v k (by show k ≠ b; omega)).trans (h.high k hk hk2)⟩
theorem Keep.cell {n₀ B b o : Nat} {X Y : World} {v : Value} (h : Keep n₀ B X Y) (hb : b < n₀ ∨ B ≤ b) (hc : X.cell? ⟨b, o, none⟩ = some v) : Y.cell? ⟨b, o, none⟩ = some v := by
  have hlt : b < X.heap.size := by
    rcases Nat.lt_or_ge b X.heap.size with hlt | hge
    · exact hlt
    · unfold World.cell? at hc
      rw [Array.getElem?_eq_none hge] at hc
      cases hc
  rcases hb with hb | hb
  · exact (h.low.cell (p := ⟨b, o, none⟩) hb).trans hc
  · exact (World.cell?_of_block (h.high b hb hlt)).trans hc
theorem Keep.frozen {n₀ B b o : Nat} {X Y : World} (h : Keep n₀ B X Y) (hb : b < n₀ ∨ (B ≤ b ∧ b < X.heap.size)) : Y.frozen? ⟨b, o, none⟩ = X.frozen? ⟨b, o, none⟩ := by
  rcases hb with hb | ⟨hb, hlt⟩
  · exact h.low.frozen (p := ⟨b, o, none⟩) hb
  · exact World.frozen?_of_block (h.high b hb hlt)
theorem below_put {B : Nat} (W : World) {l : Nat} {o : Obj} (o' : Obj) (hB : B ≤ l) (h : W.heap[l]? = some o) : Below B W (W.putObj l o') :=
  (Below.refl B W).grown (grownBy_putObj' W l o') (by have := (Array.getElem?_eq_some_iff.1 h).1; omega) (fun k e => by cases e; omega)
theorem keep_put {n₀ B : Nat} (W : World) {l : Nat} {o : Obj} (o' : Obj) (hn : n₀ ≤ l) (hB : l < B) (h : W.heap[l]? = some o) : Keep n₀ B W (W.putObj l o') :=
  ⟨below_put W o' hn h, by simp, fun k hk _ => World.putObj_heap_other (by omega)⟩

/-- A block of cells, known whole. -/
theorem blk_cell {w : World} {b : Nat} {F : Array Value} {t : TypeId} (h : w.heap[b]? = some (.cells F t (0, 0))) (j : Nat) : w.cell? ⟨b, j, none⟩ = F[j]? := cell_of_row w b j F t (0, 0) h
theorem blk_free {w : World} {b : Nat} {F : Array Value} {t : TypeId} (h : w.heap[b]? = some (.cells F t (0, 0))) (j : Nat) : w.frozen? ⟨b, j, none⟩ = false := by
  simp only [World.frozen?, h]
  simp
theorem blk_set {w : World} {b : Nat} {F : Array Value} {t : TypeId} (h : w.heap[b]? = some (.cells F t (0, 0))) (j : Nat) (v : Value) : (w.setCell ⟨b, j, none⟩ v).heap[b]? = some (.cells (F.setIfInBounds j v) t (0, 0)) := by
  obtain ⟨hlt, hk⟩ := Array.getElem?_eq_some_iff.1 h
  show (w.heap.modify b _)[b]? = _
  rw [Array.getElem?_eq_getElem (by rw [Array.size_modify]; exact hlt), Array.getElem_modify_self, hk]
  simp
theorem blk_lt {w : World} {b : Nat} {o : Obj} (h : w.heap[b]? = some o) : b < w.heap.size := (Array.getElem?_eq_some_iff.1 h).1
theorem blk_below {w w' : World} {b : Nat} {o : Obj} (hb : Below w.heap.size w w') (h : w.heap[b]? = some o) : w'.heap[b]? = some o := (hb.block b (blk_lt h)).trans h
theorem blk_keep {n₀ B b : Nat} {w w' : World} {o : Obj} (hk : Keep n₀ B w w') (hb : b < n₀ ∨ B ≤ b) (h : w.heap[b]? = some o) : w'.heap[b]? = some o := by
  rcases hb with hb | hb
  · exact (hk.low.block b hb).trans h
  · exact (hk.high b hb (blk_lt h)).trans h

/-- What an iterator's value does, whatever loop calls it: the rounds keep what lies below n₀, and what the iterator has made. -/
def Yields {α : Type} (n : Nat) (P : Program) (g : Nat) (lb : Array Value) (encs : α → Array Value) (S Sp : List α → Prop) (n₀ : Nat) (w : World) : Prop :=
  ∀ (l : Nat) (J Jx : List α → World → Prop) (W : World), Below w.heap.size w W → Apart W.heap.size J → Apart W.heap.size Jx →
    (∀ pre x W1, J pre W1 → YieldAt Fence.wide (n - 1) P l (encs x) W1 fun e W' =>
      (e = .returned (.bool true) ∧ J (pre ++ [x]) W' ∧ Keep n₀ W.heap.size W1 W') ∨ (e = .returned (.bool false) ∧ Jx (pre ++ [x]) W')) →
    J [] W →
    CallsIn Fence.wide n P g (#[.func (.yield l) #[] #[]] ++ lb) W fun e W' => (∃ v, e = .returned v) ∧ ((∃ xs, S xs ∧ J xs W') ∨ (∃ pre, Sp pre ∧ Jx pre W'))

/-- How the body of a round may be left. -/
def bodyEnd {α : Type} (n₀ B : Nat) (I : List α → World → Prop) (Ix : Code → List α → World → Prop) (xs : List α) (W : World) : Exit → Act → World → Prop
  | .normal, _, W' => Keep n₀ B W W' ∧ I xs W'
  | .ret, _, W' => Keep 0 B W W' ∧ Ix .ret xs W'
  | .exit id, _, W' => Keep 0 B W W' ∧ Ix (.exit id) xs W'
  | .goto t, _, W' => Keep 0 B W W' ∧ Ix (.goto t) xs W'
  | .panic _, _, _ => False
  | .outgrown, _, _ => False

/-- The loop. -/
theorem wpIn_yields {α : Type} {n : Nat} {P : Program} {g : Operand} {ps : Array Tmp} {assign body : Code} {Q : Exit → Act → World → Prop} {a : Act} {w : World} {gf : Nat} {lb : Array Value}
    (hg : a.eval g = .func (.func gf) #[] lb) (eg : ∀ args w, (callFunc gf args).run P w = .ok (.enter gf args) w) {encs : α → Array Value} {S Sp : List α → Prop} {n₀ : Nat}
    (hseq : Yields (n - 1) P gf lb encs S Sp n₀ w) (h1 : 1 ≤ n) (hn : n₀ ≤ w.heap.size) (hps : ∀ x, (encs x).size = ps.size)
    (I : List α → World → Prop) (Ix : Code → List α → World → Prop) (hI : Apart w.heap.size I) (hIx : ∀ c, Apart w.heap.size (Ix c)) (h0 : I [] w)
    (Ax : α → Act → World → Prop) (hAx : ∀ x a' W l o o', Ax x a' W → W.heap[l]? = some o → o.isCells = false → Ax x a' (W.putObj l o'))
    (hassign : ∀ (l : Nat) (pre : List α) (x : α) (W : World) (K : Act → World → Prop), I pre W → w.heap.size ≤ W.heap.size → (∀ a' W', Below W.heap.size W W' → Ax x a' W' → K a' W') →
      assign.wpIn (Fence.wide.inRound l) (n - 1 - 1) P (Exit.then K (fun _ _ _ => False)) { tmps := (ps.zip (encs x)).foldl (fun t (p, v) => t.setIfInBounds p v) a.tmps, defers := [] } W)
    (hbody : ∀ (l : Nat) (pre : List α) (x : α) (a' : Act) (W : World), w.heap.size ≤ W.heap.size → I pre W → Ax x a' W → body.wpIn (Fence.wide.inRound l) (n - 1 - 1) P (bodyEnd n₀ w.heap.size I Ix (pre ++ [x]) W) a' W)
    (hdone : ∀ (D : Nat) (xs : List α) (W : World), w.heap.size ≤ D → S xs → I xs W → W.heap[D]? = some (.deferred (some [])) → Q .normal { a with defers := { target := .collected D, args := #[] } :: a.defers } W)
    (hstop : ∀ (D : Nat) (c : Code) (pre : List α) (W : World), w.heap.size ≤ D → Sp pre → Ix c pre W → W.heap[D]? = some (.deferred (some [])) → c.wpIn Fence.wide n P Q { a with defers := { target := .collected D, args := #[] } :: a.defers } W) :
    (Code.rangeFunc g ps assign body).wpIn Fence.wide n P Q a w := by
  refine wpIn_rangeFunc ?_
  intro fn hfn
  rw [show Fence.wide.round = none from rfl]
  obtain ⟨rec, hrec⟩ : ∃ rec : LoopState → Option Code → Loop, rec = fun st pe => { state := st, pending := pe, fn, tmps := a.tmps, params := ps, assign, body, defers := w.heap.size } := ⟨_, rfl⟩
  obtain ⟨V, hV⟩ : ∃ V, (w.alloc (.deferred (some []))).alloc (.loop (rec .ready none)) = V := ⟨_, rfl⟩
  have zV : V.heap.size = w.heap.size + 2 := by rw [← hV]; simp
  have bV : Below w.heap.size w V := by rw [← hV]; exact ((Below.refl _ w).alloc (Nat.le_refl _) _).alloc (by simp) _
  have lV : V.heap[w.heap.size + 1]? = some (.loop (rec .ready none)) := by
    rw [← hV]; have := World.alloc_heap_new (w.alloc (.deferred (some []))) (.loop (rec .ready none)); rwa [World.size_alloc] at this
  have dV : V.heap[w.heap.size]? = some (.deferred (some [])) := by
    rw [← hV]; exact (Below.heap_alloc _ _ _ (by simp)).trans (World.alloc_heap_new w _)
  refine ⟨w.heap.size + 1, [{ target := .collected w.heap.size, args := #[] }], V, { target := .fn (.func gf) lb, args := #[.func (.yield (w.heap.size + 1)) #[] #[]] }, V, gf,
    #[.func (.yield (w.heap.size + 1)) #[] #[]] ++ lb, V, ?_, ?_, ?_, ?_, fun _ => h1, ?_⟩
  · rw [← hV, hrec]; exact run_enterLoop_outer _ _ _ _ _
  · simp only [resolve, hg]
    simp [go_sem]
  · intro f' hf'; simp [Target.leads] at hf'; subst hf'; trivial
  · simp [invoke, go_sem, eg]
  · have keepI : ∀ {J : List α → World → Prop}, Apart w.heap.size J → ∀ {s : List α} {X : World} {o : Obj} (k : Nat) (o' : Obj), J s X → w.heap.size ≤ k → X.heap[k]? = some o → J s (X.putObj k o') :=
      fun hJ s X o k o' hs hk hl => hJ _ _ _ hs (below_put X o' hk hl)
    refine (hseq (w.heap.size + 1)
      (fun pre W => I pre W ∧ W.heap[w.heap.size + 1]? = some (.loop (rec .ready none)) ∧ W.heap[w.heap.size]? = some (.deferred (some [])))
      (fun pre W => ∃ c, Ix c pre W ∧ W.heap[w.heap.size + 1]? = some (.loop (rec .done (some c))) ∧ W.heap[w.heap.size]? = some (.deferred (some [])))
      V bV (fun s A B hs hb => ⟨hI _ _ _ hs.1 (hb.mono (by omega)), (hb.block _ (by omega)).trans hs.2.1, (hb.block _ (by omega)).trans hs.2.2⟩)
      (fun s A B hs hb => by obtain ⟨c, h1, h2, h3⟩ := hs; exact ⟨c, hIx c _ _ _ h1 (hb.mono (by omega)), (hb.block _ (by omega)).trans h2, (hb.block _ (by omega)).trans h3⟩)
      ?_ ⟨hI _ _ _ h0 bV, lV, dV⟩).mono ?_
    · rintro pre x W ⟨hi, hl, hk⟩
      have hlt : w.heap.size + 1 < W.heap.size := (Array.getElem?_eq_some_iff.1 hl).1
      have hy := run_yield (P := P) (args := encs x) hl (by rw [hrec]; exact hps x)
      rw [hrec] at hy
      refine ⟨fn, _, assign, body, hy, roundIn_of_wpIn hfn (hassign _ pre x W _ hi (by omega) ?_)⟩
      clear hy
      intro a' X hba hax
      have lX : X.heap[w.heap.size + 1]? = some (.loop (rec .ready none)) := (hba.block _ hlt).trans hl
      have dX : X.heap[w.heap.size]? = some (.deferred (some [])) := (hba.block _ (by omega)).trans hk
      have iX : I pre X := hI _ _ _ hi (hba.mono (by omega))
      have sX : W.heap.size ≤ X.heap.size := hba.size
      refine ⟨_, run_beginRound lX (by rw [hrec]), ?_⟩
      have lY : (X.putObj (w.heap.size + 1) (.loop { rec .ready none with state := .busy })).heap[w.heap.size + 1]? = some (.loop { rec .ready none with state := .busy }) := World.putObj_heap_same (by omega)
      have dY : (X.putObj (w.heap.size + 1) (.loop { rec .ready none with state := .busy })).heap[w.heap.size]? = some (.deferred (some [])) := (World.putObj_heap_other (by omega)).trans dX
      have k1 : Keep n₀ V.heap.size W (X.putObj (w.heap.size + 1) (.loop { rec .ready none with state := .busy })) := (Keep.of_below hba (by omega)).trans (keep_put X _ (by omega) (by omega) lX)
      refine wpIn_mono (hbody _ pre x a' _ (by rw [World.putObj_size]; omega) (keepI hI _ _ iX (by omega) lX) (hAx _ _ _ _ _ _ hax lX rfl)) ?_
      have fin : ∀ (m : Nat) (jump : Option Code) (Z : World), Keep m w.heap.size (X.putObj (w.heap.size + 1) (.loop { rec .ready none with state := .busy })) Z →
          (Instr.endRound (w.heap.size + 1) jump).run P Z = .ok (.bool jump.isNone) (Z.putObj (w.heap.size + 1) (.loop (rec (if jump.isNone then .ready else .done) jump))) ∧
          Z.heap[w.heap.size + 1]? = some (.loop { rec .ready none with state := .busy }) ∧
          (Z.putObj (w.heap.size + 1) (.loop (rec (if jump.isNone then .ready else .done) jump))).heap[w.heap.size + 1]? = some (.loop (rec (if jump.isNone then .ready else .done) jump)) ∧
          (Z.putObj (w.heap.size + 1) (.loop (rec (if jump.isNone then .ready else .done) jump))).heap[w.heap.size]? = some (.deferred (some [])) := fun m jump Z hZ => by
        have lZ := (hZ.high (w.heap.size + 1) (by omega) (by rw [World.putObj_size]; omega)).trans lY
        have dZ := (hZ.high w.heap.size (Nat.le_refl _) (by rw [World.putObj_size]; omega)).trans dY
        have := run_endRound (P := P) jump lZ
        rw [hrec] at this ⊢
        exact ⟨this, by rw [hrec] at lZ; exact lZ, World.putObj_heap_same (Array.getElem?_eq_some_iff.1 lZ).1, (World.putObj_heap_other (by omega)).trans dZ⟩
      rintro e a3 Z hp
      cases e with
      | normal =>
        obtain ⟨hZ, hi3⟩ := hp
        obtain ⟨hr, l3, l4, d4⟩ := fin _ none Z hZ
        exact ⟨_, _, hr, .inl ⟨rfl, ⟨keepI hI _ _ hi3 (by omega) l3, l4, d4⟩, (k1.trans (hZ.mono (by omega))).trans (keep_put Z _ (by omega) (by omega) l3)⟩⟩
      | ret =>
        obtain ⟨hZ, hi3⟩ := hp
        obtain ⟨hr, l3, l4, d4⟩ := fin _ (some .ret) Z hZ
        exact ⟨_, _, hr, .inr ⟨rfl, .ret, keepI (hIx _) _ _ hi3 (by omega) l3, l4, d4⟩⟩
      | exit id =>
        obtain ⟨hZ, hi3⟩ := hp
        obtain ⟨hr, l3, l4, d4⟩ := fin _ (some (.exit id)) Z hZ
        exact ⟨_, _, hr, .inr ⟨rfl, .exit id, keepI (hIx _) _ _ hi3 (by omega) l3, l4, d4⟩⟩
      | goto t =>
        obtain ⟨hZ, hi3⟩ := hp
        obtain ⟨hr, l3, l4, d4⟩ := fin _ (some (.goto t)) Z hZ
        exact ⟨_, _, hr, .inr ⟨rfl, .goto t, keepI (hIx _) _ _ hi3 (by omega) l3, l4, d4⟩⟩
      | panic ch => exact hp.elim
      | outgrown => exact hp.elim
    · rintro e Z ⟨⟨v, rfl⟩, (⟨xs, hS, hi, hl, hk⟩ | ⟨pre, hSp, c, hi, hl, hk⟩)⟩
      · exact ⟨none, _, by have := run_endLoop (P := P) hl (by rw [hrec]; simp); rw [hrec] at this; exact this, hdone _ xs _ (Nat.le_refl _) hS (keepI hI _ _ hi (by omega) hl) ((World.putObj_heap_other (by omega)).trans hk)⟩
      · exact ⟨some c, _, by have := run_endLoop (P := P) hl (by rw [hrec]; simp); rw [hrec] at this; exact this, hstop _ c pre _ (Nat.le_refl _) hSp (keepI (hIx c) _ _ hi (by omega) hl) ((World.putObj_heap_other (by omega)).trans hk)⟩
end Go.Proofs.YtapeminpgojeaaaDoor

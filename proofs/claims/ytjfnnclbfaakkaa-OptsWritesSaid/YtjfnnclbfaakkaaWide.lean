/-
  Plain lemmas, of no program: a whole struct that lies in a block is read and written by one law, its cells being whatever they are. No conditions.
-/
import Derived.Test.YtjfnnclbfaakkaaSlice
import Derived.Deep.MidRow
import Derived.Deep.WholeRow
import Derived.StillTailTactics
namespace Go.Proofs.Ytjfnnclbfaakkaa
open Go.RowKit

/-- A whole struct is read out of the block where it lies: at a guarded operation too. -/
theorem wpList_load_wide {P : Program} {ops : Array Oper} {rest : List Oper} {op : Oper} {a : Act} {w : World} {Q : Exit → Act → World → Prop} (ty : TypeId) (x : Operand) (ho : op.op = .load ty x) (hw : Region.wanted op (yielded ops a.tmps) = true)
    (b o : Nat) (hx : a.eval x = .pointer (some ⟨b, o, none⟩)) (F : Array Value) (d : TypeDesc) (hu : P.underlying ty = some d) (hd : d.isRow = true) (hi : (P.info? ty).map (·.size) = some F.toList.length) (hc : w.rangeAt b o F.toList)
    (h : wpList P ops Q rest (a.put op.dst (.agg F)) w) : wpList P ops Q (op :: rest) a w :=
  wpList_step fun K hK => by
    rw [if_pos hw]
    refine wp_load_mid ty x ho b o hx F.toList d hc hu hd hi ?_
    simpa using hK _ _ h
theorem range_new (w : World) (F : Array Value) (t : TypeId) : (w.alloc (.cells F t)).rangeAt w.heap.size 0 F.toList := fun j v hv => by
  rw [Nat.zero_add, cell_of_row _ _ j F t (0, 0) (heap_alloc_last w _)]
  simpa using hv
theorem range_new' (w : World) (F : Array Value) (t : TypeId) (n : Nat) (h : w.heap.size = n) : (w.alloc (.cells F t)).rangeAt n 0 F.toList := h ▸ range_new w F t
theorem range_below {w w' : World} {b o : Nat} {cs : List Value} (hb : Below w.heap.size w w') (hlt : b < w.heap.size) (h : w.rangeAt b o cs) : w'.rangeAt b o cs := fun j v hv =>
  (hb.cell (p := ⟨b, o + j, none⟩) hlt).trans (h j v hv)
theorem there_new (w : World) (F : Array Value) (t : TypeId) (n m : Nat) (h : w.heap.size = n) (hm : F.size = m) : (w.alloc (.cells F t)).there n 0 m := fun j hj => by
  subst h hm
  have hc := cell_of_row (w.alloc (.cells F t)) w.heap.size j F t (0, 0) (heap_alloc_last w _)
  rw [Nat.zero_add]
  refine ⟨by rw [hc, Array.getElem?_eq_getElem hj]; rfl, ?_⟩
  simp only [World.frozen?, heap_alloc_last]
  simp
theorem size_setC (w : World) (a : Addr) (v : Value) : (w.setCell a v).heap.size = w.heap.size := by simp [World.setCell]
theorem below_setCells {B b : Nat} (hle : B ≤ b) : ∀ (vs : List Value) (o : Nat) (a w : World), Below B a w → Below B a (w.setCells b o vs) ∧ (w.setCells b o vs).heap.size = w.heap.size
  | [], _, _, _, h => ⟨h, rfl⟩
  | v :: r, o, a, w, h => by
    rw [World.setCells]
    obtain ⟨h1, h2⟩ := below_setCells hle r (o + 1) a _ (h.setCell (p := ⟨b, o, none⟩) hle v)
    exact ⟨h1, h2.trans (size_setC _ _ _)⟩
/-- A whole struct is written into the block where it lies: behind it the world is a letter. -/
theorem wpList_store_wide {P : Program} {ops : Array Oper} {rest : List Oper} {op : Oper} {a : Act} {w : World} {Q : Exit → Act → World → Prop} (ty : TypeId) (x y : Operand) (ho : op.op = .store ty x y) (hgd : op.guard = none)
    (b o : Nat) (F : Array Value) (hx : a.eval x = .pointer (some ⟨b, o, none⟩)) (hy : a.eval y = .agg F) (B : Nat) (w0 : World) (hi : (P.info? ty).map (·.size) = some F.size) (h1 : F.all (·.oneCell') = true)
    (hB : Below B w0 w) (hle : B ≤ b) (ht : w.there b o F.size)
    (h : ∀ w', Below B w0 w' → w'.heap.size = w.heap.size → w'.rangeAt b o F.toList → (∀ b' o' cs, b' ≠ b → w.rangeAt b' o' cs → w'.rangeAt b' o' cs) → (∀ b' o' n, w.there b' o' n → w'.there b' o' n) → (∀ b' o', b' ≠ b → w'.cell? ⟨b', o', none⟩ = w.cell? ⟨b', o', none⟩) →
      wpList P ops Q rest (a.put op.dst undef) w') : wpList P ops Q (op :: rest) a w := by
  refine wpList_store_mid hgd ty x y ho b o F hx hy ht hi h1 ?_
  obtain ⟨g1, g2⟩ := below_setCells hle F.toList o w0 w hB
  exact h _ g1 g2 (World.rangeAt_setCells_same w b o F.toList (by simpa using ht)) (fun b' o' cs hne hr => World.rangeAt_setCells_apart hr b o F.toList (.inl hne)) (fun b' o' n ht' => World.there_setCells ht' b o F.toList)
    (fun b' o' hne => World.cell?_setCells_out b F.toList o w ⟨b', o', none⟩ (fun hb _ => absurd hb hne))
theorem bcell {W w1 : World} (hb : Below W.heap.size W w1) : (∀ b o, b < W.heap.size → w1.cell? ⟨b, o, none⟩ = W.cell? ⟨b, o, none⟩) ∧ (∀ b o, b < W.heap.size → w1.frozen? ⟨b, o, none⟩ = W.frozen? ⟨b, o, none⟩) :=
  ⟨fun b o h => hb.cell (p := ⟨b, o, none⟩) h, fun b o h => hb.frozen (p := ⟨b, o, none⟩) h⟩
/-- .. in a region whose reads come ahead of its tail. -/
theorem wpStill_load_wide {P : Program} {ops : Array Oper} {rest : List Oper} {op : Oper} {a : Act} {w : World} {Q : Act → Prop} (ty : TypeId) (x : Operand) (ho : op.op = .load ty x) (hw : Region.wanted op (yielded ops a.tmps) = true)
    (b o : Nat) (hx : a.eval x = .pointer (some ⟨b, o, none⟩)) (F : Array Value) (d : TypeDesc) (hu : P.underlying ty = some d) (hd : d.isRow = true) (hi : (P.info? ty).map (·.size) = some F.toList.length) (hc : w.rangeAt b o F.toList)
    (h : wpStill P ops w Q rest (a.put op.dst (.agg F))) : wpStill P ops w Q (op :: rest) a :=
  wpStill_step fun K hK => by
    rw [if_pos hw]
    unfold Oper.still execOp
    simp only [ho, hx, Instr.loadAt, Instr.sureAddr, Sem.run_bind, Sem.run_pure, Result.andThen_ok, run_loadVar_mid w b o ty F.toList d hc hu hd hi]
    exact ⟨rfl, hK _ (by simpa using h)⟩
/-- A result that lies in one block. -/
theorem results_wide {P : Program} {fn : Func} {p : Tmp} {ty : TypeId} {a : Addr} {v : Value} {w : World} (h : fn.results = #[.cell p ty]) (tmps : Array Value) (hp : tmps.getD p undef = .pointer (some a)) (hl : (loadVar ty a).run P w = .ok v w) : (results fn tmps).run P w = .ok v w := by
  rw [Array.getD_eq_getD_getElem?] at hp
  simp only [results, h]
  simp [hp, asAddr, hl]
theorem kc {W w' : World} (hb : Below W.heap.size W w') {a : Addr} {v : Value} (h : W.cell? a = some v) : w'.cell? a = some v := (hb.cell (cell_lt h)).trans h
theorem kf {W w' : World} (hb : Below W.heap.size W w') {a : Addr} {v : Value} (h : W.cell? a = some v) (hf : W.frozen? a = false) : w'.frozen? a = false := (hb.frozen (cell_lt h)).trans hf
theorem there_sub {W : World} {b n : Nat} (h : W.there b 0 (n + 1)) : W.there b 1 n := fun j hj => by
  have := h (j + 1) (by omega)
  rwa [show 0 + (j + 1) = 1 + j by omega] at this
theorem there_below {w w' : World} {b o n : Nat} (hb : Below w.heap.size w w') (hlt : b < w.heap.size) (h : w.there b o n) : w'.there b o n := fun j hj => by
  rw [hb.cell (p := ⟨b, o + j, none⟩) hlt, hb.frozen (p := ⟨b, o + j, none⟩) hlt]
  exact h j hj
end Go.Proofs.Ytjfnnclbfaakkaa

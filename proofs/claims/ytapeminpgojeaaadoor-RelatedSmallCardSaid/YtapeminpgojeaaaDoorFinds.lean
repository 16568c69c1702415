/-
  The contract of the laws' own 'finds': Find against the reference's Quotes, flow by flow; the list is not modified.
-/
import Derived.Test.YtapeminpgojeaaaDoorFind
import Derived.Test.YtapeminpgojeaaaDoorRefQ
import Derived.StillTailTactics
import Derived.OwnWalk
import Derived.Deep.AppendLies
namespace Go.Proofs.YtapeminpgojeaaaDoor
open Go.RowKit
set_option linter.unusedVariables false
set_option linter.unusedSimpArgs false

theorem info27b : (Tryd.prog.info? 27).map (fun i => (i.zero, i.size, i.bytes)) = some (some (.agg #[.int .u8 0, .int .u32 0, .int .u32 0, .int .u16 0, .int .u16 0, .int .u8 0]), 6, 20) := by kernel_rfl
theorem fl_neq (x : Fl) (W : World) : (binOp .neq 27 (.agg x.arr) (.agg x.arr)).run Tryd.prog W = .ok (.bool false) W := by
  unfold Fl.arr
  go_simp
theorem fl_each (fs : List Fl) : ∀ cs ∈ fs.map Fl.cells, cs.length = 6 := by
  intro cs h
  obtain ⟨x, _, rfl⟩ := List.mem_map.1 h
  rfl
theorem fl_one (fs : List Fl) : ∀ u ∈ (fs.map Fl.cells).flatten, u.oneCell' = true := by
  intro u hu
  obtain ⟨cs, hcs, hu⟩ := List.mem_flatten.1 hu
  obtain ⟨x, _, rfl⟩ := List.mem_map.1 hcs
  simp only [Fl.cells, Fl.arr, List.mem_cons, List.not_mem_nil, or_false] at hu
  rcases hu with rfl | rfl | rfl | rfl | rfl | rfl <;> rfl
/-- The last round's value, from behind. -/
theorem fst1_back (f : Fl → Int × Bool) (fs : List Fl) (k : Nat) (x : Fl) (hx : fs[k]? = some x) : fst1 f (fs.drop k) k = if (f x).2 then ((k : Int), (f x).1, true) else fst1 f (fs.drop (k + 1)) (k + 1) := by
  obtain ⟨hk, rfl⟩ := List.getElem?_eq_some_iff.1 hx
  rw [List.drop_eq_getElem_cons hk]
  rfl

structure FdR (w1 : World) (b0 off len cap m : Nat) (p s d sp dp side src y1 : Int) (y2 : Bool) (F : Array Value) (D : Nat → Prop) (v15 v39 v40 v41 v42 v43 v44 v45 v46 v47 v48 v49 v50 v51 v52 v53 v54 : Value) (w' : World) : Prop where
  b : Below w1.heap.size w1 w'
  e0 : D 0 → v40 = .slice (some ⟨b0, off, none⟩) len cap
  e1 : D 1 → v41 = .int .i64 m
  e2 : D 2 → v42 = .pointer (some ⟨b0, off + m * 6, none⟩)
  e3 : D 3 → v43 = .pointer (some ⟨b0, off + m * 6, none⟩)
  e4 : D 4 → v44 = .agg #[.int .u8 p, .int .u32 s, .int .u32 d, .int .u16 sp, .int .u16 dp]
  e5 : D 5 → v45 = .slice (some ⟨b0, off, none⟩) len cap
  e6 : D 6 → v46 = .int .i64 m
  e7 : D 7 → v47 = .pointer (some ⟨b0, off + m * 6, none⟩)
  e8 : D 8 → v48 = .pointer (some ⟨b0, off + m * 6 + 5, none⟩)
  e9 : D 9 → v49 = .int .u8 side
  e10 : D 10 → v50 = .agg F
  e11 : D 11 → v51 = .int .u8 src
  e12 : D 12 → v52 = .tuple #[.int .u8 y1, .bool y2]
  e13 : D 13 → v39 = .tuple #[.int .u8 y1, .bool y2]
  e14 : D 14 → v53 = .int .u8 y1
  e15 : D 15 → v54 = .bool y2
  e16 : D 16 → v15 = .int .u8 y1
theorem FdR.s0 {w1 : World} {b0 off len cap m : Nat} {p s d sp dp side src y1 : Int} {y2 : Bool} {F : Array Value} {D : Nat → Prop} {v15 v39 v40 v41 v42 v43 v44 v45 v46 v47 v48 v49 v50 v51 v52 v53 v54 : Value} {w' w'' : World} (h : FdR w1 b0 off len cap m p s d sp dp side src y1 y2 F D v15 v39 v40 v41 v42 v43 v44 v45 v46 v47 v48 v49 v50 v51 v52 v53 v54 w') (hb : Below w'.heap.size w' w'') : FdR w1 b0 off len cap m p s d sp dp side src y1 y2 F (fun j => D j ∨ j = 0) v15 v39 (.slice (some ⟨b0, off, none⟩) len cap) v41 v42 v43 v44 v45 v46 v47 v48 v49 v50 v51 v52 v53 v54 w'' :=
  ⟨bthen h.b hb, fun _ => rfl, or_keep h.e1 (by decide), or_keep h.e2 (by decide), or_keep h.e3 (by decide), or_keep h.e4 (by decide), or_keep h.e5 (by decide), or_keep h.e6 (by decide), or_keep h.e7 (by decide), or_keep h.e8 (by decide), or_keep h.e9 (by decide), or_keep h.e10 (by decide), or_keep h.e11 (by decide), or_keep h.e12 (by decide), or_keep h.e13 (by decide), or_keep h.e14 (by decide), or_keep h.e15 (by decide), or_keep h.e16 (by decide)⟩
theorem FdR.s1 {w1 : World} {b0 off len cap m : Nat} {p s d sp dp side src y1 : Int} {y2 : Bool} {F : Array Value} {D : Nat → Prop} {v15 v39 v40 v41 v42 v43 v44 v45 v46 v47 v48 v49 v50 v51 v52 v53 v54 : Value} {w' w'' : World} (h : FdR w1 b0 off len cap m p s d sp dp side src y1 y2 F D v15 v39 v40 v41 v42 v43 v44 v45 v46 v47 v48 v49 v50 v51 v52 v53 v54 w') (hb : Below w'.heap.size w' w'') : FdR w1 b0 off len cap m p s d sp dp side src y1 y2 F (fun j => D j ∨ j = 1) v15 v39 v40 (.int .i64 m) v42 v43 v44 v45 v46 v47 v48 v49 v50 v51 v52 v53 v54 w'' :=
  ⟨bthen h.b hb, or_keep h.e0 (by decide), fun _ => rfl, or_keep h.e2 (by decide), or_keep h.e3 (by decide), or_keep h.e4 (by decide), or_keep h.e5 (by decide), or_keep h.e6 (by decide), or_keep h.e7 (by decide), or_keep h.e8 (by decide), or_keep h.e9 (by decide), or_keep h.e10 (by decide), or_keep h.e11 (by decide), or_keep h.e12 (by decide), or_keep h.e13 (by decide), or_keep h.e14 (by decide), or_keep h.e15 (by decide), or_keep h.e16 (by decide)⟩
theorem FdR.s2 {w1 : World} {b0 off len cap m : Nat} {p s d sp dp side src y1 : Int} {y2 : Bool} {F : Array Value} {D : Nat → Prop} {v15 v39 v40 v41 v42 v43 v44 v45 v46 v47 v48 v49 v50 v51 v52 v53 v54 : Value} {w' w'' : World} (h : FdR w1 b0 off len cap m p s d sp dp side src y1 y2 F D v15 v39 v40 v41 v42 v43 v44 v45 v46 v47 v48 v49 v50 v51 v52 v53 v54 w') (hb : Below w'.heap.size w' w'') : FdR w1 b0 off len cap m p s d sp dp side src y1 y2 F (fun j => D j ∨ j = 2) v15 v39 v40 v41 (.pointer (some ⟨b0, off + m * 6, none⟩)) v43 v44 v45 v46 v47 v48 v49 v50 v51 v52 v53 v54 w'' :=
  ⟨bthen h.b hb, or_keep h.e0 (by decide), or_keep h.e1 (by decide), fun _ => rfl, or_keep h.e3 (by decide), or_keep h.e4 (by decide), or_keep h.e5 (by decide), or_keep h.e6 (by decide), or_keep h.e7 (by decide), or_keep h.e8 (by decide), or_keep h.e9 (by decide), or_keep h.e10 (by decide), or_keep h.e11 (by decide), or_keep h.e12 (by decide), or_keep h.e13 (by decide), or_keep h.e14 (by decide), or_keep h.e15 (by decide), or_keep h.e16 (by decide)⟩
theorem FdR.s3 {w1 : World} {b0 off len cap m : Nat} {p s d sp dp side src y1 : Int} {y2 : Bool} {F : Array Value} {D : Nat → Prop} {v15 v39 v40 v41 v42 v43 v44 v45 v46 v47 v48 v49 v50 v51 v52 v53 v54 : Value} {w' w'' : World} (h : FdR w1 b0 off len cap m p s d sp dp side src y1 y2 F D v15 v39 v40 v41 v42 v43 v44 v45 v46 v47 v48 v49 v50 v51 v52 v53 v54 w') (hb : Below w'.heap.size w' w'') : FdR w1 b0 off len cap m p s d sp dp side src y1 y2 F (fun j => D j ∨ j = 3) v15 v39 v40 v41 v42 (.pointer (some ⟨b0, off + m * 6, none⟩)) v44 v45 v46 v47 v48 v49 v50 v51 v52 v53 v54 w'' :=
  ⟨bthen h.b hb, or_keep h.e0 (by decide), or_keep h.e1 (by decide), or_keep h.e2 (by decide), fun _ => rfl, or_keep h.e4 (by decide), or_keep h.e5 (by decide), or_keep h.e6 (by decide), or_keep h.e7 (by decide), or_keep h.e8 (by decide), or_keep h.e9 (by decide), or_keep h.e10 (by decide), or_keep h.e11 (by decide), or_keep h.e12 (by decide), or_keep h.e13 (by decide), or_keep h.e14 (by decide), or_keep h.e15 (by decide), or_keep h.e16 (by decide)⟩
theorem FdR.s4 {w1 : World} {b0 off len cap m : Nat} {p s d sp dp side src y1 : Int} {y2 : Bool} {F : Array Value} {D : Nat → Prop} {v15 v39 v40 v41 v42 v43 v44 v45 v46 v47 v48 v49 v50 v51 v52 v53 v54 : Value} {w' w'' : World} (h : FdR w1 b0 off len cap m p s d sp dp side src y1 y2 F D v15 v39 v40 v41 v42 v43 v44 v45 v46 v47 v48 v49 v50 v51 v52 v53 v54 w') (hb : Below w'.heap.size w' w'') : FdR w1 b0 off len cap m p s d sp dp side src y1 y2 F (fun j => D j ∨ j = 4) v15 v39 v40 v41 v42 v43 (.agg #[.int .u8 p, .int .u32 s, .int .u32 d, .int .u16 sp, .int .u16 dp]) v45 v46 v47 v48 v49 v50 v51 v52 v53 v54 w'' :=
  ⟨bthen h.b hb, or_keep h.e0 (by decide), or_keep h.e1 (by decide), or_keep h.e2 (by decide), or_keep h.e3 (by decide), fun _ => rfl, or_keep h.e5 (by decide), or_keep h.e6 (by decide), or_keep h.e7 (by decide), or_keep h.e8 (by decide), or_keep h.e9 (by decide), or_keep h.e10 (by decide), or_keep h.e11 (by decide), or_keep h.e12 (by decide), or_keep h.e13 (by decide), or_keep h.e14 (by decide), or_keep h.e15 (by decide), or_keep h.e16 (by decide)⟩
theorem FdR.s5 {w1 : World} {b0 off len cap m : Nat} {p s d sp dp side src y1 : Int} {y2 : Bool} {F : Array Value} {D : Nat → Prop} {v15 v39 v40 v41 v42 v43 v44 v45 v46 v47 v48 v49 v50 v51 v52 v53 v54 : Value} {w' w'' : World} (h : FdR w1 b0 off len cap m p s d sp dp side src y1 y2 F D v15 v39 v40 v41 v42 v43 v44 v45 v46 v47 v48 v49 v50 v51 v52 v53 v54 w') (hb : Below w'.heap.size w' w'') : FdR w1 b0 off len cap m p s d sp dp side src y1 y2 F (fun j => D j ∨ j = 5) v15 v39 v40 v41 v42 v43 v44 (.slice (some ⟨b0, off, none⟩) len cap) v46 v47 v48 v49 v50 v51 v52 v53 v54 w'' :=
  ⟨bthen h.b hb, or_keep h.e0 (by decide), or_keep h.e1 (by decide), or_keep h.e2 (by decide), or_keep h.e3 (by decide), or_keep h.e4 (by decide), fun _ => rfl, or_keep h.e6 (by decide), or_keep h.e7 (by decide), or_keep h.e8 (by decide), or_keep h.e9 (by decide), or_keep h.e10 (by decide), or_keep h.e11 (by decide), or_keep h.e12 (by decide), or_keep h.e13 (by decide), or_keep h.e14 (by decide), or_keep h.e15 (by decide), or_keep h.e16 (by decide)⟩
theorem FdR.s6 {w1 : World} {b0 off len cap m : Nat} {p s d sp dp side src y1 : Int} {y2 : Bool} {F : Array Value} {D : Nat → Prop} {v15 v39 v40 v41 v42 v43 v44 v45 v46 v47 v48 v49 v50 v51 v52 v53 v54 : Value} {w' w'' : World} (h : FdR w1 b0 off len cap m p s d sp dp side src y1 y2 F D v15 v39 v40 v41 v42 v43 v44 v45 v46 v47 v48 v49 v50 v51 v52 v53 v54 w') (hb : Below w'.heap.size w' w'') : FdR w1 b0 off len cap m p s d sp dp side src y1 y2 F (fun j => D j ∨ j = 6) v15 v39 v40 v41 v42 v43 v44 v45 (.int .i64 m) v47 v48 v49 v50 v51 v52 v53 v54 w'' :=
  ⟨bthen h.b hb, or_keep h.e0 (by decide), or_keep h.e1 (by decide), or_keep h.e2 (by decide), or_keep h.e3 (by decide), or_keep h.e4 (by decide), or_keep h.e5 (by decide), fun _ => rfl, or_keep h.e7 (by decide), or_keep h.e8 (by decide), or_keep h.e9 (by decide), or_keep h.e10 (by decide), or_keep h.e11 (by decide), or_keep h.e12 (by decide), or_keep h.e13 (by decide), or_keep h.e14 (by decide), or_keep h.e15 (by decide), or_keep h.e16 (by decide)⟩
theorem FdR.s7 {w1 : World} {b0 off len cap m : Nat} {p s d sp dp side src y1 : Int} {y2 : Bool} {F : Array Value} {D : Nat → Prop} {v15 v39 v40 v41 v42 v43 v44 v45 v46 v47 v48 v49 v50 v51 v52 v53 v54 : Value} {w' w'' : World} (h : FdR w1 b0 off len cap m p s d sp dp side src y1 y2 F D v15 v39 v40 v41 v42 v43 v44 v45 v46 v47 v48 v49 v50 v51 v52 v53 v54 w') (hb : Below w'.heap.size w' w'') : FdR w1 b0 off len cap m p s d sp dp side src y1 y2 F (fun j => D j ∨ j = 7) v15 v39 v40 v41 v42 v43 v44 v45 v46 (.pointer (some ⟨b0, off + m * 6, none⟩)) v48 v49 v50 v51 v52 v53 v54 w'' :=
  ⟨bthen h.b hb, or_keep h.e0 (by decide), or_keep h.e1 (by decide), or_keep h.e2 (by decide), or_keep h.e3 (by decide), or_keep h.e4 (by decide), or_keep h.e5 (by decide), or_keep h.e6 (by decide), fun _ => rfl, or_keep h.e8 (by decide), or_keep h.e9 (by decide), or_keep h.e10 (by decide), or_keep h.e11 (by decide), or_keep h.e12 (by decide), or_keep h.e13 (by decide), or_keep h.e14 (by decide), or_keep h.e15 (by decide), or_keep h.e16 (by decide)⟩
theorem FdR.s8 {w1 : World} {b0 off len cap m : Nat} {p s d sp dp side src y1 : Int} {y2 : Bool} {F : Array Value} {D : Nat → Prop} {v15 v39 v40 v41 v42 v43 v44 v45 v46 v47 v48 v49 v50 v51 v52 v53 v54 : Value} {w' w'' : World} (h : FdR w1 b0 off len cap m p s d sp dp side src y1 y2 F D v15 v39 v40 v41 v42 v43 v44 v45 v46 v47 v48 v49 v50 v51 v52 v53 v54 w') (hb : Below w'.heap.size w' w'') : FdR w1 b0 off len cap m p s d sp dp side src y1 y2 F (fun j => D j ∨ j = 8) v15 v39 v40 v41 v42 v43 v44 v45 v46 v47 (.pointer (some ⟨b0, off + m * 6 + 5, none⟩)) v49 v50 v51 v52 v53 v54 w'' :=
  ⟨bthen h.b hb, or_keep h.e0 (by decide), or_keep h.e1 (by decide), or_keep h.e2 (by decide), or_keep h.e3 (by decide), or_keep h.e4 (by decide), or_keep h.e5 (by decide), or_keep h.e6 (by decide), or_keep h.e7 (by decide), fun _ => rfl, or_keep h.e9 (by decide), or_keep h.e10 (by decide), or_keep h.e11 (by decide), or_keep h.e12 (by decide), or_keep h.e13 (by decide), or_keep h.e14 (by decide), or_keep h.e15 (by decide), or_keep h.e16 (by decide)⟩
theorem FdR.s9 {w1 : World} {b0 off len cap m : Nat} {p s d sp dp side src y1 : Int} {y2 : Bool} {F : Array Value} {D : Nat → Prop} {v15 v39 v40 v41 v42 v43 v44 v45 v46 v47 v48 v49 v50 v51 v52 v53 v54 : Value} {w' w'' : World} (h : FdR w1 b0 off len cap m p s d sp dp side src y1 y2 F D v15 v39 v40 v41 v42 v43 v44 v45 v46 v47 v48 v49 v50 v51 v52 v53 v54 w') (hb : Below w'.heap.size w' w'') : FdR w1 b0 off len cap m p s d sp dp side src y1 y2 F (fun j => D j ∨ j = 9) v15 v39 v40 v41 v42 v43 v44 v45 v46 v47 v48 (.int .u8 side) v50 v51 v52 v53 v54 w'' :=
  ⟨bthen h.b hb, or_keep h.e0 (by decide), or_keep h.e1 (by decide), or_keep h.e2 (by decide), or_keep h.e3 (by decide), or_keep h.e4 (by decide), or_keep h.e5 (by decide), or_keep h.e6 (by decide), or_keep h.e7 (by decide), or_keep h.e8 (by decide), fun _ => rfl, or_keep h.e10 (by decide), or_keep h.e11 (by decide), or_keep h.e12 (by decide), or_keep h.e13 (by decide), or_keep h.e14 (by decide), or_keep h.e15 (by decide), or_keep h.e16 (by decide)⟩
theorem FdR.s10 {w1 : World} {b0 off len cap m : Nat} {p s d sp dp side src y1 : Int} {y2 : Bool} {F : Array Value} {D : Nat → Prop} {v15 v39 v40 v41 v42 v43 v44 v45 v46 v47 v48 v49 v50 v51 v52 v53 v54 : Value} {w' w'' : World} (h : FdR w1 b0 off len cap m p s d sp dp side src y1 y2 F D v15 v39 v40 v41 v42 v43 v44 v45 v46 v47 v48 v49 v50 v51 v52 v53 v54 w') (hb : Below w'.heap.size w' w'') : FdR w1 b0 off len cap m p s d sp dp side src y1 y2 F (fun j => D j ∨ j = 10) v15 v39 v40 v41 v42 v43 v44 v45 v46 v47 v48 v49 (.agg F) v51 v52 v53 v54 w'' :=
  ⟨bthen h.b hb, or_keep h.e0 (by decide), or_keep h.e1 (by decide), or_keep h.e2 (by decide), or_keep h.e3 (by decide), or_keep h.e4 (by decide), or_keep h.e5 (by decide), or_keep h.e6 (by decide), or_keep h.e7 (by decide), or_keep h.e8 (by decide), or_keep h.e9 (by decide), fun _ => rfl, or_keep h.e11 (by decide), or_keep h.e12 (by decide), or_keep h.e13 (by decide), or_keep h.e14 (by decide), or_keep h.e15 (by decide), or_keep h.e16 (by decide)⟩
theorem FdR.s11 {w1 : World} {b0 off len cap m : Nat} {p s d sp dp side src y1 : Int} {y2 : Bool} {F : Array Value} {D : Nat → Prop} {v15 v39 v40 v41 v42 v43 v44 v45 v46 v47 v48 v49 v50 v51 v52 v53 v54 : Value} {w' w'' : World} (h : FdR w1 b0 off len cap m p s d sp dp side src y1 y2 F D v15 v39 v40 v41 v42 v43 v44 v45 v46 v47 v48 v49 v50 v51 v52 v53 v54 w') (hb : Below w'.heap.size w' w'') : FdR w1 b0 off len cap m p s d sp dp side src y1 y2 F (fun j => D j ∨ j = 11) v15 v39 v40 v41 v42 v43 v44 v45 v46 v47 v48 v49 v50 (.int .u8 src) v52 v53 v54 w'' :=
  ⟨bthen h.b hb, or_keep h.e0 (by decide), or_keep h.e1 (by decide), or_keep h.e2 (by decide), or_keep h.e3 (by decide), or_keep h.e4 (by decide), or_keep h.e5 (by decide), or_keep h.e6 (by decide), or_keep h.e7 (by decide), or_keep h.e8 (by decide), or_keep h.e9 (by decide), or_keep h.e10 (by decide), fun _ => rfl, or_keep h.e12 (by decide), or_keep h.e13 (by decide), or_keep h.e14 (by decide), or_keep h.e15 (by decide), or_keep h.e16 (by decide)⟩
theorem FdR.s12 {w1 : World} {b0 off len cap m : Nat} {p s d sp dp side src y1 : Int} {y2 : Bool} {F : Array Value} {D : Nat → Prop} {v15 v39 v40 v41 v42 v43 v44 v45 v46 v47 v48 v49 v50 v51 v52 v53 v54 : Value} {w' w'' : World} (h : FdR w1 b0 off len cap m p s d sp dp side src y1 y2 F D v15 v39 v40 v41 v42 v43 v44 v45 v46 v47 v48 v49 v50 v51 v52 v53 v54 w') (hb : Below w'.heap.size w' w'') : FdR w1 b0 off len cap m p s d sp dp side src y1 y2 F (fun j => D j ∨ j = 12) v15 v39 v40 v41 v42 v43 v44 v45 v46 v47 v48 v49 v50 v51 (.tuple #[.int .u8 y1, .bool y2]) v53 v54 w'' :=
  ⟨bthen h.b hb, or_keep h.e0 (by decide), or_keep h.e1 (by decide), or_keep h.e2 (by decide), or_keep h.e3 (by decide), or_keep h.e4 (by decide), or_keep h.e5 (by decide), or_keep h.e6 (by decide), or_keep h.e7 (by decide), or_keep h.e8 (by decide), or_keep h.e9 (by decide), or_keep h.e10 (by decide), or_keep h.e11 (by decide), fun _ => rfl, or_keep h.e13 (by decide), or_keep h.e14 (by decide), or_keep h.e15 (by decide), or_keep h.e16 (by decide)⟩
theorem FdR.s13 {w1 : World} {b0 off len cap m : Nat} {p s d sp dp side src y1 : Int} {y2 : Bool} {F : Array Value} {D : Nat → Prop} {v15 v39 v40 v41 v42 v43 v44 v45 v46 v47 v48 v49 v50 v51 v52 v53 v54 : Value} {w' w'' : World} (h : FdR w1 b0 off len cap m p s d sp dp side src y1 y2 F D v15 v39 v40 v41 v42 v43 v44 v45 v46 v47 v48 v49 v50 v51 v52 v53 v54 w') (hb : Below w'.heap.size w' w'') : FdR w1 b0 off len cap m p s d sp dp side src y1 y2 F (fun j => D j ∨ j = 13) v15 (.tuple #[.int .u8 y1, .bool y2]) v40 v41 v42 v43 v44 v45 v46 v47 v48 v49 v50 v51 v52 v53 v54 w'' :=
  ⟨bthen h.b hb, or_keep h.e0 (by decide), or_keep h.e1 (by decide), or_keep h.e2 (by decide), or_keep h.e3 (by decide), or_keep h.e4 (by decide), or_keep h.e5 (by decide), or_keep h.e6 (by decide), or_keep h.e7 (by decide), or_keep h.e8 (by decide), or_keep h.e9 (by decide), or_keep h.e10 (by decide), or_keep h.e11 (by decide), or_keep h.e12 (by decide), fun _ => rfl, or_keep h.e14 (by decide), or_keep h.e15 (by decide), or_keep h.e16 (by decide)⟩
theorem FdR.s14 {w1 : World} {b0 off len cap m : Nat} {p s d sp dp side src y1 : Int} {y2 : Bool} {F : Array Value} {D : Nat → Prop} {v15 v39 v40 v41 v42 v43 v44 v45 v46 v47 v48 v49 v50 v51 v52 v53 v54 : Value} {w' w'' : World} (h : FdR w1 b0 off len cap m p s d sp dp side src y1 y2 F D v15 v39 v40 v41 v42 v43 v44 v45 v46 v47 v48 v49 v50 v51 v52 v53 v54 w') (hb : Below w'.heap.size w' w'') : FdR w1 b0 off len cap m p s d sp dp side src y1 y2 F (fun j => D j ∨ j = 14) v15 v39 v40 v41 v42 v43 v44 v45 v46 v47 v48 v49 v50 v51 v52 (.int .u8 y1) v54 w'' :=
  ⟨bthen h.b hb, or_keep h.e0 (by decide), or_keep h.e1 (by decide), or_keep h.e2 (by decide), or_keep h.e3 (by decide), or_keep h.e4 (by decide), or_keep h.e5 (by decide), or_keep h.e6 (by decide), or_keep h.e7 (by decide), or_keep h.e8 (by decide), or_keep h.e9 (by decide), or_keep h.e10 (by decide), or_keep h.e11 (by decide), or_keep h.e12 (by decide), or_keep h.e13 (by decide), fun _ => rfl, or_keep h.e15 (by decide), or_keep h.e16 (by decide)⟩
theorem FdR.s15 {w1 : World} {b0 off len cap m : Nat} {p s d sp dp side src y1 : Int} {y2 : Bool} {F : Array Value} {D : Nat → Prop} {v15 v39 v40 v41 v42 v43 v44 v45 v46 v47 v48 v49 v50 v51 v52 v53 v54 : Value} {w' w'' : World} (h : FdR w1 b0 off len cap m p s d sp dp side src y1 y2 F D v15 v39 v40 v41 v42 v43 v44 v45 v46 v47 v48 v49 v50 v51 v52 v53 v54 w') (hb : Below w'.heap.size w' w'') : FdR w1 b0 off len cap m p s d sp dp side src y1 y2 F (fun j => D j ∨ j = 15) v15 v39 v40 v41 v42 v43 v44 v45 v46 v47 v48 v49 v50 v51 v52 v53 (.bool y2) w'' :=
  ⟨bthen h.b hb, or_keep h.e0 (by decide), or_keep h.e1 (by decide), or_keep h.e2 (by decide), or_keep h.e3 (by decide), or_keep h.e4 (by decide), or_keep h.e5 (by decide), or_keep h.e6 (by decide), or_keep h.e7 (by decide), or_keep h.e8 (by decide), or_keep h.e9 (by decide), or_keep h.e10 (by decide), or_keep h.e11 (by decide), or_keep h.e12 (by decide), or_keep h.e13 (by decide), or_keep h.e14 (by decide), fun _ => rfl, or_keep h.e16 (by decide)⟩
theorem FdR.s16 {w1 : World} {b0 off len cap m : Nat} {p s d sp dp side src y1 : Int} {y2 : Bool} {F : Array Value} {D : Nat → Prop} {v15 v39 v40 v41 v42 v43 v44 v45 v46 v47 v48 v49 v50 v51 v52 v53 v54 : Value} {w' w'' : World} (h : FdR w1 b0 off len cap m p s d sp dp side src y1 y2 F D v15 v39 v40 v41 v42 v43 v44 v45 v46 v47 v48 v49 v50 v51 v52 v53 v54 w') (hb : Below w'.heap.size w' w'') : FdR w1 b0 off len cap m p s d sp dp side src y1 y2 F (fun j => D j ∨ j = 16) (.int .u8 y1) v39 v40 v41 v42 v43 v44 v45 v46 v47 v48 v49 v50 v51 v52 v53 v54 w'' :=
  ⟨bthen h.b hb, or_keep h.e0 (by decide), or_keep h.e1 (by decide), or_keep h.e2 (by decide), or_keep h.e3 (by decide), or_keep h.e4 (by decide), or_keep h.e5 (by decide), or_keep h.e6 (by decide), or_keep h.e7 (by decide), or_keep h.e8 (by decide), or_keep h.e9 (by decide), or_keep h.e10 (by decide), or_keep h.e11 (by decide), or_keep h.e12 (by decide), or_keep h.e13 (by decide), or_keep h.e14 (by decide), or_keep h.e15 (by decide), fun _ => rfl⟩
theorem FdR.zero (w1 : World) (b0 off len cap m : Nat) (p s d sp dp side src y1 : Int) (y2 : Bool) (F : Array Value) (v15 v39 v40 v41 v42 v43 v44 v45 v46 v47 v48 v49 v50 v51 v52 v53 v54 : Value) : FdR w1 b0 off len cap m p s d sp dp side src y1 y2 F (fun _ => False) v15 v39 v40 v41 v42 v43 v44 v45 v46 v47 v48 v49 v50 v51 v52 v53 v54 w1.drew :=
  ⟨(Below.refl _ _).drew, fun h => h.elim, fun h => h.elim, fun h => h.elim, fun h => h.elim, fun h => h.elim, fun h => h.elim, fun h => h.elim, fun h => h.elim, fun h => h.elim, fun h => h.elim, fun h => h.elim, fun h => h.elim, fun h => h.elim, fun h => h.elim, fun h => h.elim, fun h => h.elim, fun h => h.elim⟩

set_option maxRecDepth 100000 in
set_option maxHeartbeats 4000000 in
theorem finds_more (f : Fl → Int × Bool) (fs : List Fl) (b off cap : Nat) (src : Int) (w : World)
    (F : Array Value) (Hsz : Hid ((Tryd.prog.info? 29).map (·.size) = some F.toList.length))
    (H1 : Hid (∀ (A : Option Addr) (c : Nat) (W : World), Below w.heap.size w W → Rd W A 6 (fs.map Fl.cells) → Calls Tryd.prog 22 #[.slice A fs.length c, .agg F, .int .u8 src] W fun e w' => e = .returned (.tuple #[.int .i64 (fst1 f fs 0).1, .int .u8 (fst1 f fs 0).2.1, .bool (fst1 f fs 0).2.2]) ∧ Below W.heap.size W w'))
    (H2 : Hid (∀ x ∈ fs, ∀ W : World, Calls Tryd.prog 25 #[.agg #[.int .u8 x.p, .int .u32 x.s, .int .u32 x.d, .int .u16 x.sp, .int .u16 x.dp], .int .u8 x.side, .agg F, .int .u8 src] W fun e w' => e = .returned (.tuple #[.int .u8 (f x).1, .bool (f x).2]) ∧ Below W.heap.size W w'))
    (hR : Rd w (some ⟨b, off, none⟩) 6 (fs.map Fl.cells)) (hcap : fs.length ≤ cap) (hpos : 0 < fs.length) (hn : fs.length ≤ 100) :
    Calls Tryd.prog 20 #[.slice (some ⟨b, off, none⟩) fs.length cap, .agg F, .int .u8 src] w fun e w' => e = .returned (.bool true) ∧ Below w.heap.size w w' := by
  obtain ⟨i0, hi, hz0, hz1, hz2⟩ := info_parts info27b
  have hL2 := Lib.hid (show (fs.map Fl.cells).flatten.length = fs.length * 6 by have := flatten_length (fl_each fs); simpa using this)
  have hmx1 : 2000 ≤ maxLen := by decide
  have Hone := Lib.hid (fl_one fs)
  have HR := Lib.hid hR
  have hnews := Lib.hid (hR.below (((Below.refl w.heap.size w).alloc (Nat.le_refl _) (.cells F 29)).alloc (by simp) (.cells #[] 27)))
  have hnew : ((w.alloc (.cells F 29)).alloc (.cells #[] 27)).heap[w.heap.size + 1]? = some (.cells #[] 27 (0, 0)) := by have := heap_alloc_new (w.alloc (.cells F 29)) (.cells #[] 27); simpa using this
  have hd : decide ((100 : Int) < fs.length) = false := by simp; omega
  clear hR
  go_enter Tryd.func20, Tryd.ntmps20
  go_wp2_with (first | (refine wpList_load_wide 29 _ rfl (by rfl) _ _ rfl F _ Tryd.underlying29 rfl Hsz.out ?_ ?_; · (first | with_reducible exact Rf)) | (at_builtin; refine wpList_append_lies _ rfl _ _ 47 rfl (w.heap.size + 1) 27 i0 _ 6 20 Tryd.underlying47 hi hz0 hz1 hz2 rfl (by decide) _ 0 [] rfl ⟨rfl, .inr ⟨w.heap.size + 1, 0, #[], rfl, Nat.le_refl _, hnew, Nat.le_refl _, Nat.zero_le _, rfl, rfl⟩⟩ ⟨b, off, none⟩ fs.length cap (fs.map Fl.cells).flatten rfl hL2.out (hnews.out.news (by decide)) Hone.out ?_ ?_ ?_ ?_ (w.heap.size + 2) (by simp) ?_; omega; omega; omega; (simp <;> omega); intro g cap' w1 hown hgrow hat hglt; have bg : Below (w.alloc (.cells F 29)).heap.size (w.alloc (.cells F 29)) w1 := ((Below.refl _ _).alloc (Nat.le_refl _) _).grown hgrow (by simp) (fun k hk => by cases hk; simp); have Rf : w1.rangeAt w.heap.size 0 F.toList := range_below bg (by simp) (range_new w F 29)))
  have b1 : Below w.heap.size w w1 := bthen ((Below.refl _ _).alloc (Nat.le_refl _) _) bg
  have z1 : w.heap.size + 1 ≤ w1.heap.size := by have := bg.size; simp at this; omega
  simp only [Nat.zero_add, List.nil_append] at hown ⊢
  have HN := Lib.hid (Rd.of_own hown (fl_each fs) hglt)
  clear hown hgrow hat hnews hL2 Hone hnew bg
  refine (H1.out _ _ _ b1 HN.out).mono ?_
  rintro e w2 ⟨rfl, hb2⟩
  have b2 := bthen b1 hb2
  have Rf2 := range_below hb2 (by omega) Rf
  have HN2 := Lib.hid (HN.out.below hb2)
  have z2 : w.heap.size + 1 ≤ w2.heap.size := Nat.le_trans z1 hb2.size
  clear hb2 Rf z1 b1
  obtain ⟨v, hv⟩ : ∃ v, fst1 f fs 0 = v := ⟨_, rfl⟩
  rw [hv]
  obtain ⟨v1, v2, v3⟩ := v
  have Hv := Lib.hid hv
  clear hv
  go_wp2_with fail
  go_loopw [11, 12, 13, 14] (fun a d y i wr => ∃ k : Nat, k ≤ fs.length ∧ i = .int .i64 ((k : Int) - 1) ∧ a = .int .i64 (fst1 f (fs.drop k) k).1 ∧ d = .int .u8 (fst1 f (fs.drop k) k).2.1 ∧ y = .bool (fst1 f (fs.drop k) k).2.2 ∧ Below w2.heap.size w2 wr) (fun _ _ _ i _ => (intOf i + 1).toNat)
  case atStart => exact ⟨fs.length, Nat.le_refl _, rfl, by rw [List.drop_length]; rfl, by rw [List.drop_length]; rfl, by rw [List.drop_length]; rfl, Below.refl _ _⟩
  case round =>
    obtain ⟨k, hk, rfl, rfl, rfl, rfl, hb⟩ := hrel
    cases k with
    | zero =>
      rw [List.drop_zero, Hv.out]
      rw [show (((0 : Nat) : Int) - 1) = -1 from rfl]
      have b3 := bthen b2 hb
      have HR3 := Lib.hid ((HR.out.below b2).below hb)
      have HN3 := Lib.hid (HN2.out.below hb)
      clear hb Rf2 b2 HR HN HN2 H1 H2
      generalize wr = V3 at *
      go_wp2_with fail
      go_loopw [60] (fun i W => ∃ k : Nat, k ≤ fs.length ∧ i = .int .i64 k ∧ Below V3.heap.size V3 W) (fun i _ => fs.length - (intOf i).toNat)
      case atStart => exact ⟨0, Nat.zero_le _, rfl, Below.refl _ _⟩
      case round =>
        obtain ⟨k, hk, rfl, hb4⟩ := hrel
        by_cases hkl : k < fs.length
        · obtain ⟨x, hx⟩ : ∃ x, fs[k]? = some x := ⟨fs[k], List.getElem?_eq_getElem hkl⟩
          have hkd : decide ((k : Int) < fs.length) = true := by simp; omega
          have hcs : (fs.map Fl.cells)[k]? = some x.cells := by rw [List.getElem?_map, hx]; rfl
          have S1 : wr.rangeAt b (off + k * 6) x.arr.toList := fun j v hv => (HR3.out.below hb4).cell (i := k) hcs hv
          have S2 : wr.rangeAt g (k * 6) x.arr.toList := fun j v hv => by have := (HN3.out.below hb4).cell (i := k) hcs hv; rwa [Nat.zero_add] at this
          have hneq := fl_neq x
          have I27 := Lib.hid (show (Tryd.prog.info? 27).map (·.size) = some x.arr.toList.length from info27)
          generalize x.arr = V at *
          clear hx hcs
          go_wp2_with fail
          refine wp_region_still_lit (by kernel_rfl) (by kernel_rfl) ?_
          iterate 3 still_step
          refine wpStill_load_wide 27 _ rfl (by rfl) _ _ rfl V _ Tryd.underlying27 rfl I27.out ((World.rangeAt_drew _ _ _ _).2 S2) ?_
          iterate 3 still_step
          refine wpStill_load_wide 27 _ rfl (by rfl) _ _ rfl V _ Tryd.underlying27 rfl I27.out ((World.rangeAt_drew _ _ _ _).2 S1) ?_
          still_step
          refine wpStill_nil ?_
          clear hneq S1 S2
          go_wp2_with fail
          go_roundw
          case rel => exact ⟨k + 1, by omega, by go_num, hb4.drew⟩
          case measure => simp [intOf]; omega
        · have hkd : decide ((k : Int) < fs.length) = false := by simp; omega
          go_wp2_with fail
          go_ret
          exact ⟨by first | rfl | simp, bthen b3 hb4⟩
    | succ m =>
      obtain ⟨x, hx⟩ : ∃ x, fs[m]? = some x := ⟨fs[m], List.getElem?_eq_getElem hk⟩
      have hst := fst1_back f fs m x hx
      have hq := H2.out x (List.mem_of_getElem? hx)
      have hcell : ∀ j v, x.cells[j]? = some v → wr.cell? ⟨b, off + m * 6 + j, none⟩ = some v := fun j v hv => (((HR.out.below b2).below hb).cell (i := m) (by rw [List.getElem?_map, hx]; rfl) hv)
      have q0 := hcell 0 _ rfl
      have q1 := hcell 1 _ rfl
      have q2 := hcell 2 _ rfl
      have q3 := hcell 3 _ rfl
      have q4 := hcell 4 _ rfl
      have q5 := hcell 5 _ rfl
      rw [Nat.add_zero] at q0
      have Rf3 := range_below hb (by omega) Rf2
      rw [show (((m + 1 : Nat) : Int) - 1) = (m : Int) by omega]
      generalize fst1 f (fs.drop (m + 1)) (m + 1) = st at *
      obtain ⟨s1, s2, s3⟩ := st
      have hd1 : decide ((m : Int) ≥ 0) = true := by simp
      have hml : (m : Int) < fs.length := by omega
      clear hcell
      generalize f x = y at *
      obtain ⟨y1, y2⟩ := y
      simp only at hst hq
      go_wp2_with fail
      refine wp_region_steps 17 [[], [], [0, 1], [2], [3], [], [], [5, 6], [7], [8], [], [], [4, 9, 10, 11], [12], [13], [13], [14]] (fun D a w' => ∃ v15 v39 v40 v41 v42 v43 v44 v45 v46 v47 v48 v49 v50 v51 v52 v53 v54 : Value, a = ⟨#[.slice (some ⟨b, off, none⟩) fs.length cap, .agg F, .int .u8 src, undef, .pointer (some ⟨w.heap.size, 0, none⟩), undef, .bool false, .slice (some ⟨g, 0, none⟩) fs.length cap', .int .i64 v1, .int .u8 v2, .bool v3, .int .i64 s1, .int .u8 s2, .bool s3, .int .i64 ↑m, v15, u16, undef, .slice (some ⟨b, off, none⟩) fs.length cap, .int .i64 ↑fs.length, .bool false, .slice (some ⟨w.heap.size + 1, 0, none⟩) 0 0, .slice (some ⟨b, off, none⟩) fs.length cap, .slice (some ⟨g, 0, none⟩) fs.length cap', .tuple #[.int .i64 v1, .int .u8 v2, .bool v3], .slice (some ⟨g, 0, none⟩) fs.length cap', .agg F, .int .u8 src, .tuple #[.int .i64 v1, .int .u8 v2, .bool v3], .int .i64 v1, .int .u8 v2, .bool v3, .slice (some ⟨b, off, none⟩) fs.length cap, .int .i64 ↑fs.length, .int .i64 (↑fs.length - 1), .int .i64 ↑m, .bool true, u37, u38, v39, v40, v41, v42, v43, v44, v45, v46, v47, v48, v49, v50, v51, v52, v53, v54, u55, u56, u57, undef, undef, undef, undef, undef, undef, undef, undef, undef, undef, undef, undef, undef, undef, undef, undef, undef, undef, undef, undef, undef, undef, undef, undef, undef, undef, undef, undef], []⟩ ∧ FdR wr b off fs.length cap m x.p x.s x.d x.sp x.dp x.side src y1 y2 F D v15 v39 v40 v41 v42 v43 v44 v45 v46 v47 v48 v49 v50 v51 v52 v53 v54 w') (by kernel_rfl) (by kernel_rfl) ⟨u15, u39, u40, u41, u42, u43, u44, u45, u46, u47, u48, u49, u50, u51, u52, u53, u54, rfl, FdR.zero wr b off fs.length cap m x.p x.s x.d x.sp x.dp x.side src y1 y2 F (u15) (u39) (u40) (u41) (u42) (u43) (u44) (u45) (u46) (u47) (u48) (u49) (u50) (u51) (u52) (u53) (u54)⟩ ?_ ?_
      · simp only [List.take_succ_cons, List.take_zero]
        refine ⟨?_, ?_, ?_, ?_, ?_, ?_, ?_, ?_, ?_, ?_, ?_, ?_, ?_, ?_, ?_, ?_, ?_, trivial⟩
        · intro D a w' hn hp hI
          obtain ⟨v15, v39, v40, v41, v42, v43, v44, v45, v46, v47, v48, v49, v50, v51, v52, v53, v54, rfl, hR⟩ := hI
          clear hn hp
          go_wp2_with fail
          exact ⟨_, _, _, _, _, _, _, _, _, _, _, _, _, _, _, _, _, rfl, hR.s0 (Below.refl _ _)⟩
        · intro D a w' hn hp hI
          obtain ⟨v15, v39, v40, v41, v42, v43, v44, v45, v46, v47, v48, v49, v50, v51, v52, v53, v54, rfl, hR⟩ := hI
          clear hn hp
          go_wp2_with fail
          exact ⟨_, _, _, _, _, _, _, _, _, _, _, _, _, _, _, _, _, rfl, hR.s1 (Below.refl _ _)⟩
        · intro D a w' hn hp hI
          obtain ⟨v15, v39, v40, v41, v42, v43, v44, v45, v46, v47, v48, v49, v50, v51, v52, v53, v54, rfl, hR⟩ := hI
          obtain rfl := hR.e0 hp.1
          obtain rfl := hR.e1 hp.2.1
          clear hn hp
          go_wp2_with fail
          exact ⟨_, _, _, _, _, _, _, _, _, _, _, _, _, _, _, _, _, rfl, hR.s2 (Below.refl _ _)⟩
        · intro D a w' hn hp hI
          obtain ⟨v15, v39, v40, v41, v42, v43, v44, v45, v46, v47, v48, v49, v50, v51, v52, v53, v54, rfl, hR⟩ := hI
          obtain rfl := hR.e2 hp.1
          clear hn hp
          go_wp2_with fail
          exact ⟨_, _, _, _, _, _, _, _, _, _, _, _, _, _, _, _, _, rfl, hR.s3 (Below.refl _ _)⟩
        · intro D a w' hn hp hI
          obtain ⟨v15, v39, v40, v41, v42, v43, v44, v45, v46, v47, v48, v49, v50, v51, v52, v53, v54, rfl, hR⟩ := hI
          obtain rfl := hR.e3 hp.1
          have c0 := kc hR.b q0
          have c1 := kc hR.b q1
          have c2 := kc hR.b q2
          have c3 := kc hR.b q3
          have c4 := kc hR.b q4
          clear hn hp
          go_wp2_with fail
          exact ⟨_, _, _, _, _, _, _, _, _, _, _, _, _, _, _, _, _, rfl, hR.s4 (Below.refl _ _)⟩
        · intro D a w' hn hp hI
          obtain ⟨v15, v39, v40, v41, v42, v43, v44, v45, v46, v47, v48, v49, v50, v51, v52, v53, v54, rfl, hR⟩ := hI
          clear hn hp
          go_wp2_with fail
          exact ⟨_, _, _, _, _, _, _, _, _, _, _, _, _, _, _, _, _, rfl, hR.s5 (Below.refl _ _)⟩
        · intro D a w' hn hp hI
          obtain ⟨v15, v39, v40, v41, v42, v43, v44, v45, v46, v47, v48, v49, v50, v51, v52, v53, v54, rfl, hR⟩ := hI
          clear hn hp
          go_wp2_with fail
          exact ⟨_, _, _, _, _, _, _, _, _, _, _, _, _, _, _, _, _, rfl, hR.s6 (Below.refl _ _)⟩
        · intro D a w' hn hp hI
          obtain ⟨v15, v39, v40, v41, v42, v43, v44, v45, v46, v47, v48, v49, v50, v51, v52, v53, v54, rfl, hR⟩ := hI
          obtain rfl := hR.e5 hp.1
          obtain rfl := hR.e6 hp.2.1
          clear hn hp
          go_wp2_with fail
          exact ⟨_, _, _, _, _, _, _, _, _, _, _, _, _, _, _, _, _, rfl, hR.s7 (Below.refl _ _)⟩
        · intro D a w' hn hp hI
          obtain ⟨v15, v39, v40, v41, v42, v43, v44, v45, v46, v47, v48, v49, v50, v51, v52, v53, v54, rfl, hR⟩ := hI
          obtain rfl := hR.e7 hp.1
          clear hn hp
          go_wp2_with fail
          exact ⟨_, _, _, _, _, _, _, _, _, _, _, _, _, _, _, _, _, rfl, hR.s8 (Below.refl _ _)⟩
        · intro D a w' hn hp hI
          obtain ⟨v15, v39, v40, v41, v42, v43, v44, v45, v46, v47, v48, v49, v50, v51, v52, v53, v54, rfl, hR⟩ := hI
          obtain rfl := hR.e8 hp.1
          have c5 := kc hR.b q5
          clear hn hp
          go_wp2_with fail
          exact ⟨_, _, _, _, _, _, _, _, _, _, _, _, _, _, _, _, _, rfl, hR.s9 (Below.refl _ _)⟩
        · intro D a w' hn hp hI
          obtain ⟨v15, v39, v40, v41, v42, v43, v44, v45, v46, v47, v48, v49, v50, v51, v52, v53, v54, rfl, hR⟩ := hI
          have Rf4 := range_below hR.b (Nat.lt_of_lt_of_le (by omega) hb.size) Rf3
          clear hn hp
          go_wp2_with (refine wpList_load_wide 29 _ rfl (by rfl) _ _ rfl F _ Tryd.underlying29 rfl Hsz.out ?_ ?_; · exact Rf4)
          exact ⟨_, _, _, _, _, _, _, _, _, _, _, _, _, _, _, _, _, rfl, hR.s10 (Below.refl _ _)⟩
        · intro D a w' hn hp hI
          obtain ⟨v15, v39, v40, v41, v42, v43, v44, v45, v46, v47, v48, v49, v50, v51, v52, v53, v54, rfl, hR⟩ := hI
          clear hn hp
          go_wp2_with fail
          exact ⟨_, _, _, _, _, _, _, _, _, _, _, _, _, _, _, _, _, rfl, hR.s11 (Below.refl _ _)⟩
        · intro D a w' hn hp hI
          obtain ⟨v15, v39, v40, v41, v42, v43, v44, v45, v46, v47, v48, v49, v50, v51, v52, v53, v54, rfl, hR⟩ := hI
          obtain rfl := hR.e4 hp.1
          obtain rfl := hR.e9 hp.2.1
          obtain rfl := hR.e10 hp.2.2.1
          obtain rfl := hR.e11 hp.2.2.2.1
          clear hn hp
          go_wp2_with fail
          refine (hq _).mono ?_
          rintro e w'' ⟨rfl, hb⟩
          go_wp2_with fail
          exact ⟨_, _, _, _, _, _, _, _, _, _, _, _, _, _, _, _, _, rfl, hR.s12 hb⟩
        · intro D a w' hn hp hI
          obtain ⟨v15, v39, v40, v41, v42, v43, v44, v45, v46, v47, v48, v49, v50, v51, v52, v53, v54, rfl, hR⟩ := hI
          obtain rfl := hR.e12 hp.1
          clear hn hp
          go_wp2_with fail
          exact ⟨_, _, _, _, _, _, _, _, _, _, _, _, _, _, _, _, _, rfl, hR.s13 (Below.refl _ _)⟩
        · intro D a w' hn hp hI
          obtain ⟨v15, v39, v40, v41, v42, v43, v44, v45, v46, v47, v48, v49, v50, v51, v52, v53, v54, rfl, hR⟩ := hI
          obtain rfl := hR.e13 hp.1
          clear hn hp
          go_wp2_with fail
          exact ⟨_, _, _, _, _, _, _, _, _, _, _, _, _, _, _, _, _, rfl, hR.s14 (Below.refl _ _)⟩
        · intro D a w' hn hp hI
          obtain ⟨v15, v39, v40, v41, v42, v43, v44, v45, v46, v47, v48, v49, v50, v51, v52, v53, v54, rfl, hR⟩ := hI
          obtain rfl := hR.e13 hp.1
          clear hn hp
          go_wp2_with fail
          exact ⟨_, _, _, _, _, _, _, _, _, _, _, _, _, _, _, _, _, rfl, hR.s15 (Below.refl _ _)⟩
        · intro D a w' hn hp hI
          obtain ⟨v15, v39, v40, v41, v42, v43, v44, v45, v46, v47, v48, v49, v50, v51, v52, v53, v54, rfl, hR⟩ := hI
          obtain rfl := hR.e14 hp.1
          clear hn hp
          go_wp2_with fail
          exact ⟨_, _, _, _, _, _, _, _, _, _, _, _, _, _, _, _, _, rfl, hR.s16 (Below.refl _ _)⟩
      intro D a w' hD hI
      obtain ⟨v15, v39, v40, v41, v42, v43, v44, v45, v46, v47, v48, v49, v50, v51, v52, v53, v54, rfl, hR⟩ := hI
      obtain rfl := hR.e0 (hD 0 (by decide))
      obtain rfl := hR.e1 (hD 1 (by decide))
      obtain rfl := hR.e2 (hD 2 (by decide))
      obtain rfl := hR.e3 (hD 3 (by decide))
      obtain rfl := hR.e4 (hD 4 (by decide))
      obtain rfl := hR.e5 (hD 5 (by decide))
      obtain rfl := hR.e6 (hD 6 (by decide))
      obtain rfl := hR.e7 (hD 7 (by decide))
      obtain rfl := hR.e8 (hD 8 (by decide))
      obtain rfl := hR.e9 (hD 9 (by decide))
      obtain rfl := hR.e10 (hD 10 (by decide))
      obtain rfl := hR.e11 (hD 11 (by decide))
      obtain rfl := hR.e12 (hD 12 (by decide))
      obtain rfl := hR.e13 (hD 13 (by decide))
      obtain rfl := hR.e14 (hD 14 (by decide))
      obtain rfl := hR.e15 (hD 15 (by decide))
      obtain rfl := hR.e16 (hD 16 (by decide))
      have b5 := bthen hb hR.b
      clear hD hR q0 q1 q2 q3 q4 q5 Rf3
      simp only [List.drop_succ_cons, List.drop_zero]
      cases y2 with
      | false =>
        rw [if_neg (by decide)] at hst
        go_wp2_with fail
        exact ⟨⟨m, by omega, rfl, by rw [hst], by rw [hst], by rw [hst], b5⟩, by simp [intOf]⟩
      | true =>
        rw [if_pos rfl] at hst
        go_wp2_with fail
        exact ⟨⟨m, by omega, rfl, by rw [hst], by rw [hst], by rw [hst], b5⟩, by simp [intOf]⟩

end Go.Proofs.YtapeminpgojeaaaDoor

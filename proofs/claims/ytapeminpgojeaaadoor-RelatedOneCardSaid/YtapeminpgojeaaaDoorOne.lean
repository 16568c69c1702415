/-
  The walk of RelatedOne: of flows with different keys, none of which is another one turned, an error quotes at most one, and Find finds it.
-/
import Derived.Test.YtapeminpgojeaaaDoorOneP
import Derived.Test.YtapeminpgojeaaaDoorInv
import Derived.Test.YtapeminpgojeaaaDoorLawFinds
import Derived.Test.YtapeminpgojeaaaDoorTurned
namespace Go.Proofs.YtapeminpgojeaaaDoor
open Go.RowKit
set_option linter.unusedVariables false
set_option linter.unusedSimpArgs false

theorem range_under {B : Nat} {w w' : World} {b o : Nat} {cs : List Value} (hb : Below B w w') (hlt : b < B) (h : w.rangeAt b o cs) : w'.rangeAt b o cs := fun j v hv =>
  (hb.cell (p := ⟨b, o + j, none⟩) hlt).trans (h j v hv)
theorem cell_under {B : Nat} {w w' : World} {b o : Nat} {v : Value} (hb : Below B w w') (hlt : b < B) (h : w.cell? ⟨b, o, none⟩ = some v) : w'.cell? ⟨b, o, none⟩ = some v :=
  (hb.cell (p := ⟨b, o, none⟩) hlt).trans h
theorem key_neqs (p s d sp dp p' s' d' sp' dp' : Int) (W : World) : (binOp .neq 25 (.agg #[.int .u8 p, .int .u32 s, .int .u32 d, .int .u16 sp, .int .u16 dp]) (.agg #[.int .u8 p', .int .u32 s', .int .u32 d', .int .u16 sp', .int .u16 dp'])).run Tryd.prog W = .ok (.bool (!eqK p s d sp dp p' s' d' sp' dp')) W := by
  unfold eqK
  go_simp
  by_cases h1 : p = p' <;> by_cases h2 : s = s' <;> by_cases h3 : d = d' <;> by_cases h4 : sp = sp' <;> by_cases h5 : dp = dp' <;> simp [h1, h2, h3, h4, h5]
theorem own_below {w w' : World} {base : Nat} {e : TypeId} {size : Nat} {v : Value} {n : Nat} {xs : List Value} (h : w.ownsRow base e size v n xs) (hb : Below w.heap.size w w') : w'.ownsRow base e size v n xs := by
  refine ⟨h.1, ?_⟩
  rcases h.2 with hn | ⟨g, cap, cur, rfl, hbs, hg, r⟩
  · exact .inl hn
  · exact .inr ⟨g, cap, cur, rfl, hbs, (hb.block g (Array.getElem?_eq_some_iff.1 hg).1).trans hg, r⟩
/-- A row of the call's own reads as a slice. -/
theorem own_open {w : World} {base : Nat} {e : TypeId} {v : Value} {fs : List Fl} (h : w.ownsRow base e 6 v fs.length ((fs.map Fl.cells).flatten)) : ∃ A cap, v = .slice A fs.length cap ∧ fs.length ≤ cap ∧ (A = none → fs = [] ∧ cap = 0) ∧ Rd w A 6 (fs.map Fl.cells) := by
  rcases h.2 with ⟨rfl, h0⟩ | ⟨g, cap, cur, rfl, hbs, hg, hn, r⟩
  · obtain rfl : fs = [] := List.length_eq_zero_iff.1 h0
    exact ⟨none, 0, rfl, Nat.le_refl _, fun _ => ⟨rfl, rfl⟩, Rd.nil w none 6⟩
  · exact ⟨_, cap, rfl, hn, (fun e => by cases e), Rd.of_own h (fl_each fs) (Array.getElem?_eq_some_iff.1 hg).1⟩
theorem flat_snoc (l : List Fl) (y : Fl) : ((l ++ [y]).map Fl.cells).flatten = (l.map Fl.cells).flatten ++ y.cells := by simp
theorem fl_one1 (y : Fl) : ∀ u ∈ y.cells, u.oneCell' = true := by
  intro u hu
  simp only [Fl.cells, Fl.arr, List.mem_cons, List.not_mem_nil, or_false] at hu
  rcases hu with rfl | rfl | rfl | rfl | rfl | rfl <;> rfl
structure OneR (w1 : World) (nz ny : Nat) (zp zs zd zsp zdp P S E Sp Dp : Int) (fb c1 c2 : Bool) (D : Nat → Prop) (v57 v58 v59 v60 v61 v62 v63 v64 v65 v66 v67 v68 v69 v70 v71 v72 : Value) (w' : World) : Prop where
  b : Below w1.heap.size w1 w'
  e0 : D 0 → v57 = .bool fb
  e1 : D 1 → v58 = .bool fb
  e2 : D 2 → v59 = gv fb (.pointer (some ⟨nz, 0, none⟩))
  e3 : D 3 → v60 = gv fb (.agg #[.int .u8 zp, .int .u32 zs, .int .u32 zd, .int .u16 zsp, .int .u16 zdp])
  e4 : D 4 → v61 = gv fb (.pointer (some ⟨ny, 0, none⟩))
  e5 : D 5 → v62 = gv fb (.agg #[.int .u8 P, .int .u32 S, .int .u32 E, .int .u16 Sp, .int .u16 Dp])
  e6 : D 6 → v63 = gv fb (.bool c1)
  e7 : D 7 → v64 = .bool (fb && c1)
  e8 : D 8 → v65 = .bool (fb && c1)
  e9 : D 9 → v66 = gv (fb && c1) (.pointer (some ⟨nz, 0, none⟩))
  e10 : D 10 → v67 = gv (fb && c1) (.agg #[.int .u8 zp, .int .u32 zs, .int .u32 zd, .int .u16 zsp, .int .u16 zdp])
  e11 : D 11 → v68 = gv (fb && c1) (.agg #[.int .u8 zp, .int .u32 zd, .int .u32 zs, .int .u16 zdp, .int .u16 zsp])
  e12 : D 12 → v69 = gv (fb && c1) (.pointer (some ⟨ny, 0, none⟩))
  e13 : D 13 → v70 = gv (fb && c1) (.agg #[.int .u8 P, .int .u32 S, .int .u32 E, .int .u16 Sp, .int .u16 Dp])
  e14 : D 14 → v71 = gv (fb && c1) (.bool c2)
  e15 : D 15 → v72 = .bool (fb && (c1 && c2))
theorem OneR.s0 {w1 : World} {nz ny : Nat} {zp zs zd zsp zdp P S E Sp Dp : Int} {fb c1 c2 : Bool} {D : Nat → Prop} {v57 v58 v59 v60 v61 v62 v63 v64 v65 v66 v67 v68 v69 v70 v71 v72 : Value} {w' w'' : World} (h : OneR w1 nz ny zp zs zd zsp zdp P S E Sp Dp fb c1 c2 D v57 v58 v59 v60 v61 v62 v63 v64 v65 v66 v67 v68 v69 v70 v71 v72 w') (hb : Below w'.heap.size w' w'') : OneR w1 nz ny zp zs zd zsp zdp P S E Sp Dp fb c1 c2 (fun j => D j ∨ j = 0) (.bool fb) v58 v59 v60 v61 v62 v63 v64 v65 v66 v67 v68 v69 v70 v71 v72 w'' :=
  ⟨bthen h.b hb, fun _ => rfl, or_keep h.e1 (by decide), or_keep h.e2 (by decide), or_keep h.e3 (by decide), or_keep h.e4 (by decide), or_keep h.e5 (by decide), or_keep h.e6 (by decide), or_keep h.e7 (by decide), or_keep h.e8 (by decide), or_keep h.e9 (by decide), or_keep h.e10 (by decide), or_keep h.e11 (by decide), or_keep h.e12 (by decide), or_keep h.e13 (by decide), or_keep h.e14 (by decide), or_keep h.e15 (by decide)⟩
theorem OneR.s1 {w1 : World} {nz ny : Nat} {zp zs zd zsp zdp P S E Sp Dp : Int} {fb c1 c2 : Bool} {D : Nat → Prop} {v57 v58 v59 v60 v61 v62 v63 v64 v65 v66 v67 v68 v69 v70 v71 v72 : Value} {w' w'' : World} (h : OneR w1 nz ny zp zs zd zsp zdp P S E Sp Dp fb c1 c2 D v57 v58 v59 v60 v61 v62 v63 v64 v65 v66 v67 v68 v69 v70 v71 v72 w') (hb : Below w'.heap.size w' w'') : OneR w1 nz ny zp zs zd zsp zdp P S E Sp Dp fb c1 c2 (fun j => D j ∨ j = 1) v57 (.bool fb) v59 v60 v61 v62 v63 v64 v65 v66 v67 v68 v69 v70 v71 v72 w'' :=
  ⟨bthen h.b hb, or_keep h.e0 (by decide), fun _ => rfl, or_keep h.e2 (by decide), or_keep h.e3 (by decide), or_keep h.e4 (by decide), or_keep h.e5 (by decide), or_keep h.e6 (by decide), or_keep h.e7 (by decide), or_keep h.e8 (by decide), or_keep h.e9 (by decide), or_keep h.e10 (by decide), or_keep h.e11 (by decide), or_keep h.e12 (by decide), or_keep h.e13 (by decide), or_keep h.e14 (by decide), or_keep h.e15 (by decide)⟩
theorem OneR.s2 {w1 : World} {nz ny : Nat} {zp zs zd zsp zdp P S E Sp Dp : Int} {fb c1 c2 : Bool} {D : Nat → Prop} {v57 v58 v59 v60 v61 v62 v63 v64 v65 v66 v67 v68 v69 v70 v71 v72 : Value} {w' w'' : World} (h : OneR w1 nz ny zp zs zd zsp zdp P S E Sp Dp fb c1 c2 D v57 v58 v59 v60 v61 v62 v63 v64 v65 v66 v67 v68 v69 v70 v71 v72 w') (hb : Below w'.heap.size w' w'') : OneR w1 nz ny zp zs zd zsp zdp P S E Sp Dp fb c1 c2 (fun j => D j ∨ j = 2) v57 v58 (gv fb (.pointer (some ⟨nz, 0, none⟩))) v60 v61 v62 v63 v64 v65 v66 v67 v68 v69 v70 v71 v72 w'' :=
  ⟨bthen h.b hb, or_keep h.e0 (by decide), or_keep h.e1 (by decide), fun _ => rfl, or_keep h.e3 (by decide), or_keep h.e4 (by decide), or_keep h.e5 (by decide), or_keep h.e6 (by decide), or_keep h.e7 (by decide), or_keep h.e8 (by decide), or_keep h.e9 (by decide), or_keep h.e10 (by decide), or_keep h.e11 (by decide), or_keep h.e12 (by decide), or_keep h.e13 (by decide), or_keep h.e14 (by decide), or_keep h.e15 (by decide)⟩
theorem OneR.s3 {w1 : World} {nz ny : Nat} {zp zs zd zsp zdp P S E Sp Dp : Int} {fb c1 c2 : Bool} {D : Nat → Prop} {v57 v58 v59 v60 v61 v62 v63 v64 v65 v66 v67 v68 v69 v70 v71 v72 : Value} {w' w'' : World} (h : OneR w1 nz ny zp zs zd zsp zdp P S E Sp Dp fb c1 c2 D v57 v58 v59 v60 v61 v62 v63 v64 v65 v66 v67 v68 v69 v70 v71 v72 w') (hb : Below w'.heap.size w' w'') : OneR w1 nz ny zp zs zd zsp zdp P S E Sp Dp fb c1 c2 (fun j => D j ∨ j = 3) v57 v58 v59 (gv fb (.agg #[.int .u8 zp, .int .u32 zs, .int .u32 zd, .int .u16 zsp, .int .u16 zdp])) v61 v62 v63 v64 v65 v66 v67 v68 v69 v70 v71 v72 w'' :=
  ⟨bthen h.b hb, or_keep h.e0 (by decide), or_keep h.e1 (by decide), or_keep h.e2 (by decide), fun _ => rfl, or_keep h.e4 (by decide), or_keep h.e5 (by decide), or_keep h.e6 (by decide), or_keep h.e7 (by decide), or_keep h.e8 (by decide), or_keep h.e9 (by decide), or_keep h.e10 (by decide), or_keep h.e11 (by decide), or_keep h.e12 (by decide), or_keep h.e13 (by decide), or_keep h.e14 (by decide), or_keep h.e15 (by decide)⟩
theorem OneR.s4 {w1 : World} {nz ny : Nat} {zp zs zd zsp zdp P S E Sp Dp : Int} {fb c1 c2 : Bool} {D : Nat → Prop} {v57 v58 v59 v60 v61 v62 v63 v64 v65 v66 v67 v68 v69 v70 v71 v72 : Value} {w' w'' : World} (h : OneR w1 nz ny zp zs zd zsp zdp P S E Sp Dp fb c1 c2 D v57 v58 v59 v60 v61 v62 v63 v64 v65 v66 v67 v68 v69 v70 v71 v72 w') (hb : Below w'.heap.size w' w'') : OneR w1 nz ny zp zs zd zsp zdp P S E Sp Dp fb c1 c2 (fun j => D j ∨ j = 4) v57 v58 v59 v60 (gv fb (.pointer (some ⟨ny, 0, none⟩))) v62 v63 v64 v65 v66 v67 v68 v69 v70 v71 v72 w'' :=
  ⟨bthen h.b hb, or_keep h.e0 (by decide), or_keep h.e1 (by decide), or_keep h.e2 (by decide), or_keep h.e3 (by decide), fun _ => rfl, or_keep h.e5 (by decide), or_keep h.e6 (by decide), or_keep h.e7 (by decide), or_keep h.e8 (by decide), or_keep h.e9 (by decide), or_keep h.e10 (by decide), or_keep h.e11 (by decide), or_keep h.e12 (by decide), or_keep h.e13 (by decide), or_keep h.e14 (by decide), or_keep h.e15 (by decide)⟩
theorem OneR.s5 {w1 : World} {nz ny : Nat} {zp zs zd zsp zdp P S E Sp Dp : Int} {fb c1 c2 : Bool} {D : Nat → Prop} {v57 v58 v59 v60 v61 v62 v63 v64 v65 v66 v67 v68 v69 v70 v71 v72 : Value} {w' w'' : World} (h : OneR w1 nz ny zp zs zd zsp zdp P S E Sp Dp fb c1 c2 D v57 v58 v59 v60 v61 v62 v63 v64 v65 v66 v67 v68 v69 v70 v71 v72 w') (hb : Below w'.heap.size w' w'') : OneR w1 nz ny zp zs zd zsp zdp P S E Sp Dp fb c1 c2 (fun j => D j ∨ j = 5) v57 v58 v59 v60 v61 (gv fb (.agg #[.int .u8 P, .int .u32 S, .int .u32 E, .int .u16 Sp, .int .u16 Dp])) v63 v64 v65 v66 v67 v68 v69 v70 v71 v72 w'' :=
  ⟨bthen h.b hb, or_keep h.e0 (by decide), or_keep h.e1 (by decide), or_keep h.e2 (by decide), or_keep h.e3 (by decide), or_keep h.e4 (by decide), fun _ => rfl, or_keep h.e6 (by decide), or_keep h.e7 (by decide), or_keep h.e8 (by decide), or_keep h.e9 (by decide), or_keep h.e10 (by decide), or_keep h.e11 (by decide), or_keep h.e12 (by decide), or_keep h.e13 (by decide), or_keep h.e14 (by decide), or_keep h.e15 (by decide)⟩
theorem OneR.s6 {w1 : World} {nz ny : Nat} {zp zs zd zsp zdp P S E Sp Dp : Int} {fb c1 c2 : Bool} {D : Nat → Prop} {v57 v58 v59 v60 v61 v62 v63 v64 v65 v66 v67 v68 v69 v70 v71 v72 : Value} {w' w'' : World} (h : OneR w1 nz ny zp zs zd zsp zdp P S E Sp Dp fb c1 c2 D v57 v58 v59 v60 v61 v62 v63 v64 v65 v66 v67 v68 v69 v70 v71 v72 w') (hb : Below w'.heap.size w' w'') : OneR w1 nz ny zp zs zd zsp zdp P S E Sp Dp fb c1 c2 (fun j => D j ∨ j = 6) v57 v58 v59 v60 v61 v62 (gv fb (.bool c1)) v64 v65 v66 v67 v68 v69 v70 v71 v72 w'' :=
  ⟨bthen h.b hb, or_keep h.e0 (by decide), or_keep h.e1 (by decide), or_keep h.e2 (by decide), or_keep h.e3 (by decide), or_keep h.e4 (by decide), or_keep h.e5 (by decide), fun _ => rfl, or_keep h.e7 (by decide), or_keep h.e8 (by decide), or_keep h.e9 (by decide), or_keep h.e10 (by decide), or_keep h.e11 (by decide), or_keep h.e12 (by decide), or_keep h.e13 (by decide), or_keep h.e14 (by decide), or_keep h.e15 (by decide)⟩
theorem OneR.s7 {w1 : World} {nz ny : Nat} {zp zs zd zsp zdp P S E Sp Dp : Int} {fb c1 c2 : Bool} {D : Nat → Prop} {v57 v58 v59 v60 v61 v62 v63 v64 v65 v66 v67 v68 v69 v70 v71 v72 : Value} {w' w'' : World} (h : OneR w1 nz ny zp zs zd zsp zdp P S E Sp Dp fb c1 c2 D v57 v58 v59 v60 v61 v62 v63 v64 v65 v66 v67 v68 v69 v70 v71 v72 w') (hb : Below w'.heap.size w' w'') : OneR w1 nz ny zp zs zd zsp zdp P S E Sp Dp fb c1 c2 (fun j => D j ∨ j = 7) v57 v58 v59 v60 v61 v62 v63 (.bool (fb && c1)) v65 v66 v67 v68 v69 v70 v71 v72 w'' :=
  ⟨bthen h.b hb, or_keep h.e0 (by decide), or_keep h.e1 (by decide), or_keep h.e2 (by decide), or_keep h.e3 (by decide), or_keep h.e4 (by decide), or_keep h.e5 (by decide), or_keep h.e6 (by decide), fun _ => rfl, or_keep h.e8 (by decide), or_keep h.e9 (by decide), or_keep h.e10 (by decide), or_keep h.e11 (by decide), or_keep h.e12 (by decide), or_keep h.e13 (by decide), or_keep h.e14 (by decide), or_keep h.e15 (by decide)⟩
theorem OneR.s8 {w1 : World} {nz ny : Nat} {zp zs zd zsp zdp P S E Sp Dp : Int} {fb c1 c2 : Bool} {D : Nat → Prop} {v57 v58 v59 v60 v61 v62 v63 v64 v65 v66 v67 v68 v69 v70 v71 v72 : Value} {w' w'' : World} (h : OneR w1 nz ny zp zs zd zsp zdp P S E Sp Dp fb c1 c2 D v57 v58 v59 v60 v61 v62 v63 v64 v65 v66 v67 v68 v69 v70 v71 v72 w') (hb : Below w'.heap.size w' w'') : OneR w1 nz ny zp zs zd zsp zdp P S E Sp Dp fb c1 c2 (fun j => D j ∨ j = 8) v57 v58 v59 v60 v61 v62 v63 v64 (.bool (fb && c1)) v66 v67 v68 v69 v70 v71 v72 w'' :=
  ⟨bthen h.b hb, or_keep h.e0 (by decide), or_keep h.e1 (by decide), or_keep h.e2 (by decide), or_keep h.e3 (by decide), or_keep h.e4 (by decide), or_keep h.e5 (by decide), or_keep h.e6 (by decide), or_keep h.e7 (by decide), fun _ => rfl, or_keep h.e9 (by decide), or_keep h.e10 (by decide), or_keep h.e11 (by decide), or_keep h.e12 (by decide), or_keep h.e13 (by decide), or_keep h.e14 (by decide), or_keep h.e15 (by decide)⟩
theorem OneR.s9 {w1 : World} {nz ny : Nat} {zp zs zd zsp zdp P S E Sp Dp : Int} {fb c1 c2 : Bool} {D : Nat → Prop} {v57 v58 v59 v60 v61 v62 v63 v64 v65 v66 v67 v68 v69 v70 v71 v72 : Value} {w' w'' : World} (h : OneR w1 nz ny zp zs zd zsp zdp P S E Sp Dp fb c1 c2 D v57 v58 v59 v60 v61 v62 v63 v64 v65 v66 v67 v68 v69 v70 v71 v72 w') (hb : Below w'.heap.size w' w'') : OneR w1 nz ny zp zs zd zsp zdp P S E Sp Dp fb c1 c2 (fun j => D j ∨ j = 9) v57 v58 v59 v60 v61 v62 v63 v64 v65 (gv (fb && c1) (.pointer (some ⟨nz, 0, none⟩))) v67 v68 v69 v70 v71 v72 w'' :=
  ⟨bthen h.b hb, or_keep h.e0 (by decide), or_keep h.e1 (by decide), or_keep h.e2 (by decide), or_keep h.e3 (by decide), or_keep h.e4 (by decide), or_keep h.e5 (by decide), or_keep h.e6 (by decide), or_keep h.e7 (by decide), or_keep h.e8 (by decide), fun _ => rfl, or_keep h.e10 (by decide), or_keep h.e11 (by decide), or_keep h.e12 (by decide), or_keep h.e13 (by decide), or_keep h.e14 (by decide), or_keep h.e15 (by decide)⟩
theorem OneR.s10 {w1 : World} {nz ny : Nat} {zp zs zd zsp zdp P S E Sp Dp : Int} {fb c1 c2 : Bool} {D : Nat → Prop} {v57 v58 v59 v60 v61 v62 v63 v64 v65 v66 v67 v68 v69 v70 v71 v72 : Value} {w' w'' : World} (h : OneR w1 nz ny zp zs zd zsp zdp P S E Sp Dp fb c1 c2 D v57 v58 v59 v60 v61 v62 v63 v64 v65 v66 v67 v68 v69 v70 v71 v72 w') (hb : Below w'.heap.size w' w'') : OneR w1 nz ny zp zs zd zsp zdp P S E Sp Dp fb c1 c2 (fun j => D j ∨ j = 10) v57 v58 v59 v60 v61 v62 v63 v64 v65 v66 (gv (fb && c1) (.agg #[.int .u8 zp, .int .u32 zs, .int .u32 zd, .int .u16 zsp, .int .u16 zdp])) v68 v69 v70 v71 v72 w'' :=
  ⟨bthen h.b hb, or_keep h.e0 (by decide), or_keep h.e1 (by decide), or_keep h.e2 (by decide), or_keep h.e3 (by decide), or_keep h.e4 (by decide), or_keep h.e5 (by decide), or_keep h.e6 (by decide), or_keep h.e7 (by decide), or_keep h.e8 (by decide), or_keep h.e9 (by decide), fun _ => rfl, or_keep h.e11 (by decide), or_keep h.e12 (by decide), or_keep h.e13 (by decide), or_keep h.e14 (by decide), or_keep h.e15 (by decide)⟩
theorem OneR.s11 {w1 : World} {nz ny : Nat} {zp zs zd zsp zdp P S E Sp Dp : Int} {fb c1 c2 : Bool} {D : Nat → Prop} {v57 v58 v59 v60 v61 v62 v63 v64 v65 v66 v67 v68 v69 v70 v71 v72 : Value} {w' w'' : World} (h : OneR w1 nz ny zp zs zd zsp zdp P S E Sp Dp fb c1 c2 D v57 v58 v59 v60 v61 v62 v63 v64 v65 v66 v67 v68 v69 v70 v71 v72 w') (hb : Below w'.heap.size w' w'') : OneR w1 nz ny zp zs zd zsp zdp P S E Sp Dp fb c1 c2 (fun j => D j ∨ j = 11) v57 v58 v59 v60 v61 v62 v63 v64 v65 v66 v67 (gv (fb && c1) (.agg #[.int .u8 zp, .int .u32 zd, .int .u32 zs, .int .u16 zdp, .int .u16 zsp])) v69 v70 v71 v72 w'' :=
  ⟨bthen h.b hb, or_keep h.e0 (by decide), or_keep h.e1 (by decide), or_keep h.e2 (by decide), or_keep h.e3 (by decide), or_keep h.e4 (by decide), or_keep h.e5 (by decide), or_keep h.e6 (by decide), or_keep h.e7 (by decide), or_keep h.e8 (by decide), or_keep h.e9 (by decide), or_keep h.e10 (by decide), fun _ => rfl, or_keep h.e12 (by decide), or_keep h.e13 (by decide), or_keep h.e14 (by decide), or_keep h.e15 (by decide)⟩
theorem OneR.s12 {w1 : World} {nz ny : Nat} {zp zs zd zsp zdp P S E Sp Dp : Int} {fb c1 c2 : Bool} {D : Nat → Prop} {v57 v58 v59 v60 v61 v62 v63 v64 v65 v66 v67 v68 v69 v70 v71 v72 : Value} {w' w'' : World} (h : OneR w1 nz ny zp zs zd zsp zdp P S E Sp Dp fb c1 c2 D v57 v58 v59 v60 v61 v62 v63 v64 v65 v66 v67 v68 v69 v70 v71 v72 w') (hb : Below w'.heap.size w' w'') : OneR w1 nz ny zp zs zd zsp zdp P S E Sp Dp fb c1 c2 (fun j => D j ∨ j = 12) v57 v58 v59 v60 v61 v62 v63 v64 v65 v66 v67 v68 (gv (fb && c1) (.pointer (some ⟨ny, 0, none⟩))) v70 v71 v72 w'' :=
  ⟨bthen h.b hb, or_keep h.e0 (by decide), or_keep h.e1 (by decide), or_keep h.e2 (by decide), or_keep h.e3 (by decide), or_keep h.e4 (by decide), or_keep h.e5 (by decide), or_keep h.e6 (by decide), or_keep h.e7 (by decide), or_keep h.e8 (by decide), or_keep h.e9 (by decide), or_keep h.e10 (by decide), or_keep h.e11 (by decide), fun _ => rfl, or_keep h.e13 (by decide), or_keep h.e14 (by decide), or_keep h.e15 (by decide)⟩
theorem OneR.s13 {w1 : World} {nz ny : Nat} {zp zs zd zsp zdp P S E Sp Dp : Int} {fb c1 c2 : Bool} {D : Nat → Prop} {v57 v58 v59 v60 v61 v62 v63 v64 v65 v66 v67 v68 v69 v70 v71 v72 : Value} {w' w'' : World} (h : OneR w1 nz ny zp zs zd zsp zdp P S E Sp Dp fb c1 c2 D v57 v58 v59 v60 v61 v62 v63 v64 v65 v66 v67 v68 v69 v70 v71 v72 w') (hb : Below w'.heap.size w' w'') : OneR w1 nz ny zp zs zd zsp zdp P S E Sp Dp fb c1 c2 (fun j => D j ∨ j = 13) v57 v58 v59 v60 v61 v62 v63 v64 v65 v66 v67 v68 v69 (gv (fb && c1) (.agg #[.int .u8 P, .int .u32 S, .int .u32 E, .int .u16 Sp, .int .u16 Dp])) v71 v72 w'' :=
  ⟨bthen h.b hb, or_keep h.e0 (by decide), or_keep h.e1 (by decide), or_keep h.e2 (by decide), or_keep h.e3 (by decide), or_keep h.e4 (by decide), or_keep h.e5 (by decide), or_keep h.e6 (by decide), or_keep h.e7 (by decide), or_keep h.e8 (by decide), or_keep h.e9 (by decide), or_keep h.e10 (by decide), or_keep h.e11 (by decide), or_keep h.e12 (by decide), fun _ => rfl, or_keep h.e14 (by decide), or_keep h.e15 (by decide)⟩
theorem OneR.s14 {w1 : World} {nz ny : Nat} {zp zs zd zsp zdp P S E Sp Dp : Int} {fb c1 c2 : Bool} {D : Nat → Prop} {v57 v58 v59 v60 v61 v62 v63 v64 v65 v66 v67 v68 v69 v70 v71 v72 : Value} {w' w'' : World} (h : OneR w1 nz ny zp zs zd zsp zdp P S E Sp Dp fb c1 c2 D v57 v58 v59 v60 v61 v62 v63 v64 v65 v66 v67 v68 v69 v70 v71 v72 w') (hb : Below w'.heap.size w' w'') : OneR w1 nz ny zp zs zd zsp zdp P S E Sp Dp fb c1 c2 (fun j => D j ∨ j = 14) v57 v58 v59 v60 v61 v62 v63 v64 v65 v66 v67 v68 v69 v70 (gv (fb && c1) (.bool c2)) v72 w'' :=
  ⟨bthen h.b hb, or_keep h.e0 (by decide), or_keep h.e1 (by decide), or_keep h.e2 (by decide), or_keep h.e3 (by decide), or_keep h.e4 (by decide), or_keep h.e5 (by decide), or_keep h.e6 (by decide), or_keep h.e7 (by decide), or_keep h.e8 (by decide), or_keep h.e9 (by decide), or_keep h.e10 (by decide), or_keep h.e11 (by decide), or_keep h.e12 (by decide), or_keep h.e13 (by decide), fun _ => rfl, or_keep h.e15 (by decide)⟩
theorem OneR.s15 {w1 : World} {nz ny : Nat} {zp zs zd zsp zdp P S E Sp Dp : Int} {fb c1 c2 : Bool} {D : Nat → Prop} {v57 v58 v59 v60 v61 v62 v63 v64 v65 v66 v67 v68 v69 v70 v71 v72 : Value} {w' w'' : World} (h : OneR w1 nz ny zp zs zd zsp zdp P S E Sp Dp fb c1 c2 D v57 v58 v59 v60 v61 v62 v63 v64 v65 v66 v67 v68 v69 v70 v71 v72 w') (hb : Below w'.heap.size w' w'') : OneR w1 nz ny zp zs zd zsp zdp P S E Sp Dp fb c1 c2 (fun j => D j ∨ j = 15) v57 v58 v59 v60 v61 v62 v63 v64 v65 v66 v67 v68 v69 v70 v71 (.bool (fb && (c1 && c2))) w'' :=
  ⟨bthen h.b hb, or_keep h.e0 (by decide), or_keep h.e1 (by decide), or_keep h.e2 (by decide), or_keep h.e3 (by decide), or_keep h.e4 (by decide), or_keep h.e5 (by decide), or_keep h.e6 (by decide), or_keep h.e7 (by decide), or_keep h.e8 (by decide), or_keep h.e9 (by decide), or_keep h.e10 (by decide), or_keep h.e11 (by decide), or_keep h.e12 (by decide), or_keep h.e13 (by decide), or_keep h.e14 (by decide), fun _ => rfl⟩
theorem OneR.zero (w1 : World) (nz ny : Nat) (zp zs zd zsp zdp P S E Sp Dp : Int) (fb c1 c2 : Bool) (v57 v58 v59 v60 v61 v62 v63 v64 v65 v66 v67 v68 v69 v70 v71 v72 : Value) : OneR w1 nz ny zp zs zd zsp zdp P S E Sp Dp fb c1 c2 (fun _ => False) v57 v58 v59 v60 v61 v62 v63 v64 v65 v66 v67 v68 v69 v70 v71 v72 w1.drew :=
  ⟨(Below.refl _ _).drew, fun h => h.elim, fun h => h.elim, fun h => h.elim, fun h => h.elim, fun h => h.elim, fun h => h.elim, fun h => h.elim, fun h => h.elim, fun h => h.elim, fun h => h.elim, fun h => h.elim, fun h => h.elim, fun h => h.elim, fun h => h.elim, fun h => h.elim, fun h => h.elim⟩

set_option maxRecDepth 100000 in
set_option maxHeartbeats 16000000 in
theorem one_core (A : Option Addr) (fs : List Fl) (n cap m : Nat) (at' dir by' : Int) (w : World) (HT : Hid (Tabs w)) (Hn : Hid (n = fs.length)) (hc : n ≤ cap) (hmx : cap ≤ maxLen) (hm : (if 20 < (n : Int) then (20 : Int) else n) = m) (hm1 : m ≤ n) (hm2 : m ≤ 20)
    (HRd : Hid (Rd w A 6 (fs.map Fl.cells))) (HFr : Hid (∀ x ∈ fs, Fr x)) (ha : Hid (0 ≤ at' ∧ at' ≤ 255)) (hd : Hid (0 ≤ dir ∧ dir ≤ 255)) (hb' : Hid (0 ≤ by' ∧ by' ≤ 4294967295)) :
    Calls Tryd.prog 9 #[.slice A n cap, .int .u8 at', .int .u8 dir, .int .u32 by'] w fun e w' => e = .returned (.bool true) ∧ Below w.heap.size w w' := by
  obtain ⟨i0, hi, hz0, hz1, hz2⟩ := info_parts info27b
  have Hi := Lib.hid hi
  have Hz0 := Lib.hid hz0
  have Hz1 := Lib.hid hz1
  have Hz2 := Lib.hid hz2
  clear hi hz0 hz1 hz2
  unfold maxLen at *
  go_enter Tryd.func9, Tryd.ntmps9
  go_wp2_with fail
  refine (awake_any _ (HT.out.below (by (repeat' (first | exact Below.refl _ _ | refine Below.setCell ?_ (by first | omega | (simp; done) | (simp; omega)) _ | refine Below.alloc ?_ (by first | omega | (simp; done) | (simp; omega)) _))))).mono ?_
  rintro e w1 ⟨rfl, hb⟩
  have d1 : Below w.heap.size w w1 := bthen (by (repeat' (first | exact Below.refl _ _ | refine Below.setCell ?_ (by first | omega | (simp; done) | (simp; omega)) _ | refine Below.alloc ?_ (by first | omega | (simp; done) | (simp; omega)) _))) hb
  have k1 := d1.size
  clear hb
  go_wp2_with fail
  go_loopw [9, 42] (fun v i wr => ∃ k : Nat, k ≤ m ∧ i = .int .i64 k ∧ Below w1.heap.size w1 wr ∧ wr.ownsRow w1.heap.size 27 6 v (picks (fs.take k)).length ((picks (fs.take k)).map Fl.cells).flatten) (fun _ i _ => m - (intOf i).toNat)
  case atStart => exact ⟨0, Nat.zero_le _, rfl, Below.refl _ _, rfl, .inl ⟨rfl, rfl⟩⟩
  case round =>
    obtain ⟨k, hk, rfl, hb, hown⟩ := hrel
    by_cases hkl : k < m
    · obtain ⟨x, hx⟩ : ∃ x, fs[k]? = some x := ⟨_, List.getElem?_eq_getElem (by have := Hn.out; omega)⟩
      obtain ⟨b, off, rfl, _⟩ := HRd.out.mem (by intro e; have e' := List.map_eq_nil_iff.1 e; rw [e'] at hx; simp at hx)
      have hcell : ∀ j v, x.cells[j]? = some v → wr.cell? ⟨b, off + k * 6 + j, none⟩ = some v := fun j v hv => ((HRd.out.below d1).below hb).cell (i := k) (by rw [List.getElem?_map, hx]; rfl) hv
      have q0 := hcell 0 _ rfl
      have q1 := hcell 1 _ rfl
      have q2 := hcell 2 _ rfl
      have q3 := hcell 3 _ rfl
      have q4 := hcell 4 _ rfl
      have q5 := hcell 5 _ rfl
      rw [Nat.add_zero] at q0
      have hfr := HFr.out x (List.mem_of_getElem? hx)
      have HRt := Lib.hid (fun W => right_any x.p x.s x.d x.sp x.dp x.side W hfr.hp hfr.hd hfr.hside)
      have HS := Lib.hid (picks_take hx)
      have hlen := picks_length (fs.take k)
      have hlk : (picks (fs.take k)).length ≤ k := by have := List.length_take_le k fs; omega
      have hkd : decide ((k : Int) < (m : Int)) = true := by simpa using hkl
      have hk0 : (k : Int) < (m : Int) := by omega
      obtain ⟨y, hy⟩ : ∃ y, x.right = y := ⟨_, rfl⟩
      rw [hy] at HS
      obtain ⟨P, S, E, Sp, Dp, Q0⟩ := y
      obtain ⟨xp, xs, xd, xsp, xdp, xq⟩ := x
      simp only [Fl.right, Fl.mk.injEq] at hy
      obtain ⟨rfl, rfl, rfl, rfl, rfl, rfl⟩ := hy
      simp only at q0 q1 q2 q3 q4 q5 HRt
      generalize rp xp = P at *
      generalize rd xs xd = E at *
      generalize xq % 2 = Q0 at *
      generalize picks (fs.take k) = own at *
      have HOW := Lib.hid hown
      have kr := hb.size
      clear hcell hx hown hlen hfr
      go_wp2_with fail
      refine (HRt.out _).mono ?_
      rintro e u1 ⟨rfl, hu1⟩
      have w1r : Below wr.heap.size wr u1 := bthen (by (repeat' (first | exact Below.refl _ _ | refine Below.setCell ?_ (by first | omega | (simp; done) | (simp; omega)) _ | refine Below.alloc ?_ (by first | omega | (simp; done) | (simp; omega)) _))) hu1
      clear hu1 q0 q1 q2 q3 q4 q5
      obtain ⟨U, hU⟩ : ∃ U, u1.alloc (.cells #[.int .u8 P, .int .u32 xs, .int .u32 E, .int .u16 xsp, .int .u16 xdp, .int .u8 Q0] 27) = U := ⟨_, rfl⟩
      obtain ⟨ny, hny⟩ : ∃ n, u1.heap.size = n := ⟨_, rfl⟩
      have wrU : Below wr.heap.size wr U := by rw [← hU]; exact w1r.alloc w1r.size _
      have yR : U.rangeAt ny 0 (Fl.cells ⟨P, xs, E, xsp, xdp, Q0⟩) := by rw [← hU, ← hny]; exact range_new u1 _ 27
      have zy : ny < U.heap.size := by rw [← hU, ← hny]; simp
      have kyr : wr.heap.size ≤ ny := by rw [← hny]; exact w1r.size
      have bU := bthen hb wrU
      have OU := Lib.hid (own_below HOW.out wrU)
      obtain ⟨A', cap', hA', hcA, hnA, RO⟩ := own_open OU.out
      subst hA'
      have y0 : U.cell? ⟨ny, 0, none⟩ = some (.int .u8 P) := by have := yR 0 _ rfl; rwa [Nat.zero_add] at this
      have y1 : U.cell? ⟨ny, 1, none⟩ = some (.int .u32 xs) := by have := yR 1 _ rfl; rwa [Nat.zero_add] at this
      have y2 : U.cell? ⟨ny, 2, none⟩ = some (.int .u32 E) := by have := yR 2 _ rfl; rwa [Nat.zero_add] at this
      have y3 : U.cell? ⟨ny, 3, none⟩ = some (.int .u16 xsp) := by have := yR 3 _ rfl; rwa [Nat.zero_add] at this
      have y4 : U.cell? ⟨ny, 4, none⟩ = some (.int .u16 xdp) := by have := yR 4 _ rfl; rwa [Nat.zero_add] at this
      have y5 : U.cell? ⟨ny, 5, none⟩ = some (.int .u8 Q0) := by have := yR 5 _ rfl; rwa [Nat.zero_add] at this
      have HRO := Lib.hid RO
      have kU := wrU.size
      clear yR RO w1r
      go_wp2_with fail
      clear hU hny u1
      generalize wr = V0 at *
      go_loopw [13, 53] (fun v i W2 => ∃ j : Nat, j ≤ own.length ∧ i = .int .i64 j ∧ v = .bool ((own.take j).all (freshK · ⟨P, xs, E, xsp, xdp, Q0⟩)) ∧ Below U.heap.size U W2) (fun _ i _ => own.length - (intOf i).toNat)
      case atStart => exact ⟨0, Nat.zero_le _, rfl, by simp, Below.refl _ _⟩
      case round =>
        obtain ⟨j, hj, rfl, rfl, hb2⟩ := hrel
        by_cases hjl : j < own.length
        · obtain ⟨z, hz⟩ : ∃ z, own[j]? = some z := ⟨_, List.getElem?_eq_getElem hjl⟩
          obtain ⟨g, go, rfl, hlt, _⟩ := HRO.out.mem (by intro e; have e' := List.map_eq_nil_iff.1 e; rw [e'] at hz; simp at hz)
          have hcell : ∀ i v, z.cells[i]? = some v → wr.cell? ⟨g, go + j * 6 + i, none⟩ = some v := fun i v hv => (HRO.out.below hb2).cell (i := j) (by rw [List.getElem?_map, hz]; rfl) hv
          have q0 := hcell 0 _ rfl
          have q1 := hcell 1 _ rfl
          have q2 := hcell 2 _ rfl
          have q3 := hcell 3 _ rfl
          have q4 := hcell 4 _ rfl
          have q5 := hcell 5 _ rfl
          rw [Nat.add_zero] at q0
          have HZ := Lib.hid (all_take_succ (freshK · ⟨P, xs, E, xsp, xdp, Q0⟩) own j z hz)
          obtain ⟨zp, zs, zd, zsp, zdp, zq⟩ := z
          simp only [freshK, sameK, turnK] at HZ
          simp only at q0 q1 q2 q3 q4 q5
          have E1 := fun V => key_neqs zp zs zd zsp zdp P xs E xsp xdp V
          have E2 := fun V => key_neqs zp zd zs zdp zsp P xs E xsp xdp V
          generalize (!eqK zp zs zd zsp zdp P xs E xsp xdp) = c1 at *
          generalize (!eqK zp zd zs zdp zsp P xs E xsp xdp) = c2 at *
          have HE1 := Lib.hid E1
          have HE2 := Lib.hid E2
          have hjd : decide ((j : Int) < (own.length : Int)) = true := by simpa using hjl
          have hj0 : (j : Int) < (own.length : Int) := by omega
          obtain ⟨fb, hfb⟩ : ∃ fb, (own.take j).all (freshK · ⟨P, xs, E, xsp, xdp, Q0⟩) = fb := ⟨_, rfl⟩
          have HZ' : Hid ((own.take (j + 1)).all (freshK · ⟨P, xs, E, xsp, xdp, Q0⟩) = (fb && (c1 && c2))) := by have := HZ.out; simp only [freshK, sameK, turnK] at hfb ⊢; rw [hfb] at this; exact this
          rw [hfb]
          have yy0 := kc hb2 y0
          have yy1 := kc hb2 y1
          have yy2 := kc hb2 y2
          have yy3 := kc hb2 y3
          have yy4 := kc hb2 y4
          have k2 := hb2.size
          clear hcell hz hlt HZ hfb E1 E2
          go_wp2_with fail
          obtain ⟨V, hV⟩ : ∃ V, wr.alloc (.cells #[.int .u8 zp, .int .u32 zs, .int .u32 zd, .int .u16 zsp, .int .u16 zdp, .int .u8 zq] 27) = V := ⟨_, rfl⟩
          obtain ⟨nz, hnz⟩ : ∃ n, wr.heap.size = n := ⟨_, rfl⟩
          have bV : Below U.heap.size U V := by rw [← hV]; exact hb2.alloc hb2.size _
          have wV : Below wr.heap.size wr V := by rw [← hV]; exact (Below.refl _ _).alloc (Nat.le_refl _) _
          have zR : V.rangeAt nz 0 [.int .u8 zp, .int .u32 zs, .int .u32 zd, .int .u16 zsp, .int .u16 zdp, .int .u8 zq] := by rw [← hV, ← hnz]; exact range_new wr #[.int .u8 zp, .int .u32 zs, .int .u32 zd, .int .u16 zsp, .int .u16 zdp, .int .u8 zq] 27
          rw [hV, hnz]
          have x0 : V.cell? ⟨nz, 0, none⟩ = some (.int .u8 zp) := by have := zR 0 _ rfl; rwa [Nat.zero_add] at this
          have x1 : V.cell? ⟨nz, 1, none⟩ = some (.int .u32 zs) := by have := zR 1 _ rfl; rwa [Nat.zero_add] at this
          have x2 : V.cell? ⟨nz, 2, none⟩ = some (.int .u32 zd) := by have := zR 2 _ rfl; rwa [Nat.zero_add] at this
          have x3 : V.cell? ⟨nz, 3, none⟩ = some (.int .u16 zsp) := by have := zR 3 _ rfl; rwa [Nat.zero_add] at this
          have x4 : V.cell? ⟨nz, 4, none⟩ = some (.int .u16 zdp) := by have := zR 4 _ rfl; rwa [Nat.zero_add] at this
          have w0 : V.cell? ⟨ny, 0, none⟩ = some (.int .u8 P) := kc wV yy0
          have ww1 : V.cell? ⟨ny, 1, none⟩ = some (.int .u32 xs) := kc wV yy1
          have w2 : V.cell? ⟨ny, 2, none⟩ = some (.int .u32 E) := kc wV yy2
          have w3 : V.cell? ⟨ny, 3, none⟩ = some (.int .u16 xsp) := kc wV yy3
          have w4 : V.cell? ⟨ny, 4, none⟩ = some (.int .u16 xdp) := kc wV yy4
          clear hV hnz wV zR yy0 yy1 yy2 yy3 yy4 q0 q1 q2 q3 q4 q5 hb2
          refine wp_region_steps 16 [[], [0], [1], [2, 1], [1], [4, 1], [3, 5, 1], [1, 6], [7], [8], [9, 8], [10, 8], [8], [12, 8], [11, 13, 8], [8, 14]] (fun D a w' => ∃ v57 v58 v59 v60 v61 v62 v63 v64 v65 v66 v67 v68 v69 v70 v71 v72 : Value, a = ⟨#[.slice (some ⟨b, off, none⟩) n cap, .int .u8 at', .int .u8 dir, .int .u32 by', undef, undef, undef, undef, .bool false, .slice (some ⟨g, go, none⟩) own.length cap', undef, .pointer (some ⟨V0.heap.size, 0, none⟩), .pointer (some ⟨ny, 0, none⟩), .bool fb, undef, .pointer (some ⟨nz, 0, none⟩), undef, undef, undef, undef, undef, undef, undef, undef, undef, undef, undef, undef, undef, undef, undef, undef, undef, undef, .bool true, .bool false, .slice (some ⟨b, off, none⟩) n cap, .slice (some ⟨b, off, none⟩) n cap, .int .i64 ↑n, .int .i64 ↑m, .slice (some ⟨b, off, none⟩) m cap, .int .i64 ↑m, .int .i64 ↑k, .bool true, .pointer (some ⟨b, off + k * 6, none⟩), .agg #[.int .u8 xp, .int .u32 xs, .int .u32 xd, .int .u16 xsp, .int .u16 xdp, .int .u8 xq], .pointer (some ⟨V0.heap.size, 0, none⟩), .agg #[.int .u8 xp, .int .u32 xs, .int .u32 xd, .int .u16 xsp, .int .u16 xdp], .pointer (some ⟨V0.heap.size, 5, none⟩), .int .u8 xq, .agg #[.int .u8 P, .int .u32 xs, .int .u32 E, .int .u16 xsp, .int .u16 xdp, .int .u8 Q0], .slice (some ⟨g, go, none⟩) own.length cap', .int .i64 ↑own.length, .int .i64 ↑j, .bool true, .pointer (some ⟨g, go + j * 6, none⟩), .agg #[.int .u8 zp, .int .u32 zs, .int .u32 zd, .int .u16 zsp, .int .u16 zdp, .int .u8 zq], v57, v58, v59, v60, v61, v62, v63, v64, v65, v66, v67, v68, v69, v70, v71, v72, u73, u74, u75, u76, u77, u78, u79, undef, undef, undef, undef, undef, undef, undef, undef, undef, undef, undef, undef, undef, undef, undef, undef, undef, undef, undef, undef, undef, undef, undef, undef, undef, undef, undef, undef, undef, undef, undef, undef, undef, undef, undef, undef, undef, undef, undef, undef, undef, undef, undef, undef, undef, undef, undef, undef, undef, undef, undef, undef, undef, undef, undef, undef, undef, undef, undef, undef, undef, undef, undef, undef, undef, undef, undef, undef, undef, undef, undef, undef, undef, undef, undef, undef, undef, undef, undef, undef, undef, undef, undef, undef, undef, undef, undef, undef], []⟩ ∧ OneR V nz ny zp zs zd zsp zdp P xs E xsp xdp fb c1 c2 D v57 v58 v59 v60 v61 v62 v63 v64 v65 v66 v67 v68 v69 v70 v71 v72 w') (by kernel_rfl) (by kernel_rfl) ⟨u57, u58, u59, u60, u61, u62, u63, u64, u65, u66, u67, u68, u69, u70, u71, u72, rfl, OneR.zero V nz ny zp zs zd zsp zdp P xs E xsp xdp fb c1 c2 (u57) (u58) (u59) (u60) (u61) (u62) (u63) (u64) (u65) (u66) (u67) (u68) (u69) (u70) (u71) (u72)⟩ ?_ ?_
          · simp only [List.take_succ_cons, List.take_zero]
            refine ⟨?_, ?_, ?_, ?_, ?_, ?_, ?_, ?_, ?_, ?_, ?_, ?_, ?_, ?_, ?_, ?_, trivial⟩
            · intro D A w' hn hp hI
              obtain ⟨v57, v58, v59, v60, v61, v62, v63, v64, v65, v66, v67, v68, v69, v70, v71, v72, rfl, hR⟩ := hI
              clear hn hp
              go_wp2_with fail
              exact ⟨_, _, _, _, _, _, _, _, _, _, _, _, _, _, _, _, rfl, hR.s0 (Below.refl _ _)⟩
            · intro D A w' hn hp hI
              obtain ⟨v57, v58, v59, v60, v61, v62, v63, v64, v65, v66, v67, v68, v69, v70, v71, v72, rfl, hR⟩ := hI
              obtain rfl := hR.e0 hp.1
              clear hn hp
              go_wp2_with fail
              exact ⟨_, _, _, _, _, _, _, _, _, _, _, _, _, _, _, _, rfl, hR.s1 (Below.refl _ _)⟩
            · intro D A w' hn hp hI
              obtain ⟨v57, v58, v59, v60, v61, v62, v63, v64, v65, v66, v67, v68, v69, v70, v71, v72, rfl, hR⟩ := hI
              obtain rfl := hR.e1 hp.1
              clear hn hp
              cases fb
              all_goals
                try simp only [gv, if_true, Bool.false_eq_true, if_false, Bool.true_and, Bool.false_and, Bool.and_true, Bool.and_false]
                go_wp2_with fail
                exact ⟨_, _, _, _, _, _, _, _, _, _, _, _, _, _, _, _, rfl, hR.s2 (Below.refl _ _)⟩
            · intro D A w' hn hp hI
              obtain ⟨v57, v58, v59, v60, v61, v62, v63, v64, v65, v66, v67, v68, v69, v70, v71, v72, rfl, hR⟩ := hI
              obtain rfl := hR.e2 hp.1
              obtain rfl := hR.e1 hp.2.1
              have y0 := kc hR.b x0
              have y1 := kc hR.b x1
              have y2 := kc hR.b x2
              have y3 := kc hR.b x3
              have y4 := kc hR.b x4
              clear hn hp
              cases fb
              all_goals
                try simp only [gv, if_true, Bool.false_eq_true, if_false, Bool.true_and, Bool.false_and, Bool.and_true, Bool.and_false]
                go_wp2_with fail
                exact ⟨_, _, _, _, _, _, _, _, _, _, _, _, _, _, _, _, rfl, hR.s3 (Below.refl _ _)⟩
            · intro D A w' hn hp hI
              obtain ⟨v57, v58, v59, v60, v61, v62, v63, v64, v65, v66, v67, v68, v69, v70, v71, v72, rfl, hR⟩ := hI
              obtain rfl := hR.e1 hp.1
              clear hn hp
              cases fb
              all_goals
                try simp only [gv, if_true, Bool.false_eq_true, if_false, Bool.true_and, Bool.false_and, Bool.and_true, Bool.and_false]
                go_wp2_with fail
                exact ⟨_, _, _, _, _, _, _, _, _, _, _, _, _, _, _, _, rfl, hR.s4 (Below.refl _ _)⟩
            · intro D A w' hn hp hI
              obtain ⟨v57, v58, v59, v60, v61, v62, v63, v64, v65, v66, v67, v68, v69, v70, v71, v72, rfl, hR⟩ := hI
              obtain rfl := hR.e4 hp.1
              obtain rfl := hR.e1 hp.2.1
              have y0 := kc hR.b w0
              have y1 := kc hR.b ww1
              have y2 := kc hR.b w2
              have y3 := kc hR.b w3
              have y4 := kc hR.b w4
              clear hn hp
              cases fb
              all_goals
                try simp only [gv, if_true, Bool.false_eq_true, if_false, Bool.true_and, Bool.false_and, Bool.and_true, Bool.and_false]
                go_wp2_with fail
                exact ⟨_, _, _, _, _, _, _, _, _, _, _, _, _, _, _, _, rfl, hR.s5 (Below.refl _ _)⟩
            · intro D A w' hn hp hI
              obtain ⟨v57, v58, v59, v60, v61, v62, v63, v64, v65, v66, v67, v68, v69, v70, v71, v72, rfl, hR⟩ := hI
              obtain rfl := hR.e3 hp.1
              obtain rfl := hR.e5 hp.2.1
              obtain rfl := hR.e1 hp.2.2.1
              have E := HE1.out
              clear hn hp
              cases fb
              all_goals
                try simp only [gv, if_true, Bool.false_eq_true, if_false, Bool.true_and, Bool.false_and, Bool.and_true, Bool.and_false]
                go_wp2_with fail
                exact ⟨_, _, _, _, _, _, _, _, _, _, _, _, _, _, _, _, rfl, hR.s6 (Below.refl _ _)⟩
            · intro D A w' hn hp hI
              obtain ⟨v57, v58, v59, v60, v61, v62, v63, v64, v65, v66, v67, v68, v69, v70, v71, v72, rfl, hR⟩ := hI
              obtain rfl := hR.e1 hp.1
              obtain rfl := hR.e6 hp.2.1
              clear hn hp
              cases fb
              all_goals
                try simp only [gv, if_true, Bool.false_eq_true, if_false, Bool.true_and, Bool.false_and, Bool.and_true, Bool.and_false]
                go_wp2_with fail
                exact ⟨_, _, _, _, _, _, _, _, _, _, _, _, _, _, _, _, rfl, hR.s7 (Below.refl _ _)⟩
            · intro D A w' hn hp hI
              obtain ⟨v57, v58, v59, v60, v61, v62, v63, v64, v65, v66, v67, v68, v69, v70, v71, v72, rfl, hR⟩ := hI
              obtain rfl := hR.e7 hp.1
              clear hn hp
              go_wp2_with fail
              exact ⟨_, _, _, _, _, _, _, _, _, _, _, _, _, _, _, _, rfl, hR.s8 (Below.refl _ _)⟩
            · intro D A w' hn hp hI
              obtain ⟨v57, v58, v59, v60, v61, v62, v63, v64, v65, v66, v67, v68, v69, v70, v71, v72, rfl, hR⟩ := hI
              obtain rfl := hR.e8 hp.1
              clear hn hp
              cases fb <;> cases c1
              all_goals
                try simp only [gv, if_true, Bool.false_eq_true, if_false, Bool.true_and, Bool.false_and, Bool.and_true, Bool.and_false]
                go_wp2_with fail
                exact ⟨_, _, _, _, _, _, _, _, _, _, _, _, _, _, _, _, rfl, hR.s9 (Below.refl _ _)⟩
            · intro D A w' hn hp hI
              obtain ⟨v57, v58, v59, v60, v61, v62, v63, v64, v65, v66, v67, v68, v69, v70, v71, v72, rfl, hR⟩ := hI
              obtain rfl := hR.e9 hp.1
              obtain rfl := hR.e8 hp.2.1
              have y0 := kc hR.b x0
              have y1 := kc hR.b x1
              have y2 := kc hR.b x2
              have y3 := kc hR.b x3
              have y4 := kc hR.b x4
              clear hn hp
              cases fb <;> cases c1
              all_goals
                try simp only [gv, if_true, Bool.false_eq_true, if_false, Bool.true_and, Bool.false_and, Bool.and_true, Bool.and_false]
                go_wp2_with fail
                exact ⟨_, _, _, _, _, _, _, _, _, _, _, _, _, _, _, _, rfl, hR.s10 (Below.refl _ _)⟩
            · intro D A w' hn hp hI
              obtain ⟨v57, v58, v59, v60, v61, v62, v63, v64, v65, v66, v67, v68, v69, v70, v71, v72, rfl, hR⟩ := hI
              obtain rfl := hR.e10 hp.1
              obtain rfl := hR.e8 hp.2.1
              clear hn hp
              cases fb <;> cases c1
              iterate 3 (· simp only [gv, if_true, Bool.false_eq_true, if_false, Bool.true_and, Bool.false_and, Bool.and_true, Bool.and_false]; go_wp2_with fail; exact ⟨_, _, _, _, _, _, _, _, _, _, _, _, _, _, _, _, rfl, hR.s11 (Below.refl _ _)⟩)
              simp only [gv, if_true, Bool.false_eq_true, if_false, Bool.true_and, Bool.false_and, Bool.and_true, Bool.and_false]
              go_wp2_with fail
              refine (turn_below _ _ _ _ _ _).mono ?_
              rintro e w'' ⟨rfl, hb⟩
              go_wp2_with fail
              exact ⟨_, _, _, _, _, _, _, _, _, _, _, _, _, _, _, _, rfl, hR.s11 hb⟩
            · intro D A w' hn hp hI
              obtain ⟨v57, v58, v59, v60, v61, v62, v63, v64, v65, v66, v67, v68, v69, v70, v71, v72, rfl, hR⟩ := hI
              obtain rfl := hR.e8 hp.1
              clear hn hp
              cases fb <;> cases c1
              all_goals
                try simp only [gv, if_true, Bool.false_eq_true, if_false, Bool.true_and, Bool.false_and, Bool.and_true, Bool.and_false]
                go_wp2_with fail
                exact ⟨_, _, _, _, _, _, _, _, _, _, _, _, _, _, _, _, rfl, hR.s12 (Below.refl _ _)⟩
            · intro D A w' hn hp hI
              obtain ⟨v57, v58, v59, v60, v61, v62, v63, v64, v65, v66, v67, v68, v69, v70, v71, v72, rfl, hR⟩ := hI
              obtain rfl := hR.e12 hp.1
              obtain rfl := hR.e8 hp.2.1
              have y0 := kc hR.b w0
              have y1 := kc hR.b ww1
              have y2 := kc hR.b w2
              have y3 := kc hR.b w3
              have y4 := kc hR.b w4
              clear hn hp
              cases fb <;> cases c1
              all_goals
                try simp only [gv, if_true, Bool.false_eq_true, if_false, Bool.true_and, Bool.false_and, Bool.and_true, Bool.and_false]
                go_wp2_with fail
                exact ⟨_, _, _, _, _, _, _, _, _, _, _, _, _, _, _, _, rfl, hR.s13 (Below.refl _ _)⟩
            · intro D A w' hn hp hI
              obtain ⟨v57, v58, v59, v60, v61, v62, v63, v64, v65, v66, v67, v68, v69, v70, v71, v72, rfl, hR⟩ := hI
              obtain rfl := hR.e11 hp.1
              obtain rfl := hR.e13 hp.2.1
              obtain rfl := hR.e8 hp.2.2.1
              have E := HE2.out
              clear hn hp
              cases fb <;> cases c1
              all_goals
                try simp only [gv, if_true, Bool.false_eq_true, if_false, Bool.true_and, Bool.false_and, Bool.and_true, Bool.and_false]
                go_wp2_with fail
                exact ⟨_, _, _, _, _, _, _, _, _, _, _, _, _, _, _, _, rfl, hR.s14 (Below.refl _ _)⟩
            · intro D A w' hn hp hI
              obtain ⟨v57, v58, v59, v60, v61, v62, v63, v64, v65, v66, v67, v68, v69, v70, v71, v72, rfl, hR⟩ := hI
              obtain rfl := hR.e8 hp.1
              obtain rfl := hR.e14 hp.2.1
              clear hn hp
              cases fb <;> cases c1
              all_goals
                try simp only [gv, if_true, Bool.false_eq_true, if_false, Bool.true_and, Bool.false_and, Bool.and_true, Bool.and_false]
                go_wp2_with fail
                exact ⟨_, _, _, _, _, _, _, _, _, _, _, _, _, _, _, _, rfl, hR.s15 (Below.refl _ _)⟩
          intro D A w' hD hI
          obtain ⟨v57, v58, v59, v60, v61, v62, v63, v64, v65, v66, v67, v68, v69, v70, v71, v72, rfl, hR⟩ := hI
          obtain rfl := hR.e0 (hD 0 (by decide))
          obtain rfl := hR.e1 (hD 1 (by decide))
          obtain rfl := hR.e2 (hD 2 (by decide))
          obtain rfl := hR.e3 (hD 3 (by decide))
          obtain rfl := hR.e4 (hD 4 (by decide))
          obtain rfl := hR.e5 (hD 5 (by decide))
          obtain rfl := hR.e6 (hD 6 (by decide))
          obtain rfl := hR.e7 (hD 7 (by decide))
          obtain rfl := hR.e8 (hD 8 (by decide))
          obtain rfl := hR.e9 (hD 9 (by decide))
          obtain rfl := hR.e10 (hD 10 (by decide))
          obtain rfl := hR.e11 (hD 11 (by decide))
          obtain rfl := hR.e12 (hD 12 (by decide))
          obtain rfl := hR.e13 (hD 13 (by decide))
          obtain rfl := hR.e14 (hD 14 (by decide))
          obtain rfl := hR.e15 (hD 15 (by decide))
          have b3 := bthen bV hR.b
          clear hD hR bV x0 x1 x2 x3 x4 w0 ww1 w2 w3 w4
          simp only [List.drop_succ_cons, List.drop_zero]
          go_wp2_with fail
          go_roundw
          case rel => exact ⟨j + 1, by omega, by go_num, by rw [HZ'.out], b3⟩
          case measure => simp [intOf]; omega
        · obtain rfl : j = own.length := by omega
          have hjd : decide ((own.length : Int) < (own.length : Int)) = false := by simp
          rw [List.take_length]
          cases hfr : own.all (freshK · ⟨P, xs, E, xsp, xdp, Q0⟩)
          · have HS' : picks (fs.take (k + 1)) = own := by rw [HS.out]; unfold pick; rw [hfr]; rfl
            go_wp2_with fail
            go_roundw
            case rel => exact ⟨k + 1, by omega, by go_num, bthen bU hb2, by rw [HS']; exact own_below OU.out hb2⟩
            case measure => simp [intOf]; omega
          · have HS' : picks (fs.take (k + 1)) = own ++ [⟨P, xs, E, xsp, xdp, Q0⟩] := by rw [HS.out]; unfold pick; rw [hfr]; rfl
            have HS2 := Lib.hid HS'
            have O2 := Lib.hid (own_below OU.out hb2)
            have b2 := bthen bU hb2
            have z0 := kc hb2 y0
            have z1 := kc hb2 y1
            have z2 := kc hb2 y2
            have z3 := kc hb2 y3
            have z4 := kc hb2 y4
            have z5 := kc hb2 y5
            have k2 := b2.size
            clear HS' hfr
            go_wp2_with (first | (refine wpList_buildWide rfl 47 27 1 6 #[(0, .tmp 76)] rfl [(Fl.cells ⟨P, xs, E, xsp, xdp, Q0⟩)] wr.heap.size rfl (some 77) rfl i0 _ Tryd.underlying47 Hi.out Hz0.out Hz1.out (by decide) (by decide) rfl (by decide) ?_ ?_ ?_; (· rfl); (· (intro l hl; simp at hl; subst hl; rfl))) | (at_builtin; refine wpList_append_own _ rfl (.tmp 75) (.tmp 77) 47 rfl w1.heap.size 27 i0 _ 6 20 Tryd.underlying47 Hi.out Hz0.out Hz1.out Hz2.out rfl (by decide) _ own.length _ rfl (own_below O2.out (by (repeat' (first | exact Below.refl _ _ | refine Below.setCell ?_ (by first | omega | (simp; done) | (simp; omega)) _ | refine Below.alloc ?_ (by first | omega | (simp; done) | (simp; omega)) _)))) ⟨wr.heap.size, 0, none⟩ 1 1 (Fl.cells ⟨P, xs, E, xsp, xdp, Q0⟩) rfl rfl (fun jj uu hu => by rw [Go.WideShapes.add_plain]; exact range_new' _ (Fl.arr ⟨P, xs, E, xsp, xdp, Q0⟩) 27 wr.heap.size rfl jj uu hu) (fl_one1 _) (by unfold maxLen; omega) (by omega) (by simp; omega) ?_; intro vv w9 hown9 hgrow hnil9; have b9 : Below w1.heap.size w1 w9 := (b2.alloc k2 _).grown hgrow (by simp; omega) (fun kk hk => (O2.out.lt kk hk).1); clear hgrow hnil9))
            go_roundw
            case rel => exact ⟨k + 1, by omega, by go_num, b9, by rw [HS2.out, List.length_append, flat_snoc]; exact hown9⟩
            case measure => simp [intOf]; omega
    · obtain rfl : k = m := by omega
      have hkd : decide ((k : Int) < (k : Int)) = false := by simp
      have hok := ok_picks (fs.take k) (fun x hx => HFr.out x (List.mem_of_mem_take hx))
      have hlk : (picks (fs.take k)).length ≤ 20 := by have := picks_length (fs.take k); have := List.length_take_le k fs; omega
      obtain ⟨A', cap', hA', hcA, hnA, RO⟩ := own_open hown
      subst hA'
      generalize picks (fs.take k) = own at *
      have bw := bthen d1 hb
      by_cases hne : own.length = 0
      · have H0 : Hid (∀ W : World, Tabs W → Calls Tryd.prog 22 #[.slice none 0 0, .agg #[.int .u8 0, .int .u32 0, .int .u32 0, .int .u16 0, .int .u16 0, .int .u8 0, .int .u8 0, .int .u8 0, .int .u8 0, .int .u32 0, .int .u32 0, .int .i64 0, .int .i64 0, .int .u8 0, .int .u32 0, .int .u32 0, .int .u16 0, .int .u16 0, .int .u8 0], .int .u8 0] W fun e w' => e = .returned (.tuple #[.int .i64 (-1), .int .u8 0, .bool false]) ∧ Below W.heap.size W w') := fun W hW =>
          find_any #[.int .u8 0, .int .u32 0, .int .u32 0, .int .u16 0, .int .u16 0, .int .u8 0, .int .u8 0, .int .u8 0, .int .u8 0, .int .u32 0, .int .u32 0, .int .i64 0, .int .i64 0, .int .u8 0, .int .u32 0, .int .u32 0, .int .u16 0, .int .u16 0, .int .u8 0] [] none 0 0 0 0 0 0 0 0 0 0 0 W ⟨rfl, by simp [Value.oneCell'], rfl, rfl, rfl, rfl, rfl, rfl, rfl, rfl, rfl, by decide, by decide, by decide, by decide, by decide, by decide, by decide, by decide, by decide⟩ hW (by decide) (Rd.nil _ _ _) (by simp) (by simp)
        obtain rfl := List.length_eq_zero_iff.1 hne
        have hne' : decide (((([] : List Fl).length : Nat) : Int) = 0) = true := by simp
        have hlz : ((([] : List Fl).length : Nat) : Int) = 0 := rfl
        clear hown hok hnA RO hlk
        go_wp2_with fail
        refine (H0.out _ (HT.out.below (by (repeat' (first | with_reducible exact bw | refine Below.setCell ?_ (by first | omega | (simp; done) | (simp; omega)) _ | refine Below.alloc ?_ (by first | omega | (simp; done) | (simp; omega)) _))))).mono ?_
        rintro e w2 ⟨rfl, hb2⟩
        go_wp2_with fail
        go_ret
        exact ⟨rfl, bthen bw hb2⟩
      · obtain ⟨a, rfl⟩ : ∃ a : Nat, at' = a := ⟨at'.toNat, by have := ha.out; omega⟩
        obtain ⟨nn, hnn⟩ : ∃ nn, a % own.length = nn := ⟨_, rfl⟩
        have hnl : nn < own.length := by rw [← hnn]; exact Nat.mod_lt _ (by omega)
        obtain ⟨x, hx⟩ : ∃ x, own[nn]? = some x := ⟨_, List.getElem?_eq_getElem hnl⟩
        have t2 : (a : Int) % (own.length : Int) = (nn : Int) := by rw [← hnn]; rfl
        have t1 : (a : Int).tmod (own.length : Int) = (nn : Int) := by rw [Int.tmod_eq_emod_of_nonneg (by omega)]; exact t2
        have hg := hok.gd x (List.mem_of_getElem? hx)
        have hdr := hd.out
        obtain ⟨q1, hq1⟩ : ∃ q, dir % 2 = q := ⟨_, rfl⟩
        have hq1' : dir.tmod 2 = q1 := by rw [Int.tmod_eq_emod_of_nonneg hdr.1]; exact hq1
        obtain ⟨c1, c2, c3, c4, fr, hk⟩ : ∃ c1 c2 c3 c4 fr : Int, q1 = 0 ∧ x.s = c1 ∧ x.d = c2 ∧ x.sp = c3 ∧ x.dp = c4 ∧ 1 - x.side = fr ∨ q1 = 1 ∧ x.d = c1 ∧ x.s = c2 ∧ x.dp = c3 ∧ x.sp = c4 ∧ x.side = fr := by
          have : q1 = 0 ∨ q1 = 1 := by omega
          rcases this with h | h
          · exact ⟨x.s, x.d, x.sp, x.dp, 1 - x.side, .inl ⟨h, rfl, rfl, rfl, rfl, rfl⟩⟩
          · exact ⟨x.d, x.s, x.dp, x.sp, x.side, .inr ⟨h, rfl, rfl, rfl, rfl, rfl⟩⟩
        have hby := hb'.out
        obtain ⟨ty, ht⟩ : ∃ ty : Int, by' % 3 = 0 ∧ ty = 3 ∨ by' % 3 = 1 ∧ ty = 11 ∨ by' % 3 = 2 ∧ ty = 12 := by
          have : by' % 3 = 0 ∨ by' % 3 = 1 ∨ by' % 3 = 2 := by omega
          rcases this with h | h | h
          · exact ⟨3, .inl ⟨h, rfl⟩⟩
          · exact ⟨11, .inr (.inl ⟨h, rfl⟩)⟩
          · exact ⟨12, .inr (.inr ⟨h, rfl⟩)⟩
        have hty : ty = 3 ∨ ty = 11 ∨ ty = 12 := by omega
        have hqq : q1 = 0 ∨ q1 = 1 := by omega
        obtain ⟨hkok, _, _, _, hkv⟩ := kd_cases hg.hp hqq
        have b1 : 0 ≤ c1 ∧ c1 ≤ 4294967295 := by have := hg.hs; have := hg.hd; omega
        have b2 : 0 ≤ c2 ∧ c2 ≤ 4294967295 := by have := hg.hs; have := hg.hd; omega
        have b3 : 0 ≤ c3 ∧ c3 ≤ 65535 := by have := hg.hsp; have := hg.hdp; omega
        have b4 : 0 ≤ c4 ∧ c4 ≤ 65535 := by have := hg.hsp; have := hg.hdp; omega
        have hO := only_of hok hx c1 c2 c3 c4 fr q1 ty hty hk
        have hP' : 0 ≤ x.p ∧ x.p ≤ 255 := by have := hg.hp; omega
        have hfr0 : 0 ≤ fr := by have := hg.hside; omega
        have hfr1 : fr ≤ 1 := by have := hg.hside; omega
        have hG := fun W hW => quoting_hit x.p x.s x.d x.sp x.dp x.side dir by' W hW hP' hg.hside hdr hby c1 c2 c3 c4 fr q1 ty hq1 hk ht
        rw [hkok] at hG
        generalize kd x.p q1 = kv at *
        have hF := fa_gF c1 5 ty x.p c1 c2 c3 c4 kv by' (by decide) (by omega) hP' hkv b1 b1 b2 b3 b4
        have hfs : ∀ z ∈ own, (0 ≤ z.p ∧ z.p ≤ 255) ∧ 0 ≤ z.side := fun z hz => by have := (hok.gd z hz).hp; have := (hok.gd z hz).hside; exact ⟨by omega, by omega⟩
        have HFi : Hid (∀ (W : World) (A : Option Addr) (c : Nat), Tabs W → Rd W A 6 (own.map Fl.cells) → Calls Tryd.prog 22 #[.slice A own.length c, .agg (gF c1 5 ty x.p c1 c2 c3 c4 kv by'), .int .u8 fr] W fun e w' => e = .returned (.tuple #[.int .i64 nn, .int .u8 q1, .bool true]) ∧ Below W.heap.size W w') := fun W A c hW hRd => by
          have := find_any (gF c1 5 ty x.p c1 c2 c3 c4 kv by') own A c c1 5 ty x.p c1 c2 c3 c4 kv fr W hF hW hfr0 hRd (by omega) hfs
          rw [fst1_only _ own 0 nn x q1 hx (hO.yes x hx) hO.no, Nat.zero_add] at this
          exact this
        have HFo : Hid (∀ (W : World) (A : Option Addr) (c : Nat), Tabs W → Rd W A 6 (own.map Fl.cells) → Calls Tryd.prog 22 #[.slice A own.length c, .agg (gF c1 5 ty x.p c1 c2 c3 c4 kv by'), .int .u8 (1 - fr)] W fun e w' => e = .returned (.tuple #[.int .i64 (-1), .int .u8 0, .bool false]) ∧ Below W.heap.size W w') := fun W A c hW hRd => by
          have := find_any (gF c1 5 ty x.p c1 c2 c3 c4 kv by') own A c c1 5 ty x.p c1 c2 c3 c4 kv (1 - fr) W hF hW (by omega) hRd (by omega) hfs
          rw [fst1_none _ own 0 hO.off] at this
          exact this
        have HQs : Hid (∀ i z, own[i]? = some z → ∀ W : World, Tabs W → Calls Tryd.prog 15 #[.agg #[.int .u8 z.p, .int .u32 z.s, .int .u32 z.d, .int .u16 z.sp, .int .u16 z.dp, .int .u8 z.side], .agg (gF c1 5 ty x.p c1 c2 c3 c4 kv by'), .int .u8 fr] W fun e w' => e = .returned (.tuple #[.int .u8 (z.quo c1 5 ty x.p c1 c2 c3 c4 kv fr).1, .bool (decide (i = nn))]) ∧ Below W.heap.size W w') := fun i z hz W hW => by
          have := quotes_any (gF c1 5 ty x.p c1 c2 c3 c4 kv by') z.p z.s z.d z.sp z.dp z.side c1 5 ty x.p c1 c2 c3 c4 kv fr W hF hW (hfs z (List.mem_of_getElem? hz)).1 (hfs z (List.mem_of_getElem? hz)).2 hfr0
          have e : (z.quo c1 5 ty x.p c1 c2 c3 c4 kv fr).2 = decide (i = nn) := by
            by_cases h : i = nn
            · subst h; rw [hO.yes z hz]; simp
            · rw [hO.no i z h hz]; simp [h]
          rw [← e]
          exact this
        obtain ⟨g, go, rfl, hlt, _⟩ := RO.mem (by intro e; have e' := List.map_eq_nil_iff.1 e; rw [e'] at hx; simp at hx)
        have hcell : ∀ i v, x.cells[i]? = some v → wr.cell? ⟨g, go + nn * 6 + i, none⟩ = some v := fun i v hv => RO.cell (i := nn) (by rw [List.getElem?_map, hx]; rfl) hv
        have q0 := hcell 0 _ rfl
        have q1' := hcell 1 _ rfl
        have q2 := hcell 2 _ rfl
        have q3 := hcell 3 _ rfl
        have q4 := hcell 4 _ rfl
        have q5 := hcell 5 _ rfl
        rw [Nat.add_zero] at q0
        have HRO := Lib.hid RO
        have HG := Lib.hid hG
        have w64 : ∀ z : Int, 0 ≤ z → z ≤ 255 → IntKind.i64.wrap z = z := fun z h1 h2 => by unfold IntKind.wrap; simp [IntKind.bits, IntKind.signed]; omega
        have ha' := ha.out
        have w1' := w64 a (by omega) (by omega)
        have hdl : decide ((own.length : Int) = 0) = false := decide_eq_false (by omega)
        have hl0 : (own.length : Int) ≠ 0 := by omega
        have hnl' : (nn : Int) < (own.length : Int) := by omega
        have hnn0 : (0 : Int) ≤ (nn : Int) := by omega
        clear hcell hO hF hfs hG RO hown hok hk ht hty hqq hkok hkv b1 b2 b3 b4 hg hx hnA hby hdr w64 hnn hP'
        go_wp2_with fail
        refine (HG.out _ (HT.out.below (by (repeat' (first | with_reducible exact bw | refine Below.setCell ?_ (by first | omega | (simp; done) | (simp; omega)) _ | refine Below.alloc ?_ (by first | omega | (simp; done) | (simp; omega)) _))))).mono ?_
        rintro e w2 ⟨rfl, hb2⟩
        have b2 : Below w.heap.size w w2 := bthen bw hb2
        have k2 := b2.size
        have RO2 := Lib.hid (HRO.out.below hb2)
        clear hb2 q0 q1' q2 q3 q4 q5 HRO HG hlt
        go_wp2_with (first | (refine wpList_store_wide 29 (.tmp 20) (.tmp 112) rfl rfl w2.heap.size 0 (gF c1 5 ty x.p c1 c2 c3 c4 kv by') rfl rfl w2.heap.size w2 (hi_gF c1 5 ty x.p c1 c2 c3 c4 kv by') (ho_gF c1 5 ty x.p c1 c2 c3 c4 kv by') ((Below.refl _ _).alloc (Nat.le_refl _) _) (Nat.le_refl _) ?_ ?_; (· (repeat (first | (refine there_new _ _ _ _ _ ?_ rfl; first | rfl | (simp; done)) | refine World.there_alloc ?_ _))); intro V3 d3 hz3 R3 kV3 tV3 hcV3; have zR3 : w2.heap.size < V3.heap.size := (by rw [hz3]; simp); clear hz3 kV3 tV3 hcV3) | (refine wpList_load_wide 29 _ rfl (by rfl) _ _ rfl (gF c1 5 ty x.p c1 c2 c3 c4 kv by') _ Tryd.underlying29 rfl (hi_gF c1 5 ty x.p c1 c2 c3 c4 kv by') ?_ ?_; · (repeat (first | with_reducible exact R3 | refine World.rangeAt_alloc ?_ _))))
        have RO3 := Lib.hid (RO2.out.below d3)
        have b3 := bthen b2 d3
        refine (HFi.out _ _ _ (HT.out.below b3) RO3.out).mono ?_
        rintro e w3 ⟨rfl, hb3⟩
        have R4 := range_below hb3 zR3 R3
        have zR4 : w2.heap.size < w3.heap.size := Nat.lt_of_lt_of_le zR3 hb3.size
        have RO4 := Lib.hid (RO3.out.below hb3)
        have b4 := bthen b3 hb3
        clear hb3 R3 zR3 RO2 RO3 b3 d3 HFi
        generalize wr = V0 at *
        go_wp2_with fail
        obtain ⟨nf, hnf⟩ : ∃ n, w2.heap.size = n := ⟨_, rfl⟩
        rw [hnf] at R4 zR4
        rw [hnf]
        clear hnf
        have R9 := Lib.hid R4
        clear R4
        go_loopw [26, 138] (fun c i W => ∃ j : Nat, j ≤ own.length ∧ i = .int .i64 j ∧ c = .int .i64 (if nn < j then 1 else 0) ∧ Below w3.heap.size w3 W) (fun _ i _ => own.length - (intOf i).toNat)
        case atStart => exact ⟨0, Nat.zero_le _, rfl, rfl, Below.refl _ _⟩
        case round =>
          obtain ⟨j, hj, rfl, rfl, hb4⟩ := hrel
          have R4 := range_below hb4 zR4 R9.out
          have zr4 : nf < wr.heap.size := Nat.lt_of_lt_of_le zR4 hb4.size
          by_cases hjl : j < own.length
          · obtain ⟨z, hz⟩ : ∃ z, own[j]? = some z := ⟨_, List.getElem?_eq_getElem hjl⟩
            have hq := HQs.out j z hz
            have hcell : ∀ i v, z.cells[i]? = some v → wr.cell? ⟨g, go + j * 6 + i, none⟩ = some v := fun i v hv => (RO4.out.below hb4).cell (i := j) (by rw [List.getElem?_map, hz]; rfl) hv
            have q0 := hcell 0 _ rfl
            have q1' := hcell 1 _ rfl
            have q2 := hcell 2 _ rfl
            have q3 := hcell 3 _ rfl
            have q4 := hcell 4 _ rfl
            have q5 := hcell 5 _ rfl
            rw [Nat.add_zero] at q0
            have hjd : decide ((j : Int) < (own.length : Int)) = true := by simpa using hjl
            have hj0 : (j : Int) < (own.length : Int) := by omega
            have b4 := bthen b4 hb4
            generalize (z.quo c1 5 ty x.p c1 c2 c3 c4 kv fr).1 = zz at *
            clear hcell hz
            rcases Nat.lt_trichotomy j nn with h | h | h
            · have hjn : decide (j = nn) = false := by simp; omega
              rw [hjn] at hq
              have hcv : (if nn < j then (1 : Int) else 0) = 0 := if_neg (by omega)
              rw [hcv]
              have Hc := Lib.hid hcv
              have Hh := Lib.hid h
              have kb4 := b4.size
              clear hcv h
              go_wp2_with (refine wpList_load_wide 29 _ rfl (by rfl) _ _ rfl (gF c1 5 ty x.p c1 c2 c3 c4 kv by') _ Tryd.underlying29 rfl (hi_gF c1 5 ty x.p c1 c2 c3 c4 kv by') ?_ ?_; · (repeat (first | with_reducible exact R4 | refine World.rangeAt_alloc ?_ _)))
              refine (hq _ (HT.out.below (by (repeat' (first | with_reducible exact b4 | refine Below.setCell ?_ (by first | omega | (simp; done) | (simp; omega)) _ | refine Below.alloc ?_ (by first | omega | (simp; done) | (simp; omega)) _))))).mono ?_
              rintro e w5 ⟨rfl, hb5⟩
              have b5 : Below w3.heap.size w3 w5 := bthen hb4 (bthen ((Below.refl _ _).alloc (Nat.le_refl _) _) hb5)
              clear hb5 R4 q0 q1' q2 q3 q4 q5
              go_wp2_with fail
              go_roundw
              case rel => exact ⟨j + 1, by omega, by go_num, by have h := Hh.out; rw [if_neg (by omega)], b5⟩
              case measure => simp [intOf]; omega
            · have hjn : decide (j = nn) = true := by simpa using h
              rw [hjn] at hq
              have hcv : (if nn < j then (1 : Int) else 0) = 0 := if_neg (by omega)
              rw [hcv]
              have Hc := Lib.hid hcv
              have Hh := Lib.hid h
              have kb4 := b4.size
              clear hcv h
              go_wp2_with (refine wpList_load_wide 29 _ rfl (by rfl) _ _ rfl (gF c1 5 ty x.p c1 c2 c3 c4 kv by') _ Tryd.underlying29 rfl (hi_gF c1 5 ty x.p c1 c2 c3 c4 kv by') ?_ ?_; · (repeat (first | with_reducible exact R4 | refine World.rangeAt_alloc ?_ _)))
              refine (hq _ (HT.out.below (by (repeat' (first | with_reducible exact b4 | refine Below.setCell ?_ (by first | omega | (simp; done) | (simp; omega)) _ | refine Below.alloc ?_ (by first | omega | (simp; done) | (simp; omega)) _))))).mono ?_
              rintro e w5 ⟨rfl, hb5⟩
              have b5 : Below w3.heap.size w3 w5 := bthen hb4 (bthen ((Below.refl _ _).alloc (Nat.le_refl _) _) hb5)
              clear hb5 R4 q0 q1' q2 q3 q4 q5
              go_wp2_with fail
              go_roundw
              case rel => exact ⟨j + 1, by omega, by go_num, by have h := Hh.out; rw [if_pos (by omega)]; try rfl, b5⟩
              case measure => simp [intOf]; omega
            · have hjn : decide (j = nn) = false := by simp; omega
              rw [hjn] at hq
              have hcv : (if nn < j then (1 : Int) else 0) = 1 := if_pos h
              rw [hcv]
              have Hc := Lib.hid hcv
              have Hh := Lib.hid h
              have kb4 := b4.size
              clear hcv h
              go_wp2_with (refine wpList_load_wide 29 _ rfl (by rfl) _ _ rfl (gF c1 5 ty x.p c1 c2 c3 c4 kv by') _ Tryd.underlying29 rfl (hi_gF c1 5 ty x.p c1 c2 c3 c4 kv by') ?_ ?_; · (repeat (first | with_reducible exact R4 | refine World.rangeAt_alloc ?_ _)))
              refine (hq _ (HT.out.below (by (repeat' (first | with_reducible exact b4 | refine Below.setCell ?_ (by first | omega | (simp; done) | (simp; omega)) _ | refine Below.alloc ?_ (by first | omega | (simp; done) | (simp; omega)) _))))).mono ?_
              rintro e w5 ⟨rfl, hb5⟩
              have b5 : Below w3.heap.size w3 w5 := bthen hb4 (bthen ((Below.refl _ _).alloc (Nat.le_refl _) _) hb5)
              clear hb5 R4 q0 q1' q2 q3 q4 q5
              go_wp2_with fail
              go_roundw
              case rel => exact ⟨j + 1, by omega, by go_num, by have h := Hh.out; rw [if_pos (by omega)]; try rfl, b5⟩
              case measure => simp [intOf]; omega
          · obtain rfl : j = own.length := by omega
            have hjd : decide ((own.length : Int) < (own.length : Int)) = false := by simp
            have b5 := bthen b4 hb4
            rw [if_pos hnl]
            go_wp2_with (refine wpList_load_wide 29 _ rfl (by rfl) _ _ rfl (gF c1 5 ty x.p c1 c2 c3 c4 kv by') _ Tryd.underlying29 rfl (hi_gF c1 5 ty x.p c1 c2 c3 c4 kv by') ?_ ?_; · (repeat (first | with_reducible exact R4 | refine World.rangeAt_alloc ?_ _)))
            refine (HFo.out _ _ _ (HT.out.below b5) (RO4.out.below hb4)).mono ?_
            rintro e w6 ⟨rfl, hb6⟩
            go_wp2_with fail
            go_ret
            exact ⟨rfl, bthen b5 hb6⟩

theorem relatedOne_walk (A : Option Addr) (fs : List Fl) (n cap : Nat) (at' dir by' : Int) (w : World) (hT : Tabs w) (hn : n = fs.length) (hle0 : n ≤ cap)
    (hp : cap ≤ maxLen ∧ Rd w A 6 (fs.map Fl.cells) ∧ ∀ x ∈ fs, Fr x) (ha : 0 ≤ at' ∧ at' ≤ 255) (hd : 0 ≤ dir ∧ dir ≤ 255) (hb : 0 ≤ by' ∧ by' ≤ 4294967295) :
    Calls Tryd.prog 9 #[.slice A n cap, .int .u8 at', .int .u8 dir, .int .u32 by'] w fun e w' => e = .returned (.bool true) ∧ Below w.heap.size w w' :=
  one_core A fs n cap (min n 20) at' dir by' w hT hn hle0 hp.1 (by split <;> omega) (by omega) (by omega) hp.2.1 hp.2.2 ha hd hb
theorem frs_of {A : Option Addr} {cap : Nat} {css : List (List Value)} {w : World} (hle : css.length ≤ cap) (hmx : cap ≤ maxLen) (hnil : A = none → css = [] ∧ cap = 0) (hrd : Rd w A 6 css) (hall : ∀ cs ∈ css, All2 [some .u8, some .u32, some .u32, some .u16, some .u16, some .u8] cs) :
    ∃ l : List Fl, css.length = l.length ∧ (cap ≤ maxLen ∧ Rd w A 6 (l.map Fl.cells) ∧ ∀ x ∈ l, Fr x) := by
  have : ∃ l : List Fl, css = l.map Fl.cells ∧ ∀ x ∈ l, Fr x := by
    clear hle hmx hnil hrd
    induction css with
    | nil => exact ⟨[], rfl, by simp⟩
    | cons c r ih =>
      obtain ⟨l, rfl, hl⟩ := ih (fun cs h => hall cs (List.mem_cons_of_mem _ h))
      obtain ⟨p, s, d, sp, dp, side, rfl, h1, h2, h3, h4, h5, h6⟩ := flow_of (hall c (by simp))
      refine ⟨⟨p, s, d, sp, dp, side⟩ :: l, rfl, fun x hx => ?_⟩
      rcases List.mem_cons.1 hx with rfl | hx
      · exact ⟨h1, h2, h3, h4, h5, h6⟩
      · exact hl x hx
  obtain ⟨l, rfl, hl⟩ := this
  exact ⟨l, List.length_map _, hmx, hrd, hl⟩

end Go.Proofs.YtapeminpgojeaaaDoor

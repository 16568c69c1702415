/-
  The contract of the reference's Quotes: it gives what the program's own gives. Conditions: the numbers lie in their types' ranges.
-/
import Derived.Test.YtapeminpgojeaaaDoorRef
import Derived.Test.YtapeminpgojeaaaDoorInv
namespace Go.Proofs.YtapeminpgojeaaaDoor
open Go.RowKit
set_option linter.unusedVariables false
set_option linter.unusedSimpArgs false

theorem rturn_below (p s d sp dp : Int) (w : World) :
    Calls Tryd.prog 30 #[.agg #[.int .u8 p, .int .u32 s, .int .u32 d, .int .u16 sp, .int .u16 dp]] w fun e w' => e = .returned (.agg #[.int .u8 p, .int .u32 d, .int .u32 s, .int .u16 dp, .int .u16 sp]) ∧ Below w.heap.size w w' :=
  (rturn_any p s d sp dp w).mono fun e w' ⟨h1, h2⟩ => ⟨h1, by subst h2; exact ((Below.refl _ _).alloc (Nat.le_refl _) _).alloc (by simp) _⟩
def gv (b : Bool) (v : Value) : Value := if b then v else undef
structure RqR (w1 : World) (n0 : Nat) (p s d sp dp qp qs qd qsp qdp qk y src side : Int) (b4 b5 : Bool) (D : Nat → Prop) (v56 v57 v58 v59 v60 v61 v62 v63 v64 v65 v66 v67 v68 v69 : Value) (w' : World) : Prop where
  b : Below w1.heap.size w1 w'
  e0 : D 0 → v56 = .pointer (some ⟨n0 + 1, 13, none⟩)
  e1 : D 1 → v57 = .agg #[.int .u8 qp, .int .u32 qs, .int .u32 qd, .int .u16 qsp, .int .u16 qdp]
  e2 : D 2 → v58 = .agg #[.int .u8 p, .int .u32 s, .int .u32 d, .int .u16 sp, .int .u16 dp]
  e3 : D 3 → v59 = .agg #[.int .u8 p, .int .u32 d, .int .u32 s, .int .u16 dp, .int .u16 sp]
  e4 : D 4 → v60 = .bool b4
  e5 : D 5 → v61 = .bool b4
  e6 : D 6 → v62 = gv b4 (.pointer (some ⟨n0 + 1, 18, none⟩))
  e7 : D 7 → v63 = gv b4 (.int .u8 qk)
  e8 : D 8 → v64 = gv b4 (.int .u8 y)
  e9 : D 9 → v65 = gv b4 (.bool b5)
  e10 : D 10 → v66 = .bool (b4 && b5)
  e11 : D 11 → v67 = .bool (b4 && b5)
  e12 : D 12 → v68 = gv (b4 && b5) (.int .u8 src)
  e13 : D 13 → v69 = gv (b4 && b5) (.int .u8 side)
theorem RqR.s0 {w1 : World} {n0 : Nat} {p s d sp dp qp qs qd qsp qdp qk y src side : Int} {b4 b5 : Bool} {D : Nat → Prop} {v56 v57 v58 v59 v60 v61 v62 v63 v64 v65 v66 v67 v68 v69 : Value} {w' w'' : World} (h : RqR w1 n0 p s d sp dp qp qs qd qsp qdp qk y src side b4 b5 D v56 v57 v58 v59 v60 v61 v62 v63 v64 v65 v66 v67 v68 v69 w') (hb : Below w'.heap.size w' w'') : RqR w1 n0 p s d sp dp qp qs qd qsp qdp qk y src side b4 b5 (fun j => D j ∨ j = 0) (.pointer (some ⟨n0 + 1, 13, none⟩)) v57 v58 v59 v60 v61 v62 v63 v64 v65 v66 v67 v68 v69 w'' :=
  ⟨bthen h.b hb, fun _ => rfl, or_keep h.e1 (by decide), or_keep h.e2 (by decide), or_keep h.e3 (by decide), or_keep h.e4 (by decide), or_keep h.e5 (by decide), or_keep h.e6 (by decide), or_keep h.e7 (by decide), or_keep h.e8 (by decide), or_keep h.e9 (by decide), or_keep h.e10 (by decide), or_keep h.e11 (by decide), or_keep h.e12 (by decide), or_keep h.e13 (by decide)⟩
theorem RqR.s1 {w1 : World} {n0 : Nat} {p s d sp dp qp qs qd qsp qdp qk y src side : Int} {b4 b5 : Bool} {D : Nat → Prop} {v56 v57 v58 v59 v60 v61 v62 v63 v64 v65 v66 v67 v68 v69 : Value} {w' w'' : World} (h : RqR w1 n0 p s d sp dp qp qs qd qsp qdp qk y src side b4 b5 D v56 v57 v58 v59 v60 v61 v62 v63 v64 v65 v66 v67 v68 v69 w') (hb : Below w'.heap.size w' w'') : RqR w1 n0 p s d sp dp qp qs qd qsp qdp qk y src side b4 b5 (fun j => D j ∨ j = 1) v56 (.agg #[.int .u8 qp, .int .u32 qs, .int .u32 qd, .int .u16 qsp, .int .u16 qdp]) v58 v59 v60 v61 v62 v63 v64 v65 v66 v67 v68 v69 w'' :=
  ⟨bthen h.b hb, or_keep h.e0 (by decide), fun _ => rfl, or_keep h.e2 (by decide), or_keep h.e3 (by decide), or_keep h.e4 (by decide), or_keep h.e5 (by decide), or_keep h.e6 (by decide), or_keep h.e7 (by decide), or_keep h.e8 (by decide), or_keep h.e9 (by decide), or_keep h.e10 (by decide), or_keep h.e11 (by decide), or_keep h.e12 (by decide), or_keep h.e13 (by decide)⟩
theorem RqR.s2 {w1 : World} {n0 : Nat} {p s d sp dp qp qs qd qsp qdp qk y src side : Int} {b4 b5 : Bool} {D : Nat → Prop} {v56 v57 v58 v59 v60 v61 v62 v63 v64 v65 v66 v67 v68 v69 : Value} {w' w'' : World} (h : RqR w1 n0 p s d sp dp qp qs qd qsp qdp qk y src side b4 b5 D v56 v57 v58 v59 v60 v61 v62 v63 v64 v65 v66 v67 v68 v69 w') (hb : Below w'.heap.size w' w'') : RqR w1 n0 p s d sp dp qp qs qd qsp qdp qk y src side b4 b5 (fun j => D j ∨ j = 2) v56 v57 (.agg #[.int .u8 p, .int .u32 s, .int .u32 d, .int .u16 sp, .int .u16 dp]) v59 v60 v61 v62 v63 v64 v65 v66 v67 v68 v69 w'' :=
  ⟨bthen h.b hb, or_keep h.e0 (by decide), or_keep h.e1 (by decide), fun _ => rfl, or_keep h.e3 (by decide), or_keep h.e4 (by decide), or_keep h.e5 (by decide), or_keep h.e6 (by decide), or_keep h.e7 (by decide), or_keep h.e8 (by decide), or_keep h.e9 (by decide), or_keep h.e10 (by decide), or_keep h.e11 (by decide), or_keep h.e12 (by decide), or_keep h.e13 (by decide)⟩
theorem RqR.s3 {w1 : World} {n0 : Nat} {p s d sp dp qp qs qd qsp qdp qk y src side : Int} {b4 b5 : Bool} {D : Nat → Prop} {v56 v57 v58 v59 v60 v61 v62 v63 v64 v65 v66 v67 v68 v69 : Value} {w' w'' : World} (h : RqR w1 n0 p s d sp dp qp qs qd qsp qdp qk y src side b4 b5 D v56 v57 v58 v59 v60 v61 v62 v63 v64 v65 v66 v67 v68 v69 w') (hb : Below w'.heap.size w' w'') : RqR w1 n0 p s d sp dp qp qs qd qsp qdp qk y src side b4 b5 (fun j => D j ∨ j = 3) v56 v57 v58 (.agg #[.int .u8 p, .int .u32 d, .int .u32 s, .int .u16 dp, .int .u16 sp]) v60 v61 v62 v63 v64 v65 v66 v67 v68 v69 w'' :=
  ⟨bthen h.b hb, or_keep h.e0 (by decide), or_keep h.e1 (by decide), or_keep h.e2 (by decide), fun _ => rfl, or_keep h.e4 (by decide), or_keep h.e5 (by decide), or_keep h.e6 (by decide), or_keep h.e7 (by decide), or_keep h.e8 (by decide), or_keep h.e9 (by decide), or_keep h.e10 (by decide), or_keep h.e11 (by decide), or_keep h.e12 (by decide), or_keep h.e13 (by decide)⟩
theorem RqR.s4 {w1 : World} {n0 : Nat} {p s d sp dp qp qs qd qsp qdp qk y src side : Int} {b4 b5 : Bool} {D : Nat → Prop} {v56 v57 v58 v59 v60 v61 v62 v63 v64 v65 v66 v67 v68 v69 : Value} {w' w'' : World} (h : RqR w1 n0 p s d sp dp qp qs qd qsp qdp qk y src side b4 b5 D v56 v57 v58 v59 v60 v61 v62 v63 v64 v65 v66 v67 v68 v69 w') (hb : Below w'.heap.size w' w'') : RqR w1 n0 p s d sp dp qp qs qd qsp qdp qk y src side b4 b5 (fun j => D j ∨ j = 4) v56 v57 v58 v59 (.bool b4) v61 v62 v63 v64 v65 v66 v67 v68 v69 w'' :=
  ⟨bthen h.b hb, or_keep h.e0 (by decide), or_keep h.e1 (by decide), or_keep h.e2 (by decide), or_keep h.e3 (by decide), fun _ => rfl, or_keep h.e5 (by decide), or_keep h.e6 (by decide), or_keep h.e7 (by decide), or_keep h.e8 (by decide), or_keep h.e9 (by decide), or_keep h.e10 (by decide), or_keep h.e11 (by decide), or_keep h.e12 (by decide), or_keep h.e13 (by decide)⟩
theorem RqR.s5 {w1 : World} {n0 : Nat} {p s d sp dp qp qs qd qsp qdp qk y src side : Int} {b4 b5 : Bool} {D : Nat → Prop} {v56 v57 v58 v59 v60 v61 v62 v63 v64 v65 v66 v67 v68 v69 : Value} {w' w'' : World} (h : RqR w1 n0 p s d sp dp qp qs qd qsp qdp qk y src side b4 b5 D v56 v57 v58 v59 v60 v61 v62 v63 v64 v65 v66 v67 v68 v69 w') (hb : Below w'.heap.size w' w'') : RqR w1 n0 p s d sp dp qp qs qd qsp qdp qk y src side b4 b5 (fun j => D j ∨ j = 5) v56 v57 v58 v59 v60 (.bool b4) v62 v63 v64 v65 v66 v67 v68 v69 w'' :=
  ⟨bthen h.b hb, or_keep h.e0 (by decide), or_keep h.e1 (by decide), or_keep h.e2 (by decide), or_keep h.e3 (by decide), or_keep h.e4 (by decide), fun _ => rfl, or_keep h.e6 (by decide), or_keep h.e7 (by decide), or_keep h.e8 (by decide), or_keep h.e9 (by decide), or_keep h.e10 (by decide), or_keep h.e11 (by decide), or_keep h.e12 (by decide), or_keep h.e13 (by decide)⟩
theorem RqR.s6 {w1 : World} {n0 : Nat} {p s d sp dp qp qs qd qsp qdp qk y src side : Int} {b4 b5 : Bool} {D : Nat → Prop} {v56 v57 v58 v59 v60 v61 v62 v63 v64 v65 v66 v67 v68 v69 : Value} {w' w'' : World} (h : RqR w1 n0 p s d sp dp qp qs qd qsp qdp qk y src side b4 b5 D v56 v57 v58 v59 v60 v61 v62 v63 v64 v65 v66 v67 v68 v69 w') (hb : Below w'.heap.size w' w'') : RqR w1 n0 p s d sp dp qp qs qd qsp qdp qk y src side b4 b5 (fun j => D j ∨ j = 6) v56 v57 v58 v59 v60 v61 (gv b4 (.pointer (some ⟨n0 + 1, 18, none⟩))) v63 v64 v65 v66 v67 v68 v69 w'' :=
  ⟨bthen h.b hb, or_keep h.e0 (by decide), or_keep h.e1 (by decide), or_keep h.e2 (by decide), or_keep h.e3 (by decide), or_keep h.e4 (by decide), or_keep h.e5 (by decide), fun _ => rfl, or_keep h.e7 (by decide), or_keep h.e8 (by decide), or_keep h.e9 (by decide), or_keep h.e10 (by decide), or_keep h.e11 (by decide), or_keep h.e12 (by decide), or_keep h.e13 (by decide)⟩
theorem RqR.s7 {w1 : World} {n0 : Nat} {p s d sp dp qp qs qd qsp qdp qk y src side : Int} {b4 b5 : Bool} {D : Nat → Prop} {v56 v57 v58 v59 v60 v61 v62 v63 v64 v65 v66 v67 v68 v69 : Value} {w' w'' : World} (h : RqR w1 n0 p s d sp dp qp qs qd qsp qdp qk y src side b4 b5 D v56 v57 v58 v59 v60 v61 v62 v63 v64 v65 v66 v67 v68 v69 w') (hb : Below w'.heap.size w' w'') : RqR w1 n0 p s d sp dp qp qs qd qsp qdp qk y src side b4 b5 (fun j => D j ∨ j = 7) v56 v57 v58 v59 v60 v61 v62 (gv b4 (.int .u8 qk)) v64 v65 v66 v67 v68 v69 w'' :=
  ⟨bthen h.b hb, or_keep h.e0 (by decide), or_keep h.e1 (by decide), or_keep h.e2 (by decide), or_keep h.e3 (by decide), or_keep h.e4 (by decide), or_keep h.e5 (by decide), or_keep h.e6 (by decide), fun _ => rfl, or_keep h.e8 (by decide), or_keep h.e9 (by decide), or_keep h.e10 (by decide), or_keep h.e11 (by decide), or_keep h.e12 (by decide), or_keep h.e13 (by decide)⟩
theorem RqR.s8 {w1 : World} {n0 : Nat} {p s d sp dp qp qs qd qsp qdp qk y src side : Int} {b4 b5 : Bool} {D : Nat → Prop} {v56 v57 v58 v59 v60 v61 v62 v63 v64 v65 v66 v67 v68 v69 : Value} {w' w'' : World} (h : RqR w1 n0 p s d sp dp qp qs qd qsp qdp qk y src side b4 b5 D v56 v57 v58 v59 v60 v61 v62 v63 v64 v65 v66 v67 v68 v69 w') (hb : Below w'.heap.size w' w'') : RqR w1 n0 p s d sp dp qp qs qd qsp qdp qk y src side b4 b5 (fun j => D j ∨ j = 8) v56 v57 v58 v59 v60 v61 v62 v63 (gv b4 (.int .u8 y)) v65 v66 v67 v68 v69 w'' :=
  ⟨bthen h.b hb, or_keep h.e0 (by decide), or_keep h.e1 (by decide), or_keep h.e2 (by decide), or_keep h.e3 (by decide), or_keep h.e4 (by decide), or_keep h.e5 (by decide), or_keep h.e6 (by decide), or_keep h.e7 (by decide), fun _ => rfl, or_keep h.e9 (by decide), or_keep h.e10 (by decide), or_keep h.e11 (by decide), or_keep h.e12 (by decide), or_keep h.e13 (by decide)⟩
theorem RqR.s9 {w1 : World} {n0 : Nat} {p s d sp dp qp qs qd qsp qdp qk y src side : Int} {b4 b5 : Bool} {D : Nat → Prop} {v56 v57 v58 v59 v60 v61 v62 v63 v64 v65 v66 v67 v68 v69 : Value} {w' w'' : World} (h : RqR w1 n0 p s d sp dp qp qs qd qsp qdp qk y src side b4 b5 D v56 v57 v58 v59 v60 v61 v62 v63 v64 v65 v66 v67 v68 v69 w') (hb : Below w'.heap.size w' w'') : RqR w1 n0 p s d sp dp qp qs qd qsp qdp qk y src side b4 b5 (fun j => D j ∨ j = 9) v56 v57 v58 v59 v60 v61 v62 v63 v64 (gv b4 (.bool b5)) v66 v67 v68 v69 w'' :=
  ⟨bthen h.b hb, or_keep h.e0 (by decide), or_keep h.e1 (by decide), or_keep h.e2 (by decide), or_keep h.e3 (by decide), or_keep h.e4 (by decide), or_keep h.e5 (by decide), or_keep h.e6 (by decide), or_keep h.e7 (by decide), or_keep h.e8 (by decide), fun _ => rfl, or_keep h.e10 (by decide), or_keep h.e11 (by decide), or_keep h.e12 (by decide), or_keep h.e13 (by decide)⟩
theorem RqR.s10 {w1 : World} {n0 : Nat} {p s d sp dp qp qs qd qsp qdp qk y src side : Int} {b4 b5 : Bool} {D : Nat → Prop} {v56 v57 v58 v59 v60 v61 v62 v63 v64 v65 v66 v67 v68 v69 : Value} {w' w'' : World} (h : RqR w1 n0 p s d sp dp qp qs qd qsp qdp qk y src side b4 b5 D v56 v57 v58 v59 v60 v61 v62 v63 v64 v65 v66 v67 v68 v69 w') (hb : Below w'.heap.size w' w'') : RqR w1 n0 p s d sp dp qp qs qd qsp qdp qk y src side b4 b5 (fun j => D j ∨ j = 10) v56 v57 v58 v59 v60 v61 v62 v63 v64 v65 (.bool (b4 && b5)) v67 v68 v69 w'' :=
  ⟨bthen h.b hb, or_keep h.e0 (by decide), or_keep h.e1 (by decide), or_keep h.e2 (by decide), or_keep h.e3 (by decide), or_keep h.e4 (by decide), or_keep h.e5 (by decide), or_keep h.e6 (by decide), or_keep h.e7 (by decide), or_keep h.e8 (by decide), or_keep h.e9 (by decide), fun _ => rfl, or_keep h.e11 (by decide), or_keep h.e12 (by decide), or_keep h.e13 (by decide)⟩
theorem RqR.s11 {w1 : World} {n0 : Nat} {p s d sp dp qp qs qd qsp qdp qk y src side : Int} {b4 b5 : Bool} {D : Nat → Prop} {v56 v57 v58 v59 v60 v61 v62 v63 v64 v65 v66 v67 v68 v69 : Value} {w' w'' : World} (h : RqR w1 n0 p s d sp dp qp qs qd qsp qdp qk y src side b4 b5 D v56 v57 v58 v59 v60 v61 v62 v63 v64 v65 v66 v67 v68 v69 w') (hb : Below w'.heap.size w' w'') : RqR w1 n0 p s d sp dp qp qs qd qsp qdp qk y src side b4 b5 (fun j => D j ∨ j = 11) v56 v57 v58 v59 v60 v61 v62 v63 v64 v65 v66 (.bool (b4 && b5)) v68 v69 w'' :=
  ⟨bthen h.b hb, or_keep h.e0 (by decide), or_keep h.e1 (by decide), or_keep h.e2 (by decide), or_keep h.e3 (by decide), or_keep h.e4 (by decide), or_keep h.e5 (by decide), or_keep h.e6 (by decide), or_keep h.e7 (by decide), or_keep h.e8 (by decide), or_keep h.e9 (by decide), or_keep h.e10 (by decide), fun _ => rfl, or_keep h.e12 (by decide), or_keep h.e13 (by decide)⟩
theorem RqR.s12 {w1 : World} {n0 : Nat} {p s d sp dp qp qs qd qsp qdp qk y src side : Int} {b4 b5 : Bool} {D : Nat → Prop} {v56 v57 v58 v59 v60 v61 v62 v63 v64 v65 v66 v67 v68 v69 : Value} {w' w'' : World} (h : RqR w1 n0 p s d sp dp qp qs qd qsp qdp qk y src side b4 b5 D v56 v57 v58 v59 v60 v61 v62 v63 v64 v65 v66 v67 v68 v69 w') (hb : Below w'.heap.size w' w'') : RqR w1 n0 p s d sp dp qp qs qd qsp qdp qk y src side b4 b5 (fun j => D j ∨ j = 12) v56 v57 v58 v59 v60 v61 v62 v63 v64 v65 v66 v67 (gv (b4 && b5) (.int .u8 src)) v69 w'' :=
  ⟨bthen h.b hb, or_keep h.e0 (by decide), or_keep h.e1 (by decide), or_keep h.e2 (by decide), or_keep h.e3 (by decide), or_keep h.e4 (by decide), or_keep h.e5 (by decide), or_keep h.e6 (by decide), or_keep h.e7 (by decide), or_keep h.e8 (by decide), or_keep h.e9 (by decide), or_keep h.e10 (by decide), or_keep h.e11 (by decide), fun _ => rfl, or_keep h.e13 (by decide)⟩
theorem RqR.s13 {w1 : World} {n0 : Nat} {p s d sp dp qp qs qd qsp qdp qk y src side : Int} {b4 b5 : Bool} {D : Nat → Prop} {v56 v57 v58 v59 v60 v61 v62 v63 v64 v65 v66 v67 v68 v69 : Value} {w' w'' : World} (h : RqR w1 n0 p s d sp dp qp qs qd qsp qdp qk y src side b4 b5 D v56 v57 v58 v59 v60 v61 v62 v63 v64 v65 v66 v67 v68 v69 w') (hb : Below w'.heap.size w' w'') : RqR w1 n0 p s d sp dp qp qs qd qsp qdp qk y src side b4 b5 (fun j => D j ∨ j = 13) v56 v57 v58 v59 v60 v61 v62 v63 v64 v65 v66 v67 v68 (gv (b4 && b5) (.int .u8 side)) w'' :=
  ⟨bthen h.b hb, or_keep h.e0 (by decide), or_keep h.e1 (by decide), or_keep h.e2 (by decide), or_keep h.e3 (by decide), or_keep h.e4 (by decide), or_keep h.e5 (by decide), or_keep h.e6 (by decide), or_keep h.e7 (by decide), or_keep h.e8 (by decide), or_keep h.e9 (by decide), or_keep h.e10 (by decide), or_keep h.e11 (by decide), or_keep h.e12 (by decide), fun _ => rfl⟩
theorem RqR.zero (w1 : World) (n0 : Nat) (p s d sp dp qp qs qd qsp qdp qk y src side : Int) (b4 b5 : Bool) (v56 v57 v58 v59 v60 v61 v62 v63 v64 v65 v66 v67 v68 v69 : Value) : RqR w1 n0 p s d sp dp qp qs qd qsp qdp qk y src side b4 b5 (fun _ => False) v56 v57 v58 v59 v60 v61 v62 v63 v64 v65 v66 v67 v68 v69 w1.drew :=
  ⟨(Below.refl _ _).drew, fun h => h.elim, fun h => h.elim, fun h => h.elim, fun h => h.elim, fun h => h.elim, fun h => h.elim, fun h => h.elim, fun h => h.elim, fun h => h.elim, fun h => h.elim, fun h => h.elim, fun h => h.elim, fun h => h.elim, fun h => h.elim⟩
theorem quo_is (p s d sp dp side dst kind typ qp qs qd qsp qdp qk src : Int) (hc : can dst kind typ qp qs qk = true) (hs : 0 ≤ side ∧ side ≤ 1) (hr : 0 ≤ src ∧ src ≤ 1) :
    quo p s d sp dp side dst kind typ qp qs qd qsp qdp qk src = if (eqK qp qs qd qsp qdp p s d sp dp && (qk == ko p && src != side)) = true then (0, true) else if (eqK qp qs qd qsp qdp p d s dp sp && (qk == kr p && src == side)) = true then (1, true) else (0, false) := by
  have e0 : (way0 p s d sp dp side).hit qp qs qd qsp qdp qk src = (eqK qp qs qd qsp qdp p s d sp dp && (qk == ko p && src != side)) := by
    simp only [Wy.hit, way0]
    rw [eqK_comm, Bool.beq_comm (a := ko p)]
    congr 2
    rw [Bool.eq_iff_iff]
    simp
    omega
  have e1 : (way1 p s d sp dp side).hit qp qs qd qsp qdp qk src = (eqK qp qs qd qsp qdp p d s dp sp && (qk == kr p && src == side)) := by
    simp only [Wy.hit, way1]
    rw [eqK_comm, Bool.beq_comm (a := kr p), Bool.beq_comm (a := side)]
  unfold quo
  rw [hc, decide_eq_true hs.2, decide_eq_true hr.2, e0, e1]
  simp

set_option maxRecDepth 100000 in
set_option maxHeartbeats 16000000 in
theorem rquotes_any (F : Array Value) (p s d sp dp side dst kind typ qp qs qd qsp qdp qk src : Int) (w : World) (h : Fa F dst kind typ qp qs qd qsp qdp qk) (hs : 0 ≤ side) (hr : 0 ≤ src) :
    Calls Tryd.prog 25 #[.agg #[.int .u8 p, .int .u32 s, .int .u32 d, .int .u16 sp, .int .u16 dp], .int .u8 side, .agg F, .int .u8 src] w fun e w' =>
      e = .returned (.tuple #[.int .u8 (quo p s d sp dp side dst kind typ qp qs qd qsp qdp qk src).1, .bool (quo p s d sp dp side dst kind typ qp qs qd qsp qdp qk src).2]) ∧ Below w.heap.size w w' := by
  have HL := Lib.hid (fun W => rlookup_any F dst kind typ qp qs qd qsp qdp qk W h)
  have K0 := Lib.hid (fun W => rkind_0 p s d sp dp W)
  have K1 := Lib.hid (fun W => rkind_1 p s d sp dp W)
  have hsz : (Tryd.prog.info? 29).map (·.size) = some F.toList.length := by rw [info29, Array.length_toList, h.size]
  have Hsz := Lib.hid hsz
  clear hsz
  have E1 := fun V => key_eql qp qs qd qsp qdp p s d sp dp V
  have E2 := fun V => key_eql qp qs qd qsp qdp p d s dp sp V
  have g13 := h.c13
  have g14 := h.c14
  have g15 := h.c15
  have g16 := h.c16
  have g17 := h.c17
  have g18 := h.c18
  clear h
  have hq := quo_is p s d sp dp side dst kind typ qp qs qd qsp qdp qk src
  have hq0 : can dst kind typ qp qs qk = false ∨ 1 < side ∨ 1 < src → quo p s d sp dp side dst kind typ qp qs qd qsp qdp qk src = (0, false) := by
    intro hx
    unfold quo
    rw [if_neg]
    intro hy
    simp only [Bool.and_eq_true, decide_eq_true_eq] at hy
    rcases hx with hx | hx | hx
    · rw [hx] at hy; cases hy.1
    · omega
    · omega
  generalize quo p s d sp dp side dst kind typ qp qs qd qsp qdp qk src = Q at *
  generalize eqK qp qs qd qsp qdp p s d sp dp = b1 at *
  generalize eqK qp qs qd qsp qdp p d s dp sp = b4 at *
  generalize can dst kind typ qp qs qk = c at *
  generalize ko p = x at *
  generalize kr p = y at *
  generalize known p = kn at *
  cases c
  · obtain rfl := hq0 (.inl rfl)
    clear hq hq0 E1 E2 K0 K1 hs hr
    go_enter Tryd.func25, Tryd.ntmps25
    go_wp2_with (refine wpList_load_wide 29 _ rfl (by rfl) _ _ rfl F _ Tryd.underlying29 rfl Hsz.out ?_ ?_; (· (repeat (first | (refine range_new' _ _ _ _ ?_; first | rfl | (simp; done)) | refine World.rangeAt_alloc ?_ _))))
    refine (HL.out _).mono ?_
    rintro e w2 ⟨rfl, hb⟩
    have x0 : w2.cell? ⟨w.heap.size, 0, none⟩ = some (.int .u8 p) := (hb.cell (p := ⟨w.heap.size, 0, none⟩) (by simp; omega)).trans (by simp [go_sem])
    have x1 : w2.cell? ⟨w.heap.size, 1, none⟩ = some (.int .u32 s) := (hb.cell (p := ⟨w.heap.size, 1, none⟩) (by simp; omega)).trans (by simp [go_sem])
    have x2 : w2.cell? ⟨w.heap.size, 2, none⟩ = some (.int .u32 d) := (hb.cell (p := ⟨w.heap.size, 2, none⟩) (by simp; omega)).trans (by simp [go_sem])
    have x3 : w2.cell? ⟨w.heap.size, 3, none⟩ = some (.int .u16 sp) := (hb.cell (p := ⟨w.heap.size, 3, none⟩) (by simp; omega)).trans (by simp [go_sem])
    have x4 : w2.cell? ⟨w.heap.size, 4, none⟩ = some (.int .u16 dp) := (hb.cell (p := ⟨w.heap.size, 4, none⟩) (by simp; omega)).trans (by simp [go_sem])
    have f0 : w2.cell? ⟨w.heap.size + 1, 13, none⟩ = some (.int .u8 qp) := (hb.cell (p := ⟨w.heap.size + 1, 13, none⟩) (by simp)).trans (by simp [go_sem, g13])
    have f1 : w2.cell? ⟨w.heap.size + 1, 14, none⟩ = some (.int .u32 qs) := (hb.cell (p := ⟨w.heap.size + 1, 14, none⟩) (by simp)).trans (by simp [go_sem, g14])
    have f2 : w2.cell? ⟨w.heap.size + 1, 15, none⟩ = some (.int .u32 qd) := (hb.cell (p := ⟨w.heap.size + 1, 15, none⟩) (by simp)).trans (by simp [go_sem, g15])
    have f3 : w2.cell? ⟨w.heap.size + 1, 16, none⟩ = some (.int .u16 qsp) := (hb.cell (p := ⟨w.heap.size + 1, 16, none⟩) (by simp)).trans (by simp [go_sem, g16])
    have f4 : w2.cell? ⟨w.heap.size + 1, 17, none⟩ = some (.int .u16 qdp) := (hb.cell (p := ⟨w.heap.size + 1, 17, none⟩) (by simp)).trans (by simp [go_sem, g17])
    have f5 : w2.cell? ⟨w.heap.size + 1, 18, none⟩ = some (.int .u8 qk) := (hb.cell (p := ⟨w.heap.size + 1, 18, none⟩) (by simp)).trans (by simp [go_sem, g18])
    have hz0 : w.heap.size < w2.heap.size := by have := hb.size; simp at this; omega
    have hz1 : w.heap.size + 1 < w2.heap.size := by have := hb.size; simp at this; omega
    have hB : Below w.heap.size w w2 := bthen (by (repeat' (first | exact Below.refl _ _ | refine Below.setCell ?_ (by first | omega | (simp; done) | (simp; omega)) _ | refine Below.alloc ?_ (by first | omega | (simp; done) | (simp; omega)) _))) hb
    clear hb HL
    go_wp2_with fail
    go_ret2
    exact ⟨rfl, by (repeat' (first | with_reducible exact hB | refine Below.setCell ?_ (by first | omega | (simp; done) | (simp; omega)) _ | refine Below.alloc ?_ (by first | omega | (simp; done) | (simp; omega)) _))⟩
  · by_cases h1 : 1 < side
    · obtain rfl := hq0 (.inr (.inl h1))
      have e1 : decide (1 < side) = true := decide_eq_true h1
      clear hq hq0 E1 E2 K0 K1 hs hr h1
      go_enter Tryd.func25, Tryd.ntmps25
      go_wp2_with (refine wpList_load_wide 29 _ rfl (by rfl) _ _ rfl F _ Tryd.underlying29 rfl Hsz.out ?_ ?_; (· (repeat (first | (refine range_new' _ _ _ _ ?_; first | rfl | (simp; done)) | refine World.rangeAt_alloc ?_ _))))
      refine (HL.out _).mono ?_
      rintro e w2 ⟨rfl, hb⟩
      have x0 : w2.cell? ⟨w.heap.size, 0, none⟩ = some (.int .u8 p) := (hb.cell (p := ⟨w.heap.size, 0, none⟩) (by simp; omega)).trans (by simp [go_sem])
      have x1 : w2.cell? ⟨w.heap.size, 1, none⟩ = some (.int .u32 s) := (hb.cell (p := ⟨w.heap.size, 1, none⟩) (by simp; omega)).trans (by simp [go_sem])
      have x2 : w2.cell? ⟨w.heap.size, 2, none⟩ = some (.int .u32 d) := (hb.cell (p := ⟨w.heap.size, 2, none⟩) (by simp; omega)).trans (by simp [go_sem])
      have x3 : w2.cell? ⟨w.heap.size, 3, none⟩ = some (.int .u16 sp) := (hb.cell (p := ⟨w.heap.size, 3, none⟩) (by simp; omega)).trans (by simp [go_sem])
      have x4 : w2.cell? ⟨w.heap.size, 4, none⟩ = some (.int .u16 dp) := (hb.cell (p := ⟨w.heap.size, 4, none⟩) (by simp; omega)).trans (by simp [go_sem])
      have f0 : w2.cell? ⟨w.heap.size + 1, 13, none⟩ = some (.int .u8 qp) := (hb.cell (p := ⟨w.heap.size + 1, 13, none⟩) (by simp)).trans (by simp [go_sem, g13])
      have f1 : w2.cell? ⟨w.heap.size + 1, 14, none⟩ = some (.int .u32 qs) := (hb.cell (p := ⟨w.heap.size + 1, 14, none⟩) (by simp)).trans (by simp [go_sem, g14])
      have f2 : w2.cell? ⟨w.heap.size + 1, 15, none⟩ = some (.int .u32 qd) := (hb.cell (p := ⟨w.heap.size + 1, 15, none⟩) (by simp)).trans (by simp [go_sem, g15])
      have f3 : w2.cell? ⟨w.heap.size + 1, 16, none⟩ = some (.int .u16 qsp) := (hb.cell (p := ⟨w.heap.size + 1, 16, none⟩) (by simp)).trans (by simp [go_sem, g16])
      have f4 : w2.cell? ⟨w.heap.size + 1, 17, none⟩ = some (.int .u16 qdp) := (hb.cell (p := ⟨w.heap.size + 1, 17, none⟩) (by simp)).trans (by simp [go_sem, g17])
      have f5 : w2.cell? ⟨w.heap.size + 1, 18, none⟩ = some (.int .u8 qk) := (hb.cell (p := ⟨w.heap.size + 1, 18, none⟩) (by simp)).trans (by simp [go_sem, g18])
      have hz0 : w.heap.size < w2.heap.size := by have := hb.size; simp at this; omega
      have hz1 : w.heap.size + 1 < w2.heap.size := by have := hb.size; simp at this; omega
      have hB : Below w.heap.size w w2 := bthen (by (repeat' (first | exact Below.refl _ _ | refine Below.setCell ?_ (by first | omega | (simp; done) | (simp; omega)) _ | refine Below.alloc ?_ (by first | omega | (simp; done) | (simp; omega)) _))) hb
      clear hb HL
      go_wp2_with fail
      go_ret2
      exact ⟨rfl, by (repeat' (first | with_reducible exact hB | refine Below.setCell ?_ (by first | omega | (simp; done) | (simp; omega)) _ | refine Below.alloc ?_ (by first | omega | (simp; done) | (simp; omega)) _))⟩
    · by_cases h2 : 1 < src
      · obtain rfl := hq0 (.inr (.inr h2))
        have e1 : decide (1 < side) = false := decide_eq_false h1
        have e2 : decide (1 < src) = true := decide_eq_true h2
        clear hq hq0 E1 E2 K0 K1 hs hr h1 h2
        go_enter Tryd.func25, Tryd.ntmps25
        go_wp2_with (refine wpList_load_wide 29 _ rfl (by rfl) _ _ rfl F _ Tryd.underlying29 rfl Hsz.out ?_ ?_; (· (repeat (first | (refine range_new' _ _ _ _ ?_; first | rfl | (simp; done)) | refine World.rangeAt_alloc ?_ _))))
        refine (HL.out _).mono ?_
        rintro e w2 ⟨rfl, hb⟩
        have x0 : w2.cell? ⟨w.heap.size, 0, none⟩ = some (.int .u8 p) := (hb.cell (p := ⟨w.heap.size, 0, none⟩) (by simp; omega)).trans (by simp [go_sem])
        have x1 : w2.cell? ⟨w.heap.size, 1, none⟩ = some (.int .u32 s) := (hb.cell (p := ⟨w.heap.size, 1, none⟩) (by simp; omega)).trans (by simp [go_sem])
        have x2 : w2.cell? ⟨w.heap.size, 2, none⟩ = some (.int .u32 d) := (hb.cell (p := ⟨w.heap.size, 2, none⟩) (by simp; omega)).trans (by simp [go_sem])
        have x3 : w2.cell? ⟨w.heap.size, 3, none⟩ = some (.int .u16 sp) := (hb.cell (p := ⟨w.heap.size, 3, none⟩) (by simp; omega)).trans (by simp [go_sem])
        have x4 : w2.cell? ⟨w.heap.size, 4, none⟩ = some (.int .u16 dp) := (hb.cell (p := ⟨w.heap.size, 4, none⟩) (by simp; omega)).trans (by simp [go_sem])
        have f0 : w2.cell? ⟨w.heap.size + 1, 13, none⟩ = some (.int .u8 qp) := (hb.cell (p := ⟨w.heap.size + 1, 13, none⟩) (by simp)).trans (by simp [go_sem, g13])
        have f1 : w2.cell? ⟨w.heap.size + 1, 14, none⟩ = some (.int .u32 qs) := (hb.cell (p := ⟨w.heap.size + 1, 14, none⟩) (by simp)).trans (by simp [go_sem, g14])
        have f2 : w2.cell? ⟨w.heap.size + 1, 15, none⟩ = some (.int .u32 qd) := (hb.cell (p := ⟨w.heap.size + 1, 15, none⟩) (by simp)).trans (by simp [go_sem, g15])
        have f3 : w2.cell? ⟨w.heap.size + 1, 16, none⟩ = some (.int .u16 qsp) := (hb.cell (p := ⟨w.heap.size + 1, 16, none⟩) (by simp)).trans (by simp [go_sem, g16])
        have f4 : w2.cell? ⟨w.heap.size + 1, 17, none⟩ = some (.int .u16 qdp) := (hb.cell (p := ⟨w.heap.size + 1, 17, none⟩) (by simp)).trans (by simp [go_sem, g17])
        have f5 : w2.cell? ⟨w.heap.size + 1, 18, none⟩ = some (.int .u8 qk) := (hb.cell (p := ⟨w.heap.size + 1, 18, none⟩) (by simp)).trans (by simp [go_sem, g18])
        have hz0 : w.heap.size < w2.heap.size := by have := hb.size; simp at this; omega
        have hz1 : w.heap.size + 1 < w2.heap.size := by have := hb.size; simp at this; omega
        have hB : Below w.heap.size w w2 := bthen (by (repeat' (first | exact Below.refl _ _ | refine Below.setCell ?_ (by first | omega | (simp; done) | (simp; omega)) _ | refine Below.alloc ?_ (by first | omega | (simp; done) | (simp; omega)) _))) hb
        clear hb HL
        go_wp2_with fail
        go_ret2
        exact ⟨rfl, by (repeat' (first | with_reducible exact hB | refine Below.setCell ?_ (by first | omega | (simp; done) | (simp; omega)) _ | refine Below.alloc ?_ (by first | omega | (simp; done) | (simp; omega)) _))⟩
      · have hq1 := hq rfl ⟨hs, by omega⟩ ⟨hr, by omega⟩
        have e1 : decide (1 < side) = false := decide_eq_false h1
        have e2 : decide (1 < src) = false := decide_eq_false h2
        clear hq hq0 hs hr h1 h2
        cases b1
        · simp only [Bool.false_and, Bool.false_eq_true, if_false] at hq1
          go_enter Tryd.func25, Tryd.ntmps25
          go_wp2_with (refine wpList_load_wide 29 _ rfl (by rfl) _ _ rfl F _ Tryd.underlying29 rfl Hsz.out ?_ ?_; (· (repeat (first | (refine range_new' _ _ _ _ ?_; first | rfl | (simp; done)) | refine World.rangeAt_alloc ?_ _))))
          refine (HL.out _).mono ?_
          rintro e w2 ⟨rfl, hb⟩
          have x0 : w2.cell? ⟨w.heap.size, 0, none⟩ = some (.int .u8 p) := (hb.cell (p := ⟨w.heap.size, 0, none⟩) (by simp; omega)).trans (by simp [go_sem])
          have x1 : w2.cell? ⟨w.heap.size, 1, none⟩ = some (.int .u32 s) := (hb.cell (p := ⟨w.heap.size, 1, none⟩) (by simp; omega)).trans (by simp [go_sem])
          have x2 : w2.cell? ⟨w.heap.size, 2, none⟩ = some (.int .u32 d) := (hb.cell (p := ⟨w.heap.size, 2, none⟩) (by simp; omega)).trans (by simp [go_sem])
          have x3 : w2.cell? ⟨w.heap.size, 3, none⟩ = some (.int .u16 sp) := (hb.cell (p := ⟨w.heap.size, 3, none⟩) (by simp; omega)).trans (by simp [go_sem])
          have x4 : w2.cell? ⟨w.heap.size, 4, none⟩ = some (.int .u16 dp) := (hb.cell (p := ⟨w.heap.size, 4, none⟩) (by simp; omega)).trans (by simp [go_sem])
          have f0 : w2.cell? ⟨w.heap.size + 1, 13, none⟩ = some (.int .u8 qp) := (hb.cell (p := ⟨w.heap.size + 1, 13, none⟩) (by simp)).trans (by simp [go_sem, g13])
          have f1 : w2.cell? ⟨w.heap.size + 1, 14, none⟩ = some (.int .u32 qs) := (hb.cell (p := ⟨w.heap.size + 1, 14, none⟩) (by simp)).trans (by simp [go_sem, g14])
          have f2 : w2.cell? ⟨w.heap.size + 1, 15, none⟩ = some (.int .u32 qd) := (hb.cell (p := ⟨w.heap.size + 1, 15, none⟩) (by simp)).trans (by simp [go_sem, g15])
          have f3 : w2.cell? ⟨w.heap.size + 1, 16, none⟩ = some (.int .u16 qsp) := (hb.cell (p := ⟨w.heap.size + 1, 16, none⟩) (by simp)).trans (by simp [go_sem, g16])
          have f4 : w2.cell? ⟨w.heap.size + 1, 17, none⟩ = some (.int .u16 qdp) := (hb.cell (p := ⟨w.heap.size + 1, 17, none⟩) (by simp)).trans (by simp [go_sem, g17])
          have f5 : w2.cell? ⟨w.heap.size + 1, 18, none⟩ = some (.int .u8 qk) := (hb.cell (p := ⟨w.heap.size + 1, 18, none⟩) (by simp)).trans (by simp [go_sem, g18])
          have hz0 : w.heap.size < w2.heap.size := by have := hb.size; simp at this; omega
          have hz1 : w.heap.size + 1 < w2.heap.size := by have := hb.size; simp at this; omega
          have hB : Below w.heap.size w w2 := bthen (by (repeat' (first | exact Below.refl _ _ | refine Below.setCell ?_ (by first | omega | (simp; done) | (simp; omega)) _ | refine Below.alloc ?_ (by first | omega | (simp; done) | (simp; omega)) _))) hb
          clear hb HL
          go_wp2_with fail
          refine (K0.out _).mono ?_
          rintro e w' ⟨rfl, rfl⟩
          go_wp2_with fail
          refine (K1.out _).mono ?_
          rintro e w' ⟨rfl, rfl⟩
          obtain ⟨V, hV⟩ : ∃ V, (((w2.alloc (.cells #[.int .u8 (pk true qp), .int .u32 (pk true qs), .int .u32 (pk true qd), .int .u16 (pk true qsp), .int .u16 (pk true qdp)] 25)).alloc (.cells #[.int .u8 p, .int .u32 s, .int .u32 d, .int .u16 sp, .int .u16 dp] 25)).alloc (.cells #[.int .u8 p, .int .u32 s, .int .u32 d, .int .u16 sp, .int .u16 dp] 25)) = V := ⟨_, rfl⟩
          have hbV : Below w2.heap.size w2 V := by
            rw [← hV]
            (repeat' (first | exact Below.refl _ _ | refine Below.setCell ?_ (by first | omega | (simp; done) | (simp; omega)) _ | refine Below.alloc ?_ (by first | omega | (simp; done) | (simp; omega)) _))
          replace x0 := (hbV.cell (p := ⟨w.heap.size, 0, none⟩) hz0).trans x0
          replace x1 := (hbV.cell (p := ⟨w.heap.size, 1, none⟩) hz0).trans x1
          replace x2 := (hbV.cell (p := ⟨w.heap.size, 2, none⟩) hz0).trans x2
          replace x3 := (hbV.cell (p := ⟨w.heap.size, 3, none⟩) hz0).trans x3
          replace x4 := (hbV.cell (p := ⟨w.heap.size, 4, none⟩) hz0).trans x4
          replace f0 := (hbV.cell (p := ⟨w.heap.size + 1, 13, none⟩) hz1).trans f0
          replace f1 := (hbV.cell (p := ⟨w.heap.size + 1, 14, none⟩) hz1).trans f1
          replace f2 := (hbV.cell (p := ⟨w.heap.size + 1, 15, none⟩) hz1).trans f2
          replace f3 := (hbV.cell (p := ⟨w.heap.size + 1, 16, none⟩) hz1).trans f3
          replace f4 := (hbV.cell (p := ⟨w.heap.size + 1, 17, none⟩) hz1).trans f4
          replace f5 := (hbV.cell (p := ⟨w.heap.size + 1, 18, none⟩) hz1).trans f5
          replace hB := bthen hB hbV
          replace hz0 := Nat.lt_of_lt_of_le hz0 hbV.size
          replace hz1 := Nat.lt_of_lt_of_le hz1 hbV.size
          have hzz := hB.size
          rw [hV]
          clear hV hbV
          go_wp2_with fail
          obtain ⟨n0, ha⟩ : ∃ n, w.heap.size = n := ⟨_, rfl⟩
          rw [ha] at x0 x1 x2 x3 x4 f0 f1 f2 f3 f4 f5 hz0 hz1
          obtain ⟨b5, hb5⟩ : ∃ b, (qk == y) = b := ⟨_, rfl⟩
          obtain ⟨b6, hb6⟩ : ∃ b, (src == side) = b := ⟨_, rfl⟩
          rw [hb5, hb6] at hq1
          have HB5 := Lib.hid hb5
          have HB6 := Lib.hid hb6
          have HQ1 := Lib.hid hq1
          have HE2 := Lib.hid E2
          clear hb5 hb6 hq1 E2 E1 K0 K1
          rw [ha]
          refine wp_region_steps 14 [[], [0], [], [2], [1, 3], [4], [5], [6, 5], [5], [7, 8, 5], [5, 9], [10], [11], [11]] (fun D a w' => ∃ v56 v57 v58 v59 v60 v61 v62 v63 v64 v65 v66 v67 v68 v69 : Value, a = ⟨#[.agg #[.int .u8 p, .int .u32 s, .int .u32 d, .int .u16 sp, .int .u16 dp], .int .u8 side, .agg F, .int .u8 src, .pointer (some ⟨n0, 0, none⟩), undef, .pointer (some ⟨n0 + 1, 0, none⟩), undef, .int .u8 0, .bool false, .pointer (some ⟨w2.heap.size, 0, none⟩), .bool true, .int .u8 x, .bool kn, .int .u8 y, .bool kn, .tuple #[.agg #[.int .u8 (pk true qp), .int .u32 (pk true qs), .int .u32 (pk true qd), .int .u16 (pk true qsp), .int .u16 (pk true qdp)], .bool true], .agg F, .tuple #[.agg #[.int .u8 (pk true qp), .int .u32 (pk true qs), .int .u32 (pk true qd), .int .u16 (pk true qsp), .int .u16 (pk true qdp)], .bool true], .agg #[.int .u8 (pk true qp), .int .u32 (pk true qs), .int .u32 (pk true qd), .int .u16 (pk true qsp), .int .u16 (pk true qdp)], .bool true, .bool true, .bool false, .bool false, .int .u8 side, .bool false, .bool false, .bool false, .int .u8 src, .bool false, .bool false, .tuple #[.int .u8 x, .bool kn], .agg #[.int .u8 p, .int .u32 s, .int .u32 d, .int .u16 sp, .int .u16 dp], .tuple #[.int .u8 x, .bool kn], .int .u8 x, .bool kn, .tuple #[.int .u8 y, .bool kn], .agg #[.int .u8 p, .int .u32 s, .int .u32 d, .int .u16 sp, .int .u16 dp], .tuple #[.int .u8 y, .bool kn], .int .u8 y, .bool kn, .pointer (some ⟨n0 + 1, 13, none⟩), .agg #[.int .u8 qp, .int .u32 qs, .int .u32 qd, .int .u16 qsp, .int .u16 qdp], .agg #[.int .u8 p, .int .u32 s, .int .u32 d, .int .u16 sp, .int .u16 dp], .bool false, .bool false, undef, undef, undef, undef, .bool false, .bool false, undef, undef, undef, .bool false, v56, v57, v58, v59, v60, v61, v62, v63, v64, v65, v66, v67, v68, v69, undef, undef], []⟩ ∧ RqR V n0 p s d sp dp qp qs qd qsp qdp qk y src side b4 b5 D v56 v57 v58 v59 v60 v61 v62 v63 v64 v65 v66 v67 v68 v69 w') (by kernel_rfl) (by kernel_rfl) ⟨undef, undef, undef, undef, undef, undef, undef, undef, undef, undef, undef, undef, undef, undef, rfl, RqR.zero V n0 p s d sp dp qp qs qd qsp qdp qk y src side b4 b5 (undef) (undef) (undef) (undef) (undef) (undef) (undef) (undef) (undef) (undef) (undef) (undef) (undef) (undef)⟩ ?_ ?_
          · simp only [List.take_succ_cons, List.take_zero]
            refine ⟨?_, ?_, ?_, ?_, ?_, ?_, ?_, ?_, ?_, ?_, ?_, ?_, ?_, ?_, trivial⟩
            · intro D A w' hn hp hI
              obtain ⟨v56, v57, v58, v59, v60, v61, v62, v63, v64, v65, v66, v67, v68, v69, rfl, hR⟩ := hI
              clear hn hp
              go_wp2_with fail
              exact ⟨_, _, _, _, _, _, _, _, _, _, _, _, _, _, rfl, hR.s0 (Below.refl _ _)⟩
            · intro D A w' hn hp hI
              obtain ⟨v56, v57, v58, v59, v60, v61, v62, v63, v64, v65, v66, v67, v68, v69, rfl, hR⟩ := hI
              obtain rfl := hR.e0 hp.1
              have c0 := kc hR.b f0
              have c1 := kc hR.b f1
              have c2 := kc hR.b f2
              have c3 := kc hR.b f3
              have c4 := kc hR.b f4
              clear hn hp
              go_wp2_with fail
              exact ⟨_, _, _, _, _, _, _, _, _, _, _, _, _, _, rfl, hR.s1 (Below.refl _ _)⟩
            · intro D A w' hn hp hI
              obtain ⟨v56, v57, v58, v59, v60, v61, v62, v63, v64, v65, v66, v67, v68, v69, rfl, hR⟩ := hI
              have c0 := kc hR.b x0
              have c1 := kc hR.b x1
              have c2 := kc hR.b x2
              have c3 := kc hR.b x3
              have c4 := kc hR.b x4
              clear hn hp
              go_wp2_with fail
              exact ⟨_, _, _, _, _, _, _, _, _, _, _, _, _, _, rfl, hR.s2 (Below.refl _ _)⟩
            · intro D A w' hn hp hI
              obtain ⟨v56, v57, v58, v59, v60, v61, v62, v63, v64, v65, v66, v67, v68, v69, rfl, hR⟩ := hI
              obtain rfl := hR.e2 hp.1
              clear hn hp
              go_wp2_with fail
              refine (rturn_below _ _ _ _ _ _).mono ?_
              rintro e w'' ⟨rfl, hb⟩
              go_wp2_with fail
              exact ⟨_, _, _, _, _, _, _, _, _, _, _, _, _, _, rfl, hR.s3 hb⟩
            · intro D A w' hn hp hI
              obtain ⟨v56, v57, v58, v59, v60, v61, v62, v63, v64, v65, v66, v67, v68, v69, rfl, hR⟩ := hI
              obtain rfl := hR.e1 hp.1
              obtain rfl := hR.e3 hp.2.1
              have E := HE2.out
              clear hn hp
              go_wp2_with fail
              exact ⟨_, _, _, _, _, _, _, _, _, _, _, _, _, _, rfl, hR.s4 (Below.refl _ _)⟩
            · intro D A w' hn hp hI
              obtain ⟨v56, v57, v58, v59, v60, v61, v62, v63, v64, v65, v66, v67, v68, v69, rfl, hR⟩ := hI
              obtain rfl := hR.e4 hp.1
              clear hn hp
              go_wp2_with fail
              exact ⟨_, _, _, _, _, _, _, _, _, _, _, _, _, _, rfl, hR.s5 (Below.refl _ _)⟩
            · intro D A w' hn hp hI
              obtain ⟨v56, v57, v58, v59, v60, v61, v62, v63, v64, v65, v66, v67, v68, v69, rfl, hR⟩ := hI
              obtain rfl := hR.e5 hp.1
              clear hn hp
              cases b4
              all_goals
                try simp only [gv, if_true, Bool.false_eq_true, if_false, Bool.true_and, Bool.false_and, Bool.and_true, Bool.and_false]
                go_wp2_with fail
                exact ⟨_, _, _, _, _, _, _, _, _, _, _, _, _, _, rfl, hR.s6 (Below.refl _ _)⟩
            · intro D A w' hn hp hI
              obtain ⟨v56, v57, v58, v59, v60, v61, v62, v63, v64, v65, v66, v67, v68, v69, rfl, hR⟩ := hI
              obtain rfl := hR.e6 hp.1
              obtain rfl := hR.e5 hp.2.1
              have c := kc hR.b f5
              clear hn hp
              cases b4
              all_goals
                try simp only [gv, if_true, Bool.false_eq_true, if_false, Bool.true_and, Bool.false_and, Bool.and_true, Bool.and_false]
                go_wp2_with fail
                exact ⟨_, _, _, _, _, _, _, _, _, _, _, _, _, _, rfl, hR.s7 (Below.refl _ _)⟩
            · intro D A w' hn hp hI
              obtain ⟨v56, v57, v58, v59, v60, v61, v62, v63, v64, v65, v66, v67, v68, v69, rfl, hR⟩ := hI
              obtain rfl := hR.e5 hp.1
              clear hn hp
              cases b4
              all_goals
                try simp only [gv, if_true, Bool.false_eq_true, if_false, Bool.true_and, Bool.false_and, Bool.and_true, Bool.and_false]
                go_wp2_with fail
                exact ⟨_, _, _, _, _, _, _, _, _, _, _, _, _, _, rfl, hR.s8 (Below.refl _ _)⟩
            · intro D A w' hn hp hI
              obtain ⟨v56, v57, v58, v59, v60, v61, v62, v63, v64, v65, v66, v67, v68, v69, rfl, hR⟩ := hI
              obtain rfl := hR.e7 hp.1
              obtain rfl := hR.e8 hp.2.1
              obtain rfl := hR.e5 hp.2.2.1
              have h5 := HB5.out
              clear hn hp
              cases b4
              all_goals
                try simp only [gv, if_true, Bool.false_eq_true, if_false, Bool.true_and, Bool.false_and, Bool.and_true, Bool.and_false]
                go_wp2_with fail
                exact ⟨_, _, _, _, _, _, _, _, _, _, _, _, _, _, rfl, hR.s9 (Below.refl _ _)⟩
            · intro D A w' hn hp hI
              obtain ⟨v56, v57, v58, v59, v60, v61, v62, v63, v64, v65, v66, v67, v68, v69, rfl, hR⟩ := hI
              obtain rfl := hR.e5 hp.1
              obtain rfl := hR.e9 hp.2.1
              clear hn hp
              cases b4
              all_goals
                try simp only [gv, if_true, Bool.false_eq_true, if_false, Bool.true_and, Bool.false_and, Bool.and_true, Bool.and_false]
                go_wp2_with fail
                exact ⟨_, _, _, _, _, _, _, _, _, _, _, _, _, _, rfl, hR.s10 (Below.refl _ _)⟩
            · intro D A w' hn hp hI
              obtain ⟨v56, v57, v58, v59, v60, v61, v62, v63, v64, v65, v66, v67, v68, v69, rfl, hR⟩ := hI
              obtain rfl := hR.e10 hp.1
              clear hn hp
              go_wp2_with fail
              exact ⟨_, _, _, _, _, _, _, _, _, _, _, _, _, _, rfl, hR.s11 (Below.refl _ _)⟩
            · intro D A w' hn hp hI
              obtain ⟨v56, v57, v58, v59, v60, v61, v62, v63, v64, v65, v66, v67, v68, v69, rfl, hR⟩ := hI
              obtain rfl := hR.e11 hp.1
              clear hn hp
              cases b4 <;> cases b5
              all_goals
                try simp only [gv, if_true, Bool.false_eq_true, if_false, Bool.true_and, Bool.false_and, Bool.and_true, Bool.and_false]
                go_wp2_with fail
                exact ⟨_, _, _, _, _, _, _, _, _, _, _, _, _, _, rfl, hR.s12 (Below.refl _ _)⟩
            · intro D A w' hn hp hI
              obtain ⟨v56, v57, v58, v59, v60, v61, v62, v63, v64, v65, v66, v67, v68, v69, rfl, hR⟩ := hI
              obtain rfl := hR.e11 hp.1
              clear hn hp
              cases b4 <;> cases b5
              all_goals
                try simp only [gv, if_true, Bool.false_eq_true, if_false, Bool.true_and, Bool.false_and, Bool.and_true, Bool.and_false]
                go_wp2_with fail
                exact ⟨_, _, _, _, _, _, _, _, _, _, _, _, _, _, rfl, hR.s13 (Below.refl _ _)⟩
          intro D A w' hD hI
          obtain ⟨v56, v57, v58, v59, v60, v61, v62, v63, v64, v65, v66, v67, v68, v69, rfl, hR⟩ := hI
          obtain rfl := hR.e0 (hD 0 (by decide))
          obtain rfl := hR.e1 (hD 1 (by decide))
          obtain rfl := hR.e2 (hD 2 (by decide))
          obtain rfl := hR.e3 (hD 3 (by decide))
          obtain rfl := hR.e4 (hD 4 (by decide))
          obtain rfl := hR.e5 (hD 5 (by decide))
          obtain rfl := hR.e6 (hD 6 (by decide))
          obtain rfl := hR.e7 (hD 7 (by decide))
          obtain rfl := hR.e8 (hD 8 (by decide))
          obtain rfl := hR.e9 (hD 9 (by decide))
          obtain rfl := hR.e10 (hD 10 (by decide))
          obtain rfl := hR.e11 (hD 11 (by decide))
          obtain rfl := hR.e12 (hD 12 (by decide))
          obtain rfl := hR.e13 (hD 13 (by decide))
          have hB' := bthen hB hR.b
          rw [ha] at hB'
          have h6 := HB6.out
          clear hD hR hB
          simp only [List.drop_succ_cons, List.drop_zero]
          cases b4 <;> cases b5 <;> cases b6
          all_goals
            obtain rfl := HQ1.out
            try simp only [gv, if_true, Bool.false_eq_true, if_false, Bool.true_and, Bool.false_and, Bool.and_true, Bool.and_false]
            go_wp2_with fail
            go_ret2
            exact ⟨rfl, hB'⟩
        · cases b2 : qk == x
          · simp only [b2, Bool.false_and, Bool.and_false, Bool.false_eq_true, if_false] at hq1
            go_enter Tryd.func25, Tryd.ntmps25
            go_wp2_with (refine wpList_load_wide 29 _ rfl (by rfl) _ _ rfl F _ Tryd.underlying29 rfl Hsz.out ?_ ?_; (· (repeat (first | (refine range_new' _ _ _ _ ?_; first | rfl | (simp; done)) | refine World.rangeAt_alloc ?_ _))))
            refine (HL.out _).mono ?_
            rintro e w2 ⟨rfl, hb⟩
            have x0 : w2.cell? ⟨w.heap.size, 0, none⟩ = some (.int .u8 p) := (hb.cell (p := ⟨w.heap.size, 0, none⟩) (by simp; omega)).trans (by simp [go_sem])
            have x1 : w2.cell? ⟨w.heap.size, 1, none⟩ = some (.int .u32 s) := (hb.cell (p := ⟨w.heap.size, 1, none⟩) (by simp; omega)).trans (by simp [go_sem])
            have x2 : w2.cell? ⟨w.heap.size, 2, none⟩ = some (.int .u32 d) := (hb.cell (p := ⟨w.heap.size, 2, none⟩) (by simp; omega)).trans (by simp [go_sem])
            have x3 : w2.cell? ⟨w.heap.size, 3, none⟩ = some (.int .u16 sp) := (hb.cell (p := ⟨w.heap.size, 3, none⟩) (by simp; omega)).trans (by simp [go_sem])
            have x4 : w2.cell? ⟨w.heap.size, 4, none⟩ = some (.int .u16 dp) := (hb.cell (p := ⟨w.heap.size, 4, none⟩) (by simp; omega)).trans (by simp [go_sem])
            have f0 : w2.cell? ⟨w.heap.size + 1, 13, none⟩ = some (.int .u8 qp) := (hb.cell (p := ⟨w.heap.size + 1, 13, none⟩) (by simp)).trans (by simp [go_sem, g13])
            have f1 : w2.cell? ⟨w.heap.size + 1, 14, none⟩ = some (.int .u32 qs) := (hb.cell (p := ⟨w.heap.size + 1, 14, none⟩) (by simp)).trans (by simp [go_sem, g14])
            have f2 : w2.cell? ⟨w.heap.size + 1, 15, none⟩ = some (.int .u32 qd) := (hb.cell (p := ⟨w.heap.size + 1, 15, none⟩) (by simp)).trans (by simp [go_sem, g15])
            have f3 : w2.cell? ⟨w.heap.size + 1, 16, none⟩ = some (.int .u16 qsp) := (hb.cell (p := ⟨w.heap.size + 1, 16, none⟩) (by simp)).trans (by simp [go_sem, g16])
            have f4 : w2.cell? ⟨w.heap.size + 1, 17, none⟩ = some (.int .u16 qdp) := (hb.cell (p := ⟨w.heap.size + 1, 17, none⟩) (by simp)).trans (by simp [go_sem, g17])
            have f5 : w2.cell? ⟨w.heap.size + 1, 18, none⟩ = some (.int .u8 qk) := (hb.cell (p := ⟨w.heap.size + 1, 18, none⟩) (by simp)).trans (by simp [go_sem, g18])
            have hz0 : w.heap.size < w2.heap.size := by have := hb.size; simp at this; omega
            have hz1 : w.heap.size + 1 < w2.heap.size := by have := hb.size; simp at this; omega
            have hB : Below w.heap.size w w2 := bthen (by (repeat' (first | exact Below.refl _ _ | refine Below.setCell ?_ (by first | omega | (simp; done) | (simp; omega)) _ | refine Below.alloc ?_ (by first | omega | (simp; done) | (simp; omega)) _))) hb
            clear hb HL
            go_wp2_with fail
            refine (K0.out _).mono ?_
            rintro e w' ⟨rfl, rfl⟩
            go_wp2_with fail
            refine (K1.out _).mono ?_
            rintro e w' ⟨rfl, rfl⟩
            obtain ⟨V, hV⟩ : ∃ V, (((w2.alloc (.cells #[.int .u8 (pk true qp), .int .u32 (pk true qs), .int .u32 (pk true qd), .int .u16 (pk true qsp), .int .u16 (pk true qdp)] 25)).alloc (.cells #[.int .u8 p, .int .u32 s, .int .u32 d, .int .u16 sp, .int .u16 dp] 25)).alloc (.cells #[.int .u8 p, .int .u32 s, .int .u32 d, .int .u16 sp, .int .u16 dp] 25)) = V := ⟨_, rfl⟩
            have hbV : Below w2.heap.size w2 V := by
              rw [← hV]
              (repeat' (first | exact Below.refl _ _ | refine Below.setCell ?_ (by first | omega | (simp; done) | (simp; omega)) _ | refine Below.alloc ?_ (by first | omega | (simp; done) | (simp; omega)) _))
            replace x0 := (hbV.cell (p := ⟨w.heap.size, 0, none⟩) hz0).trans x0
            replace x1 := (hbV.cell (p := ⟨w.heap.size, 1, none⟩) hz0).trans x1
            replace x2 := (hbV.cell (p := ⟨w.heap.size, 2, none⟩) hz0).trans x2
            replace x3 := (hbV.cell (p := ⟨w.heap.size, 3, none⟩) hz0).trans x3
            replace x4 := (hbV.cell (p := ⟨w.heap.size, 4, none⟩) hz0).trans x4
            replace f0 := (hbV.cell (p := ⟨w.heap.size + 1, 13, none⟩) hz1).trans f0
            replace f1 := (hbV.cell (p := ⟨w.heap.size + 1, 14, none⟩) hz1).trans f1
            replace f2 := (hbV.cell (p := ⟨w.heap.size + 1, 15, none⟩) hz1).trans f2
            replace f3 := (hbV.cell (p := ⟨w.heap.size + 1, 16, none⟩) hz1).trans f3
            replace f4 := (hbV.cell (p := ⟨w.heap.size + 1, 17, none⟩) hz1).trans f4
            replace f5 := (hbV.cell (p := ⟨w.heap.size + 1, 18, none⟩) hz1).trans f5
            replace hB := bthen hB hbV
            replace hz0 := Nat.lt_of_lt_of_le hz0 hbV.size
            replace hz1 := Nat.lt_of_lt_of_le hz1 hbV.size
            have hzz := hB.size
            rw [hV]
            clear hV hbV
            go_wp2_with fail
            obtain ⟨n0, ha⟩ : ∃ n, w.heap.size = n := ⟨_, rfl⟩
            rw [ha] at x0 x1 x2 x3 x4 f0 f1 f2 f3 f4 f5 hz0 hz1
            obtain ⟨b5, hb5⟩ : ∃ b, (qk == y) = b := ⟨_, rfl⟩
            obtain ⟨b6, hb6⟩ : ∃ b, (src == side) = b := ⟨_, rfl⟩
            rw [hb5, hb6] at hq1
            have HB5 := Lib.hid hb5
            have HB6 := Lib.hid hb6
            have HQ1 := Lib.hid hq1
            have HE2 := Lib.hid E2
            clear hb5 hb6 hq1 E2 E1 K0 K1
            rw [ha]
            refine wp_region_steps 14 [[], [0], [], [2], [1, 3], [4], [5], [6, 5], [5], [7, 8, 5], [5, 9], [10], [11], [11]] (fun D a w' => ∃ v56 v57 v58 v59 v60 v61 v62 v63 v64 v65 v66 v67 v68 v69 : Value, a = ⟨#[.agg #[.int .u8 p, .int .u32 s, .int .u32 d, .int .u16 sp, .int .u16 dp], .int .u8 side, .agg F, .int .u8 src, .pointer (some ⟨n0, 0, none⟩), undef, .pointer (some ⟨n0 + 1, 0, none⟩), undef, .int .u8 0, .bool false, .pointer (some ⟨w2.heap.size, 0, none⟩), .bool true, .int .u8 x, .bool kn, .int .u8 y, .bool kn, .tuple #[.agg #[.int .u8 (pk true qp), .int .u32 (pk true qs), .int .u32 (pk true qd), .int .u16 (pk true qsp), .int .u16 (pk true qdp)], .bool true], .agg F, .tuple #[.agg #[.int .u8 (pk true qp), .int .u32 (pk true qs), .int .u32 (pk true qd), .int .u16 (pk true qsp), .int .u16 (pk true qdp)], .bool true], .agg #[.int .u8 (pk true qp), .int .u32 (pk true qs), .int .u32 (pk true qd), .int .u16 (pk true qsp), .int .u16 (pk true qdp)], .bool true, .bool true, .bool false, .bool false, .int .u8 side, .bool false, .bool false, .bool false, .int .u8 src, .bool false, .bool false, .tuple #[.int .u8 x, .bool kn], .agg #[.int .u8 p, .int .u32 s, .int .u32 d, .int .u16 sp, .int .u16 dp], .tuple #[.int .u8 x, .bool kn], .int .u8 x, .bool kn, .tuple #[.int .u8 y, .bool kn], .agg #[.int .u8 p, .int .u32 s, .int .u32 d, .int .u16 sp, .int .u16 dp], .tuple #[.int .u8 y, .bool kn], .int .u8 y, .bool kn, .pointer (some ⟨n0 + 1, 13, none⟩), .agg #[.int .u8 qp, .int .u32 qs, .int .u32 qd, .int .u16 qsp, .int .u16 qdp], .agg #[.int .u8 p, .int .u32 s, .int .u32 d, .int .u16 sp, .int .u16 dp], .bool true, .bool true, .pointer (some ⟨n0 + 1, 18, none⟩), .int .u8 qk, .int .u8 x, .bool false, .bool false, .bool false, undef, undef, undef, .bool false, v56, v57, v58, v59, v60, v61, v62, v63, v64, v65, v66, v67, v68, v69, undef, undef], []⟩ ∧ RqR V n0 p s d sp dp qp qs qd qsp qdp qk y src side b4 b5 D v56 v57 v58 v59 v60 v61 v62 v63 v64 v65 v66 v67 v68 v69 w') (by kernel_rfl) (by kernel_rfl) ⟨undef, undef, undef, undef, undef, undef, undef, undef, undef, undef, undef, undef, undef, undef, rfl, RqR.zero V n0 p s d sp dp qp qs qd qsp qdp qk y src side b4 b5 (undef) (undef) (undef) (undef) (undef) (undef) (undef) (undef) (undef) (undef) (undef) (undef) (undef) (undef)⟩ ?_ ?_
            · simp only [List.take_succ_cons, List.take_zero]
              refine ⟨?_, ?_, ?_, ?_, ?_, ?_, ?_, ?_, ?_, ?_, ?_, ?_, ?_, ?_, trivial⟩
              · intro D A w' hn hp hI
                obtain ⟨v56, v57, v58, v59, v60, v61, v62, v63, v64, v65, v66, v67, v68, v69, rfl, hR⟩ := hI
                clear hn hp
                go_wp2_with fail
                exact ⟨_, _, _, _, _, _, _, _, _, _, _, _, _, _, rfl, hR.s0 (Below.refl _ _)⟩
              · intro D A w' hn hp hI
                obtain ⟨v56, v57, v58, v59, v60, v61, v62, v63, v64, v65, v66, v67, v68, v69, rfl, hR⟩ := hI
                obtain rfl := hR.e0 hp.1
                have c0 := kc hR.b f0
                have c1 := kc hR.b f1
                have c2 := kc hR.b f2
                have c3 := kc hR.b f3
                have c4 := kc hR.b f4
                clear hn hp
                go_wp2_with fail
                exact ⟨_, _, _, _, _, _, _, _, _, _, _, _, _, _, rfl, hR.s1 (Below.refl _ _)⟩
              · intro D A w' hn hp hI
                obtain ⟨v56, v57, v58, v59, v60, v61, v62, v63, v64, v65, v66, v67, v68, v69, rfl, hR⟩ := hI
                have c0 := kc hR.b x0
                have c1 := kc hR.b x1
                have c2 := kc hR.b x2
                have c3 := kc hR.b x3
                have c4 := kc hR.b x4
                clear hn hp
                go_wp2_with fail
                exact ⟨_, _, _, _, _, _, _, _, _, _, _, _, _, _, rfl, hR.s2 (Below.refl _ _)⟩
              · intro D A w' hn hp hI
                obtain ⟨v56, v57, v58, v59, v60, v61, v62, v63, v64, v65, v66, v67, v68, v69, rfl, hR⟩ := hI
                obtain rfl := hR.e2 hp.1
                clear hn hp
                go_wp2_with fail
                refine (rturn_below _ _ _ _ _ _).mono ?_
                rintro e w'' ⟨rfl, hb⟩
                go_wp2_with fail
                exact ⟨_, _, _, _, _, _, _, _, _, _, _, _, _, _, rfl, hR.s3 hb⟩
              · intro D A w' hn hp hI
                obtain ⟨v56, v57, v58, v59, v60, v61, v62, v63, v64, v65, v66, v67, v68, v69, rfl, hR⟩ := hI
                obtain rfl := hR.e1 hp.1
                obtain rfl := hR.e3 hp.2.1
                have E := HE2.out
                clear hn hp
                go_wp2_with fail
                exact ⟨_, _, _, _, _, _, _, _, _, _, _, _, _, _, rfl, hR.s4 (Below.refl _ _)⟩
              · intro D A w' hn hp hI
                obtain ⟨v56, v57, v58, v59, v60, v61, v62, v63, v64, v65, v66, v67, v68, v69, rfl, hR⟩ := hI
                obtain rfl := hR.e4 hp.1
                clear hn hp
                go_wp2_with fail
                exact ⟨_, _, _, _, _, _, _, _, _, _, _, _, _, _, rfl, hR.s5 (Below.refl _ _)⟩
              · intro D A w' hn hp hI
                obtain ⟨v56, v57, v58, v59, v60, v61, v62, v63, v64, v65, v66, v67, v68, v69, rfl, hR⟩ := hI
                obtain rfl := hR.e5 hp.1
                clear hn hp
                cases b4
                all_goals
                  try simp only [gv, if_true, Bool.false_eq_true, if_false, Bool.true_and, Bool.false_and, Bool.and_true, Bool.and_false]
                  go_wp2_with fail
                  exact ⟨_, _, _, _, _, _, _, _, _, _, _, _, _, _, rfl, hR.s6 (Below.refl _ _)⟩
              · intro D A w' hn hp hI
                obtain ⟨v56, v57, v58, v59, v60, v61, v62, v63, v64, v65, v66, v67, v68, v69, rfl, hR⟩ := hI
                obtain rfl := hR.e6 hp.1
                obtain rfl := hR.e5 hp.2.1
                have c := kc hR.b f5
                clear hn hp
                cases b4
                all_goals
                  try simp only [gv, if_true, Bool.false_eq_true, if_false, Bool.true_and, Bool.false_and, Bool.and_true, Bool.and_false]
                  go_wp2_with fail
                  exact ⟨_, _, _, _, _, _, _, _, _, _, _, _, _, _, rfl, hR.s7 (Below.refl _ _)⟩
              · intro D A w' hn hp hI
                obtain ⟨v56, v57, v58, v59, v60, v61, v62, v63, v64, v65, v66, v67, v68, v69, rfl, hR⟩ := hI
                obtain rfl := hR.e5 hp.1
                clear hn hp
                cases b4
                all_goals
                  try simp only [gv, if_true, Bool.false_eq_true, if_false, Bool.true_and, Bool.false_and, Bool.and_true, Bool.and_false]
                  go_wp2_with fail
                  exact ⟨_, _, _, _, _, _, _, _, _, _, _, _, _, _, rfl, hR.s8 (Below.refl _ _)⟩
              · intro D A w' hn hp hI
                obtain ⟨v56, v57, v58, v59, v60, v61, v62, v63, v64, v65, v66, v67, v68, v69, rfl, hR⟩ := hI
                obtain rfl := hR.e7 hp.1
                obtain rfl := hR.e8 hp.2.1
                obtain rfl := hR.e5 hp.2.2.1
                have h5 := HB5.out
                clear hn hp
                cases b4
                all_goals
                  try simp only [gv, if_true, Bool.false_eq_true, if_false, Bool.true_and, Bool.false_and, Bool.and_true, Bool.and_false]
                  go_wp2_with fail
                  exact ⟨_, _, _, _, _, _, _, _, _, _, _, _, _, _, rfl, hR.s9 (Below.refl _ _)⟩
              · intro D A w' hn hp hI
                obtain ⟨v56, v57, v58, v59, v60, v61, v62, v63, v64, v65, v66, v67, v68, v69, rfl, hR⟩ := hI
                obtain rfl := hR.e5 hp.1
                obtain rfl := hR.e9 hp.2.1
                clear hn hp
                cases b4
                all_goals
                  try simp only [gv, if_true, Bool.false_eq_true, if_false, Bool.true_and, Bool.false_and, Bool.and_true, Bool.and_false]
                  go_wp2_with fail
                  exact ⟨_, _, _, _, _, _, _, _, _, _, _, _, _, _, rfl, hR.s10 (Below.refl _ _)⟩
              · intro D A w' hn hp hI
                obtain ⟨v56, v57, v58, v59, v60, v61, v62, v63, v64, v65, v66, v67, v68, v69, rfl, hR⟩ := hI
                obtain rfl := hR.e10 hp.1
                clear hn hp
                go_wp2_with fail
                exact ⟨_, _, _, _, _, _, _, _, _, _, _, _, _, _, rfl, hR.s11 (Below.refl _ _)⟩
              · intro D A w' hn hp hI
                obtain ⟨v56, v57, v58, v59, v60, v61, v62, v63, v64, v65, v66, v67, v68, v69, rfl, hR⟩ := hI
                obtain rfl := hR.e11 hp.1
                clear hn hp
                cases b4 <;> cases b5
                all_goals
                  try simp only [gv, if_true, Bool.false_eq_true, if_false, Bool.true_and, Bool.false_and, Bool.and_true, Bool.and_false]
                  go_wp2_with fail
                  exact ⟨_, _, _, _, _, _, _, _, _, _, _, _, _, _, rfl, hR.s12 (Below.refl _ _)⟩
              · intro D A w' hn hp hI
                obtain ⟨v56, v57, v58, v59, v60, v61, v62, v63, v64, v65, v66, v67, v68, v69, rfl, hR⟩ := hI
                obtain rfl := hR.e11 hp.1
                clear hn hp
                cases b4 <;> cases b5
                all_goals
                  try simp only [gv, if_true, Bool.false_eq_true, if_false, Bool.true_and, Bool.false_and, Bool.and_true, Bool.and_false]
                  go_wp2_with fail
                  exact ⟨_, _, _, _, _, _, _, _, _, _, _, _, _, _, rfl, hR.s13 (Below.refl _ _)⟩
            intro D A w' hD hI
            obtain ⟨v56, v57, v58, v59, v60, v61, v62, v63, v64, v65, v66, v67, v68, v69, rfl, hR⟩ := hI
            obtain rfl := hR.e0 (hD 0 (by decide))
            obtain rfl := hR.e1 (hD 1 (by decide))
            obtain rfl := hR.e2 (hD 2 (by decide))
            obtain rfl := hR.e3 (hD 3 (by decide))
            obtain rfl := hR.e4 (hD 4 (by decide))
            obtain rfl := hR.e5 (hD 5 (by decide))
            obtain rfl := hR.e6 (hD 6 (by decide))
            obtain rfl := hR.e7 (hD 7 (by decide))
            obtain rfl := hR.e8 (hD 8 (by decide))
            obtain rfl := hR.e9 (hD 9 (by decide))
            obtain rfl := hR.e10 (hD 10 (by decide))
            obtain rfl := hR.e11 (hD 11 (by decide))
            obtain rfl := hR.e12 (hD 12 (by decide))
            obtain rfl := hR.e13 (hD 13 (by decide))
            have hB' := bthen hB hR.b
            rw [ha] at hB'
            have h6 := HB6.out
            clear hD hR hB
            simp only [List.drop_succ_cons, List.drop_zero]
            cases b4 <;> cases b5 <;> cases b6
            all_goals
              obtain rfl := HQ1.out
              try simp only [gv, if_true, Bool.false_eq_true, if_false, Bool.true_and, Bool.false_and, Bool.and_true, Bool.and_false]
              go_wp2_with fail
              go_ret2
              exact ⟨rfl, hB'⟩
          · cases b3 : src != side
            · simp only [b3, Bool.and_false, Bool.false_eq_true, if_false] at hq1
              go_enter Tryd.func25, Tryd.ntmps25
              go_wp2_with (refine wpList_load_wide 29 _ rfl (by rfl) _ _ rfl F _ Tryd.underlying29 rfl Hsz.out ?_ ?_; (· (repeat (first | (refine range_new' _ _ _ _ ?_; first | rfl | (simp; done)) | refine World.rangeAt_alloc ?_ _))))
              refine (HL.out _).mono ?_
              rintro e w2 ⟨rfl, hb⟩
              have x0 : w2.cell? ⟨w.heap.size, 0, none⟩ = some (.int .u8 p) := (hb.cell (p := ⟨w.heap.size, 0, none⟩) (by simp; omega)).trans (by simp [go_sem])
              have x1 : w2.cell? ⟨w.heap.size, 1, none⟩ = some (.int .u32 s) := (hb.cell (p := ⟨w.heap.size, 1, none⟩) (by simp; omega)).trans (by simp [go_sem])
              have x2 : w2.cell? ⟨w.heap.size, 2, none⟩ = some (.int .u32 d) := (hb.cell (p := ⟨w.heap.size, 2, none⟩) (by simp; omega)).trans (by simp [go_sem])
              have x3 : w2.cell? ⟨w.heap.size, 3, none⟩ = some (.int .u16 sp) := (hb.cell (p := ⟨w.heap.size, 3, none⟩) (by simp; omega)).trans (by simp [go_sem])
              have x4 : w2.cell? ⟨w.heap.size, 4, none⟩ = some (.int .u16 dp) := (hb.cell (p := ⟨w.heap.size, 4, none⟩) (by simp; omega)).trans (by simp [go_sem])
              have f0 : w2.cell? ⟨w.heap.size + 1, 13, none⟩ = some (.int .u8 qp) := (hb.cell (p := ⟨w.heap.size + 1, 13, none⟩) (by simp)).trans (by simp [go_sem, g13])
              have f1 : w2.cell? ⟨w.heap.size + 1, 14, none⟩ = some (.int .u32 qs) := (hb.cell (p := ⟨w.heap.size + 1, 14, none⟩) (by simp)).trans (by simp [go_sem, g14])
              have f2 : w2.cell? ⟨w.heap.size + 1, 15, none⟩ = some (.int .u32 qd) := (hb.cell (p := ⟨w.heap.size + 1, 15, none⟩) (by simp)).trans (by simp [go_sem, g15])
              have f3 : w2.cell? ⟨w.heap.size + 1, 16, none⟩ = some (.int .u16 qsp) := (hb.cell (p := ⟨w.heap.size + 1, 16, none⟩) (by simp)).trans (by simp [go_sem, g16])
              have f4 : w2.cell? ⟨w.heap.size + 1, 17, none⟩ = some (.int .u16 qdp) := (hb.cell (p := ⟨w.heap.size + 1, 17, none⟩) (by simp)).trans (by simp [go_sem, g17])
              have f5 : w2.cell? ⟨w.heap.size + 1, 18, none⟩ = some (.int .u8 qk) := (hb.cell (p := ⟨w.heap.size + 1, 18, none⟩) (by simp)).trans (by simp [go_sem, g18])
              have hz0 : w.heap.size < w2.heap.size := by have := hb.size; simp at this; omega
              have hz1 : w.heap.size + 1 < w2.heap.size := by have := hb.size; simp at this; omega
              have hB : Below w.heap.size w w2 := bthen (by (repeat' (first | exact Below.refl _ _ | refine Below.setCell ?_ (by first | omega | (simp; done) | (simp; omega)) _ | refine Below.alloc ?_ (by first | omega | (simp; done) | (simp; omega)) _))) hb
              clear hb HL
              go_wp2_with fail
              refine (K0.out _).mono ?_
              rintro e w' ⟨rfl, rfl⟩
              go_wp2_with fail
              refine (K1.out _).mono ?_
              rintro e w' ⟨rfl, rfl⟩
              obtain ⟨V, hV⟩ : ∃ V, (((w2.alloc (.cells #[.int .u8 (pk true qp), .int .u32 (pk true qs), .int .u32 (pk true qd), .int .u16 (pk true qsp), .int .u16 (pk true qdp)] 25)).alloc (.cells #[.int .u8 p, .int .u32 s, .int .u32 d, .int .u16 sp, .int .u16 dp] 25)).alloc (.cells #[.int .u8 p, .int .u32 s, .int .u32 d, .int .u16 sp, .int .u16 dp] 25)) = V := ⟨_, rfl⟩
              have hbV : Below w2.heap.size w2 V := by
                rw [← hV]
                (repeat' (first | exact Below.refl _ _ | refine Below.setCell ?_ (by first | omega | (simp; done) | (simp; omega)) _ | refine Below.alloc ?_ (by first | omega | (simp; done) | (simp; omega)) _))
              replace x0 := (hbV.cell (p := ⟨w.heap.size, 0, none⟩) hz0).trans x0
              replace x1 := (hbV.cell (p := ⟨w.heap.size, 1, none⟩) hz0).trans x1
              replace x2 := (hbV.cell (p := ⟨w.heap.size, 2, none⟩) hz0).trans x2
              replace x3 := (hbV.cell (p := ⟨w.heap.size, 3, none⟩) hz0).trans x3
              replace x4 := (hbV.cell (p := ⟨w.heap.size, 4, none⟩) hz0).trans x4
              replace f0 := (hbV.cell (p := ⟨w.heap.size + 1, 13, none⟩) hz1).trans f0
              replace f1 := (hbV.cell (p := ⟨w.heap.size + 1, 14, none⟩) hz1).trans f1
              replace f2 := (hbV.cell (p := ⟨w.heap.size + 1, 15, none⟩) hz1).trans f2
              replace f3 := (hbV.cell (p := ⟨w.heap.size + 1, 16, none⟩) hz1).trans f3
              replace f4 := (hbV.cell (p := ⟨w.heap.size + 1, 17, none⟩) hz1).trans f4
              replace f5 := (hbV.cell (p := ⟨w.heap.size + 1, 18, none⟩) hz1).trans f5
              replace hB := bthen hB hbV
              replace hz0 := Nat.lt_of_lt_of_le hz0 hbV.size
              replace hz1 := Nat.lt_of_lt_of_le hz1 hbV.size
              have hzz := hB.size
              rw [hV]
              clear hV hbV
              go_wp2_with fail
              obtain ⟨n0, ha⟩ : ∃ n, w.heap.size = n := ⟨_, rfl⟩
              rw [ha] at x0 x1 x2 x3 x4 f0 f1 f2 f3 f4 f5 hz0 hz1
              obtain ⟨b5, hb5⟩ : ∃ b, (qk == y) = b := ⟨_, rfl⟩
              obtain ⟨b6, hb6⟩ : ∃ b, (src == side) = b := ⟨_, rfl⟩
              rw [hb5, hb6] at hq1
              have HB5 := Lib.hid hb5
              have HB6 := Lib.hid hb6
              have HQ1 := Lib.hid hq1
              have HE2 := Lib.hid E2
              clear hb5 hb6 hq1 E2 E1 K0 K1
              rw [ha]
              refine wp_region_steps 14 [[], [0], [], [2], [1, 3], [4], [5], [6, 5], [5], [7, 8, 5], [5, 9], [10], [11], [11]] (fun D a w' => ∃ v56 v57 v58 v59 v60 v61 v62 v63 v64 v65 v66 v67 v68 v69 : Value, a = ⟨#[.agg #[.int .u8 p, .int .u32 s, .int .u32 d, .int .u16 sp, .int .u16 dp], .int .u8 side, .agg F, .int .u8 src, .pointer (some ⟨n0, 0, none⟩), undef, .pointer (some ⟨n0 + 1, 0, none⟩), undef, .int .u8 0, .bool false, .pointer (some ⟨w2.heap.size, 0, none⟩), .bool true, .int .u8 x, .bool kn, .int .u8 y, .bool kn, .tuple #[.agg #[.int .u8 (pk true qp), .int .u32 (pk true qs), .int .u32 (pk true qd), .int .u16 (pk true qsp), .int .u16 (pk true qdp)], .bool true], .agg F, .tuple #[.agg #[.int .u8 (pk true qp), .int .u32 (pk true qs), .int .u32 (pk true qd), .int .u16 (pk true qsp), .int .u16 (pk true qdp)], .bool true], .agg #[.int .u8 (pk true qp), .int .u32 (pk true qs), .int .u32 (pk true qd), .int .u16 (pk true qsp), .int .u16 (pk true qdp)], .bool true, .bool true, .bool false, .bool false, .int .u8 side, .bool false, .bool false, .bool false, .int .u8 src, .bool false, .bool false, .tuple #[.int .u8 x, .bool kn], .agg #[.int .u8 p, .int .u32 s, .int .u32 d, .int .u16 sp, .int .u16 dp], .tuple #[.int .u8 x, .bool kn], .int .u8 x, .bool kn, .tuple #[.int .u8 y, .bool kn], .agg #[.int .u8 p, .int .u32 s, .int .u32 d, .int .u16 sp, .int .u16 dp], .tuple #[.int .u8 y, .bool kn], .int .u8 y, .bool kn, .pointer (some ⟨n0 + 1, 13, none⟩), .agg #[.int .u8 qp, .int .u32 qs, .int .u32 qd, .int .u16 qsp, .int .u16 qdp], .agg #[.int .u8 p, .int .u32 s, .int .u32 d, .int .u16 sp, .int .u16 dp], .bool true, .bool true, .pointer (some ⟨n0 + 1, 18, none⟩), .int .u8 qk, .int .u8 x, .bool true, .bool true, .bool true, .int .u8 src, .int .u8 side, .bool false, .bool false, v56, v57, v58, v59, v60, v61, v62, v63, v64, v65, v66, v67, v68, v69, undef, undef], []⟩ ∧ RqR V n0 p s d sp dp qp qs qd qsp qdp qk y src side b4 b5 D v56 v57 v58 v59 v60 v61 v62 v63 v64 v65 v66 v67 v68 v69 w') (by kernel_rfl) (by kernel_rfl) ⟨undef, undef, undef, undef, undef, undef, undef, undef, undef, undef, undef, undef, undef, undef, rfl, RqR.zero V n0 p s d sp dp qp qs qd qsp qdp qk y src side b4 b5 (undef) (undef) (undef) (undef) (undef) (undef) (undef) (undef) (undef) (undef) (undef) (undef) (undef) (undef)⟩ ?_ ?_
              · simp only [List.take_succ_cons, List.take_zero]
                refine ⟨?_, ?_, ?_, ?_, ?_, ?_, ?_, ?_, ?_, ?_, ?_, ?_, ?_, ?_, trivial⟩
                · intro D A w' hn hp hI
                  obtain ⟨v56, v57, v58, v59, v60, v61, v62, v63, v64, v65, v66, v67, v68, v69, rfl, hR⟩ := hI
                  clear hn hp
                  go_wp2_with fail
                  exact ⟨_, _, _, _, _, _, _, _, _, _, _, _, _, _, rfl, hR.s0 (Below.refl _ _)⟩
                · intro D A w' hn hp hI
                  obtain ⟨v56, v57, v58, v59, v60, v61, v62, v63, v64, v65, v66, v67, v68, v69, rfl, hR⟩ := hI
                  obtain rfl := hR.e0 hp.1
                  have c0 := kc hR.b f0
                  have c1 := kc hR.b f1
                  have c2 := kc hR.b f2
                  have c3 := kc hR.b f3
                  have c4 := kc hR.b f4
                  clear hn hp
                  go_wp2_with fail
                  exact ⟨_, _, _, _, _, _, _, _, _, _, _, _, _, _, rfl, hR.s1 (Below.refl _ _)⟩
                · intro D A w' hn hp hI
                  obtain ⟨v56, v57, v58, v59, v60, v61, v62, v63, v64, v65, v66, v67, v68, v69, rfl, hR⟩ := hI
                  have c0 := kc hR.b x0
                  have c1 := kc hR.b x1
                  have c2 := kc hR.b x2
                  have c3 := kc hR.b x3
                  have c4 := kc hR.b x4
                  clear hn hp
                  go_wp2_with fail
                  exact ⟨_, _, _, _, _, _, _, _, _, _, _, _, _, _, rfl, hR.s2 (Below.refl _ _)⟩
                · intro D A w' hn hp hI
                  obtain ⟨v56, v57, v58, v59, v60, v61, v62, v63, v64, v65, v66, v67, v68, v69, rfl, hR⟩ := hI
                  obtain rfl := hR.e2 hp.1
                  clear hn hp
                  go_wp2_with fail
                  refine (rturn_below _ _ _ _ _ _).mono ?_
                  rintro e w'' ⟨rfl, hb⟩
                  go_wp2_with fail
                  exact ⟨_, _, _, _, _, _, _, _, _, _, _, _, _, _, rfl, hR.s3 hb⟩
                · intro D A w' hn hp hI
                  obtain ⟨v56, v57, v58, v59, v60, v61, v62, v63, v64, v65, v66, v67, v68, v69, rfl, hR⟩ := hI
                  obtain rfl := hR.e1 hp.1
                  obtain rfl := hR.e3 hp.2.1
                  have E := HE2.out
                  clear hn hp
                  go_wp2_with fail
                  exact ⟨_, _, _, _, _, _, _, _, _, _, _, _, _, _, rfl, hR.s4 (Below.refl _ _)⟩
                · intro D A w' hn hp hI
                  obtain ⟨v56, v57, v58, v59, v60, v61, v62, v63, v64, v65, v66, v67, v68, v69, rfl, hR⟩ := hI
                  obtain rfl := hR.e4 hp.1
                  clear hn hp
                  go_wp2_with fail
                  exact ⟨_, _, _, _, _, _, _, _, _, _, _, _, _, _, rfl, hR.s5 (Below.refl _ _)⟩
                · intro D A w' hn hp hI
                  obtain ⟨v56, v57, v58, v59, v60, v61, v62, v63, v64, v65, v66, v67, v68, v69, rfl, hR⟩ := hI
                  obtain rfl := hR.e5 hp.1
                  clear hn hp
                  cases b4
                  all_goals
                    try simp only [gv, if_true, Bool.false_eq_true, if_false, Bool.true_and, Bool.false_and, Bool.and_true, Bool.and_false]
                    go_wp2_with fail
                    exact ⟨_, _, _, _, _, _, _, _, _, _, _, _, _, _, rfl, hR.s6 (Below.refl _ _)⟩
                · intro D A w' hn hp hI
                  obtain ⟨v56, v57, v58, v59, v60, v61, v62, v63, v64, v65, v66, v67, v68, v69, rfl, hR⟩ := hI
                  obtain rfl := hR.e6 hp.1
                  obtain rfl := hR.e5 hp.2.1
                  have c := kc hR.b f5
                  clear hn hp
                  cases b4
                  all_goals
                    try simp only [gv, if_true, Bool.false_eq_true, if_false, Bool.true_and, Bool.false_and, Bool.and_true, Bool.and_false]
                    go_wp2_with fail
                    exact ⟨_, _, _, _, _, _, _, _, _, _, _, _, _, _, rfl, hR.s7 (Below.refl _ _)⟩
                · intro D A w' hn hp hI
                  obtain ⟨v56, v57, v58, v59, v60, v61, v62, v63, v64, v65, v66, v67, v68, v69, rfl, hR⟩ := hI
                  obtain rfl := hR.e5 hp.1
                  clear hn hp
                  cases b4
                  all_goals
                    try simp only [gv, if_true, Bool.false_eq_true, if_false, Bool.true_and, Bool.false_and, Bool.and_true, Bool.and_false]
                    go_wp2_with fail
                    exact ⟨_, _, _, _, _, _, _, _, _, _, _, _, _, _, rfl, hR.s8 (Below.refl _ _)⟩
                · intro D A w' hn hp hI
                  obtain ⟨v56, v57, v58, v59, v60, v61, v62, v63, v64, v65, v66, v67, v68, v69, rfl, hR⟩ := hI
                  obtain rfl := hR.e7 hp.1
                  obtain rfl := hR.e8 hp.2.1
                  obtain rfl := hR.e5 hp.2.2.1
                  have h5 := HB5.out
                  clear hn hp
                  cases b4
                  all_goals
                    try simp only [gv, if_true, Bool.false_eq_true, if_false, Bool.true_and, Bool.false_and, Bool.and_true, Bool.and_false]
                    go_wp2_with fail
                    exact ⟨_, _, _, _, _, _, _, _, _, _, _, _, _, _, rfl, hR.s9 (Below.refl _ _)⟩
                · intro D A w' hn hp hI
                  obtain ⟨v56, v57, v58, v59, v60, v61, v62, v63, v64, v65, v66, v67, v68, v69, rfl, hR⟩ := hI
                  obtain rfl := hR.e5 hp.1
                  obtain rfl := hR.e9 hp.2.1
                  clear hn hp
                  cases b4
                  all_goals
                    try simp only [gv, if_true, Bool.false_eq_true, if_false, Bool.true_and, Bool.false_and, Bool.and_true, Bool.and_false]
                    go_wp2_with fail
                    exact ⟨_, _, _, _, _, _, _, _, _, _, _, _, _, _, rfl, hR.s10 (Below.refl _ _)⟩
                · intro D A w' hn hp hI
                  obtain ⟨v56, v57, v58, v59, v60, v61, v62, v63, v64, v65, v66, v67, v68, v69, rfl, hR⟩ := hI
                  obtain rfl := hR.e10 hp.1
                  clear hn hp
                  go_wp2_with fail
                  exact ⟨_, _, _, _, _, _, _, _, _, _, _, _, _, _, rfl, hR.s11 (Below.refl _ _)⟩
                · intro D A w' hn hp hI
                  obtain ⟨v56, v57, v58, v59, v60, v61, v62, v63, v64, v65, v66, v67, v68, v69, rfl, hR⟩ := hI
                  obtain rfl := hR.e11 hp.1
                  clear hn hp
                  cases b4 <;> cases b5
                  all_goals
                    try simp only [gv, if_true, Bool.false_eq_true, if_false, Bool.true_and, Bool.false_and, Bool.and_true, Bool.and_false]
                    go_wp2_with fail
                    exact ⟨_, _, _, _, _, _, _, _, _, _, _, _, _, _, rfl, hR.s12 (Below.refl _ _)⟩
                · intro D A w' hn hp hI
                  obtain ⟨v56, v57, v58, v59, v60, v61, v62, v63, v64, v65, v66, v67, v68, v69, rfl, hR⟩ := hI
                  obtain rfl := hR.e11 hp.1
                  clear hn hp
                  cases b4 <;> cases b5
                  all_goals
                    try simp only [gv, if_true, Bool.false_eq_true, if_false, Bool.true_and, Bool.false_and, Bool.and_true, Bool.and_false]
                    go_wp2_with fail
                    exact ⟨_, _, _, _, _, _, _, _, _, _, _, _, _, _, rfl, hR.s13 (Below.refl _ _)⟩
              intro D A w' hD hI
              obtain ⟨v56, v57, v58, v59, v60, v61, v62, v63, v64, v65, v66, v67, v68, v69, rfl, hR⟩ := hI
              obtain rfl := hR.e0 (hD 0 (by decide))
              obtain rfl := hR.e1 (hD 1 (by decide))
              obtain rfl := hR.e2 (hD 2 (by decide))
              obtain rfl := hR.e3 (hD 3 (by decide))
              obtain rfl := hR.e4 (hD 4 (by decide))
              obtain rfl := hR.e5 (hD 5 (by decide))
              obtain rfl := hR.e6 (hD 6 (by decide))
              obtain rfl := hR.e7 (hD 7 (by decide))
              obtain rfl := hR.e8 (hD 8 (by decide))
              obtain rfl := hR.e9 (hD 9 (by decide))
              obtain rfl := hR.e10 (hD 10 (by decide))
              obtain rfl := hR.e11 (hD 11 (by decide))
              obtain rfl := hR.e12 (hD 12 (by decide))
              obtain rfl := hR.e13 (hD 13 (by decide))
              have hB' := bthen hB hR.b
              rw [ha] at hB'
              have h6 := HB6.out
              clear hD hR hB
              simp only [List.drop_succ_cons, List.drop_zero]
              cases b4 <;> cases b5 <;> cases b6
              all_goals
                obtain rfl := HQ1.out
                try simp only [gv, if_true, Bool.false_eq_true, if_false, Bool.true_and, Bool.false_and, Bool.and_true, Bool.and_false]
                go_wp2_with fail
                go_ret2
                exact ⟨rfl, hB'⟩
            · obtain rfl : Q = (0, true) := by rw [hq1]; simp [*]
              clear hq1
              go_enter Tryd.func25, Tryd.ntmps25
              go_wp2_with (refine wpList_load_wide 29 _ rfl (by rfl) _ _ rfl F _ Tryd.underlying29 rfl Hsz.out ?_ ?_; (· (repeat (first | (refine range_new' _ _ _ _ ?_; first | rfl | (simp; done)) | refine World.rangeAt_alloc ?_ _))))
              refine (HL.out _).mono ?_
              rintro e w2 ⟨rfl, hb⟩
              have x0 : w2.cell? ⟨w.heap.size, 0, none⟩ = some (.int .u8 p) := (hb.cell (p := ⟨w.heap.size, 0, none⟩) (by simp; omega)).trans (by simp [go_sem])
              have x1 : w2.cell? ⟨w.heap.size, 1, none⟩ = some (.int .u32 s) := (hb.cell (p := ⟨w.heap.size, 1, none⟩) (by simp; omega)).trans (by simp [go_sem])
              have x2 : w2.cell? ⟨w.heap.size, 2, none⟩ = some (.int .u32 d) := (hb.cell (p := ⟨w.heap.size, 2, none⟩) (by simp; omega)).trans (by simp [go_sem])
              have x3 : w2.cell? ⟨w.heap.size, 3, none⟩ = some (.int .u16 sp) := (hb.cell (p := ⟨w.heap.size, 3, none⟩) (by simp; omega)).trans (by simp [go_sem])
              have x4 : w2.cell? ⟨w.heap.size, 4, none⟩ = some (.int .u16 dp) := (hb.cell (p := ⟨w.heap.size, 4, none⟩) (by simp; omega)).trans (by simp [go_sem])
              have f0 : w2.cell? ⟨w.heap.size + 1, 13, none⟩ = some (.int .u8 qp) := (hb.cell (p := ⟨w.heap.size + 1, 13, none⟩) (by simp)).trans (by simp [go_sem, g13])
              have f1 : w2.cell? ⟨w.heap.size + 1, 14, none⟩ = some (.int .u32 qs) := (hb.cell (p := ⟨w.heap.size + 1, 14, none⟩) (by simp)).trans (by simp [go_sem, g14])
              have f2 : w2.cell? ⟨w.heap.size + 1, 15, none⟩ = some (.int .u32 qd) := (hb.cell (p := ⟨w.heap.size + 1, 15, none⟩) (by simp)).trans (by simp [go_sem, g15])
              have f3 : w2.cell? ⟨w.heap.size + 1, 16, none⟩ = some (.int .u16 qsp) := (hb.cell (p := ⟨w.heap.size + 1, 16, none⟩) (by simp)).trans (by simp [go_sem, g16])
              have f4 : w2.cell? ⟨w.heap.size + 1, 17, none⟩ = some (.int .u16 qdp) := (hb.cell (p := ⟨w.heap.size + 1, 17, none⟩) (by simp)).trans (by simp [go_sem, g17])
              have f5 : w2.cell? ⟨w.heap.size + 1, 18, none⟩ = some (.int .u8 qk) := (hb.cell (p := ⟨w.heap.size + 1, 18, none⟩) (by simp)).trans (by simp [go_sem, g18])
              have hz0 : w.heap.size < w2.heap.size := by have := hb.size; simp at this; omega
              have hz1 : w.heap.size + 1 < w2.heap.size := by have := hb.size; simp at this; omega
              have hB : Below w.heap.size w w2 := bthen (by (repeat' (first | exact Below.refl _ _ | refine Below.setCell ?_ (by first | omega | (simp; done) | (simp; omega)) _ | refine Below.alloc ?_ (by first | omega | (simp; done) | (simp; omega)) _))) hb
              clear hb HL
              go_wp2_with fail
              refine (K0.out _).mono ?_
              rintro e w' ⟨rfl, rfl⟩
              go_wp2_with fail
              refine (K1.out _).mono ?_
              rintro e w' ⟨rfl, rfl⟩
              obtain ⟨V, hV⟩ : ∃ V, (((w2.alloc (.cells #[.int .u8 (pk true qp), .int .u32 (pk true qs), .int .u32 (pk true qd), .int .u16 (pk true qsp), .int .u16 (pk true qdp)] 25)).alloc (.cells #[.int .u8 p, .int .u32 s, .int .u32 d, .int .u16 sp, .int .u16 dp] 25)).alloc (.cells #[.int .u8 p, .int .u32 s, .int .u32 d, .int .u16 sp, .int .u16 dp] 25)) = V := ⟨_, rfl⟩
              have hbV : Below w2.heap.size w2 V := by
                rw [← hV]
                (repeat' (first | exact Below.refl _ _ | refine Below.setCell ?_ (by first | omega | (simp; done) | (simp; omega)) _ | refine Below.alloc ?_ (by first | omega | (simp; done) | (simp; omega)) _))
              replace x0 := (hbV.cell (p := ⟨w.heap.size, 0, none⟩) hz0).trans x0
              replace x1 := (hbV.cell (p := ⟨w.heap.size, 1, none⟩) hz0).trans x1
              replace x2 := (hbV.cell (p := ⟨w.heap.size, 2, none⟩) hz0).trans x2
              replace x3 := (hbV.cell (p := ⟨w.heap.size, 3, none⟩) hz0).trans x3
              replace x4 := (hbV.cell (p := ⟨w.heap.size, 4, none⟩) hz0).trans x4
              replace f0 := (hbV.cell (p := ⟨w.heap.size + 1, 13, none⟩) hz1).trans f0
              replace f1 := (hbV.cell (p := ⟨w.heap.size + 1, 14, none⟩) hz1).trans f1
              replace f2 := (hbV.cell (p := ⟨w.heap.size + 1, 15, none⟩) hz1).trans f2
              replace f3 := (hbV.cell (p := ⟨w.heap.size + 1, 16, none⟩) hz1).trans f3
              replace f4 := (hbV.cell (p := ⟨w.heap.size + 1, 17, none⟩) hz1).trans f4
              replace f5 := (hbV.cell (p := ⟨w.heap.size + 1, 18, none⟩) hz1).trans f5
              replace hB := bthen hB hbV
              replace hz0 := Nat.lt_of_lt_of_le hz0 hbV.size
              replace hz1 := Nat.lt_of_lt_of_le hz1 hbV.size
              have hzz := hB.size
              rw [hV]
              clear hV hbV
              go_wp2_with fail
              go_ret2
              exact ⟨rfl, by (repeat' (first | with_reducible exact hB | refine Below.setCell ?_ (by first | omega | (simp; done) | (simp; omega)) _ | refine Below.alloc ?_ (by first | omega | (simp; done) | (simp; omega)) _))⟩

end Go.Proofs.YtapeminpgojeaaaDoor

/-
  The walk of WindowWide: a side that has acknowledged believes a RST just with the sequence numbers of its window.
-/
import Derived.Test.YtchephpmkommfaaArgs
import Derived.Great.BuildSlice
namespace Go.Proofs.Ytchephpmkommfaa
open Go.RowKit
set_option linter.unusedVariables false
set_option linter.unusedSimpArgs false

/-- A struct literal, its value said. -/
theorem wpList_buildSaid {P : Program} {ops : Array Oper} {rest : List Oper} {o : Oper} {a : Act} {w : World} {Q : Exit → Act → World → Prop} (hg : o.guard = none) (t : TypeId) (parts : Array (Nat × Operand)) (ho : o.op = .build t parts)
    (vs : List (Nat × Value)) (d : Option Tmp) (hd : o.dst = d) (hp : (parts.map fun (i, x) => (i, a.eval x)).toList = vs) (cells : Array Value) (hf : P.built t vs = some cells)
    (h : wpList P ops Q rest (a.put d (.agg cells)) w) : wpList P ops Q (o :: rest) a w :=
  wpList_buildTo hg t parts ho d hd cells (by rw [hp]; exact hf) h
theorem built_ack (a z : Int) : Try.prog.built 34 [(2, .int .u8 16), (6, .int .u32 a), (7, .int .i64 z)] = some (pk 16 0 a z 0) := by kernel_rfl
theorem built_seq (s : Int) : Try.prog.built 34 [(2, .int .u8 4), (5, .int .u32 s)] = some (pk 4 s 0 0 0) := by kernel_rfl
/-- A side that has acknowledged. -/
def sW (ack size : Int) : Sd := ⟨true, true, 0, ack, size⟩
theorem see_ack (ack size : Int) : seeS sd0 16 0 ack size 0 = sW ack size := by
  have e : room 16 0 = 0 := by kernel_rfl
  have b : (bits .and .u8 16 16 != 0) = true := by kernel_rfl
  simp [seeS, e, b, sW, sd0, nxt]
theorem bel_ack (ack size s : Int) : bel sd0 (sW ack size) 4 s 0 = wthn ack size s := by simp [bel, sW]
theorem fit_ack (ack size s : Int) (h : wthn ack size s = true) : fit (sW ack size) s = true := by simp [fit, sW, h]
theorem sW_wf (ack size : Int) (h : 0 ≤ ack ∧ ack ≤ 4294967295) : (sW ack size).wf := ⟨⟨Int.le_refl _, by simp [sW]⟩, h⟩
theorem trk_size (a b : Sd) : (trk a b).size = 10 := rfl
/-- The sequence numbers that are tried. -/
def seqL (ack W s : Int) : List (Int × Bool) := [(ack, true), ((ack + W - 1) % 4294967296, true), ((ack - 1) % 4294967296, false), ((ack + W) % 4294967296, false), (s, decide ((s - ack) % 4294967296 < W))]
theorem seq_all (w V : World) (P : Nat) (hP : w.heap.size = P) (ack size W s : Int) (ha : 0 ≤ ack ∧ ack ≤ 4294967295) (hz : 0 ≤ size ∧ size ≤ 65535) (hs : 0 ≤ s ∧ s ≤ 4294967295) (hW : max 1 size = W)
    (hV : w.alloc (.cells #[.int .u32 ack, .bool true, .int .u32 ((ack + W - 1) % 4294967296), .bool true, .int .u32 ((ack - 1) % 4294967296), .bool false, .int .u32 ((ack + W) % 4294967296), .bool false, .int .u32 s, .bool (decide ((s - ack) % 4294967296 < W))] 51) = V) :
    ∀ i, i < 5 → ∃ (x : Int) (r : Bool), (0 ≤ x ∧ x ≤ 4294967295) ∧ wthn ack size x = r ∧ V.cell? ⟨P, i * 2, none⟩ = some (.int .u32 x) ∧ V.cell? ⟨P, i * 2 + 1, none⟩ = some (.bool r) := by
  subst hP hV
  have hw : ∀ x, wthn ack size x = decide ((x - ack) % 4294967296 < W) := fun x => by rw [wthn, hW]; rfl
  intro i hi
  match i, hi with
  | 0, _ => exact ⟨ack, true, ha, by rw [hw]; simp; omega, by simp [go_sem], by simp [go_sem]⟩
  | 1, _ => exact ⟨(ack + W - 1) % 4294967296, true, by omega, by rw [hw]; simp; omega, by simp [go_sem], by simp [go_sem]⟩
  | 2, _ => exact ⟨(ack - 1) % 4294967296, false, by omega, by rw [hw]; simp; omega, by simp [go_sem], by simp [go_sem]⟩
  | 3, _ => exact ⟨(ack + W) % 4294967296, false, by omega, by rw [hw]; simp; omega, by simp [go_sem], by simp [go_sem]⟩
  | 4, _ => exact ⟨s, _, hs, hw s, by simp [go_sem], by simp [go_sem]⟩
structure Wi00 (w1 : World) (N : Nat) (T P : Array Value) (D : Nat → Prop) (v58 v59 v60 v61 v62 v63 v64 v65 v66 v67 v68 v69 v70 v71 v72 v73 v74 v75 v76 : Value) (w' : World) : Prop where
  b : Below w1.heap.size w1 w'
  e0 : D 0 → v58 = .agg T
  e1 : D 1 → v59 = .int .u8 0
  e2 : D 2 → v60 = .int .u8 1
  e3 : D 3 → v61 = .agg P
  e4 : D 4 → v62 = .bool false
  e5 : D 5 → v63 = .pointer (some ⟨N, 1, none⟩)
  e6 : D 6 → v64 = .bool false
  e7 : D 7 → v65 = .bool false
  e8 : D 8 → v66 = .bool false
  e9 : D 9 → v67 = .pointer (some ⟨N, 1, none⟩)
  e10 : D 10 → v68 = .bool false
  e11 : D 11 → v69 = .bool false
  e12 : D 12 → v70 = undef
  e13 : D 13 → v71 = undef
  e14 : D 14 → v72 = undef
  e15 : D 15 → v73 = undef
  e16 : D 16 → v74 = undef
  e17 : D 17 → v75 = undef
  e18 : D 18 → v76 = .bool false
theorem Wi00.s0 {w1 : World} {N : Nat} {T P : Array Value} {D : Nat → Prop} {v58 v59 v60 v61 v62 v63 v64 v65 v66 v67 v68 v69 v70 v71 v72 v73 v74 v75 v76 : Value} {w' w'' : World} (h : Wi00 w1 N T P D v58 v59 v60 v61 v62 v63 v64 v65 v66 v67 v68 v69 v70 v71 v72 v73 v74 v75 v76 w') (hb : Below w'.heap.size w' w'') : Wi00 w1 N T P (fun j => D j ∨ j = 0) (.agg T) v59 v60 v61 v62 v63 v64 v65 v66 v67 v68 v69 v70 v71 v72 v73 v74 v75 v76 w'' :=
  ⟨bthen h.b hb, fun _ => rfl, or_keep h.e1 (by decide), or_keep h.e2 (by decide), or_keep h.e3 (by decide), or_keep h.e4 (by decide), or_keep h.e5 (by decide), or_keep h.e6 (by decide), or_keep h.e7 (by decide), or_keep h.e8 (by decide), or_keep h.e9 (by decide), or_keep h.e10 (by decide), or_keep h.e11 (by decide), or_keep h.e12 (by decide), or_keep h.e13 (by decide), or_keep h.e14 (by decide), or_keep h.e15 (by decide), or_keep h.e16 (by decide), or_keep h.e17 (by decide), or_keep h.e18 (by decide)⟩
theorem Wi00.s1 {w1 : World} {N : Nat} {T P : Array Value} {D : Nat → Prop} {v58 v59 v60 v61 v62 v63 v64 v65 v66 v67 v68 v69 v70 v71 v72 v73 v74 v75 v76 : Value} {w' w'' : World} (h : Wi00 w1 N T P D v58 v59 v60 v61 v62 v63 v64 v65 v66 v67 v68 v69 v70 v71 v72 v73 v74 v75 v76 w') (hb : Below w'.heap.size w' w'') : Wi00 w1 N T P (fun j => D j ∨ j = 1) v58 (.int .u8 0) v60 v61 v62 v63 v64 v65 v66 v67 v68 v69 v70 v71 v72 v73 v74 v75 v76 w'' :=
  ⟨bthen h.b hb, or_keep h.e0 (by decide), fun _ => rfl, or_keep h.e2 (by decide), or_keep h.e3 (by decide), or_keep h.e4 (by decide), or_keep h.e5 (by decide), or_keep h.e6 (by decide), or_keep h.e7 (by decide), or_keep h.e8 (by decide), or_keep h.e9 (by decide), or_keep h.e10 (by decide), or_keep h.e11 (by decide), or_keep h.e12 (by decide), or_keep h.e13 (by decide), or_keep h.e14 (by decide), or_keep h.e15 (by decide), or_keep h.e16 (by decide), or_keep h.e17 (by decide), or_keep h.e18 (by decide)⟩
theorem Wi00.s2 {w1 : World} {N : Nat} {T P : Array Value} {D : Nat → Prop} {v58 v59 v60 v61 v62 v63 v64 v65 v66 v67 v68 v69 v70 v71 v72 v73 v74 v75 v76 : Value} {w' w'' : World} (h : Wi00 w1 N T P D v58 v59 v60 v61 v62 v63 v64 v65 v66 v67 v68 v69 v70 v71 v72 v73 v74 v75 v76 w') (hb : Below w'.heap.size w' w'') : Wi00 w1 N T P (fun j => D j ∨ j = 2) v58 v59 (.int .u8 1) v61 v62 v63 v64 v65 v66 v67 v68 v69 v70 v71 v72 v73 v74 v75 v76 w'' :=
  ⟨bthen h.b hb, or_keep h.e0 (by decide), or_keep h.e1 (by decide), fun _ => rfl, or_keep h.e3 (by decide), or_keep h.e4 (by decide), or_keep h.e5 (by decide), or_keep h.e6 (by decide), or_keep h.e7 (by decide), or_keep h.e8 (by decide), or_keep h.e9 (by decide), or_keep h.e10 (by decide), or_keep h.e11 (by decide), or_keep h.e12 (by decide), or_keep h.e13 (by decide), or_keep h.e14 (by decide), or_keep h.e15 (by decide), or_keep h.e16 (by decide), or_keep h.e17 (by decide), or_keep h.e18 (by decide)⟩
theorem Wi00.s3 {w1 : World} {N : Nat} {T P : Array Value} {D : Nat → Prop} {v58 v59 v60 v61 v62 v63 v64 v65 v66 v67 v68 v69 v70 v71 v72 v73 v74 v75 v76 : Value} {w' w'' : World} (h : Wi00 w1 N T P D v58 v59 v60 v61 v62 v63 v64 v65 v66 v67 v68 v69 v70 v71 v72 v73 v74 v75 v76 w') (hb : Below w'.heap.size w' w'') : Wi00 w1 N T P (fun j => D j ∨ j = 3) v58 v59 v60 (.agg P) v62 v63 v64 v65 v66 v67 v68 v69 v70 v71 v72 v73 v74 v75 v76 w'' :=
  ⟨bthen h.b hb, or_keep h.e0 (by decide), or_keep h.e1 (by decide), or_keep h.e2 (by decide), fun _ => rfl, or_keep h.e4 (by decide), or_keep h.e5 (by decide), or_keep h.e6 (by decide), or_keep h.e7 (by decide), or_keep h.e8 (by decide), or_keep h.e9 (by decide), or_keep h.e10 (by decide), or_keep h.e11 (by decide), or_keep h.e12 (by decide), or_keep h.e13 (by decide), or_keep h.e14 (by decide), or_keep h.e15 (by decide), or_keep h.e16 (by decide), or_keep h.e17 (by decide), or_keep h.e18 (by decide)⟩
theorem Wi00.s4 {w1 : World} {N : Nat} {T P : Array Value} {D : Nat → Prop} {v58 v59 v60 v61 v62 v63 v64 v65 v66 v67 v68 v69 v70 v71 v72 v73 v74 v75 v76 : Value} {w' w'' : World} (h : Wi00 w1 N T P D v58 v59 v60 v61 v62 v63 v64 v65 v66 v67 v68 v69 v70 v71 v72 v73 v74 v75 v76 w') (hb : Below w'.heap.size w' w'') : Wi00 w1 N T P (fun j => D j ∨ j = 4) v58 v59 v60 v61 (.bool false) v63 v64 v65 v66 v67 v68 v69 v70 v71 v72 v73 v74 v75 v76 w'' :=
  ⟨bthen h.b hb, or_keep h.e0 (by decide), or_keep h.e1 (by decide), or_keep h.e2 (by decide), or_keep h.e3 (by decide), fun _ => rfl, or_keep h.e5 (by decide), or_keep h.e6 (by decide), or_keep h.e7 (by decide), or_keep h.e8 (by decide), or_keep h.e9 (by decide), or_keep h.e10 (by decide), or_keep h.e11 (by decide), or_keep h.e12 (by decide), or_keep h.e13 (by decide), or_keep h.e14 (by decide), or_keep h.e15 (by decide), or_keep h.e16 (by decide), or_keep h.e17 (by decide), or_keep h.e18 (by decide)⟩
theorem Wi00.s5 {w1 : World} {N : Nat} {T P : Array Value} {D : Nat → Prop} {v58 v59 v60 v61 v62 v63 v64 v65 v66 v67 v68 v69 v70 v71 v72 v73 v74 v75 v76 : Value} {w' w'' : World} (h : Wi00 w1 N T P D v58 v59 v60 v61 v62 v63 v64 v65 v66 v67 v68 v69 v70 v71 v72 v73 v74 v75 v76 w') (hb : Below w'.heap.size w' w'') : Wi00 w1 N T P (fun j => D j ∨ j = 5) v58 v59 v60 v61 v62 (.pointer (some ⟨N, 1, none⟩)) v64 v65 v66 v67 v68 v69 v70 v71 v72 v73 v74 v75 v76 w'' :=
  ⟨bthen h.b hb, or_keep h.e0 (by decide), or_keep h.e1 (by decide), or_keep h.e2 (by decide), or_keep h.e3 (by decide), or_keep h.e4 (by decide), fun _ => rfl, or_keep h.e6 (by decide), or_keep h.e7 (by decide), or_keep h.e8 (by decide), or_keep h.e9 (by decide), or_keep h.e10 (by decide), or_keep h.e11 (by decide), or_keep h.e12 (by decide), or_keep h.e13 (by decide), or_keep h.e14 (by decide), or_keep h.e15 (by decide), or_keep h.e16 (by decide), or_keep h.e17 (by decide), or_keep h.e18 (by decide)⟩
theorem Wi00.s6 {w1 : World} {N : Nat} {T P : Array Value} {D : Nat → Prop} {v58 v59 v60 v61 v62 v63 v64 v65 v66 v67 v68 v69 v70 v71 v72 v73 v74 v75 v76 : Value} {w' w'' : World} (h : Wi00 w1 N T P D v58 v59 v60 v61 v62 v63 v64 v65 v66 v67 v68 v69 v70 v71 v72 v73 v74 v75 v76 w') (hb : Below w'.heap.size w' w'') : Wi00 w1 N T P (fun j => D j ∨ j = 6) v58 v59 v60 v61 v62 v63 (.bool false) v65 v66 v67 v68 v69 v70 v71 v72 v73 v74 v75 v76 w'' :=
  ⟨bthen h.b hb, or_keep h.e0 (by decide), or_keep h.e1 (by decide), or_keep h.e2 (by decide), or_keep h.e3 (by decide), or_keep h.e4 (by decide), or_keep h.e5 (by decide), fun _ => rfl, or_keep h.e7 (by decide), or_keep h.e8 (by decide), or_keep h.e9 (by decide), or_keep h.e10 (by decide), or_keep h.e11 (by decide), or_keep h.e12 (by decide), or_keep h.e13 (by decide), or_keep h.e14 (by decide), or_keep h.e15 (by decide), or_keep h.e16 (by decide), or_keep h.e17 (by decide), or_keep h.e18 (by decide)⟩
theorem Wi00.s7 {w1 : World} {N : Nat} {T P : Array Value} {D : Nat → Prop} {v58 v59 v60 v61 v62 v63 v64 v65 v66 v67 v68 v69 v70 v71 v72 v73 v74 v75 v76 : Value} {w' w'' : World} (h : Wi00 w1 N T P D v58 v59 v60 v61 v62 v63 v64 v65 v66 v67 v68 v69 v70 v71 v72 v73 v74 v75 v76 w') (hb : Below w'.heap.size w' w'') : Wi00 w1 N T P (fun j => D j ∨ j = 7) v58 v59 v60 v61 v62 v63 v64 (.bool false) v66 v67 v68 v69 v70 v71 v72 v73 v74 v75 v76 w'' :=
  ⟨bthen h.b hb, or_keep h.e0 (by decide), or_keep h.e1 (by decide), or_keep h.e2 (by decide), or_keep h.e3 (by decide), or_keep h.e4 (by decide), or_keep h.e5 (by decide), or_keep h.e6 (by decide), fun _ => rfl, or_keep h.e8 (by decide), or_keep h.e9 (by decide), or_keep h.e10 (by decide), or_keep h.e11 (by decide), or_keep h.e12 (by decide), or_keep h.e13 (by decide), or_keep h.e14 (by decide), or_keep h.e15 (by decide), or_keep h.e16 (by decide), or_keep h.e17 (by decide), or_keep h.e18 (by decide)⟩
theorem Wi00.s8 {w1 : World} {N : Nat} {T P : Array Value} {D : Nat → Prop} {v58 v59 v60 v61 v62 v63 v64 v65 v66 v67 v68 v69 v70 v71 v72 v73 v74 v75 v76 : Value} {w' w'' : World} (h : Wi00 w1 N T P D v58 v59 v60 v61 v62 v63 v64 v65 v66 v67 v68 v69 v70 v71 v72 v73 v74 v75 v76 w') (hb : Below w'.heap.size w' w'') : Wi00 w1 N T P (fun j => D j ∨ j = 8) v58 v59 v60 v61 v62 v63 v64 v65 (.bool false) v67 v68 v69 v70 v71 v72 v73 v74 v75 v76 w'' :=
  ⟨bthen h.b hb, or_keep h.e0 (by decide), or_keep h.e1 (by decide), or_keep h.e2 (by decide), or_keep h.e3 (by decide), or_keep h.e4 (by decide), or_keep h.e5 (by decide), or_keep h.e6 (by decide), or_keep h.e7 (by decide), fun _ => rfl, or_keep h.e9 (by decide), or_keep h.e10 (by decide), or_keep h.e11 (by decide), or_keep h.e12 (by decide), or_keep h.e13 (by decide), or_keep h.e14 (by decide), or_keep h.e15 (by decide), or_keep h.e16 (by decide), or_keep h.e17 (by decide), or_keep h.e18 (by decide)⟩
theorem Wi00.s9 {w1 : World} {N : Nat} {T P : Array Value} {D : Nat → Prop} {v58 v59 v60 v61 v62 v63 v64 v65 v66 v67 v68 v69 v70 v71 v72 v73 v74 v75 v76 : Value} {w' w'' : World} (h : Wi00 w1 N T P D v58 v59 v60 v61 v62 v63 v64 v65 v66 v67 v68 v69 v70 v71 v72 v73 v74 v75 v76 w') (hb : Below w'.heap.size w' w'') : Wi00 w1 N T P (fun j => D j ∨ j = 9) v58 v59 v60 v61 v62 v63 v64 v65 v66 (.pointer (some ⟨N, 1, none⟩)) v68 v69 v70 v71 v72 v73 v74 v75 v76 w'' :=
  ⟨bthen h.b hb, or_keep h.e0 (by decide), or_keep h.e1 (by decide), or_keep h.e2 (by decide), or_keep h.e3 (by decide), or_keep h.e4 (by decide), or_keep h.e5 (by decide), or_keep h.e6 (by decide), or_keep h.e7 (by decide), or_keep h.e8 (by decide), fun _ => rfl, or_keep h.e10 (by decide), or_keep h.e11 (by decide), or_keep h.e12 (by decide), or_keep h.e13 (by decide), or_keep h.e14 (by decide), or_keep h.e15 (by decide), or_keep h.e16 (by decide), or_keep h.e17 (by decide), or_keep h.e18 (by decide)⟩
theorem Wi00.s10 {w1 : World} {N : Nat} {T P : Array Value} {D : Nat → Prop} {v58 v59 v60 v61 v62 v63 v64 v65 v66 v67 v68 v69 v70 v71 v72 v73 v74 v75 v76 : Value} {w' w'' : World} (h : Wi00 w1 N T P D v58 v59 v60 v61 v62 v63 v64 v65 v66 v67 v68 v69 v70 v71 v72 v73 v74 v75 v76 w') (hb : Below w'.heap.size w' w'') : Wi00 w1 N T P (fun j => D j ∨ j = 10) v58 v59 v60 v61 v62 v63 v64 v65 v66 v67 (.bool false) v69 v70 v71 v72 v73 v74 v75 v76 w'' :=
  ⟨bthen h.b hb, or_keep h.e0 (by decide), or_keep h.e1 (by decide), or_keep h.e2 (by decide), or_keep h.e3 (by decide), or_keep h.e4 (by decide), or_keep h.e5 (by decide), or_keep h.e6 (by decide), or_keep h.e7 (by decide), or_keep h.e8 (by decide), or_keep h.e9 (by decide), fun _ => rfl, or_keep h.e11 (by decide), or_keep h.e12 (by decide), or_keep h.e13 (by decide), or_keep h.e14 (by decide), or_keep h.e15 (by decide), or_keep h.e16 (by decide), or_keep h.e17 (by decide), or_keep h.e18 (by decide)⟩
theorem Wi00.s11 {w1 : World} {N : Nat} {T P : Array Value} {D : Nat → Prop} {v58 v59 v60 v61 v62 v63 v64 v65 v66 v67 v68 v69 v70 v71 v72 v73 v74 v75 v76 : Value} {w' w'' : World} (h : Wi00 w1 N T P D v58 v59 v60 v61 v62 v63 v64 v65 v66 v67 v68 v69 v70 v71 v72 v73 v74 v75 v76 w') (hb : Below w'.heap.size w' w'') : Wi00 w1 N T P (fun j => D j ∨ j = 11) v58 v59 v60 v61 v62 v63 v64 v65 v66 v67 v68 (.bool false) v70 v71 v72 v73 v74 v75 v76 w'' :=
  ⟨bthen h.b hb, or_keep h.e0 (by decide), or_keep h.e1 (by decide), or_keep h.e2 (by decide), or_keep h.e3 (by decide), or_keep h.e4 (by decide), or_keep h.e5 (by decide), or_keep h.e6 (by decide), or_keep h.e7 (by decide), or_keep h.e8 (by decide), or_keep h.e9 (by decide), or_keep h.e10 (by decide), fun _ => rfl, or_keep h.e12 (by decide), or_keep h.e13 (by decide), or_keep h.e14 (by decide), or_keep h.e15 (by decide), or_keep h.e16 (by decide), or_keep h.e17 (by decide), or_keep h.e18 (by decide)⟩
theorem Wi00.s12 {w1 : World} {N : Nat} {T P : Array Value} {D : Nat → Prop} {v58 v59 v60 v61 v62 v63 v64 v65 v66 v67 v68 v69 v70 v71 v72 v73 v74 v75 v76 : Value} {w' w'' : World} (h : Wi00 w1 N T P D v58 v59 v60 v61 v62 v63 v64 v65 v66 v67 v68 v69 v70 v71 v72 v73 v74 v75 v76 w') (hb : Below w'.heap.size w' w'') : Wi00 w1 N T P (fun j => D j ∨ j = 12) v58 v59 v60 v61 v62 v63 v64 v65 v66 v67 v68 v69 (undef) v71 v72 v73 v74 v75 v76 w'' :=
  ⟨bthen h.b hb, or_keep h.e0 (by decide), or_keep h.e1 (by decide), or_keep h.e2 (by decide), or_keep h.e3 (by decide), or_keep h.e4 (by decide), or_keep h.e5 (by decide), or_keep h.e6 (by decide), or_keep h.e7 (by decide), or_keep h.e8 (by decide), or_keep h.e9 (by decide), or_keep h.e10 (by decide), or_keep h.e11 (by decide), fun _ => rfl, or_keep h.e13 (by decide), or_keep h.e14 (by decide), or_keep h.e15 (by decide), or_keep h.e16 (by decide), or_keep h.e17 (by decide), or_keep h.e18 (by decide)⟩
theorem Wi00.s13 {w1 : World} {N : Nat} {T P : Array Value} {D : Nat → Prop} {v58 v59 v60 v61 v62 v63 v64 v65 v66 v67 v68 v69 v70 v71 v72 v73 v74 v75 v76 : Value} {w' w'' : World} (h : Wi00 w1 N T P D v58 v59 v60 v61 v62 v63 v64 v65 v66 v67 v68 v69 v70 v71 v72 v73 v74 v75 v76 w') (hb : Below w'.heap.size w' w'') : Wi00 w1 N T P (fun j => D j ∨ j = 13) v58 v59 v60 v61 v62 v63 v64 v65 v66 v67 v68 v69 v70 (undef) v72 v73 v74 v75 v76 w'' :=
  ⟨bthen h.b hb, or_keep h.e0 (by decide), or_keep h.e1 (by decide), or_keep h.e2 (by decide), or_keep h.e3 (by decide), or_keep h.e4 (by decide), or_keep h.e5 (by decide), or_keep h.e6 (by decide), or_keep h.e7 (by decide), or_keep h.e8 (by decide), or_keep h.e9 (by decide), or_keep h.e10 (by decide), or_keep h.e11 (by decide), or_keep h.e12 (by decide), fun _ => rfl, or_keep h.e14 (by decide), or_keep h.e15 (by decide), or_keep h.e16 (by decide), or_keep h.e17 (by decide), or_keep h.e18 (by decide)⟩
theorem Wi00.s14 {w1 : World} {N : Nat} {T P : Array Value} {D : Nat → Prop} {v58 v59 v60 v61 v62 v63 v64 v65 v66 v67 v68 v69 v70 v71 v72 v73 v74 v75 v76 : Value} {w' w'' : World} (h : Wi00 w1 N T P D v58 v59 v60 v61 v62 v63 v64 v65 v66 v67 v68 v69 v70 v71 v72 v73 v74 v75 v76 w') (hb : Below w'.heap.size w' w'') : Wi00 w1 N T P (fun j => D j ∨ j = 14) v58 v59 v60 v61 v62 v63 v64 v65 v66 v67 v68 v69 v70 v71 (undef) v73 v74 v75 v76 w'' :=
  ⟨bthen h.b hb, or_keep h.e0 (by decide), or_keep h.e1 (by decide), or_keep h.e2 (by decide), or_keep h.e3 (by decide), or_keep h.e4 (by decide), or_keep h.e5 (by decide), or_keep h.e6 (by decide), or_keep h.e7 (by decide), or_keep h.e8 (by decide), or_keep h.e9 (by decide), or_keep h.e10 (by decide), or_keep h.e11 (by decide), or_keep h.e12 (by decide), or_keep h.e13 (by decide), fun _ => rfl, or_keep h.e15 (by decide), or_keep h.e16 (by decide), or_keep h.e17 (by decide), or_keep h.e18 (by decide)⟩
theorem Wi00.s15 {w1 : World} {N : Nat} {T P : Array Value} {D : Nat → Prop} {v58 v59 v60 v61 v62 v63 v64 v65 v66 v67 v68 v69 v70 v71 v72 v73 v74 v75 v76 : Value} {w' w'' : World} (h : Wi00 w1 N T P D v58 v59 v60 v61 v62 v63 v64 v65 v66 v67 v68 v69 v70 v71 v72 v73 v74 v75 v76 w') (hb : Below w'.heap.size w' w'') : Wi00 w1 N T P (fun j => D j ∨ j = 15) v58 v59 v60 v61 v62 v63 v64 v65 v66 v67 v68 v69 v70 v71 v72 (undef) v74 v75 v76 w'' :=
  ⟨bthen h.b hb, or_keep h.e0 (by decide), or_keep h.e1 (by decide), or_keep h.e2 (by decide), or_keep h.e3 (by decide), or_keep h.e4 (by decide), or_keep h.e5 (by decide), or_keep h.e6 (by decide), or_keep h.e7 (by decide), or_keep h.e8 (by decide), or_keep h.e9 (by decide), or_keep h.e10 (by decide), or_keep h.e11 (by decide), or_keep h.e12 (by decide), or_keep h.e13 (by decide), or_keep h.e14 (by decide), fun _ => rfl, or_keep h.e16 (by decide), or_keep h.e17 (by decide), or_keep h.e18 (by decide)⟩
theorem Wi00.s16 {w1 : World} {N : Nat} {T P : Array Value} {D : Nat → Prop} {v58 v59 v60 v61 v62 v63 v64 v65 v66 v67 v68 v69 v70 v71 v72 v73 v74 v75 v76 : Value} {w' w'' : World} (h : Wi00 w1 N T P D v58 v59 v60 v61 v62 v63 v64 v65 v66 v67 v68 v69 v70 v71 v72 v73 v74 v75 v76 w') (hb : Below w'.heap.size w' w'') : Wi00 w1 N T P (fun j => D j ∨ j = 16) v58 v59 v60 v61 v62 v63 v64 v65 v66 v67 v68 v69 v70 v71 v72 v73 (undef) v75 v76 w'' :=
  ⟨bthen h.b hb, or_keep h.e0 (by decide), or_keep h.e1 (by decide), or_keep h.e2 (by decide), or_keep h.e3 (by decide), or_keep h.e4 (by decide), or_keep h.e5 (by decide), or_keep h.e6 (by decide), or_keep h.e7 (by decide), or_keep h.e8 (by decide), or_keep h.e9 (by decide), or_keep h.e10 (by decide), or_keep h.e11 (by decide), or_keep h.e12 (by decide), or_keep h.e13 (by decide), or_keep h.e14 (by decide), or_keep h.e15 (by decide), fun _ => rfl, or_keep h.e17 (by decide), or_keep h.e18 (by decide)⟩
theorem Wi00.s17 {w1 : World} {N : Nat} {T P : Array Value} {D : Nat → Prop} {v58 v59 v60 v61 v62 v63 v64 v65 v66 v67 v68 v69 v70 v71 v72 v73 v74 v75 v76 : Value} {w' w'' : World} (h : Wi00 w1 N T P D v58 v59 v60 v61 v62 v63 v64 v65 v66 v67 v68 v69 v70 v71 v72 v73 v74 v75 v76 w') (hb : Below w'.heap.size w' w'') : Wi00 w1 N T P (fun j => D j ∨ j = 17) v58 v59 v60 v61 v62 v63 v64 v65 v66 v67 v68 v69 v70 v71 v72 v73 v74 (undef) v76 w'' :=
  ⟨bthen h.b hb, or_keep h.e0 (by decide), or_keep h.e1 (by decide), or_keep h.e2 (by decide), or_keep h.e3 (by decide), or_keep h.e4 (by decide), or_keep h.e5 (by decide), or_keep h.e6 (by decide), or_keep h.e7 (by decide), or_keep h.e8 (by decide), or_keep h.e9 (by decide), or_keep h.e10 (by decide), or_keep h.e11 (by decide), or_keep h.e12 (by decide), or_keep h.e13 (by decide), or_keep h.e14 (by decide), or_keep h.e15 (by decide), or_keep h.e16 (by decide), fun _ => rfl, or_keep h.e18 (by decide)⟩
theorem Wi00.s18 {w1 : World} {N : Nat} {T P : Array Value} {D : Nat → Prop} {v58 v59 v60 v61 v62 v63 v64 v65 v66 v67 v68 v69 v70 v71 v72 v73 v74 v75 v76 : Value} {w' w'' : World} (h : Wi00 w1 N T P D v58 v59 v60 v61 v62 v63 v64 v65 v66 v67 v68 v69 v70 v71 v72 v73 v74 v75 v76 w') (hb : Below w'.heap.size w' w'') : Wi00 w1 N T P (fun j => D j ∨ j = 18) v58 v59 v60 v61 v62 v63 v64 v65 v66 v67 v68 v69 v70 v71 v72 v73 v74 v75 (.bool false) w'' :=
  ⟨bthen h.b hb, or_keep h.e0 (by decide), or_keep h.e1 (by decide), or_keep h.e2 (by decide), or_keep h.e3 (by decide), or_keep h.e4 (by decide), or_keep h.e5 (by decide), or_keep h.e6 (by decide), or_keep h.e7 (by decide), or_keep h.e8 (by decide), or_keep h.e9 (by decide), or_keep h.e10 (by decide), or_keep h.e11 (by decide), or_keep h.e12 (by decide), or_keep h.e13 (by decide), or_keep h.e14 (by decide), or_keep h.e15 (by decide), or_keep h.e16 (by decide), or_keep h.e17 (by decide), fun _ => rfl⟩
theorem Wi00.zero (w1 : World) (N : Nat) (T P : Array Value) (v58 v59 v60 v61 v62 v63 v64 v65 v66 v67 v68 v69 v70 v71 v72 v73 v74 v75 v76 : Value) : Wi00 w1 N T P (fun _ => False) v58 v59 v60 v61 v62 v63 v64 v65 v66 v67 v68 v69 v70 v71 v72 v73 v74 v75 v76 w1.drew :=
  ⟨(Below.refl _ _).drew, fun h => h.elim, fun h => h.elim, fun h => h.elim, fun h => h.elim, fun h => h.elim, fun h => h.elim, fun h => h.elim, fun h => h.elim, fun h => h.elim, fun h => h.elim, fun h => h.elim, fun h => h.elim, fun h => h.elim, fun h => h.elim, fun h => h.elim, fun h => h.elim, fun h => h.elim, fun h => h.elim, fun h => h.elim⟩
structure Wi01 (w1 : World) (N : Nat) (T P : Array Value) (D : Nat → Prop) (v58 v59 v60 v61 v62 v63 v64 v65 v66 v67 v68 v69 v70 v71 v72 v73 v74 v75 v76 : Value) (w' : World) : Prop where
  b : Below w1.heap.size w1 w'
  e0 : D 0 → v58 = .agg T
  e1 : D 1 → v59 = .int .u8 0
  e2 : D 2 → v60 = .int .u8 1
  e3 : D 3 → v61 = .agg P
  e4 : D 4 → v62 = .bool true
  e5 : D 5 → v63 = .pointer (some ⟨N, 1, none⟩)
  e6 : D 6 → v64 = .bool true
  e7 : D 7 → v65 = .bool false
  e8 : D 8 → v66 = .bool false
  e9 : D 9 → v67 = .pointer (some ⟨N, 1, none⟩)
  e10 : D 10 → v68 = .bool true
  e11 : D 11 → v69 = .bool true
  e12 : D 12 → v70 = .agg T
  e13 : D 13 → v71 = .int .u8 0
  e14 : D 14 → v72 = .int .u8 1
  e15 : D 15 → v73 = .agg P
  e16 : D 16 → v74 = .bool true
  e17 : D 17 → v75 = .bool false
  e18 : D 18 → v76 = .bool false
theorem Wi01.s0 {w1 : World} {N : Nat} {T P : Array Value} {D : Nat → Prop} {v58 v59 v60 v61 v62 v63 v64 v65 v66 v67 v68 v69 v70 v71 v72 v73 v74 v75 v76 : Value} {w' w'' : World} (h : Wi01 w1 N T P D v58 v59 v60 v61 v62 v63 v64 v65 v66 v67 v68 v69 v70 v71 v72 v73 v74 v75 v76 w') (hb : Below w'.heap.size w' w'') : Wi01 w1 N T P (fun j => D j ∨ j = 0) (.agg T) v59 v60 v61 v62 v63 v64 v65 v66 v67 v68 v69 v70 v71 v72 v73 v74 v75 v76 w'' :=
  ⟨bthen h.b hb, fun _ => rfl, or_keep h.e1 (by decide), or_keep h.e2 (by decide), or_keep h.e3 (by decide), or_keep h.e4 (by decide), or_keep h.e5 (by decide), or_keep h.e6 (by decide), or_keep h.e7 (by decide), or_keep h.e8 (by decide), or_keep h.e9 (by decide), or_keep h.e10 (by decide), or_keep h.e11 (by decide), or_keep h.e12 (by decide), or_keep h.e13 (by decide), or_keep h.e14 (by decide), or_keep h.e15 (by decide), or_keep h.e16 (by decide), or_keep h.e17 (by decide), or_keep h.e18 (by decide)⟩
theorem Wi01.s1 {w1 : World} {N : Nat} {T P : Array Value} {D : Nat → Prop} {v58 v59 v60 v61 v62 v63 v64 v65 v66 v67 v68 v69 v70 v71 v72 v73 v74 v75 v76 : Value} {w' w'' : World} (h : Wi01 w1 N T P D v58 v59 v60 v61 v62 v63 v64 v65 v66 v67 v68 v69 v70 v71 v72 v73 v74 v75 v76 w') (hb : Below w'.heap.size w' w'') : Wi01 w1 N T P (fun j => D j ∨ j = 1) v58 (.int .u8 0) v60 v61 v62 v63 v64 v65 v66 v67 v68 v69 v70 v71 v72 v73 v74 v75 v76 w'' :=
  ⟨bthen h.b hb, or_keep h.e0 (by decide), fun _ => rfl, or_keep h.e2 (by decide), or_keep h.e3 (by decide), or_keep h.e4 (by decide), or_keep h.e5 (by decide), or_keep h.e6 (by decide), or_keep h.e7 (by decide), or_keep h.e8 (by decide), or_keep h.e9 (by decide), or_keep h.e10 (by decide), or_keep h.e11 (by decide), or_keep h.e12 (by decide), or_keep h.e13 (by decide), or_keep h.e14 (by decide), or_keep h.e15 (by decide), or_keep h.e16 (by decide), or_keep h.e17 (by decide), or_keep h.e18 (by decide)⟩
theorem Wi01.s2 {w1 : World} {N : Nat} {T P : Array Value} {D : Nat → Prop} {v58 v59 v60 v61 v62 v63 v64 v65 v66 v67 v68 v69 v70 v71 v72 v73 v74 v75 v76 : Value} {w' w'' : World} (h : Wi01 w1 N T P D v58 v59 v60 v61 v62 v63 v64 v65 v66 v67 v68 v69 v70 v71 v72 v73 v74 v75 v76 w') (hb : Below w'.heap.size w' w'') : Wi01 w1 N T P (fun j => D j ∨ j = 2) v58 v59 (.int .u8 1) v61 v62 v63 v64 v65 v66 v67 v68 v69 v70 v71 v72 v73 v74 v75 v76 w'' :=
  ⟨bthen h.b hb, or_keep h.e0 (by decide), or_keep h.e1 (by decide), fun _ => rfl, or_keep h.e3 (by decide), or_keep h.e4 (by decide), or_keep h.e5 (by decide), or_keep h.e6 (by decide), or_keep h.e7 (by decide), or_keep h.e8 (by decide), or_keep h.e9 (by decide), or_keep h.e10 (by decide), or_keep h.e11 (by decide), or_keep h.e12 (by decide), or_keep h.e13 (by decide), or_keep h.e14 (by decide), or_keep h.e15 (by decide), or_keep h.e16 (by decide), or_keep h.e17 (by decide), or_keep h.e18 (by decide)⟩
theorem Wi01.s3 {w1 : World} {N : Nat} {T P : Array Value} {D : Nat → Prop} {v58 v59 v60 v61 v62 v63 v64 v65 v66 v67 v68 v69 v70 v71 v72 v73 v74 v75 v76 : Value} {w' w'' : World} (h : Wi01 w1 N T P D v58 v59 v60 v61 v62 v63 v64 v65 v66 v67 v68 v69 v70 v71 v72 v73 v74 v75 v76 w') (hb : Below w'.heap.size w' w'') : Wi01 w1 N T P (fun j => D j ∨ j = 3) v58 v59 v60 (.agg P) v62 v63 v64 v65 v66 v67 v68 v69 v70 v71 v72 v73 v74 v75 v76 w'' :=
  ⟨bthen h.b hb, or_keep h.e0 (by decide), or_keep h.e1 (by decide), or_keep h.e2 (by decide), fun _ => rfl, or_keep h.e4 (by decide), or_keep h.e5 (by decide), or_keep h.e6 (by decide), or_keep h.e7 (by decide), or_keep h.e8 (by decide), or_keep h.e9 (by decide), or_keep h.e10 (by decide), or_keep h.e11 (by decide), or_keep h.e12 (by decide), or_keep h.e13 (by decide), or_keep h.e14 (by decide), or_keep h.e15 (by decide), or_keep h.e16 (by decide), or_keep h.e17 (by decide), or_keep h.e18 (by decide)⟩
theorem Wi01.s4 {w1 : World} {N : Nat} {T P : Array Value} {D : Nat → Prop} {v58 v59 v60 v61 v62 v63 v64 v65 v66 v67 v68 v69 v70 v71 v72 v73 v74 v75 v76 : Value} {w' w'' : World} (h : Wi01 w1 N T P D v58 v59 v60 v61 v62 v63 v64 v65 v66 v67 v68 v69 v70 v71 v72 v73 v74 v75 v76 w') (hb : Below w'.heap.size w' w'') : Wi01 w1 N T P (fun j => D j ∨ j = 4) v58 v59 v60 v61 (.bool true) v63 v64 v65 v66 v67 v68 v69 v70 v71 v72 v73 v74 v75 v76 w'' :=
  ⟨bthen h.b hb, or_keep h.e0 (by decide), or_keep h.e1 (by decide), or_keep h.e2 (by decide), or_keep h.e3 (by decide), fun _ => rfl, or_keep h.e5 (by decide), or_keep h.e6 (by decide), or_keep h.e7 (by decide), or_keep h.e8 (by decide), or_keep h.e9 (by decide), or_keep h.e10 (by decide), or_keep h.e11 (by decide), or_keep h.e12 (by decide), or_keep h.e13 (by decide), or_keep h.e14 (by decide), or_keep h.e15 (by decide), or_keep h.e16 (by decide), or_keep h.e17 (by decide), or_keep h.e18 (by decide)⟩
theorem Wi01.s5 {w1 : World} {N : Nat} {T P : Array Value} {D : Nat → Prop} {v58 v59 v60 v61 v62 v63 v64 v65 v66 v67 v68 v69 v70 v71 v72 v73 v74 v75 v76 : Value} {w' w'' : World} (h : Wi01 w1 N T P D v58 v59 v60 v61 v62 v63 v64 v65 v66 v67 v68 v69 v70 v71 v72 v73 v74 v75 v76 w') (hb : Below w'.heap.size w' w'') : Wi01 w1 N T P (fun j => D j ∨ j = 5) v58 v59 v60 v61 v62 (.pointer (some ⟨N, 1, none⟩)) v64 v65 v66 v67 v68 v69 v70 v71 v72 v73 v74 v75 v76 w'' :=
  ⟨bthen h.b hb, or_keep h.e0 (by decide), or_keep h.e1 (by decide), or_keep h.e2 (by decide), or_keep h.e3 (by decide), or_keep h.e4 (by decide), fun _ => rfl, or_keep h.e6 (by decide), or_keep h.e7 (by decide), or_keep h.e8 (by decide), or_keep h.e9 (by decide), or_keep h.e10 (by decide), or_keep h.e11 (by decide), or_keep h.e12 (by decide), or_keep h.e13 (by decide), or_keep h.e14 (by decide), or_keep h.e15 (by decide), or_keep h.e16 (by decide), or_keep h.e17 (by decide), or_keep h.e18 (by decide)⟩
theorem Wi01.s6 {w1 : World} {N : Nat} {T P : Array Value} {D : Nat → Prop} {v58 v59 v60 v61 v62 v63 v64 v65 v66 v67 v68 v69 v70 v71 v72 v73 v74 v75 v76 : Value} {w' w'' : World} (h : Wi01 w1 N T P D v58 v59 v60 v61 v62 v63 v64 v65 v66 v67 v68 v69 v70 v71 v72 v73 v74 v75 v76 w') (hb : Below w'.heap.size w' w'') : Wi01 w1 N T P (fun j => D j ∨ j = 6) v58 v59 v60 v61 v62 v63 (.bool true) v65 v66 v67 v68 v69 v70 v71 v72 v73 v74 v75 v76 w'' :=
  ⟨bthen h.b hb, or_keep h.e0 (by decide), or_keep h.e1 (by decide), or_keep h.e2 (by decide), or_keep h.e3 (by decide), or_keep h.e4 (by decide), or_keep h.e5 (by decide), fun _ => rfl, or_keep h.e7 (by decide), or_keep h.e8 (by decide), or_keep h.e9 (by decide), or_keep h.e10 (by decide), or_keep h.e11 (by decide), or_keep h.e12 (by decide), or_keep h.e13 (by decide), or_keep h.e14 (by decide), or_keep h.e15 (by decide), or_keep h.e16 (by decide), or_keep h.e17 (by decide), or_keep h.e18 (by decide)⟩
theorem Wi01.s7 {w1 : World} {N : Nat} {T P : Array Value} {D : Nat → Prop} {v58 v59 v60 v61 v62 v63 v64 v65 v66 v67 v68 v69 v70 v71 v72 v73 v74 v75 v76 : Value} {w' w'' : World} (h : Wi01 w1 N T P D v58 v59 v60 v61 v62 v63 v64 v65 v66 v67 v68 v69 v70 v71 v72 v73 v74 v75 v76 w') (hb : Below w'.heap.size w' w'') : Wi01 w1 N T P (fun j => D j ∨ j = 7) v58 v59 v60 v61 v62 v63 v64 (.bool false) v66 v67 v68 v69 v70 v71 v72 v73 v74 v75 v76 w'' :=
  ⟨bthen h.b hb, or_keep h.e0 (by decide), or_keep h.e1 (by decide), or_keep h.e2 (by decide), or_keep h.e3 (by decide), or_keep h.e4 (by decide), or_keep h.e5 (by decide), or_keep h.e6 (by decide), fun _ => rfl, or_keep h.e8 (by decide), or_keep h.e9 (by decide), or_keep h.e10 (by decide), or_keep h.e11 (by decide), or_keep h.e12 (by decide), or_keep h.e13 (by decide), or_keep h.e14 (by decide), or_keep h.e15 (by decide), or_keep h.e16 (by decide), or_keep h.e17 (by decide), or_keep h.e18 (by decide)⟩
theorem Wi01.s8 {w1 : World} {N : Nat} {T P : Array Value} {D : Nat → Prop} {v58 v59 v60 v61 v62 v63 v64 v65 v66 v67 v68 v69 v70 v71 v72 v73 v74 v75 v76 : Value} {w' w'' : World} (h : Wi01 w1 N T P D v58 v59 v60 v61 v62 v63 v64 v65 v66 v67 v68 v69 v70 v71 v72 v73 v74 v75 v76 w') (hb : Below w'.heap.size w' w'') : Wi01 w1 N T P (fun j => D j ∨ j = 8) v58 v59 v60 v61 v62 v63 v64 v65 (.bool false) v67 v68 v69 v70 v71 v72 v73 v74 v75 v76 w'' :=
  ⟨bthen h.b hb, or_keep h.e0 (by decide), or_keep h.e1 (by decide), or_keep h.e2 (by decide), or_keep h.e3 (by decide), or_keep h.e4 (by decide), or_keep h.e5 (by decide), or_keep h.e6 (by decide), or_keep h.e7 (by decide), fun _ => rfl, or_keep h.e9 (by decide), or_keep h.e10 (by decide), or_keep h.e11 (by decide), or_keep h.e12 (by decide), or_keep h.e13 (by decide), or_keep h.e14 (by decide), or_keep h.e15 (by decide), or_keep h.e16 (by decide), or_keep h.e17 (by decide), or_keep h.e18 (by decide)⟩
theorem Wi01.s9 {w1 : World} {N : Nat} {T P : Array Value} {D : Nat → Prop} {v58 v59 v60 v61 v62 v63 v64 v65 v66 v67 v68 v69 v70 v71 v72 v73 v74 v75 v76 : Value} {w' w'' : World} (h : Wi01 w1 N T P D v58 v59 v60 v61 v62 v63 v64 v65 v66 v67 v68 v69 v70 v71 v72 v73 v74 v75 v76 w') (hb : Below w'.heap.size w' w'') : Wi01 w1 N T P (fun j => D j ∨ j = 9) v58 v59 v60 v61 v62 v63 v64 v65 v66 (.pointer (some ⟨N, 1, none⟩)) v68 v69 v70 v71 v72 v73 v74 v75 v76 w'' :=
  ⟨bthen h.b hb, or_keep h.e0 (by decide), or_keep h.e1 (by decide), or_keep h.e2 (by decide), or_keep h.e3 (by decide), or_keep h.e4 (by decide), or_keep h.e5 (by decide), or_keep h.e6 (by decide), or_keep h.e7 (by decide), or_keep h.e8 (by decide), fun _ => rfl, or_keep h.e10 (by decide), or_keep h.e11 (by decide), or_keep h.e12 (by decide), or_keep h.e13 (by decide), or_keep h.e14 (by decide), or_keep h.e15 (by decide), or_keep h.e16 (by decide), or_keep h.e17 (by decide), or_keep h.e18 (by decide)⟩
theorem Wi01.s10 {w1 : World} {N : Nat} {T P : Array Value} {D : Nat → Prop} {v58 v59 v60 v61 v62 v63 v64 v65 v66 v67 v68 v69 v70 v71 v72 v73 v74 v75 v76 : Value} {w' w'' : World} (h : Wi01 w1 N T P D v58 v59 v60 v61 v62 v63 v64 v65 v66 v67 v68 v69 v70 v71 v72 v73 v74 v75 v76 w') (hb : Below w'.heap.size w' w'') : Wi01 w1 N T P (fun j => D j ∨ j = 10) v58 v59 v60 v61 v62 v63 v64 v65 v66 v67 (.bool true) v69 v70 v71 v72 v73 v74 v75 v76 w'' :=
  ⟨bthen h.b hb, or_keep h.e0 (by decide), or_keep h.e1 (by decide), or_keep h.e2 (by decide), or_keep h.e3 (by decide), or_keep h.e4 (by decide), or_keep h.e5 (by decide), or_keep h.e6 (by decide), or_keep h.e7 (by decide), or_keep h.e8 (by decide), or_keep h.e9 (by decide), fun _ => rfl, or_keep h.e11 (by decide), or_keep h.e12 (by decide), or_keep h.e13 (by decide), or_keep h.e14 (by decide), or_keep h.e15 (by decide), or_keep h.e16 (by decide), or_keep h.e17 (by decide), or_keep h.e18 (by decide)⟩
theorem Wi01.s11 {w1 : World} {N : Nat} {T P : Array Value} {D : Nat → Prop} {v58 v59 v60 v61 v62 v63 v64 v65 v66 v67 v68 v69 v70 v71 v72 v73 v74 v75 v76 : Value} {w' w'' : World} (h : Wi01 w1 N T P D v58 v59 v60 v61 v62 v63 v64 v65 v66 v67 v68 v69 v70 v71 v72 v73 v74 v75 v76 w') (hb : Below w'.heap.size w' w'') : Wi01 w1 N T P (fun j => D j ∨ j = 11) v58 v59 v60 v61 v62 v63 v64 v65 v66 v67 v68 (.bool true) v70 v71 v72 v73 v74 v75 v76 w'' :=
  ⟨bthen h.b hb, or_keep h.e0 (by decide), or_keep h.e1 (by decide), or_keep h.e2 (by decide), or_keep h.e3 (by decide), or_keep h.e4 (by decide), or_keep h.e5 (by decide), or_keep h.e6 (by decide), or_keep h.e7 (by decide), or_keep h.e8 (by decide), or_keep h.e9 (by decide), or_keep h.e10 (by decide), fun _ => rfl, or_keep h.e12 (by decide), or_keep h.e13 (by decide), or_keep h.e14 (by decide), or_keep h.e15 (by decide), or_keep h.e16 (by decide), or_keep h.e17 (by decide), or_keep h.e18 (by decide)⟩
theorem Wi01.s12 {w1 : World} {N : Nat} {T P : Array Value} {D : Nat → Prop} {v58 v59 v60 v61 v62 v63 v64 v65 v66 v67 v68 v69 v70 v71 v72 v73 v74 v75 v76 : Value} {w' w'' : World} (h : Wi01 w1 N T P D v58 v59 v60 v61 v62 v63 v64 v65 v66 v67 v68 v69 v70 v71 v72 v73 v74 v75 v76 w') (hb : Below w'.heap.size w' w'') : Wi01 w1 N T P (fun j => D j ∨ j = 12) v58 v59 v60 v61 v62 v63 v64 v65 v66 v67 v68 v69 (.agg T) v71 v72 v73 v74 v75 v76 w'' :=
  ⟨bthen h.b hb, or_keep h.e0 (by decide), or_keep h.e1 (by decide), or_keep h.e2 (by decide), or_keep h.e3 (by decide), or_keep h.e4 (by decide), or_keep h.e5 (by decide), or_keep h.e6 (by decide), or_keep h.e7 (by decide), or_keep h.e8 (by decide), or_keep h.e9 (by decide), or_keep h.e10 (by decide), or_keep h.e11 (by decide), fun _ => rfl, or_keep h.e13 (by decide), or_keep h.e14 (by decide), or_keep h.e15 (by decide), or_keep h.e16 (by decide), or_keep h.e17 (by decide), or_keep h.e18 (by decide)⟩
theorem Wi01.s13 {w1 : World} {N : Nat} {T P : Array Value} {D : Nat → Prop} {v58 v59 v60 v61 v62 v63 v64 v65 v66 v67 v68 v69 v70 v71 v72 v73 v74 v75 v76 : Value} {w' w'' : World} (h : Wi01 w1 N T P D v58 v59 v60 v61 v62 v63 v64 v65 v66 v67 v68 v69 v70 v71 v72 v73 v74 v75 v76 w') (hb : Below w'.heap.size w' w'') : Wi01 w1 N T P (fun j => D j ∨ j = 13) v58 v59 v60 v61 v62 v63 v64 v65 v66 v67 v68 v69 v70 (.int .u8 0) v72 v73 v74 v75 v76 w'' :=
  ⟨bthen h.b hb, or_keep h.e0 (by decide), or_keep h.e1 (by decide), or_keep h.e2 (by decide), or_keep h.e3 (by decide), or_keep h.e4 (by decide), or_keep h.e5 (by decide), or_keep h.e6 (by decide), or_keep h.e7 (by decide), or_keep h.e8 (by decide), or_keep h.e9 (by decide), or_keep h.e10 (by decide), or_keep h.e11 (by decide), or_keep h.e12 (by decide), fun _ => rfl, or_keep h.e14 (by decide), or_keep h.e15 (by decide), or_keep h.e16 (by decide), or_keep h.e17 (by decide), or_keep h.e18 (by decide)⟩
theorem Wi01.s14 {w1 : World} {N : Nat} {T P : Array Value} {D : Nat → Prop} {v58 v59 v60 v61 v62 v63 v64 v65 v66 v67 v68 v69 v70 v71 v72 v73 v74 v75 v76 : Value} {w' w'' : World} (h : Wi01 w1 N T P D v58 v59 v60 v61 v62 v63 v64 v65 v66 v67 v68 v69 v70 v71 v72 v73 v74 v75 v76 w') (hb : Below w'.heap.size w' w'') : Wi01 w1 N T P (fun j => D j ∨ j = 14) v58 v59 v60 v61 v62 v63 v64 v65 v66 v67 v68 v69 v70 v71 (.int .u8 1) v73 v74 v75 v76 w'' :=
  ⟨bthen h.b hb, or_keep h.e0 (by decide), or_keep h.e1 (by decide), or_keep h.e2 (by decide), or_keep h.e3 (by decide), or_keep h.e4 (by decide), or_keep h.e5 (by decide), or_keep h.e6 (by decide), or_keep h.e7 (by decide), or_keep h.e8 (by decide), or_keep h.e9 (by decide), or_keep h.e10 (by decide), or_keep h.e11 (by decide), or_keep h.e12 (by decide), or_keep h.e13 (by decide), fun _ => rfl, or_keep h.e15 (by decide), or_keep h.e16 (by decide), or_keep h.e17 (by decide), or_keep h.e18 (by decide)⟩
theorem Wi01.s15 {w1 : World} {N : Nat} {T P : Array Value} {D : Nat → Prop} {v58 v59 v60 v61 v62 v63 v64 v65 v66 v67 v68 v69 v70 v71 v72 v73 v74 v75 v76 : Value} {w' w'' : World} (h : Wi01 w1 N T P D v58 v59 v60 v61 v62 v63 v64 v65 v66 v67 v68 v69 v70 v71 v72 v73 v74 v75 v76 w') (hb : Below w'.heap.size w' w'') : Wi01 w1 N T P (fun j => D j ∨ j = 15) v58 v59 v60 v61 v62 v63 v64 v65 v66 v67 v68 v69 v70 v71 v72 (.agg P) v74 v75 v76 w'' :=
  ⟨bthen h.b hb, or_keep h.e0 (by decide), or_keep h.e1 (by decide), or_keep h.e2 (by decide), or_keep h.e3 (by decide), or_keep h.e4 (by decide), or_keep h.e5 (by decide), or_keep h.e6 (by decide), or_keep h.e7 (by decide), or_keep h.e8 (by decide), or_keep h.e9 (by decide), or_keep h.e10 (by decide), or_keep h.e11 (by decide), or_keep h.e12 (by decide), or_keep h.e13 (by decide), or_keep h.e14 (by decide), fun _ => rfl, or_keep h.e16 (by decide), or_keep h.e17 (by decide), or_keep h.e18 (by decide)⟩
theorem Wi01.s16 {w1 : World} {N : Nat} {T P : Array Value} {D : Nat → Prop} {v58 v59 v60 v61 v62 v63 v64 v65 v66 v67 v68 v69 v70 v71 v72 v73 v74 v75 v76 : Value} {w' w'' : World} (h : Wi01 w1 N T P D v58 v59 v60 v61 v62 v63 v64 v65 v66 v67 v68 v69 v70 v71 v72 v73 v74 v75 v76 w') (hb : Below w'.heap.size w' w'') : Wi01 w1 N T P (fun j => D j ∨ j = 16) v58 v59 v60 v61 v62 v63 v64 v65 v66 v67 v68 v69 v70 v71 v72 v73 (.bool true) v75 v76 w'' :=
  ⟨bthen h.b hb, or_keep h.e0 (by decide), or_keep h.e1 (by decide), or_keep h.e2 (by decide), or_keep h.e3 (by decide), or_keep h.e4 (by decide), or_keep h.e5 (by decide), or_keep h.e6 (by decide), or_keep h.e7 (by decide), or_keep h.e8 (by decide), or_keep h.e9 (by decide), or_keep h.e10 (by decide), or_keep h.e11 (by decide), or_keep h.e12 (by decide), or_keep h.e13 (by decide), or_keep h.e14 (by decide), or_keep h.e15 (by decide), fun _ => rfl, or_keep h.e17 (by decide), or_keep h.e18 (by decide)⟩
theorem Wi01.s17 {w1 : World} {N : Nat} {T P : Array Value} {D : Nat → Prop} {v58 v59 v60 v61 v62 v63 v64 v65 v66 v67 v68 v69 v70 v71 v72 v73 v74 v75 v76 : Value} {w' w'' : World} (h : Wi01 w1 N T P D v58 v59 v60 v61 v62 v63 v64 v65 v66 v67 v68 v69 v70 v71 v72 v73 v74 v75 v76 w') (hb : Below w'.heap.size w' w'') : Wi01 w1 N T P (fun j => D j ∨ j = 17) v58 v59 v60 v61 v62 v63 v64 v65 v66 v67 v68 v69 v70 v71 v72 v73 v74 (.bool false) v76 w'' :=
  ⟨bthen h.b hb, or_keep h.e0 (by decide), or_keep h.e1 (by decide), or_keep h.e2 (by decide), or_keep h.e3 (by decide), or_keep h.e4 (by decide), or_keep h.e5 (by decide), or_keep h.e6 (by decide), or_keep h.e7 (by decide), or_keep h.e8 (by decide), or_keep h.e9 (by decide), or_keep h.e10 (by decide), or_keep h.e11 (by decide), or_keep h.e12 (by decide), or_keep h.e13 (by decide), or_keep h.e14 (by decide), or_keep h.e15 (by decide), or_keep h.e16 (by decide), fun _ => rfl, or_keep h.e18 (by decide)⟩
theorem Wi01.s18 {w1 : World} {N : Nat} {T P : Array Value} {D : Nat → Prop} {v58 v59 v60 v61 v62 v63 v64 v65 v66 v67 v68 v69 v70 v71 v72 v73 v74 v75 v76 : Value} {w' w'' : World} (h : Wi01 w1 N T P D v58 v59 v60 v61 v62 v63 v64 v65 v66 v67 v68 v69 v70 v71 v72 v73 v74 v75 v76 w') (hb : Below w'.heap.size w' w'') : Wi01 w1 N T P (fun j => D j ∨ j = 18) v58 v59 v60 v61 v62 v63 v64 v65 v66 v67 v68 v69 v70 v71 v72 v73 v74 v75 (.bool false) w'' :=
  ⟨bthen h.b hb, or_keep h.e0 (by decide), or_keep h.e1 (by decide), or_keep h.e2 (by decide), or_keep h.e3 (by decide), or_keep h.e4 (by decide), or_keep h.e5 (by decide), or_keep h.e6 (by decide), or_keep h.e7 (by decide), or_keep h.e8 (by decide), or_keep h.e9 (by decide), or_keep h.e10 (by decide), or_keep h.e11 (by decide), or_keep h.e12 (by decide), or_keep h.e13 (by decide), or_keep h.e14 (by decide), or_keep h.e15 (by decide), or_keep h.e16 (by decide), or_keep h.e17 (by decide), fun _ => rfl⟩
theorem Wi01.zero (w1 : World) (N : Nat) (T P : Array Value) (v58 v59 v60 v61 v62 v63 v64 v65 v66 v67 v68 v69 v70 v71 v72 v73 v74 v75 v76 : Value) : Wi01 w1 N T P (fun _ => False) v58 v59 v60 v61 v62 v63 v64 v65 v66 v67 v68 v69 v70 v71 v72 v73 v74 v75 v76 w1.drew :=
  ⟨(Below.refl _ _).drew, fun h => h.elim, fun h => h.elim, fun h => h.elim, fun h => h.elim, fun h => h.elim, fun h => h.elim, fun h => h.elim, fun h => h.elim, fun h => h.elim, fun h => h.elim, fun h => h.elim, fun h => h.elim, fun h => h.elim, fun h => h.elim, fun h => h.elim, fun h => h.elim, fun h => h.elim, fun h => h.elim, fun h => h.elim⟩
structure Wi10 (w1 : World) (N : Nat) (T P : Array Value) (D : Nat → Prop) (v58 v59 v60 v61 v62 v63 v64 v65 v66 v67 v68 v69 v70 v71 v72 v73 v74 v75 v76 : Value) (w' : World) : Prop where
  b : Below w1.heap.size w1 w'
  e0 : D 0 → v58 = .agg T
  e1 : D 1 → v59 = .int .u8 1
  e2 : D 2 → v60 = .int .u8 0
  e3 : D 3 → v61 = .agg P
  e4 : D 4 → v62 = .bool false
  e5 : D 5 → v63 = .pointer (some ⟨N, 1, none⟩)
  e6 : D 6 → v64 = .bool false
  e7 : D 7 → v65 = .bool false
  e8 : D 8 → v66 = .bool false
  e9 : D 9 → v67 = .pointer (some ⟨N, 1, none⟩)
  e10 : D 10 → v68 = .bool false
  e11 : D 11 → v69 = .bool false
  e12 : D 12 → v70 = undef
  e13 : D 13 → v71 = undef
  e14 : D 14 → v72 = undef
  e15 : D 15 → v73 = undef
  e16 : D 16 → v74 = undef
  e17 : D 17 → v75 = undef
  e18 : D 18 → v76 = .bool false
theorem Wi10.s0 {w1 : World} {N : Nat} {T P : Array Value} {D : Nat → Prop} {v58 v59 v60 v61 v62 v63 v64 v65 v66 v67 v68 v69 v70 v71 v72 v73 v74 v75 v76 : Value} {w' w'' : World} (h : Wi10 w1 N T P D v58 v59 v60 v61 v62 v63 v64 v65 v66 v67 v68 v69 v70 v71 v72 v73 v74 v75 v76 w') (hb : Below w'.heap.size w' w'') : Wi10 w1 N T P (fun j => D j ∨ j = 0) (.agg T) v59 v60 v61 v62 v63 v64 v65 v66 v67 v68 v69 v70 v71 v72 v73 v74 v75 v76 w'' :=
  ⟨bthen h.b hb, fun _ => rfl, or_keep h.e1 (by decide), or_keep h.e2 (by decide), or_keep h.e3 (by decide), or_keep h.e4 (by decide), or_keep h.e5 (by decide), or_keep h.e6 (by decide), or_keep h.e7 (by decide), or_keep h.e8 (by decide), or_keep h.e9 (by decide), or_keep h.e10 (by decide), or_keep h.e11 (by decide), or_keep h.e12 (by decide), or_keep h.e13 (by decide), or_keep h.e14 (by decide), or_keep h.e15 (by decide), or_keep h.e16 (by decide), or_keep h.e17 (by decide), or_keep h.e18 (by decide)⟩
theorem Wi10.s1 {w1 : World} {N : Nat} {T P : Array Value} {D : Nat → Prop} {v58 v59 v60 v61 v62 v63 v64 v65 v66 v67 v68 v69 v70 v71 v72 v73 v74 v75 v76 : Value} {w' w'' : World} (h : Wi10 w1 N T P D v58 v59 v60 v61 v62 v63 v64 v65 v66 v67 v68 v69 v70 v71 v72 v73 v74 v75 v76 w') (hb : Below w'.heap.size w' w'') : Wi10 w1 N T P (fun j => D j ∨ j = 1) v58 (.int .u8 1) v60 v61 v62 v63 v64 v65 v66 v67 v68 v69 v70 v71 v72 v73 v74 v75 v76 w'' :=
  ⟨bthen h.b hb, or_keep h.e0 (by decide), fun _ => rfl, or_keep h.e2 (by decide), or_keep h.e3 (by decide), or_keep h.e4 (by decide), or_keep h.e5 (by decide), or_keep h.e6 (by decide), or_keep h.e7 (by decide), or_keep h.e8 (by decide), or_keep h.e9 (by decide), or_keep h.e10 (by decide), or_keep h.e11 (by decide), or_keep h.e12 (by decide), or_keep h.e13 (by decide), or_keep h.e14 (by decide), or_keep h.e15 (by decide), or_keep h.e16 (by decide), or_keep h.e17 (by decide), or_keep h.e18 (by decide)⟩
theorem Wi10.s2 {w1 : World} {N : Nat} {T P : Array Value} {D : Nat → Prop} {v58 v59 v60 v61 v62 v63 v64 v65 v66 v67 v68 v69 v70 v71 v72 v73 v74 v75 v76 : Value} {w' w'' : World} (h : Wi10 w1 N T P D v58 v59 v60 v61 v62 v63 v64 v65 v66 v67 v68 v69 v70 v71 v72 v73 v74 v75 v76 w') (hb : Below w'.heap.size w' w'') : Wi10 w1 N T P (fun j => D j ∨ j = 2) v58 v59 (.int .u8 0) v61 v62 v63 v64 v65 v66 v67 v68 v69 v70 v71 v72 v73 v74 v75 v76 w'' :=
  ⟨bthen h.b hb, or_keep h.e0 (by decide), or_keep h.e1 (by decide), fun _ => rfl, or_keep h.e3 (by decide), or_keep h.e4 (by decide), or_keep h.e5 (by decide), or_keep h.e6 (by decide), or_keep h.e7 (by decide), or_keep h.e8 (by decide), or_keep h.e9 (by decide), or_keep h.e10 (by decide), or_keep h.e11 (by decide), or_keep h.e12 (by decide), or_keep h.e13 (by decide), or_keep h.e14 (by decide), or_keep h.e15 (by decide), or_keep h.e16 (by decide), or_keep h.e17 (by decide), or_keep h.e18 (by decide)⟩
theorem Wi10.s3 {w1 : World} {N : Nat} {T P : Array Value} {D : Nat → Prop} {v58 v59 v60 v61 v62 v63 v64 v65 v66 v67 v68 v69 v70 v71 v72 v73 v74 v75 v76 : Value} {w' w'' : World} (h : Wi10 w1 N T P D v58 v59 v60 v61 v62 v63 v64 v65 v66 v67 v68 v69 v70 v71 v72 v73 v74 v75 v76 w') (hb : Below w'.heap.size w' w'') : Wi10 w1 N T P (fun j => D j ∨ j = 3) v58 v59 v60 (.agg P) v62 v63 v64 v65 v66 v67 v68 v69 v70 v71 v72 v73 v74 v75 v76 w'' :=
  ⟨bthen h.b hb, or_keep h.e0 (by decide), or_keep h.e1 (by decide), or_keep h.e2 (by decide), fun _ => rfl, or_keep h.e4 (by decide), or_keep h.e5 (by decide), or_keep h.e6 (by decide), or_keep h.e7 (by decide), or_keep h.e8 (by decide), or_keep h.e9 (by decide), or_keep h.e10 (by decide), or_keep h.e11 (by decide), or_keep h.e12 (by decide), or_keep h.e13 (by decide), or_keep h.e14 (by decide), or_keep h.e15 (by decide), or_keep h.e16 (by decide), or_keep h.e17 (by decide), or_keep h.e18 (by decide)⟩
theorem Wi10.s4 {w1 : World} {N : Nat} {T P : Array Value} {D : Nat → Prop} {v58 v59 v60 v61 v62 v63 v64 v65 v66 v67 v68 v69 v70 v71 v72 v73 v74 v75 v76 : Value} {w' w'' : World} (h : Wi10 w1 N T P D v58 v59 v60 v61 v62 v63 v64 v65 v66 v67 v68 v69 v70 v71 v72 v73 v74 v75 v76 w') (hb : Below w'.heap.size w' w'') : Wi10 w1 N T P (fun j => D j ∨ j = 4) v58 v59 v60 v61 (.bool false) v63 v64 v65 v66 v67 v68 v69 v70 v71 v72 v73 v74 v75 v76 w'' :=
  ⟨bthen h.b hb, or_keep h.e0 (by decide), or_keep h.e1 (by decide), or_keep h.e2 (by decide), or_keep h.e3 (by decide), fun _ => rfl, or_keep h.e5 (by decide), or_keep h.e6 (by decide), or_keep h.e7 (by decide), or_keep h.e8 (by decide), or_keep h.e9 (by decide), or_keep h.e10 (by decide), or_keep h.e11 (by decide), or_keep h.e12 (by decide), or_keep h.e13 (by decide), or_keep h.e14 (by decide), or_keep h.e15 (by decide), or_keep h.e16 (by decide), or_keep h.e17 (by decide), or_keep h.e18 (by decide)⟩
theorem Wi10.s5 {w1 : World} {N : Nat} {T P : Array Value} {D : Nat → Prop} {v58 v59 v60 v61 v62 v63 v64 v65 v66 v67 v68 v69 v70 v71 v72 v73 v74 v75 v76 : Value} {w' w'' : World} (h : Wi10 w1 N T P D v58 v59 v60 v61 v62 v63 v64 v65 v66 v67 v68 v69 v70 v71 v72 v73 v74 v75 v76 w') (hb : Below w'.heap.size w' w'') : Wi10 w1 N T P (fun j => D j ∨ j = 5) v58 v59 v60 v61 v62 (.pointer (some ⟨N, 1, none⟩)) v64 v65 v66 v67 v68 v69 v70 v71 v72 v73 v74 v75 v76 w'' :=
  ⟨bthen h.b hb, or_keep h.e0 (by decide), or_keep h.e1 (by decide), or_keep h.e2 (by decide), or_keep h.e3 (by decide), or_keep h.e4 (by decide), fun _ => rfl, or_keep h.e6 (by decide), or_keep h.e7 (by decide), or_keep h.e8 (by decide), or_keep h.e9 (by decide), or_keep h.e10 (by decide), or_keep h.e11 (by decide), or_keep h.e12 (by decide), or_keep h.e13 (by decide), or_keep h.e14 (by decide), or_keep h.e15 (by decide), or_keep h.e16 (by decide), or_keep h.e17 (by decide), or_keep h.e18 (by decide)⟩
theorem Wi10.s6 {w1 : World} {N : Nat} {T P : Array Value} {D : Nat → Prop} {v58 v59 v60 v61 v62 v63 v64 v65 v66 v67 v68 v69 v70 v71 v72 v73 v74 v75 v76 : Value} {w' w'' : World} (h : Wi10 w1 N T P D v58 v59 v60 v61 v62 v63 v64 v65 v66 v67 v68 v69 v70 v71 v72 v73 v74 v75 v76 w') (hb : Below w'.heap.size w' w'') : Wi10 w1 N T P (fun j => D j ∨ j = 6) v58 v59 v60 v61 v62 v63 (.bool false) v65 v66 v67 v68 v69 v70 v71 v72 v73 v74 v75 v76 w'' :=
  ⟨bthen h.b hb, or_keep h.e0 (by decide), or_keep h.e1 (by decide), or_keep h.e2 (by decide), or_keep h.e3 (by decide), or_keep h.e4 (by decide), or_keep h.e5 (by decide), fun _ => rfl, or_keep h.e7 (by decide), or_keep h.e8 (by decide), or_keep h.e9 (by decide), or_keep h.e10 (by decide), or_keep h.e11 (by decide), or_keep h.e12 (by decide), or_keep h.e13 (by decide), or_keep h.e14 (by decide), or_keep h.e15 (by decide), or_keep h.e16 (by decide), or_keep h.e17 (by decide), or_keep h.e18 (by decide)⟩
theorem Wi10.s7 {w1 : World} {N : Nat} {T P : Array Value} {D : Nat → Prop} {v58 v59 v60 v61 v62 v63 v64 v65 v66 v67 v68 v69 v70 v71 v72 v73 v74 v75 v76 : Value} {w' w'' : World} (h : Wi10 w1 N T P D v58 v59 v60 v61 v62 v63 v64 v65 v66 v67 v68 v69 v70 v71 v72 v73 v74 v75 v76 w') (hb : Below w'.heap.size w' w'') : Wi10 w1 N T P (fun j => D j ∨ j = 7) v58 v59 v60 v61 v62 v63 v64 (.bool false) v66 v67 v68 v69 v70 v71 v72 v73 v74 v75 v76 w'' :=
  ⟨bthen h.b hb, or_keep h.e0 (by decide), or_keep h.e1 (by decide), or_keep h.e2 (by decide), or_keep h.e3 (by decide), or_keep h.e4 (by decide), or_keep h.e5 (by decide), or_keep h.e6 (by decide), fun _ => rfl, or_keep h.e8 (by decide), or_keep h.e9 (by decide), or_keep h.e10 (by decide), or_keep h.e11 (by decide), or_keep h.e12 (by decide), or_keep h.e13 (by decide), or_keep h.e14 (by decide), or_keep h.e15 (by decide), or_keep h.e16 (by decide), or_keep h.e17 (by decide), or_keep h.e18 (by decide)⟩
theorem Wi10.s8 {w1 : World} {N : Nat} {T P : Array Value} {D : Nat → Prop} {v58 v59 v60 v61 v62 v63 v64 v65 v66 v67 v68 v69 v70 v71 v72 v73 v74 v75 v76 : Value} {w' w'' : World} (h : Wi10 w1 N T P D v58 v59 v60 v61 v62 v63 v64 v65 v66 v67 v68 v69 v70 v71 v72 v73 v74 v75 v76 w') (hb : Below w'.heap.size w' w'') : Wi10 w1 N T P (fun j => D j ∨ j = 8) v58 v59 v60 v61 v62 v63 v64 v65 (.bool false) v67 v68 v69 v70 v71 v72 v73 v74 v75 v76 w'' :=
  ⟨bthen h.b hb, or_keep h.e0 (by decide), or_keep h.e1 (by decide), or_keep h.e2 (by decide), or_keep h.e3 (by decide), or_keep h.e4 (by decide), or_keep h.e5 (by decide), or_keep h.e6 (by decide), or_keep h.e7 (by decide), fun _ => rfl, or_keep h.e9 (by decide), or_keep h.e10 (by decide), or_keep h.e11 (by decide), or_keep h.e12 (by decide), or_keep h.e13 (by decide), or_keep h.e14 (by decide), or_keep h.e15 (by decide), or_keep h.e16 (by decide), or_keep h.e17 (by decide), or_keep h.e18 (by decide)⟩
theorem Wi10.s9 {w1 : World} {N : Nat} {T P : Array Value} {D : Nat → Prop} {v58 v59 v60 v61 v62 v63 v64 v65 v66 v67 v68 v69 v70 v71 v72 v73 v74 v75 v76 : Value} {w' w'' : World} (h : Wi10 w1 N T P D v58 v59 v60 v61 v62 v63 v64 v65 v66 v67 v68 v69 v70 v71 v72 v73 v74 v75 v76 w') (hb : Below w'.heap.size w' w'') : Wi10 w1 N T P (fun j => D j ∨ j = 9) v58 v59 v60 v61 v62 v63 v64 v65 v66 (.pointer (some ⟨N, 1, none⟩)) v68 v69 v70 v71 v72 v73 v74 v75 v76 w'' :=
  ⟨bthen h.b hb, or_keep h.e0 (by decide), or_keep h.e1 (by decide), or_keep h.e2 (by decide), or_keep h.e3 (by decide), or_keep h.e4 (by decide), or_keep h.e5 (by decide), or_keep h.e6 (by decide), or_keep h.e7 (by decide), or_keep h.e8 (by decide), fun _ => rfl, or_keep h.e10 (by decide), or_keep h.e11 (by decide), or_keep h.e12 (by decide), or_keep h.e13 (by decide), or_keep h.e14 (by decide), or_keep h.e15 (by decide), or_keep h.e16 (by decide), or_keep h.e17 (by decide), or_keep h.e18 (by decide)⟩
theorem Wi10.s10 {w1 : World} {N : Nat} {T P : Array Value} {D : Nat → Prop} {v58 v59 v60 v61 v62 v63 v64 v65 v66 v67 v68 v69 v70 v71 v72 v73 v74 v75 v76 : Value} {w' w'' : World} (h : Wi10 w1 N T P D v58 v59 v60 v61 v62 v63 v64 v65 v66 v67 v68 v69 v70 v71 v72 v73 v74 v75 v76 w') (hb : Below w'.heap.size w' w'') : Wi10 w1 N T P (fun j => D j ∨ j = 10) v58 v59 v60 v61 v62 v63 v64 v65 v66 v67 (.bool false) v69 v70 v71 v72 v73 v74 v75 v76 w'' :=
  ⟨bthen h.b hb, or_keep h.e0 (by decide), or_keep h.e1 (by decide), or_keep h.e2 (by decide), or_keep h.e3 (by decide), or_keep h.e4 (by decide), or_keep h.e5 (by decide), or_keep h.e6 (by decide), or_keep h.e7 (by decide), or_keep h.e8 (by decide), or_keep h.e9 (by decide), fun _ => rfl, or_keep h.e11 (by decide), or_keep h.e12 (by decide), or_keep h.e13 (by decide), or_keep h.e14 (by decide), or_keep h.e15 (by decide), or_keep h.e16 (by decide), or_keep h.e17 (by decide), or_keep h.e18 (by decide)⟩
theorem Wi10.s11 {w1 : World} {N : Nat} {T P : Array Value} {D : Nat → Prop} {v58 v59 v60 v61 v62 v63 v64 v65 v66 v67 v68 v69 v70 v71 v72 v73 v74 v75 v76 : Value} {w' w'' : World} (h : Wi10 w1 N T P D v58 v59 v60 v61 v62 v63 v64 v65 v66 v67 v68 v69 v70 v71 v72 v73 v74 v75 v76 w') (hb : Below w'.heap.size w' w'') : Wi10 w1 N T P (fun j => D j ∨ j = 11) v58 v59 v60 v61 v62 v63 v64 v65 v66 v67 v68 (.bool false) v70 v71 v72 v73 v74 v75 v76 w'' :=
  ⟨bthen h.b hb, or_keep h.e0 (by decide), or_keep h.e1 (by decide), or_keep h.e2 (by decide), or_keep h.e3 (by decide), or_keep h.e4 (by decide), or_keep h.e5 (by decide), or_keep h.e6 (by decide), or_keep h.e7 (by decide), or_keep h.e8 (by decide), or_keep h.e9 (by decide), or_keep h.e10 (by decide), fun _ => rfl, or_keep h.e12 (by decide), or_keep h.e13 (by decide), or_keep h.e14 (by decide), or_keep h.e15 (by decide), or_keep h.e16 (by decide), or_keep h.e17 (by decide), or_keep h.e18 (by decide)⟩
theorem Wi10.s12 {w1 : World} {N : Nat} {T P : Array Value} {D : Nat → Prop} {v58 v59 v60 v61 v62 v63 v64 v65 v66 v67 v68 v69 v70 v71 v72 v73 v74 v75 v76 : Value} {w' w'' : World} (h : Wi10 w1 N T P D v58 v59 v60 v61 v62 v63 v64 v65 v66 v67 v68 v69 v70 v71 v72 v73 v74 v75 v76 w') (hb : Below w'.heap.size w' w'') : Wi10 w1 N T P (fun j => D j ∨ j = 12) v58 v59 v60 v61 v62 v63 v64 v65 v66 v67 v68 v69 (undef) v71 v72 v73 v74 v75 v76 w'' :=
  ⟨bthen h.b hb, or_keep h.e0 (by decide), or_keep h.e1 (by decide), or_keep h.e2 (by decide), or_keep h.e3 (by decide), or_keep h.e4 (by decide), or_keep h.e5 (by decide), or_keep h.e6 (by decide), or_keep h.e7 (by decide), or_keep h.e8 (by decide), or_keep h.e9 (by decide), or_keep h.e10 (by decide), or_keep h.e11 (by decide), fun _ => rfl, or_keep h.e13 (by decide), or_keep h.e14 (by decide), or_keep h.e15 (by decide), or_keep h.e16 (by decide), or_keep h.e17 (by decide), or_keep h.e18 (by decide)⟩
theorem Wi10.s13 {w1 : World} {N : Nat} {T P : Array Value} {D : Nat → Prop} {v58 v59 v60 v61 v62 v63 v64 v65 v66 v67 v68 v69 v70 v71 v72 v73 v74 v75 v76 : Value} {w' w'' : World} (h : Wi10 w1 N T P D v58 v59 v60 v61 v62 v63 v64 v65 v66 v67 v68 v69 v70 v71 v72 v73 v74 v75 v76 w') (hb : Below w'.heap.size w' w'') : Wi10 w1 N T P (fun j => D j ∨ j = 13) v58 v59 v60 v61 v62 v63 v64 v65 v66 v67 v68 v69 v70 (undef) v72 v73 v74 v75 v76 w'' :=
  ⟨bthen h.b hb, or_keep h.e0 (by decide), or_keep h.e1 (by decide), or_keep h.e2 (by decide), or_keep h.e3 (by decide), or_keep h.e4 (by decide), or_keep h.e5 (by decide), or_keep h.e6 (by decide), or_keep h.e7 (by decide), or_keep h.e8 (by decide), or_keep h.e9 (by decide), or_keep h.e10 (by decide), or_keep h.e11 (by decide), or_keep h.e12 (by decide), fun _ => rfl, or_keep h.e14 (by decide), or_keep h.e15 (by decide), or_keep h.e16 (by decide), or_keep h.e17 (by decide), or_keep h.e18 (by decide)⟩
theorem Wi10.s14 {w1 : World} {N : Nat} {T P : Array Value} {D : Nat → Prop} {v58 v59 v60 v61 v62 v63 v64 v65 v66 v67 v68 v69 v70 v71 v72 v73 v74 v75 v76 : Value} {w' w'' : World} (h : Wi10 w1 N T P D v58 v59 v60 v61 v62 v63 v64 v65 v66 v67 v68 v69 v70 v71 v72 v73 v74 v75 v76 w') (hb : Below w'.heap.size w' w'') : Wi10 w1 N T P (fun j => D j ∨ j = 14) v58 v59 v60 v61 v62 v63 v64 v65 v66 v67 v68 v69 v70 v71 (undef) v73 v74 v75 v76 w'' :=
  ⟨bthen h.b hb, or_keep h.e0 (by decide), or_keep h.e1 (by decide), or_keep h.e2 (by decide), or_keep h.e3 (by decide), or_keep h.e4 (by decide), or_keep h.e5 (by decide), or_keep h.e6 (by decide), or_keep h.e7 (by decide), or_keep h.e8 (by decide), or_keep h.e9 (by decide), or_keep h.e10 (by decide), or_keep h.e11 (by decide), or_keep h.e12 (by decide), or_keep h.e13 (by decide), fun _ => rfl, or_keep h.e15 (by decide), or_keep h.e16 (by decide), or_keep h.e17 (by decide), or_keep h.e18 (by decide)⟩
theorem Wi10.s15 {w1 : World} {N : Nat} {T P : Array Value} {D : Nat → Prop} {v58 v59 v60 v61 v62 v63 v64 v65 v66 v67 v68 v69 v70 v71 v72 v73 v74 v75 v76 : Value} {w' w'' : World} (h : Wi10 w1 N T P D v58 v59 v60 v61 v62 v63 v64 v65 v66 v67 v68 v69 v70 v71 v72 v73 v74 v75 v76 w') (hb : Below w'.heap.size w' w'') : Wi10 w1 N T P (fun j => D j ∨ j = 15) v58 v59 v60 v61 v62 v63 v64 v65 v66 v67 v68 v69 v70 v71 v72 (undef) v74 v75 v76 w'' :=
  ⟨bthen h.b hb, or_keep h.e0 (by decide), or_keep h.e1 (by decide), or_keep h.e2 (by decide), or_keep h.e3 (by decide), or_keep h.e4 (by decide), or_keep h.e5 (by decide), or_keep h.e6 (by decide), or_keep h.e7 (by decide), or_keep h.e8 (by decide), or_keep h.e9 (by decide), or_keep h.e10 (by decide), or_keep h.e11 (by decide), or_keep h.e12 (by decide), or_keep h.e13 (by decide), or_keep h.e14 (by decide), fun _ => rfl, or_keep h.e16 (by decide), or_keep h.e17 (by decide), or_keep h.e18 (by decide)⟩
theorem Wi10.s16 {w1 : World} {N : Nat} {T P : Array Value} {D : Nat → Prop} {v58 v59 v60 v61 v62 v63 v64 v65 v66 v67 v68 v69 v70 v71 v72 v73 v74 v75 v76 : Value} {w' w'' : World} (h : Wi10 w1 N T P D v58 v59 v60 v61 v62 v63 v64 v65 v66 v67 v68 v69 v70 v71 v72 v73 v74 v75 v76 w') (hb : Below w'.heap.size w' w'') : Wi10 w1 N T P (fun j => D j ∨ j = 16) v58 v59 v60 v61 v62 v63 v64 v65 v66 v67 v68 v69 v70 v71 v72 v73 (undef) v75 v76 w'' :=
  ⟨bthen h.b hb, or_keep h.e0 (by decide), or_keep h.e1 (by decide), or_keep h.e2 (by decide), or_keep h.e3 (by decide), or_keep h.e4 (by decide), or_keep h.e5 (by decide), or_keep h.e6 (by decide), or_keep h.e7 (by decide), or_keep h.e8 (by decide), or_keep h.e9 (by decide), or_keep h.e10 (by decide), or_keep h.e11 (by decide), or_keep h.e12 (by decide), or_keep h.e13 (by decide), or_keep h.e14 (by decide), or_keep h.e15 (by decide), fun _ => rfl, or_keep h.e17 (by decide), or_keep h.e18 (by decide)⟩
theorem Wi10.s17 {w1 : World} {N : Nat} {T P : Array Value} {D : Nat → Prop} {v58 v59 v60 v61 v62 v63 v64 v65 v66 v67 v68 v69 v70 v71 v72 v73 v74 v75 v76 : Value} {w' w'' : World} (h : Wi10 w1 N T P D v58 v59 v60 v61 v62 v63 v64 v65 v66 v67 v68 v69 v70 v71 v72 v73 v74 v75 v76 w') (hb : Below w'.heap.size w' w'') : Wi10 w1 N T P (fun j => D j ∨ j = 17) v58 v59 v60 v61 v62 v63 v64 v65 v66 v67 v68 v69 v70 v71 v72 v73 v74 (undef) v76 w'' :=
  ⟨bthen h.b hb, or_keep h.e0 (by decide), or_keep h.e1 (by decide), or_keep h.e2 (by decide), or_keep h.e3 (by decide), or_keep h.e4 (by decide), or_keep h.e5 (by decide), or_keep h.e6 (by decide), or_keep h.e7 (by decide), or_keep h.e8 (by decide), or_keep h.e9 (by decide), or_keep h.e10 (by decide), or_keep h.e11 (by decide), or_keep h.e12 (by decide), or_keep h.e13 (by decide), or_keep h.e14 (by decide), or_keep h.e15 (by decide), or_keep h.e16 (by decide), fun _ => rfl, or_keep h.e18 (by decide)⟩
theorem Wi10.s18 {w1 : World} {N : Nat} {T P : Array Value} {D : Nat → Prop} {v58 v59 v60 v61 v62 v63 v64 v65 v66 v67 v68 v69 v70 v71 v72 v73 v74 v75 v76 : Value} {w' w'' : World} (h : Wi10 w1 N T P D v58 v59 v60 v61 v62 v63 v64 v65 v66 v67 v68 v69 v70 v71 v72 v73 v74 v75 v76 w') (hb : Below w'.heap.size w' w'') : Wi10 w1 N T P (fun j => D j ∨ j = 18) v58 v59 v60 v61 v62 v63 v64 v65 v66 v67 v68 v69 v70 v71 v72 v73 v74 v75 (.bool false) w'' :=
  ⟨bthen h.b hb, or_keep h.e0 (by decide), or_keep h.e1 (by decide), or_keep h.e2 (by decide), or_keep h.e3 (by decide), or_keep h.e4 (by decide), or_keep h.e5 (by decide), or_keep h.e6 (by decide), or_keep h.e7 (by decide), or_keep h.e8 (by decide), or_keep h.e9 (by decide), or_keep h.e10 (by decide), or_keep h.e11 (by decide), or_keep h.e12 (by decide), or_keep h.e13 (by decide), or_keep h.e14 (by decide), or_keep h.e15 (by decide), or_keep h.e16 (by decide), or_keep h.e17 (by decide), fun _ => rfl⟩
theorem Wi10.zero (w1 : World) (N : Nat) (T P : Array Value) (v58 v59 v60 v61 v62 v63 v64 v65 v66 v67 v68 v69 v70 v71 v72 v73 v74 v75 v76 : Value) : Wi10 w1 N T P (fun _ => False) v58 v59 v60 v61 v62 v63 v64 v65 v66 v67 v68 v69 v70 v71 v72 v73 v74 v75 v76 w1.drew :=
  ⟨(Below.refl _ _).drew, fun h => h.elim, fun h => h.elim, fun h => h.elim, fun h => h.elim, fun h => h.elim, fun h => h.elim, fun h => h.elim, fun h => h.elim, fun h => h.elim, fun h => h.elim, fun h => h.elim, fun h => h.elim, fun h => h.elim, fun h => h.elim, fun h => h.elim, fun h => h.elim, fun h => h.elim, fun h => h.elim, fun h => h.elim⟩
structure Wi11 (w1 : World) (N : Nat) (T P : Array Value) (D : Nat → Prop) (v58 v59 v60 v61 v62 v63 v64 v65 v66 v67 v68 v69 v70 v71 v72 v73 v74 v75 v76 : Value) (w' : World) : Prop where
  b : Below w1.heap.size w1 w'
  e0 : D 0 → v58 = .agg T
  e1 : D 1 → v59 = .int .u8 1
  e2 : D 2 → v60 = .int .u8 0
  e3 : D 3 → v61 = .agg P
  e4 : D 4 → v62 = .bool true
  e5 : D 5 → v63 = .pointer (some ⟨N, 1, none⟩)
  e6 : D 6 → v64 = .bool true
  e7 : D 7 → v65 = .bool false
  e8 : D 8 → v66 = .bool false
  e9 : D 9 → v67 = .pointer (some ⟨N, 1, none⟩)
  e10 : D 10 → v68 = .bool true
  e11 : D 11 → v69 = .bool true
  e12 : D 12 → v70 = .agg T
  e13 : D 13 → v71 = .int .u8 1
  e14 : D 14 → v72 = .int .u8 0
  e15 : D 15 → v73 = .agg P
  e16 : D 16 → v74 = .bool true
  e17 : D 17 → v75 = .bool false
  e18 : D 18 → v76 = .bool false
theorem Wi11.s0 {w1 : World} {N : Nat} {T P : Array Value} {D : Nat → Prop} {v58 v59 v60 v61 v62 v63 v64 v65 v66 v67 v68 v69 v70 v71 v72 v73 v74 v75 v76 : Value} {w' w'' : World} (h : Wi11 w1 N T P D v58 v59 v60 v61 v62 v63 v64 v65 v66 v67 v68 v69 v70 v71 v72 v73 v74 v75 v76 w') (hb : Below w'.heap.size w' w'') : Wi11 w1 N T P (fun j => D j ∨ j = 0) (.agg T) v59 v60 v61 v62 v63 v64 v65 v66 v67 v68 v69 v70 v71 v72 v73 v74 v75 v76 w'' :=
  ⟨bthen h.b hb, fun _ => rfl, or_keep h.e1 (by decide), or_keep h.e2 (by decide), or_keep h.e3 (by decide), or_keep h.e4 (by decide), or_keep h.e5 (by decide), or_keep h.e6 (by decide), or_keep h.e7 (by decide), or_keep h.e8 (by decide), or_keep h.e9 (by decide), or_keep h.e10 (by decide), or_keep h.e11 (by decide), or_keep h.e12 (by decide), or_keep h.e13 (by decide), or_keep h.e14 (by decide), or_keep h.e15 (by decide), or_keep h.e16 (by decide), or_keep h.e17 (by decide), or_keep h.e18 (by decide)⟩
theorem Wi11.s1 {w1 : World} {N : Nat} {T P : Array Value} {D : Nat → Prop} {v58 v59 v60 v61 v62 v63 v64 v65 v66 v67 v68 v69 v70 v71 v72 v73 v74 v75 v76 : Value} {w' w'' : World} (h : Wi11 w1 N T P D v58 v59 v60 v61 v62 v63 v64 v65 v66 v67 v68 v69 v70 v71 v72 v73 v74 v75 v76 w') (hb : Below w'.heap.size w' w'') : Wi11 w1 N T P (fun j => D j ∨ j = 1) v58 (.int .u8 1) v60 v61 v62 v63 v64 v65 v66 v67 v68 v69 v70 v71 v72 v73 v74 v75 v76 w'' :=
  ⟨bthen h.b hb, or_keep h.e0 (by decide), fun _ => rfl, or_keep h.e2 (by decide), or_keep h.e3 (by decide), or_keep h.e4 (by decide), or_keep h.e5 (by decide), or_keep h.e6 (by decide), or_keep h.e7 (by decide), or_keep h.e8 (by decide), or_keep h.e9 (by decide), or_keep h.e10 (by decide), or_keep h.e11 (by decide), or_keep h.e12 (by decide), or_keep h.e13 (by decide), or_keep h.e14 (by decide), or_keep h.e15 (by decide), or_keep h.e16 (by decide), or_keep h.e17 (by decide), or_keep h.e18 (by decide)⟩
theorem Wi11.s2 {w1 : World} {N : Nat} {T P : Array Value} {D : Nat → Prop} {v58 v59 v60 v61 v62 v63 v64 v65 v66 v67 v68 v69 v70 v71 v72 v73 v74 v75 v76 : Value} {w' w'' : World} (h : Wi11 w1 N T P D v58 v59 v60 v61 v62 v63 v64 v65 v66 v67 v68 v69 v70 v71 v72 v73 v74 v75 v76 w') (hb : Below w'.heap.size w' w'') : Wi11 w1 N T P (fun j => D j ∨ j = 2) v58 v59 (.int .u8 0) v61 v62 v63 v64 v65 v66 v67 v68 v69 v70 v71 v72 v73 v74 v75 v76 w'' :=
  ⟨bthen h.b hb, or_keep h.e0 (by decide), or_keep h.e1 (by decide), fun _ => rfl, or_keep h.e3 (by decide), or_keep h.e4 (by decide), or_keep h.e5 (by decide), or_keep h.e6 (by decide), or_keep h.e7 (by decide), or_keep h.e8 (by decide), or_keep h.e9 (by decide), or_keep h.e10 (by decide), or_keep h.e11 (by decide), or_keep h.e12 (by decide), or_keep h.e13 (by decide), or_keep h.e14 (by decide), or_keep h.e15 (by decide), or_keep h.e16 (by decide), or_keep h.e17 (by decide), or_keep h.e18 (by decide)⟩
theorem Wi11.s3 {w1 : World} {N : Nat} {T P : Array Value} {D : Nat → Prop} {v58 v59 v60 v61 v62 v63 v64 v65 v66 v67 v68 v69 v70 v71 v72 v73 v74 v75 v76 : Value} {w' w'' : World} (h : Wi11 w1 N T P D v58 v59 v60 v61 v62 v63 v64 v65 v66 v67 v68 v69 v70 v71 v72 v73 v74 v75 v76 w') (hb : Below w'.heap.size w' w'') : Wi11 w1 N T P (fun j => D j ∨ j = 3) v58 v59 v60 (.agg P) v62 v63 v64 v65 v66 v67 v68 v69 v70 v71 v72 v73 v74 v75 v76 w'' :=
  ⟨bthen h.b hb, or_keep h.e0 (by decide), or_keep h.e1 (by decide), or_keep h.e2 (by decide), fun _ => rfl, or_keep h.e4 (by decide), or_keep h.e5 (by decide), or_keep h.e6 (by decide), or_keep h.e7 (by decide), or_keep h.e8 (by decide), or_keep h.e9 (by decide), or_keep h.e10 (by decide), or_keep h.e11 (by decide), or_keep h.e12 (by decide), or_keep h.e13 (by decide), or_keep h.e14 (by decide), or_keep h.e15 (by decide), or_keep h.e16 (by decide), or_keep h.e17 (by decide), or_keep h.e18 (by decide)⟩
theorem Wi11.s4 {w1 : World} {N : Nat} {T P : Array Value} {D : Nat → Prop} {v58 v59 v60 v61 v62 v63 v64 v65 v66 v67 v68 v69 v70 v71 v72 v73 v74 v75 v76 : Value} {w' w'' : World} (h : Wi11 w1 N T P D v58 v59 v60 v61 v62 v63 v64 v65 v66 v67 v68 v69 v70 v71 v72 v73 v74 v75 v76 w') (hb : Below w'.heap.size w' w'') : Wi11 w1 N T P (fun j => D j ∨ j = 4) v58 v59 v60 v61 (.bool true) v63 v64 v65 v66 v67 v68 v69 v70 v71 v72 v73 v74 v75 v76 w'' :=
  ⟨bthen h.b hb, or_keep h.e0 (by decide), or_keep h.e1 (by decide), or_keep h.e2 (by decide), or_keep h.e3 (by decide), fun _ => rfl, or_keep h.e5 (by decide), or_keep h.e6 (by decide), or_keep h.e7 (by decide), or_keep h.e8 (by decide), or_keep h.e9 (by decide), or_keep h.e10 (by decide), or_keep h.e11 (by decide), or_keep h.e12 (by decide), or_keep h.e13 (by decide), or_keep h.e14 (by decide), or_keep h.e15 (by decide), or_keep h.e16 (by decide), or_keep h.e17 (by decide), or_keep h.e18 (by decide)⟩
theorem Wi11.s5 {w1 : World} {N : Nat} {T P : Array Value} {D : Nat → Prop} {v58 v59 v60 v61 v62 v63 v64 v65 v66 v67 v68 v69 v70 v71 v72 v73 v74 v75 v76 : Value} {w' w'' : World} (h : Wi11 w1 N T P D v58 v59 v60 v61 v62 v63 v64 v65 v66 v67 v68 v69 v70 v71 v72 v73 v74 v75 v76 w') (hb : Below w'.heap.size w' w'') : Wi11 w1 N T P (fun j => D j ∨ j = 5) v58 v59 v60 v61 v62 (.pointer (some ⟨N, 1, none⟩)) v64 v65 v66 v67 v68 v69 v70 v71 v72 v73 v74 v75 v76 w'' :=
  ⟨bthen h.b hb, or_keep h.e0 (by decide), or_keep h.e1 (by decide), or_keep h.e2 (by decide), or_keep h.e3 (by decide), or_keep h.e4 (by decide), fun _ => rfl, or_keep h.e6 (by decide), or_keep h.e7 (by decide), or_keep h.e8 (by decide), or_keep h.e9 (by decide), or_keep h.e10 (by decide), or_keep h.e11 (by decide), or_keep h.e12 (by decide), or_keep h.e13 (by decide), or_keep h.e14 (by decide), or_keep h.e15 (by decide), or_keep h.e16 (by decide), or_keep h.e17 (by decide), or_keep h.e18 (by decide)⟩
theorem Wi11.s6 {w1 : World} {N : Nat} {T P : Array Value} {D : Nat → Prop} {v58 v59 v60 v61 v62 v63 v64 v65 v66 v67 v68 v69 v70 v71 v72 v73 v74 v75 v76 : Value} {w' w'' : World} (h : Wi11 w1 N T P D v58 v59 v60 v61 v62 v63 v64 v65 v66 v67 v68 v69 v70 v71 v72 v73 v74 v75 v76 w') (hb : Below w'.heap.size w' w'') : Wi11 w1 N T P (fun j => D j ∨ j = 6) v58 v59 v60 v61 v62 v63 (.bool true) v65 v66 v67 v68 v69 v70 v71 v72 v73 v74 v75 v76 w'' :=
  ⟨bthen h.b hb, or_keep h.e0 (by decide), or_keep h.e1 (by decide), or_keep h.e2 (by decide), or_keep h.e3 (by decide), or_keep h.e4 (by decide), or_keep h.e5 (by decide), fun _ => rfl, or_keep h.e7 (by decide), or_keep h.e8 (by decide), or_keep h.e9 (by decide), or_keep h.e10 (by decide), or_keep h.e11 (by decide), or_keep h.e12 (by decide), or_keep h.e13 (by decide), or_keep h.e14 (by decide), or_keep h.e15 (by decide), or_keep h.e16 (by decide), or_keep h.e17 (by decide), or_keep h.e18 (by decide)⟩
theorem Wi11.s7 {w1 : World} {N : Nat} {T P : Array Value} {D : Nat → Prop} {v58 v59 v60 v61 v62 v63 v64 v65 v66 v67 v68 v69 v70 v71 v72 v73 v74 v75 v76 : Value} {w' w'' : World} (h : Wi11 w1 N T P D v58 v59 v60 v61 v62 v63 v64 v65 v66 v67 v68 v69 v70 v71 v72 v73 v74 v75 v76 w') (hb : Below w'.heap.size w' w'') : Wi11 w1 N T P (fun j => D j ∨ j = 7) v58 v59 v60 v61 v62 v63 v64 (.bool false) v66 v67 v68 v69 v70 v71 v72 v73 v74 v75 v76 w'' :=
  ⟨bthen h.b hb, or_keep h.e0 (by decide), or_keep h.e1 (by decide), or_keep h.e2 (by decide), or_keep h.e3 (by decide), or_keep h.e4 (by decide), or_keep h.e5 (by decide), or_keep h.e6 (by decide), fun _ => rfl, or_keep h.e8 (by decide), or_keep h.e9 (by decide), or_keep h.e10 (by decide), or_keep h.e11 (by decide), or_keep h.e12 (by decide), or_keep h.e13 (by decide), or_keep h.e14 (by decide), or_keep h.e15 (by decide), or_keep h.e16 (by decide), or_keep h.e17 (by decide), or_keep h.e18 (by decide)⟩
theorem Wi11.s8 {w1 : World} {N : Nat} {T P : Array Value} {D : Nat → Prop} {v58 v59 v60 v61 v62 v63 v64 v65 v66 v67 v68 v69 v70 v71 v72 v73 v74 v75 v76 : Value} {w' w'' : World} (h : Wi11 w1 N T P D v58 v59 v60 v61 v62 v63 v64 v65 v66 v67 v68 v69 v70 v71 v72 v73 v74 v75 v76 w') (hb : Below w'.heap.size w' w'') : Wi11 w1 N T P (fun j => D j ∨ j = 8) v58 v59 v60 v61 v62 v63 v64 v65 (.bool false) v67 v68 v69 v70 v71 v72 v73 v74 v75 v76 w'' :=
  ⟨bthen h.b hb, or_keep h.e0 (by decide), or_keep h.e1 (by decide), or_keep h.e2 (by decide), or_keep h.e3 (by decide), or_keep h.e4 (by decide), or_keep h.e5 (by decide), or_keep h.e6 (by decide), or_keep h.e7 (by decide), fun _ => rfl, or_keep h.e9 (by decide), or_keep h.e10 (by decide), or_keep h.e11 (by decide), or_keep h.e12 (by decide), or_keep h.e13 (by decide), or_keep h.e14 (by decide), or_keep h.e15 (by decide), or_keep h.e16 (by decide), or_keep h.e17 (by decide), or_keep h.e18 (by decide)⟩
theorem Wi11.s9 {w1 : World} {N : Nat} {T P : Array Value} {D : Nat → Prop} {v58 v59 v60 v61 v62 v63 v64 v65 v66 v67 v68 v69 v70 v71 v72 v73 v74 v75 v76 : Value} {w' w'' : World} (h : Wi11 w1 N T P D v58 v59 v60 v61 v62 v63 v64 v65 v66 v67 v68 v69 v70 v71 v72 v73 v74 v75 v76 w') (hb : Below w'.heap.size w' w'') : Wi11 w1 N T P (fun j => D j ∨ j = 9) v58 v59 v60 v61 v62 v63 v64 v65 v66 (.pointer (some ⟨N, 1, none⟩)) v68 v69 v70 v71 v72 v73 v74 v75 v76 w'' :=
  ⟨bthen h.b hb, or_keep h.e0 (by decide), or_keep h.e1 (by decide), or_keep h.e2 (by decide), or_keep h.e3 (by decide), or_keep h.e4 (by decide), or_keep h.e5 (by decide), or_keep h.e6 (by decide), or_keep h.e7 (by decide), or_keep h.e8 (by decide), fun _ => rfl, or_keep h.e10 (by decide), or_keep h.e11 (by decide), or_keep h.e12 (by decide), or_keep h.e13 (by decide), or_keep h.e14 (by decide), or_keep h.e15 (by decide), or_keep h.e16 (by decide), or_keep h.e17 (by decide), or_keep h.e18 (by decide)⟩
theorem Wi11.s10 {w1 : World} {N : Nat} {T P : Array Value} {D : Nat → Prop} {v58 v59 v60 v61 v62 v63 v64 v65 v66 v67 v68 v69 v70 v71 v72 v73 v74 v75 v76 : Value} {w' w'' : World} (h : Wi11 w1 N T P D v58 v59 v60 v61 v62 v63 v64 v65 v66 v67 v68 v69 v70 v71 v72 v73 v74 v75 v76 w') (hb : Below w'.heap.size w' w'') : Wi11 w1 N T P (fun j => D j ∨ j = 10) v58 v59 v60 v61 v62 v63 v64 v65 v66 v67 (.bool true) v69 v70 v71 v72 v73 v74 v75 v76 w'' :=
  ⟨bthen h.b hb, or_keep h.e0 (by decide), or_keep h.e1 (by decide), or_keep h.e2 (by decide), or_keep h.e3 (by decide), or_keep h.e4 (by decide), or_keep h.e5 (by decide), or_keep h.e6 (by decide), or_keep h.e7 (by decide), or_keep h.e8 (by decide), or_keep h.e9 (by decide), fun _ => rfl, or_keep h.e11 (by decide), or_keep h.e12 (by decide), or_keep h.e13 (by decide), or_keep h.e14 (by decide), or_keep h.e15 (by decide), or_keep h.e16 (by decide), or_keep h.e17 (by decide), or_keep h.e18 (by decide)⟩
theorem Wi11.s11 {w1 : World} {N : Nat} {T P : Array Value} {D : Nat → Prop} {v58 v59 v60 v61 v62 v63 v64 v65 v66 v67 v68 v69 v70 v71 v72 v73 v74 v75 v76 : Value} {w' w'' : World} (h : Wi11 w1 N T P D v58 v59 v60 v61 v62 v63 v64 v65 v66 v67 v68 v69 v70 v71 v72 v73 v74 v75 v76 w') (hb : Below w'.heap.size w' w'') : Wi11 w1 N T P (fun j => D j ∨ j = 11) v58 v59 v60 v61 v62 v63 v64 v65 v66 v67 v68 (.bool true) v70 v71 v72 v73 v74 v75 v76 w'' :=
  ⟨bthen h.b hb, or_keep h.e0 (by decide), or_keep h.e1 (by decide), or_keep h.e2 (by decide), or_keep h.e3 (by decide), or_keep h.e4 (by decide), or_keep h.e5 (by decide), or_keep h.e6 (by decide), or_keep h.e7 (by decide), or_keep h.e8 (by decide), or_keep h.e9 (by decide), or_keep h.e10 (by decide), fun _ => rfl, or_keep h.e12 (by decide), or_keep h.e13 (by decide), or_keep h.e14 (by decide), or_keep h.e15 (by decide), or_keep h.e16 (by decide), or_keep h.e17 (by decide), or_keep h.e18 (by decide)⟩
theorem Wi11.s12 {w1 : World} {N : Nat} {T P : Array Value} {D : Nat → Prop} {v58 v59 v60 v61 v62 v63 v64 v65 v66 v67 v68 v69 v70 v71 v72 v73 v74 v75 v76 : Value} {w' w'' : World} (h : Wi11 w1 N T P D v58 v59 v60 v61 v62 v63 v64 v65 v66 v67 v68 v69 v70 v71 v72 v73 v74 v75 v76 w') (hb : Below w'.heap.size w' w'') : Wi11 w1 N T P (fun j => D j ∨ j = 12) v58 v59 v60 v61 v62 v63 v64 v65 v66 v67 v68 v69 (.agg T) v71 v72 v73 v74 v75 v76 w'' :=
  ⟨bthen h.b hb, or_keep h.e0 (by decide), or_keep h.e1 (by decide), or_keep h.e2 (by decide), or_keep h.e3 (by decide), or_keep h.e4 (by decide), or_keep h.e5 (by decide), or_keep h.e6 (by decide), or_keep h.e7 (by decide), or_keep h.e8 (by decide), or_keep h.e9 (by decide), or_keep h.e10 (by decide), or_keep h.e11 (by decide), fun _ => rfl, or_keep h.e13 (by decide), or_keep h.e14 (by decide), or_keep h.e15 (by decide), or_keep h.e16 (by decide), or_keep h.e17 (by decide), or_keep h.e18 (by decide)⟩
theorem Wi11.s13 {w1 : World} {N : Nat} {T P : Array Value} {D : Nat → Prop} {v58 v59 v60 v61 v62 v63 v64 v65 v66 v67 v68 v69 v70 v71 v72 v73 v74 v75 v76 : Value} {w' w'' : World} (h : Wi11 w1 N T P D v58 v59 v60 v61 v62 v63 v64 v65 v66 v67 v68 v69 v70 v71 v72 v73 v74 v75 v76 w') (hb : Below w'.heap.size w' w'') : Wi11 w1 N T P (fun j => D j ∨ j = 13) v58 v59 v60 v61 v62 v63 v64 v65 v66 v67 v68 v69 v70 (.int .u8 1) v72 v73 v74 v75 v76 w'' :=
  ⟨bthen h.b hb, or_keep h.e0 (by decide), or_keep h.e1 (by decide), or_keep h.e2 (by decide), or_keep h.e3 (by decide), or_keep h.e4 (by decide), or_keep h.e5 (by decide), or_keep h.e6 (by decide), or_keep h.e7 (by decide), or_keep h.e8 (by decide), or_keep h.e9 (by decide), or_keep h.e10 (by decide), or_keep h.e11 (by decide), or_keep h.e12 (by decide), fun _ => rfl, or_keep h.e14 (by decide), or_keep h.e15 (by decide), or_keep h.e16 (by decide), or_keep h.e17 (by decide), or_keep h.e18 (by decide)⟩
theorem Wi11.s14 {w1 : World} {N : Nat} {T P : Array Value} {D : Nat → Prop} {v58 v59 v60 v61 v62 v63 v64 v65 v66 v67 v68 v69 v70 v71 v72 v73 v74 v75 v76 : Value} {w' w'' : World} (h : Wi11 w1 N T P D v58 v59 v60 v61 v62 v63 v64 v65 v66 v67 v68 v69 v70 v71 v72 v73 v74 v75 v76 w') (hb : Below w'.heap.size w' w'') : Wi11 w1 N T P (fun j => D j ∨ j = 14) v58 v59 v60 v61 v62 v63 v64 v65 v66 v67 v68 v69 v70 v71 (.int .u8 0) v73 v74 v75 v76 w'' :=
  ⟨bthen h.b hb, or_keep h.e0 (by decide), or_keep h.e1 (by decide), or_keep h.e2 (by decide), or_keep h.e3 (by decide), or_keep h.e4 (by decide), or_keep h.e5 (by decide), or_keep h.e6 (by decide), or_keep h.e7 (by decide), or_keep h.e8 (by decide), or_keep h.e9 (by decide), or_keep h.e10 (by decide), or_keep h.e11 (by decide), or_keep h.e12 (by decide), or_keep h.e13 (by decide), fun _ => rfl, or_keep h.e15 (by decide), or_keep h.e16 (by decide), or_keep h.e17 (by decide), or_keep h.e18 (by decide)⟩
theorem Wi11.s15 {w1 : World} {N : Nat} {T P : Array Value} {D : Nat → Prop} {v58 v59 v60 v61 v62 v63 v64 v65 v66 v67 v68 v69 v70 v71 v72 v73 v74 v75 v76 : Value} {w' w'' : World} (h : Wi11 w1 N T P D v58 v59 v60 v61 v62 v63 v64 v65 v66 v67 v68 v69 v70 v71 v72 v73 v74 v75 v76 w') (hb : Below w'.heap.size w' w'') : Wi11 w1 N T P (fun j => D j ∨ j = 15) v58 v59 v60 v61 v62 v63 v64 v65 v66 v67 v68 v69 v70 v71 v72 (.agg P) v74 v75 v76 w'' :=
  ⟨bthen h.b hb, or_keep h.e0 (by decide), or_keep h.e1 (by decide), or_keep h.e2 (by decide), or_keep h.e3 (by decide), or_keep h.e4 (by decide), or_keep h.e5 (by decide), or_keep h.e6 (by decide), or_keep h.e7 (by decide), or_keep h.e8 (by decide), or_keep h.e9 (by decide), or_keep h.e10 (by decide), or_keep h.e11 (by decide), or_keep h.e12 (by decide), or_keep h.e13 (by decide), or_keep h.e14 (by decide), fun _ => rfl, or_keep h.e16 (by decide), or_keep h.e17 (by decide), or_keep h.e18 (by decide)⟩
theorem Wi11.s16 {w1 : World} {N : Nat} {T P : Array Value} {D : Nat → Prop} {v58 v59 v60 v61 v62 v63 v64 v65 v66 v67 v68 v69 v70 v71 v72 v73 v74 v75 v76 : Value} {w' w'' : World} (h : Wi11 w1 N T P D v58 v59 v60 v61 v62 v63 v64 v65 v66 v67 v68 v69 v70 v71 v72 v73 v74 v75 v76 w') (hb : Below w'.heap.size w' w'') : Wi11 w1 N T P (fun j => D j ∨ j = 16) v58 v59 v60 v61 v62 v63 v64 v65 v66 v67 v68 v69 v70 v71 v72 v73 (.bool true) v75 v76 w'' :=
  ⟨bthen h.b hb, or_keep h.e0 (by decide), or_keep h.e1 (by decide), or_keep h.e2 (by decide), or_keep h.e3 (by decide), or_keep h.e4 (by decide), or_keep h.e5 (by decide), or_keep h.e6 (by decide), or_keep h.e7 (by decide), or_keep h.e8 (by decide), or_keep h.e9 (by decide), or_keep h.e10 (by decide), or_keep h.e11 (by decide), or_keep h.e12 (by decide), or_keep h.e13 (by decide), or_keep h.e14 (by decide), or_keep h.e15 (by decide), fun _ => rfl, or_keep h.e17 (by decide), or_keep h.e18 (by decide)⟩
theorem Wi11.s17 {w1 : World} {N : Nat} {T P : Array Value} {D : Nat → Prop} {v58 v59 v60 v61 v62 v63 v64 v65 v66 v67 v68 v69 v70 v71 v72 v73 v74 v75 v76 : Value} {w' w'' : World} (h : Wi11 w1 N T P D v58 v59 v60 v61 v62 v63 v64 v65 v66 v67 v68 v69 v70 v71 v72 v73 v74 v75 v76 w') (hb : Below w'.heap.size w' w'') : Wi11 w1 N T P (fun j => D j ∨ j = 17) v58 v59 v60 v61 v62 v63 v64 v65 v66 v67 v68 v69 v70 v71 v72 v73 v74 (.bool false) v76 w'' :=
  ⟨bthen h.b hb, or_keep h.e0 (by decide), or_keep h.e1 (by decide), or_keep h.e2 (by decide), or_keep h.e3 (by decide), or_keep h.e4 (by decide), or_keep h.e5 (by decide), or_keep h.e6 (by decide), or_keep h.e7 (by decide), or_keep h.e8 (by decide), or_keep h.e9 (by decide), or_keep h.e10 (by decide), or_keep h.e11 (by decide), or_keep h.e12 (by decide), or_keep h.e13 (by decide), or_keep h.e14 (by decide), or_keep h.e15 (by decide), or_keep h.e16 (by decide), fun _ => rfl, or_keep h.e18 (by decide)⟩
theorem Wi11.s18 {w1 : World} {N : Nat} {T P : Array Value} {D : Nat → Prop} {v58 v59 v60 v61 v62 v63 v64 v65 v66 v67 v68 v69 v70 v71 v72 v73 v74 v75 v76 : Value} {w' w'' : World} (h : Wi11 w1 N T P D v58 v59 v60 v61 v62 v63 v64 v65 v66 v67 v68 v69 v70 v71 v72 v73 v74 v75 v76 w') (hb : Below w'.heap.size w' w'') : Wi11 w1 N T P (fun j => D j ∨ j = 18) v58 v59 v60 v61 v62 v63 v64 v65 v66 v67 v68 v69 v70 v71 v72 v73 v74 v75 (.bool false) w'' :=
  ⟨bthen h.b hb, or_keep h.e0 (by decide), or_keep h.e1 (by decide), or_keep h.e2 (by decide), or_keep h.e3 (by decide), or_keep h.e4 (by decide), or_keep h.e5 (by decide), or_keep h.e6 (by decide), or_keep h.e7 (by decide), or_keep h.e8 (by decide), or_keep h.e9 (by decide), or_keep h.e10 (by decide), or_keep h.e11 (by decide), or_keep h.e12 (by decide), or_keep h.e13 (by decide), or_keep h.e14 (by decide), or_keep h.e15 (by decide), or_keep h.e16 (by decide), or_keep h.e17 (by decide), fun _ => rfl⟩
theorem Wi11.zero (w1 : World) (N : Nat) (T P : Array Value) (v58 v59 v60 v61 v62 v63 v64 v65 v66 v67 v68 v69 v70 v71 v72 v73 v74 v75 v76 : Value) : Wi11 w1 N T P (fun _ => False) v58 v59 v60 v61 v62 v63 v64 v65 v66 v67 v68 v69 v70 v71 v72 v73 v74 v75 v76 w1.drew :=
  ⟨(Below.refl _ _).drew, fun h => h.elim, fun h => h.elim, fun h => h.elim, fun h => h.elim, fun h => h.elim, fun h => h.elim, fun h => h.elim, fun h => h.elim, fun h => h.elim, fun h => h.elim, fun h => h.elim, fun h => h.elim, fun h => h.elim, fun h => h.elim, fun h => h.elim, fun h => h.elim, fun h => h.elim, fun h => h.elim, fun h => h.elim⟩

set_option maxRecDepth 100000 in
set_option maxHeartbeats 8000000 in
theorem wide_core (ack size s W : Int) (T0 T1 : Array Value) (w : World) (ha : 0 ≤ ack ∧ ack ≤ 4294967295) (hz : 0 ≤ size ∧ size ≤ 65535) (hs : 0 ≤ s ∧ s ≤ 4294967295) (HW : Hid (max 1 size = W)) (hW : (if size < 1 then 1 else size) = W) (hW1 : 1 ≤ W ∧ W ≤ 65535)
    (HSee0 : Hid (∀ V, Calls Try.prog 14 #[.agg #[.bool false, .bool false, .int .u32 0, .int .u32 0, .int .i64 0, .bool false, .bool false, .int .u32 0, .int .u32 0, .int .i64 0], .int .u8 0, .agg (pk 16 0 ack size 0)] V fun e w' => e = .returned (.agg T0) ∧ Below V.heap.size V w'))
    (HBel0 : Hid (∀ x : Int, 0 ≤ x ∧ x ≤ 4294967295 → ∀ r, wthn ack size x = r → ∀ V, Calls Try.prog 16 #[.agg T0, .int .u8 1, .agg (pk 4 x 0 0 0)] V fun e w' => e = .returned (.bool r) ∧ Below V.heap.size V w'))
    (HFit0 : Hid (∀ x : Int, 0 ≤ x ∧ x ≤ 4294967295 → wthn ack size x = true → ∀ V, Calls Try.prog 17 #[.agg T0, .int .u8 1, .agg (pk 4 x 0 0 0)] V fun e w' => e = .returned (.bool true) ∧ Below V.heap.size V w'))
    (ZS0 : Hid (T0.size = 10)) (OS0 : Hid (T0.all (·.oneCell') = true))
    (HSee1 : Hid (∀ V, Calls Try.prog 14 #[.agg #[.bool false, .bool false, .int .u32 0, .int .u32 0, .int .i64 0, .bool false, .bool false, .int .u32 0, .int .u32 0, .int .i64 0], .int .u8 1, .agg (pk 16 0 ack size 0)] V fun e w' => e = .returned (.agg T1) ∧ Below V.heap.size V w'))
    (HBel1 : Hid (∀ x : Int, 0 ≤ x ∧ x ≤ 4294967295 → ∀ r, wthn ack size x = r → ∀ V, Calls Try.prog 16 #[.agg T1, .int .u8 0, .agg (pk 4 x 0 0 0)] V fun e w' => e = .returned (.bool r) ∧ Below V.heap.size V w'))
    (HFit1 : Hid (∀ x : Int, 0 ≤ x ∧ x ≤ 4294967295 → wthn ack size x = true → ∀ V, Calls Try.prog 17 #[.agg T1, .int .u8 0, .agg (pk 4 x 0 0 0)] V fun e w' => e = .returned (.bool true) ∧ Below V.heap.size V w'))
    (ZS1 : Hid (T1.size = 10)) (OS1 : Hid (T1.all (·.oneCell') = true))
    : Calls Try.prog 8 #[.int .u32 ack, .int .u16 size, .int .u32 s] w fun e w' => e = .returned (.bool true) ∧ Below w.heap.size w w' := by
  have IS0 : Hid ((Try.prog.info? 29).map (·.size) = some T0.size) := by rw [ZS0.out]; exact info29
  have JS0 : Hid ((Try.prog.info? 29).map (·.size) = some T0.toList.length) := by rw [Array.length_toList, ZS0.out]; exact info29
  have IS1 : Hid ((Try.prog.info? 29).map (·.size) = some T1.size) := by rw [ZS1.out]; exact info29
  have JS1 : Hid ((Try.prog.info? 29).map (·.size) = some T1.toList.length) := by rw [Array.length_toList, ZS1.out]; exact info29
  go_enter Try.func8, Try.ntmps8
  go_wp2_with fail
  refine (awake_any _).mono ?_
  rintro e w1 ⟨rfl, hb1⟩
  go_wp2_with fail
  go_loopw [15] (fun i wr => ∃ k : Nat, k ≤ 2 ∧ i = .int .u8 k ∧ Below w.heap.size w wr) (fun i _ => 2 - (intOf i).toNat)
  case atStart => exact ⟨0, by omega, rfl, hb1⟩
  case round =>
    obtain ⟨k, hk, rfl, hbr⟩ := hrel
    obtain ⟨wo, rfl⟩ : ∃ wo : World, wo = wr := ⟨_, rfl⟩
    rcases (show k = 0 ∨ k = 1 ∨ k = 2 by omega) with rfl | rfl | rfl
    · rw [show ((0 : Nat) : Int) = 0 from rfl]
      go_wp2_with (first | (refine wpList_buildSaid rfl 34 #[(2, .const (.int .u8 16)), (6, .tmp 20), (7, .tmp 22)] rfl [(2, .int .u8 16), (6, .int .u32 ack), (7, .int .i64 size)] _ rfl ?_ (pk 16 0 ack size 0) (built_ack ack size) ?_; (· simp; rfl)))
      refine (HSee0.out _).mono ?_
      rintro e w2 ⟨rfl, hb2⟩
      have d2 : Below w.heap.size w w2 := bthen hbr hb2
      have k2 := d2.size
      clear hb2
      go_wp2_with (refine wpList_store_wide 29 (.tmp 8) (.tmp 24) rfl rfl w2.heap.size 0 T0 rfl rfl w.heap.size w IS0.out OS0.out (d2.alloc k2 _) k2 (there_new _ _ _ _ _ rfl ?_) ?_; (· (rw [ZS0.out]; rfl)); intro v1 e1 z1 r1 j1 j2 j3; clear j1 j2 j3; have y1 : w2.heap.size < v1.heap.size := (by rw [z1]; simp); clear z1)
      obtain ⟨B, hB⟩ : ∃ B, w2.heap.size = B := ⟨_, rfl⟩
      rw [hB] at r1 y1 ⊢
      have hBw : w.heap.size ≤ B := by omega
      clear hB d2 k2
      obtain ⟨PB, hP⟩ : ∃ P, v1.heap.size = P := ⟨_, rfl⟩
      rw [hP]
      generalize hV : World.alloc v1 _ = V
      have SQ := Lib.hid (seq_all v1 V PB hP ack size W s ha hz hs HW.out hV)
      have RV : V.rangeAt B 0 T0.toList := by subst hV; exact World.rangeAt_alloc r1 _
      have zBV : B < V.heap.size := by subst hV; simp; omega
      have eV : Below w.heap.size w V := by subst hV; exact e1.alloc e1.size _
      clear hV hP e1 r1 y1
      generalize ((ack + W) % 4294967296 - 1) % 4294967296 = G33
      go_loopw [51] (fun i wr => ∃ j : Nat, j ≤ 5 ∧ i = .int .i64 j ∧ Below V.heap.size V wr) (fun i _ => 5 - (intOf i).toNat)
      case atStart => exact ⟨0, by omega, rfl, Below.refl _ _⟩
      case round =>
        obtain ⟨j, hj, rfl, hbj⟩ := hrel
        by_cases hjl : j < 5
        · obtain ⟨x, r, hx, hr, q0, q1⟩ := SQ.out j hjl
          have c0 := kc hbj q0
          have c1 := kc hbj q1
          have HX := Lib.hid hx
          have HR := Lib.hid hr
          have hjd : decide ((j : Int) < 5) = true := by simp; omega
          have RT0 := range_below hbj zBV RV
          have zB0 := Nat.lt_of_lt_of_le zBV hbj.size
          have ebj := bthen eV hbj
          have eks := ebj.size
          clear q0 q1 hx hr
          go_wp2_with (first | (refine wpList_buildSaid rfl 34 #[(2, .const (.int .u8 4)), (5, .tmp 56)] rfl [(2, .int .u8 4), (5, .int .u32 x)] _ rfl ?_ (pk 4 x 0 0 0) (built_seq x) ?_; (· simp; rfl)) | (refine wpList_store_wide 34 (.tmp 12) (.tmp 57) rfl rfl (wr.heap.size + 1) 0 (pk 4 x 0 0 0) rfl rfl wr.heap.size wr info34 (by simp [pk, Value.oneCell']) (by (repeat' (first | exact Below.refl _ _ | refine Below.setCell ?_ (by first | omega | (simp; done) | (simp; omega)) _ | refine Below.alloc ?_ (by first | omega | (simp; done) | (simp; omega)) _))) (by omega) (there_new _ _ _ _ _ (by simp) rfl) ?_; intro U hU zU RP xU j2 j3; have y0 : U.cell? ⟨wr.heap.size, 0, none⟩ = some (.int .u32 x) := (j3 _ _ (by omega)).trans (by simp [go_sem]); have y1 : U.cell? ⟨wr.heap.size, 1, none⟩ = some (.bool r) := (j3 _ _ (by omega)).trans (by simp [go_sem]); have RT := range_below hU zB0 RT0; have zM : wr.heap.size + 1 < U.heap.size := (by rw [zU]; simp); clear j2 j3 zU xU))
          have hU := bthen hbj hU
          have zB : B < U.heap.size := Nat.lt_of_lt_of_le zBV hU.size
          clear RT0 c0 c1 hbj ebj eks zB0
          obtain ⟨N, hN⟩ : ∃ N, wr.heap.size = N := ⟨_, rfl⟩
          rw [hN] at y0 y1 RP zM ⊢
          clear hN
          obtain ⟨M, hM⟩ : ∃ M, N + 1 = M := ⟨_, rfl⟩
          rw [hM] at RP zM ⊢
          clear hM
          have IP := Lib.hid (fa_pk 4 x 0 0 0 (by decide) HX.out (by decide) (by decide) (by decide)).hi
          have HB := Lib.hid (HBel0.out x HX.out r HR.out)
          have IT := JS0
          cases r
          · generalize pk 4 x 0 0 0 = P at *
            refine wp_region_steps 19 [[], [], [1], [], [0, 2, 3], [], [5], [4, 6], [7], [8], [9, 8], [10, 8], [11], [11], [13, 11], [11], [12, 14, 15, 11], [16, 11], [11, 17, 8]] (fun D a w' => ∃ v58 v59 v60 v61 v62 v63 v64 v65 v66 v67 v68 v69 v70 v71 v72 v73 v74 v75 v76 : Value, a = ⟨#[.int .u32 ack, .int .u16 size, .int .u32 s, undef, undef, undef, u6, .int .u8 0, .pointer (some ⟨B, 0, none⟩), .int .u32 W, undef, .pointer (some ⟨N, 0, none⟩), .pointer (some ⟨M, 0, none⟩), .bool true, .bool false, .int .u8 0, .bool true, .int .u8 0, .agg #[.bool false, .bool false, .int .u32 0, .int .u32 0, .int .i64 0, .bool false, .bool false, .int .u32 0, .int .u32 0, .int .i64 0], .int .u8 0, .int .u32 ack, .int .u16 size, .int .i64 size, .agg #[.int .u8 0, .int .u32 0, .int .u32 0, .int .u16 0, .int .u16 0, .int .u8 0, .int .u8 16, .int .u8 0, .int .u8 0, .int .u32 0, .int .u32 ack, .int .i64 size, .int .i64 0, .int .u8 0, .int .u32 0, .int .u32 0, .int .u16 0, .int .u16 0, .int .u8 0], .agg T0, .int .u16 size, .int .u16 W, .int .u32 W, .int .u32 ack, .agg #[.int .u32 ack, .bool true], .int .u32 ack, .int .u32 W, .int .u32 ((ack + W) % 4294967296), .int .u32 G33, .agg #[.int .u32 ((ack + W - 1) % 4294967296), .bool true], .int .u32 ack, .int .u32 ((ack - 1) % 4294967296), .agg #[.int .u32 ((ack - 1) % 4294967296), .bool false], .int .u32 ack, .int .u32 W, .int .u32 ((ack + W) % 4294967296), .agg #[.int .u32 ((ack + W) % 4294967296), .bool false], .int .u32 s, .int .u32 s, .int .u32 ack, .int .u32 ((s - ack) % 4294967296), .int .u32 W, .bool (decide ((s - ack) % 4294967296 < W)), .agg #[.int .u32 s, .bool (decide ((s - ack) % 4294967296 < W))], .slice (some ⟨PB, 0, none⟩) 5 5, .int .i64 5, .int .i64 (j : Int), .bool true, .pointer (some ⟨PB, j * 2, none⟩), .agg #[.int .u32 x, .bool false], .pointer (some ⟨N, 0, none⟩), .int .u32 x, .agg #[.int .u8 0, .int .u32 0, .int .u32 0, .int .u16 0, .int .u16 0, .int .u8 0, .int .u8 4, .int .u8 0, .int .u8 0, .int .u32 x, .int .u32 0, .int .i64 0, .int .i64 0, .int .u8 0, .int .u32 0, .int .u32 0, .int .u16 0, .int .u16 0, .int .u8 0], v58, v59, v60, v61, v62, v63, v64, v65, v66, v67, v68, v69, v70, v71, v72, v73, v74, v75, v76, u77, u78, u79], []⟩ ∧ Wi00 U N T0 P D v58 v59 v60 v61 v62 v63 v64 v65 v66 v67 v68 v69 v70 v71 v72 v73 v74 v75 v76 w') (by kernel_rfl) (by kernel_rfl) ⟨u58, u59, u60, u61, u62, u63, u64, u65, u66, u67, u68, u69, u70, u71, u72, u73, u74, u75, u76, rfl, Wi00.zero U N T0 P (u58) (u59) (u60) (u61) (u62) (u63) (u64) (u65) (u66) (u67) (u68) (u69) (u70) (u71) (u72) (u73) (u74) (u75) (u76)⟩ ?_ ?_
            · simp only [List.take_succ_cons, List.take_zero]
              refine ⟨?_, ?_, ?_, ?_, ?_, ?_, ?_, ?_, ?_, ?_, ?_, ?_, ?_, ?_, ?_, ?_, ?_, ?_, ?_, trivial⟩
              · intro D a w' hn hp hI
                obtain ⟨v58, v59, v60, v61, v62, v63, v64, v65, v66, v67, v68, v69, v70, v71, v72, v73, v74, v75, v76, rfl, hR⟩ := hI
                have RR := range_below hR.b zB RT
                clear hn hp
                go_wp2_with (refine wpList_load_wide 29 (.tmp 8) rfl (by rfl) B 0 rfl T0 _ Try.underlying29 rfl IT.out RR ?_)
                exact ⟨_, _, _, _, _, _, _, _, _, _, _, _, _, _, _, _, _, _, _, rfl, hR.s0 (Below.refl _ _)⟩
              · intro D a w' hn hp hI
                obtain ⟨v58, v59, v60, v61, v62, v63, v64, v65, v66, v67, v68, v69, v70, v71, v72, v73, v74, v75, v76, rfl, hR⟩ := hI
                clear hn hp
                go_wp2_with fail
                exact ⟨_, _, _, _, _, _, _, _, _, _, _, _, _, _, _, _, _, _, _, rfl, hR.s1 (Below.refl _ _)⟩
              · intro D a w' hn hp hI
                obtain ⟨v58, v59, v60, v61, v62, v63, v64, v65, v66, v67, v68, v69, v70, v71, v72, v73, v74, v75, v76, rfl, hR⟩ := hI
                obtain rfl := hR.e1 hp.1
                have hw1 : IntKind.u8.wrap 1 = 1 := by kernel_rfl
                clear hn hp
                go_wp2_with fail
                exact ⟨_, _, _, _, _, _, _, _, _, _, _, _, _, _, _, _, _, _, _, rfl, hR.s2 (Below.refl _ _)⟩
              · intro D a w' hn hp hI
                obtain ⟨v58, v59, v60, v61, v62, v63, v64, v65, v66, v67, v68, v69, v70, v71, v72, v73, v74, v75, v76, rfl, hR⟩ := hI
                have RR := range_below hR.b zM RP
                clear hn hp
                go_wp2_with (refine wpList_load_wide 34 (.tmp 12) rfl (by rfl) M 0 rfl P _ Try.underlying34 rfl IP.out RR ?_)
                exact ⟨_, _, _, _, _, _, _, _, _, _, _, _, _, _, _, _, _, _, _, rfl, hR.s3 (Below.refl _ _)⟩
              · intro D a w' hn hp hI
                obtain ⟨v58, v59, v60, v61, v62, v63, v64, v65, v66, v67, v68, v69, v70, v71, v72, v73, v74, v75, v76, rfl, hR⟩ := hI
                obtain rfl := hR.e0 hp.1
                obtain rfl := hR.e2 hp.2.1
                obtain rfl := hR.e3 hp.2.2.1
                clear hn hp
                go_wp2_with fail
                refine (HB.out _).mono ?_
                rintro e w'' ⟨rfl, hb⟩
                go_wp2_with fail
                exact ⟨_, _, _, _, _, _, _, _, _, _, _, _, _, _, _, _, _, _, _, rfl, hR.s4 hb⟩
              · intro D a w' hn hp hI
                obtain ⟨v58, v59, v60, v61, v62, v63, v64, v65, v66, v67, v68, v69, v70, v71, v72, v73, v74, v75, v76, rfl, hR⟩ := hI
                clear hn hp
                go_wp2_with fail
                exact ⟨_, _, _, _, _, _, _, _, _, _, _, _, _, _, _, _, _, _, _, rfl, hR.s5 (Below.refl _ _)⟩
              · intro D a w' hn hp hI
                obtain ⟨v58, v59, v60, v61, v62, v63, v64, v65, v66, v67, v68, v69, v70, v71, v72, v73, v74, v75, v76, rfl, hR⟩ := hI
                obtain rfl := hR.e5 hp.1
                have y1 := kc hR.b y1
                clear hn hp
                go_wp2_with fail
                exact ⟨_, _, _, _, _, _, _, _, _, _, _, _, _, _, _, _, _, _, _, rfl, hR.s6 (Below.refl _ _)⟩
              · intro D a w' hn hp hI
                obtain ⟨v58, v59, v60, v61, v62, v63, v64, v65, v66, v67, v68, v69, v70, v71, v72, v73, v74, v75, v76, rfl, hR⟩ := hI
                obtain rfl := hR.e4 hp.1
                obtain rfl := hR.e6 hp.2.1
                clear hn hp
                go_wp2_with fail
                exact ⟨_, _, _, _, _, _, _, _, _, _, _, _, _, _, _, _, _, _, _, rfl, hR.s7 (Below.refl _ _)⟩
              · intro D a w' hn hp hI
                obtain ⟨v58, v59, v60, v61, v62, v63, v64, v65, v66, v67, v68, v69, v70, v71, v72, v73, v74, v75, v76, rfl, hR⟩ := hI
                obtain rfl := hR.e7 hp.1
                clear hn hp
                go_wp2_with fail
                exact ⟨_, _, _, _, _, _, _, _, _, _, _, _, _, _, _, _, _, _, _, rfl, hR.s8 (Below.refl _ _)⟩
              · intro D a w' hn hp hI
                obtain ⟨v58, v59, v60, v61, v62, v63, v64, v65, v66, v67, v68, v69, v70, v71, v72, v73, v74, v75, v76, rfl, hR⟩ := hI
                obtain rfl := hR.e8 hp.1
                clear hn hp
                go_wp2_with fail
                exact ⟨_, _, _, _, _, _, _, _, _, _, _, _, _, _, _, _, _, _, _, rfl, hR.s9 (Below.refl _ _)⟩
              · intro D a w' hn hp hI
                obtain ⟨v58, v59, v60, v61, v62, v63, v64, v65, v66, v67, v68, v69, v70, v71, v72, v73, v74, v75, v76, rfl, hR⟩ := hI
                obtain rfl := hR.e9 hp.1
                obtain rfl := hR.e8 hp.2.1
                have y1 := kc hR.b y1
                clear hn hp
                go_wp2_with fail
                exact ⟨_, _, _, _, _, _, _, _, _, _, _, _, _, _, _, _, _, _, _, rfl, hR.s10 (Below.refl _ _)⟩
              · intro D a w' hn hp hI
                obtain ⟨v58, v59, v60, v61, v62, v63, v64, v65, v66, v67, v68, v69, v70, v71, v72, v73, v74, v75, v76, rfl, hR⟩ := hI
                obtain rfl := hR.e10 hp.1
                obtain rfl := hR.e8 hp.2.1
                clear hn hp
                go_wp2_with fail
                exact ⟨_, _, _, _, _, _, _, _, _, _, _, _, _, _, _, _, _, _, _, rfl, hR.s11 (Below.refl _ _)⟩
              · intro D a w' hn hp hI
                obtain ⟨v58, v59, v60, v61, v62, v63, v64, v65, v66, v67, v68, v69, v70, v71, v72, v73, v74, v75, v76, rfl, hR⟩ := hI
                obtain rfl := hR.e11 hp.1
                clear hn hp
                go_wp2_with fail
                exact ⟨_, _, _, _, _, _, _, _, _, _, _, _, _, _, _, _, _, _, _, rfl, hR.s12 (Below.refl _ _)⟩
              · intro D a w' hn hp hI
                obtain ⟨v58, v59, v60, v61, v62, v63, v64, v65, v66, v67, v68, v69, v70, v71, v72, v73, v74, v75, v76, rfl, hR⟩ := hI
                obtain rfl := hR.e11 hp.1
                clear hn hp
                go_wp2_with fail
                exact ⟨_, _, _, _, _, _, _, _, _, _, _, _, _, _, _, _, _, _, _, rfl, hR.s13 (Below.refl _ _)⟩
              · intro D a w' hn hp hI
                obtain ⟨v58, v59, v60, v61, v62, v63, v64, v65, v66, v67, v68, v69, v70, v71, v72, v73, v74, v75, v76, rfl, hR⟩ := hI
                obtain rfl := hR.e13 hp.1
                obtain rfl := hR.e11 hp.2.1
                clear hn hp
                go_wp2_with fail
                exact ⟨_, _, _, _, _, _, _, _, _, _, _, _, _, _, _, _, _, _, _, rfl, hR.s14 (Below.refl _ _)⟩
              · intro D a w' hn hp hI
                obtain ⟨v58, v59, v60, v61, v62, v63, v64, v65, v66, v67, v68, v69, v70, v71, v72, v73, v74, v75, v76, rfl, hR⟩ := hI
                obtain rfl := hR.e11 hp.1
                clear hn hp
                go_wp2_with fail
                exact ⟨_, _, _, _, _, _, _, _, _, _, _, _, _, _, _, _, _, _, _, rfl, hR.s15 (Below.refl _ _)⟩
              · intro D a w' hn hp hI
                obtain ⟨v58, v59, v60, v61, v62, v63, v64, v65, v66, v67, v68, v69, v70, v71, v72, v73, v74, v75, v76, rfl, hR⟩ := hI
                obtain rfl := hR.e12 hp.1
                obtain rfl := hR.e14 hp.2.1
                obtain rfl := hR.e15 hp.2.2.1
                obtain rfl := hR.e11 hp.2.2.2.1
                clear hn hp
                go_wp2_with fail
                exact ⟨_, _, _, _, _, _, _, _, _, _, _, _, _, _, _, _, _, _, _, rfl, hR.s16 (Below.refl _ _)⟩
              · intro D a w' hn hp hI
                obtain ⟨v58, v59, v60, v61, v62, v63, v64, v65, v66, v67, v68, v69, v70, v71, v72, v73, v74, v75, v76, rfl, hR⟩ := hI
                obtain rfl := hR.e16 hp.1
                obtain rfl := hR.e11 hp.2.1
                clear hn hp
                go_wp2_with fail
                exact ⟨_, _, _, _, _, _, _, _, _, _, _, _, _, _, _, _, _, _, _, rfl, hR.s17 (Below.refl _ _)⟩
              · intro D a w' hn hp hI
                obtain ⟨v58, v59, v60, v61, v62, v63, v64, v65, v66, v67, v68, v69, v70, v71, v72, v73, v74, v75, v76, rfl, hR⟩ := hI
                obtain rfl := hR.e11 hp.1
                obtain rfl := hR.e17 hp.2.1
                obtain rfl := hR.e8 hp.2.2.1
                clear hn hp
                go_wp2_with fail
                exact ⟨_, _, _, _, _, _, _, _, _, _, _, _, _, _, _, _, _, _, _, rfl, hR.s18 (Below.refl _ _)⟩
            intro D a w' hD hI
            obtain ⟨v58, v59, v60, v61, v62, v63, v64, v65, v66, v67, v68, v69, v70, v71, v72, v73, v74, v75, v76, rfl, hR⟩ := hI
            obtain rfl := hR.e18 (hD 18 (by decide))
            obtain rfl := hR.e8 (hD 8 (by decide))
            have hbU := bthen hU hR.b
            clear hR
            simp only [List.drop_succ_cons, List.drop_zero]
            go_wp2_with fail
            go_roundw
            case rel => exact ⟨j + 1, by omega, by go_num, hbU⟩
            case measure => simp [intOf]; omega
          · have HFt := Lib.hid (HFit0.out x HX.out HR.out)
            generalize pk 4 x 0 0 0 = P at *
            refine wp_region_steps 19 [[], [], [1], [], [0, 2, 3], [], [5], [4, 6], [7], [8], [9, 8], [10, 8], [11], [11], [13, 11], [11], [12, 14, 15, 11], [16, 11], [11, 17, 8]] (fun D a w' => ∃ v58 v59 v60 v61 v62 v63 v64 v65 v66 v67 v68 v69 v70 v71 v72 v73 v74 v75 v76 : Value, a = ⟨#[.int .u32 ack, .int .u16 size, .int .u32 s, undef, undef, undef, u6, .int .u8 0, .pointer (some ⟨B, 0, none⟩), .int .u32 W, undef, .pointer (some ⟨N, 0, none⟩), .pointer (some ⟨M, 0, none⟩), .bool true, .bool false, .int .u8 0, .bool true, .int .u8 0, .agg #[.bool false, .bool false, .int .u32 0, .int .u32 0, .int .i64 0, .bool false, .bool false, .int .u32 0, .int .u32 0, .int .i64 0], .int .u8 0, .int .u32 ack, .int .u16 size, .int .i64 size, .agg #[.int .u8 0, .int .u32 0, .int .u32 0, .int .u16 0, .int .u16 0, .int .u8 0, .int .u8 16, .int .u8 0, .int .u8 0, .int .u32 0, .int .u32 ack, .int .i64 size, .int .i64 0, .int .u8 0, .int .u32 0, .int .u32 0, .int .u16 0, .int .u16 0, .int .u8 0], .agg T0, .int .u16 size, .int .u16 W, .int .u32 W, .int .u32 ack, .agg #[.int .u32 ack, .bool true], .int .u32 ack, .int .u32 W, .int .u32 ((ack + W) % 4294967296), .int .u32 G33, .agg #[.int .u32 ((ack + W - 1) % 4294967296), .bool true], .int .u32 ack, .int .u32 ((ack - 1) % 4294967296), .agg #[.int .u32 ((ack - 1) % 4294967296), .bool false], .int .u32 ack, .int .u32 W, .int .u32 ((ack + W) % 4294967296), .agg #[.int .u32 ((ack + W) % 4294967296), .bool false], .int .u32 s, .int .u32 s, .int .u32 ack, .int .u32 ((s - ack) % 4294967296), .int .u32 W, .bool (decide ((s - ack) % 4294967296 < W)), .agg #[.int .u32 s, .bool (decide ((s - ack) % 4294967296 < W))], .slice (some ⟨PB, 0, none⟩) 5 5, .int .i64 5, .int .i64 (j : Int), .bool true, .pointer (some ⟨PB, j * 2, none⟩), .agg #[.int .u32 x, .bool true], .pointer (some ⟨N, 0, none⟩), .int .u32 x, .agg #[.int .u8 0, .int .u32 0, .int .u32 0, .int .u16 0, .int .u16 0, .int .u8 0, .int .u8 4, .int .u8 0, .int .u8 0, .int .u32 x, .int .u32 0, .int .i64 0, .int .i64 0, .int .u8 0, .int .u32 0, .int .u32 0, .int .u16 0, .int .u16 0, .int .u8 0], v58, v59, v60, v61, v62, v63, v64, v65, v66, v67, v68, v69, v70, v71, v72, v73, v74, v75, v76, u77, u78, u79], []⟩ ∧ Wi01 U N T0 P D v58 v59 v60 v61 v62 v63 v64 v65 v66 v67 v68 v69 v70 v71 v72 v73 v74 v75 v76 w') (by kernel_rfl) (by kernel_rfl) ⟨u58, u59, u60, u61, u62, u63, u64, u65, u66, u67, u68, u69, u70, u71, u72, u73, u74, u75, u76, rfl, Wi01.zero U N T0 P (u58) (u59) (u60) (u61) (u62) (u63) (u64) (u65) (u66) (u67) (u68) (u69) (u70) (u71) (u72) (u73) (u74) (u75) (u76)⟩ ?_ ?_
            · simp only [List.take_succ_cons, List.take_zero]
              refine ⟨?_, ?_, ?_, ?_, ?_, ?_, ?_, ?_, ?_, ?_, ?_, ?_, ?_, ?_, ?_, ?_, ?_, ?_, ?_, trivial⟩
              · intro D a w' hn hp hI
                obtain ⟨v58, v59, v60, v61, v62, v63, v64, v65, v66, v67, v68, v69, v70, v71, v72, v73, v74, v75, v76, rfl, hR⟩ := hI
                have RR := range_below hR.b zB RT
                clear hn hp
                go_wp2_with (refine wpList_load_wide 29 (.tmp 8) rfl (by rfl) B 0 rfl T0 _ Try.underlying29 rfl IT.out RR ?_)
                exact ⟨_, _, _, _, _, _, _, _, _, _, _, _, _, _, _, _, _, _, _, rfl, hR.s0 (Below.refl _ _)⟩
              · intro D a w' hn hp hI
                obtain ⟨v58, v59, v60, v61, v62, v63, v64, v65, v66, v67, v68, v69, v70, v71, v72, v73, v74, v75, v76, rfl, hR⟩ := hI
                clear hn hp
                go_wp2_with fail
                exact ⟨_, _, _, _, _, _, _, _, _, _, _, _, _, _, _, _, _, _, _, rfl, hR.s1 (Below.refl _ _)⟩
              · intro D a w' hn hp hI
                obtain ⟨v58, v59, v60, v61, v62, v63, v64, v65, v66, v67, v68, v69, v70, v71, v72, v73, v74, v75, v76, rfl, hR⟩ := hI
                obtain rfl := hR.e1 hp.1
                have hw1 : IntKind.u8.wrap 1 = 1 := by kernel_rfl
                clear hn hp
                go_wp2_with fail
                exact ⟨_, _, _, _, _, _, _, _, _, _, _, _, _, _, _, _, _, _, _, rfl, hR.s2 (Below.refl _ _)⟩
              · intro D a w' hn hp hI
                obtain ⟨v58, v59, v60, v61, v62, v63, v64, v65, v66, v67, v68, v69, v70, v71, v72, v73, v74, v75, v76, rfl, hR⟩ := hI
                have RR := range_below hR.b zM RP
                clear hn hp
                go_wp2_with (refine wpList_load_wide 34 (.tmp 12) rfl (by rfl) M 0 rfl P _ Try.underlying34 rfl IP.out RR ?_)
                exact ⟨_, _, _, _, _, _, _, _, _, _, _, _, _, _, _, _, _, _, _, rfl, hR.s3 (Below.refl _ _)⟩
              · intro D a w' hn hp hI
                obtain ⟨v58, v59, v60, v61, v62, v63, v64, v65, v66, v67, v68, v69, v70, v71, v72, v73, v74, v75, v76, rfl, hR⟩ := hI
                obtain rfl := hR.e0 hp.1
                obtain rfl := hR.e2 hp.2.1
                obtain rfl := hR.e3 hp.2.2.1
                clear hn hp
                go_wp2_with fail
                refine (HB.out _).mono ?_
                rintro e w'' ⟨rfl, hb⟩
                go_wp2_with fail
                exact ⟨_, _, _, _, _, _, _, _, _, _, _, _, _, _, _, _, _, _, _, rfl, hR.s4 hb⟩
              · intro D a w' hn hp hI
                obtain ⟨v58, v59, v60, v61, v62, v63, v64, v65, v66, v67, v68, v69, v70, v71, v72, v73, v74, v75, v76, rfl, hR⟩ := hI
                clear hn hp
                go_wp2_with fail
                exact ⟨_, _, _, _, _, _, _, _, _, _, _, _, _, _, _, _, _, _, _, rfl, hR.s5 (Below.refl _ _)⟩
              · intro D a w' hn hp hI
                obtain ⟨v58, v59, v60, v61, v62, v63, v64, v65, v66, v67, v68, v69, v70, v71, v72, v73, v74, v75, v76, rfl, hR⟩ := hI
                obtain rfl := hR.e5 hp.1
                have y1 := kc hR.b y1
                clear hn hp
                go_wp2_with fail
                exact ⟨_, _, _, _, _, _, _, _, _, _, _, _, _, _, _, _, _, _, _, rfl, hR.s6 (Below.refl _ _)⟩
              · intro D a w' hn hp hI
                obtain ⟨v58, v59, v60, v61, v62, v63, v64, v65, v66, v67, v68, v69, v70, v71, v72, v73, v74, v75, v76, rfl, hR⟩ := hI
                obtain rfl := hR.e4 hp.1
                obtain rfl := hR.e6 hp.2.1
                clear hn hp
                go_wp2_with fail
                exact ⟨_, _, _, _, _, _, _, _, _, _, _, _, _, _, _, _, _, _, _, rfl, hR.s7 (Below.refl _ _)⟩
              · intro D a w' hn hp hI
                obtain ⟨v58, v59, v60, v61, v62, v63, v64, v65, v66, v67, v68, v69, v70, v71, v72, v73, v74, v75, v76, rfl, hR⟩ := hI
                obtain rfl := hR.e7 hp.1
                clear hn hp
                go_wp2_with fail
                exact ⟨_, _, _, _, _, _, _, _, _, _, _, _, _, _, _, _, _, _, _, rfl, hR.s8 (Below.refl _ _)⟩
              · intro D a w' hn hp hI
                obtain ⟨v58, v59, v60, v61, v62, v63, v64, v65, v66, v67, v68, v69, v70, v71, v72, v73, v74, v75, v76, rfl, hR⟩ := hI
                obtain rfl := hR.e8 hp.1
                clear hn hp
                go_wp2_with fail
                exact ⟨_, _, _, _, _, _, _, _, _, _, _, _, _, _, _, _, _, _, _, rfl, hR.s9 (Below.refl _ _)⟩
              · intro D a w' hn hp hI
                obtain ⟨v58, v59, v60, v61, v62, v63, v64, v65, v66, v67, v68, v69, v70, v71, v72, v73, v74, v75, v76, rfl, hR⟩ := hI
                obtain rfl := hR.e9 hp.1
                obtain rfl := hR.e8 hp.2.1
                have y1 := kc hR.b y1
                clear hn hp
                go_wp2_with fail
                exact ⟨_, _, _, _, _, _, _, _, _, _, _, _, _, _, _, _, _, _, _, rfl, hR.s10 (Below.refl _ _)⟩
              · intro D a w' hn hp hI
                obtain ⟨v58, v59, v60, v61, v62, v63, v64, v65, v66, v67, v68, v69, v70, v71, v72, v73, v74, v75, v76, rfl, hR⟩ := hI
                obtain rfl := hR.e10 hp.1
                obtain rfl := hR.e8 hp.2.1
                clear hn hp
                go_wp2_with fail
                exact ⟨_, _, _, _, _, _, _, _, _, _, _, _, _, _, _, _, _, _, _, rfl, hR.s11 (Below.refl _ _)⟩
              · intro D a w' hn hp hI
                obtain ⟨v58, v59, v60, v61, v62, v63, v64, v65, v66, v67, v68, v69, v70, v71, v72, v73, v74, v75, v76, rfl, hR⟩ := hI
                obtain rfl := hR.e11 hp.1
                have RR := range_below hR.b zB RT
                clear hn hp
                go_wp2_with (refine wpList_load_wide 29 (.tmp 8) rfl (by rfl) B 0 rfl T0 _ Try.underlying29 rfl IT.out RR ?_)
                exact ⟨_, _, _, _, _, _, _, _, _, _, _, _, _, _, _, _, _, _, _, rfl, hR.s12 (Below.refl _ _)⟩
              · intro D a w' hn hp hI
                obtain ⟨v58, v59, v60, v61, v62, v63, v64, v65, v66, v67, v68, v69, v70, v71, v72, v73, v74, v75, v76, rfl, hR⟩ := hI
                obtain rfl := hR.e11 hp.1
                clear hn hp
                go_wp2_with fail
                exact ⟨_, _, _, _, _, _, _, _, _, _, _, _, _, _, _, _, _, _, _, rfl, hR.s13 (Below.refl _ _)⟩
              · intro D a w' hn hp hI
                obtain ⟨v58, v59, v60, v61, v62, v63, v64, v65, v66, v67, v68, v69, v70, v71, v72, v73, v74, v75, v76, rfl, hR⟩ := hI
                obtain rfl := hR.e13 hp.1
                obtain rfl := hR.e11 hp.2.1
                have hw1 : IntKind.u8.wrap 1 = 1 := by kernel_rfl
                clear hn hp
                go_wp2_with fail
                exact ⟨_, _, _, _, _, _, _, _, _, _, _, _, _, _, _, _, _, _, _, rfl, hR.s14 (Below.refl _ _)⟩
              · intro D a w' hn hp hI
                obtain ⟨v58, v59, v60, v61, v62, v63, v64, v65, v66, v67, v68, v69, v70, v71, v72, v73, v74, v75, v76, rfl, hR⟩ := hI
                obtain rfl := hR.e11 hp.1
                have RR := range_below hR.b zM RP
                clear hn hp
                go_wp2_with (refine wpList_load_wide 34 (.tmp 12) rfl (by rfl) M 0 rfl P _ Try.underlying34 rfl IP.out RR ?_)
                exact ⟨_, _, _, _, _, _, _, _, _, _, _, _, _, _, _, _, _, _, _, rfl, hR.s15 (Below.refl _ _)⟩
              · intro D a w' hn hp hI
                obtain ⟨v58, v59, v60, v61, v62, v63, v64, v65, v66, v67, v68, v69, v70, v71, v72, v73, v74, v75, v76, rfl, hR⟩ := hI
                obtain rfl := hR.e12 hp.1
                obtain rfl := hR.e14 hp.2.1
                obtain rfl := hR.e15 hp.2.2.1
                obtain rfl := hR.e11 hp.2.2.2.1
                clear hn hp
                go_wp2_with fail
                refine (HFt.out _).mono ?_
                rintro e w'' ⟨rfl, hb⟩
                go_wp2_with fail
                exact ⟨_, _, _, _, _, _, _, _, _, _, _, _, _, _, _, _, _, _, _, rfl, hR.s16 hb⟩
              · intro D a w' hn hp hI
                obtain ⟨v58, v59, v60, v61, v62, v63, v64, v65, v66, v67, v68, v69, v70, v71, v72, v73, v74, v75, v76, rfl, hR⟩ := hI
                obtain rfl := hR.e16 hp.1
                obtain rfl := hR.e11 hp.2.1
                clear hn hp
                go_wp2_with fail
                exact ⟨_, _, _, _, _, _, _, _, _, _, _, _, _, _, _, _, _, _, _, rfl, hR.s17 (Below.refl _ _)⟩
              · intro D a w' hn hp hI
                obtain ⟨v58, v59, v60, v61, v62, v63, v64, v65, v66, v67, v68, v69, v70, v71, v72, v73, v74, v75, v76, rfl, hR⟩ := hI
                obtain rfl := hR.e11 hp.1
                obtain rfl := hR.e17 hp.2.1
                obtain rfl := hR.e8 hp.2.2.1
                clear hn hp
                go_wp2_with fail
                exact ⟨_, _, _, _, _, _, _, _, _, _, _, _, _, _, _, _, _, _, _, rfl, hR.s18 (Below.refl _ _)⟩
            intro D a w' hD hI
            obtain ⟨v58, v59, v60, v61, v62, v63, v64, v65, v66, v67, v68, v69, v70, v71, v72, v73, v74, v75, v76, rfl, hR⟩ := hI
            obtain rfl := hR.e18 (hD 18 (by decide))
            obtain rfl := hR.e8 (hD 8 (by decide))
            have hbU := bthen hU hR.b
            clear hR
            simp only [List.drop_succ_cons, List.drop_zero]
            go_wp2_with fail
            go_roundw
            case rel => exact ⟨j + 1, by omega, by go_num, hbU⟩
            case measure => simp [intOf]; omega
        · obtain rfl : j = 5 := by omega
          have ebj := bthen eV hbj
          go_wp2_with fail
          go_roundw
          case rel => exact ⟨0 + 1, by omega, by go_num, ebj⟩
          case measure => simp [intOf]
    · rw [show ((1 : Nat) : Int) = 1 from rfl]
      go_wp2_with (first | (refine wpList_buildSaid rfl 34 #[(2, .const (.int .u8 16)), (6, .tmp 20), (7, .tmp 22)] rfl [(2, .int .u8 16), (6, .int .u32 ack), (7, .int .i64 size)] _ rfl ?_ (pk 16 0 ack size 0) (built_ack ack size) ?_; (· simp; rfl)))
      refine (HSee1.out _).mono ?_
      rintro e w2 ⟨rfl, hb2⟩
      have d2 : Below w.heap.size w w2 := bthen hbr hb2
      have k2 := d2.size
      clear hb2
      go_wp2_with (refine wpList_store_wide 29 (.tmp 8) (.tmp 24) rfl rfl w2.heap.size 0 T1 rfl rfl w.heap.size w IS1.out OS1.out (d2.alloc k2 _) k2 (there_new _ _ _ _ _ rfl ?_) ?_; (· (rw [ZS1.out]; rfl)); intro v1 e1 z1 r1 j1 j2 j3; clear j1 j2 j3; have y1 : w2.heap.size < v1.heap.size := (by rw [z1]; simp); clear z1)
      obtain ⟨B, hB⟩ : ∃ B, w2.heap.size = B := ⟨_, rfl⟩
      rw [hB] at r1 y1 ⊢
      have hBw : w.heap.size ≤ B := by omega
      clear hB d2 k2
      obtain ⟨PB, hP⟩ : ∃ P, v1.heap.size = P := ⟨_, rfl⟩
      rw [hP]
      generalize hV : World.alloc v1 _ = V
      have SQ := Lib.hid (seq_all v1 V PB hP ack size W s ha hz hs HW.out hV)
      have RV : V.rangeAt B 0 T1.toList := by subst hV; exact World.rangeAt_alloc r1 _
      have zBV : B < V.heap.size := by subst hV; simp; omega
      have eV : Below w.heap.size w V := by subst hV; exact e1.alloc e1.size _
      clear hV hP e1 r1 y1
      generalize ((ack + W) % 4294967296 - 1) % 4294967296 = G33
      go_loopw [51] (fun i wr => ∃ j : Nat, j ≤ 5 ∧ i = .int .i64 j ∧ Below V.heap.size V wr) (fun i _ => 5 - (intOf i).toNat)
      case atStart => exact ⟨0, by omega, rfl, Below.refl _ _⟩
      case round =>
        obtain ⟨j, hj, rfl, hbj⟩ := hrel
        by_cases hjl : j < 5
        · obtain ⟨x, r, hx, hr, q0, q1⟩ := SQ.out j hjl
          have c0 := kc hbj q0
          have c1 := kc hbj q1
          have HX := Lib.hid hx
          have HR := Lib.hid hr
          have hjd : decide ((j : Int) < 5) = true := by simp; omega
          have RT0 := range_below hbj zBV RV
          have zB0 := Nat.lt_of_lt_of_le zBV hbj.size
          have ebj := bthen eV hbj
          have eks := ebj.size
          clear q0 q1 hx hr
          go_wp2_with (first | (refine wpList_buildSaid rfl 34 #[(2, .const (.int .u8 4)), (5, .tmp 56)] rfl [(2, .int .u8 4), (5, .int .u32 x)] _ rfl ?_ (pk 4 x 0 0 0) (built_seq x) ?_; (· simp; rfl)) | (refine wpList_store_wide 34 (.tmp 12) (.tmp 57) rfl rfl (wr.heap.size + 1) 0 (pk 4 x 0 0 0) rfl rfl wr.heap.size wr info34 (by simp [pk, Value.oneCell']) (by (repeat' (first | exact Below.refl _ _ | refine Below.setCell ?_ (by first | omega | (simp; done) | (simp; omega)) _ | refine Below.alloc ?_ (by first | omega | (simp; done) | (simp; omega)) _))) (by omega) (there_new _ _ _ _ _ (by simp) rfl) ?_; intro U hU zU RP xU j2 j3; have y0 : U.cell? ⟨wr.heap.size, 0, none⟩ = some (.int .u32 x) := (j3 _ _ (by omega)).trans (by simp [go_sem]); have y1 : U.cell? ⟨wr.heap.size, 1, none⟩ = some (.bool r) := (j3 _ _ (by omega)).trans (by simp [go_sem]); have RT := range_below hU zB0 RT0; have zM : wr.heap.size + 1 < U.heap.size := (by rw [zU]; simp); clear j2 j3 zU xU))
          have hU := bthen hbj hU
          have zB : B < U.heap.size := Nat.lt_of_lt_of_le zBV hU.size
          clear RT0 c0 c1 hbj ebj eks zB0
          obtain ⟨N, hN⟩ : ∃ N, wr.heap.size = N := ⟨_, rfl⟩
          rw [hN] at y0 y1 RP zM ⊢
          clear hN
          obtain ⟨M, hM⟩ : ∃ M, N + 1 = M := ⟨_, rfl⟩
          rw [hM] at RP zM ⊢
          clear hM
          have IP := Lib.hid (fa_pk 4 x 0 0 0 (by decide) HX.out (by decide) (by decide) (by decide)).hi
          have HB := Lib.hid (HBel1.out x HX.out r HR.out)
          have IT := JS1
          cases r
          · generalize pk 4 x 0 0 0 = P at *
            refine wp_region_steps 19 [[], [], [1], [], [0, 2, 3], [], [5], [4, 6], [7], [8], [9, 8], [10, 8], [11], [11], [13, 11], [11], [12, 14, 15, 11], [16, 11], [11, 17, 8]] (fun D a w' => ∃ v58 v59 v60 v61 v62 v63 v64 v65 v66 v67 v68 v69 v70 v71 v72 v73 v74 v75 v76 : Value, a = ⟨#[.int .u32 ack, .int .u16 size, .int .u32 s, undef, undef, undef, u6, .int .u8 1, .pointer (some ⟨B, 0, none⟩), .int .u32 W, undef, .pointer (some ⟨N, 0, none⟩), .pointer (some ⟨M, 0, none⟩), .bool true, .bool false, .int .u8 1, .bool true, .int .u8 1, .agg #[.bool false, .bool false, .int .u32 0, .int .u32 0, .int .i64 0, .bool false, .bool false, .int .u32 0, .int .u32 0, .int .i64 0], .int .u8 1, .int .u32 ack, .int .u16 size, .int .i64 size, .agg #[.int .u8 0, .int .u32 0, .int .u32 0, .int .u16 0, .int .u16 0, .int .u8 0, .int .u8 16, .int .u8 0, .int .u8 0, .int .u32 0, .int .u32 ack, .int .i64 size, .int .i64 0, .int .u8 0, .int .u32 0, .int .u32 0, .int .u16 0, .int .u16 0, .int .u8 0], .agg T1, .int .u16 size, .int .u16 W, .int .u32 W, .int .u32 ack, .agg #[.int .u32 ack, .bool true], .int .u32 ack, .int .u32 W, .int .u32 ((ack + W) % 4294967296), .int .u32 G33, .agg #[.int .u32 ((ack + W - 1) % 4294967296), .bool true], .int .u32 ack, .int .u32 ((ack - 1) % 4294967296), .agg #[.int .u32 ((ack - 1) % 4294967296), .bool false], .int .u32 ack, .int .u32 W, .int .u32 ((ack + W) % 4294967296), .agg #[.int .u32 ((ack + W) % 4294967296), .bool false], .int .u32 s, .int .u32 s, .int .u32 ack, .int .u32 ((s - ack) % 4294967296), .int .u32 W, .bool (decide ((s - ack) % 4294967296 < W)), .agg #[.int .u32 s, .bool (decide ((s - ack) % 4294967296 < W))], .slice (some ⟨PB, 0, none⟩) 5 5, .int .i64 5, .int .i64 (j : Int), .bool true, .pointer (some ⟨PB, j * 2, none⟩), .agg #[.int .u32 x, .bool false], .pointer (some ⟨N, 0, none⟩), .int .u32 x, .agg #[.int .u8 0, .int .u32 0, .int .u32 0, .int .u16 0, .int .u16 0, .int .u8 0, .int .u8 4, .int .u8 0, .int .u8 0, .int .u32 x, .int .u32 0, .int .i64 0, .int .i64 0, .int .u8 0, .int .u32 0, .int .u32 0, .int .u16 0, .int .u16 0, .int .u8 0], v58, v59, v60, v61, v62, v63, v64, v65, v66, v67, v68, v69, v70, v71, v72, v73, v74, v75, v76, u77, u78, u79], []⟩ ∧ Wi10 U N T1 P D v58 v59 v60 v61 v62 v63 v64 v65 v66 v67 v68 v69 v70 v71 v72 v73 v74 v75 v76 w') (by kernel_rfl) (by kernel_rfl) ⟨u58, u59, u60, u61, u62, u63, u64, u65, u66, u67, u68, u69, u70, u71, u72, u73, u74, u75, u76, rfl, Wi10.zero U N T1 P (u58) (u59) (u60) (u61) (u62) (u63) (u64) (u65) (u66) (u67) (u68) (u69) (u70) (u71) (u72) (u73) (u74) (u75) (u76)⟩ ?_ ?_
            · simp only [List.take_succ_cons, List.take_zero]
              refine ⟨?_, ?_, ?_, ?_, ?_, ?_, ?_, ?_, ?_, ?_, ?_, ?_, ?_, ?_, ?_, ?_, ?_, ?_, ?_, trivial⟩
              · intro D a w' hn hp hI
                obtain ⟨v58, v59, v60, v61, v62, v63, v64, v65, v66, v67, v68, v69, v70, v71, v72, v73, v74, v75, v76, rfl, hR⟩ := hI
                have RR := range_below hR.b zB RT
                clear hn hp
                go_wp2_with (refine wpList_load_wide 29 (.tmp 8) rfl (by rfl) B 0 rfl T1 _ Try.underlying29 rfl IT.out RR ?_)
                exact ⟨_, _, _, _, _, _, _, _, _, _, _, _, _, _, _, _, _, _, _, rfl, hR.s0 (Below.refl _ _)⟩
              · intro D a w' hn hp hI
                obtain ⟨v58, v59, v60, v61, v62, v63, v64, v65, v66, v67, v68, v69, v70, v71, v72, v73, v74, v75, v76, rfl, hR⟩ := hI
                clear hn hp
                go_wp2_with fail
                exact ⟨_, _, _, _, _, _, _, _, _, _, _, _, _, _, _, _, _, _, _, rfl, hR.s1 (Below.refl _ _)⟩
              · intro D a w' hn hp hI
                obtain ⟨v58, v59, v60, v61, v62, v63, v64, v65, v66, v67, v68, v69, v70, v71, v72, v73, v74, v75, v76, rfl, hR⟩ := hI
                obtain rfl := hR.e1 hp.1
                have hw1 : IntKind.u8.wrap 0 = 0 := by kernel_rfl
                clear hn hp
                go_wp2_with fail
                exact ⟨_, _, _, _, _, _, _, _, _, _, _, _, _, _, _, _, _, _, _, rfl, hR.s2 (Below.refl _ _)⟩
              · intro D a w' hn hp hI
                obtain ⟨v58, v59, v60, v61, v62, v63, v64, v65, v66, v67, v68, v69, v70, v71, v72, v73, v74, v75, v76, rfl, hR⟩ := hI
                have RR := range_below hR.b zM RP
                clear hn hp
                go_wp2_with (refine wpList_load_wide 34 (.tmp 12) rfl (by rfl) M 0 rfl P _ Try.underlying34 rfl IP.out RR ?_)
                exact ⟨_, _, _, _, _, _, _, _, _, _, _, _, _, _, _, _, _, _, _, rfl, hR.s3 (Below.refl _ _)⟩
              · intro D a w' hn hp hI
                obtain ⟨v58, v59, v60, v61, v62, v63, v64, v65, v66, v67, v68, v69, v70, v71, v72, v73, v74, v75, v76, rfl, hR⟩ := hI
                obtain rfl := hR.e0 hp.1
                obtain rfl := hR.e2 hp.2.1
                obtain rfl := hR.e3 hp.2.2.1
                clear hn hp
                go_wp2_with fail
                refine (HB.out _).mono ?_
                rintro e w'' ⟨rfl, hb⟩
                go_wp2_with fail
                exact ⟨_, _, _, _, _, _, _, _, _, _, _, _, _, _, _, _, _, _, _, rfl, hR.s4 hb⟩
              · intro D a w' hn hp hI
                obtain ⟨v58, v59, v60, v61, v62, v63, v64, v65, v66, v67, v68, v69, v70, v71, v72, v73, v74, v75, v76, rfl, hR⟩ := hI
                clear hn hp
                go_wp2_with fail
                exact ⟨_, _, _, _, _, _, _, _, _, _, _, _, _, _, _, _, _, _, _, rfl, hR.s5 (Below.refl _ _)⟩
              · intro D a w' hn hp hI
                obtain ⟨v58, v59, v60, v61, v62, v63, v64, v65, v66, v67, v68, v69, v70, v71, v72, v73, v74, v75, v76, rfl, hR⟩ := hI
                obtain rfl := hR.e5 hp.1
                have y1 := kc hR.b y1
                clear hn hp
                go_wp2_with fail
                exact ⟨_, _, _, _, _, _, _, _, _, _, _, _, _, _, _, _, _, _, _, rfl, hR.s6 (Below.refl _ _)⟩
              · intro D a w' hn hp hI
                obtain ⟨v58, v59, v60, v61, v62, v63, v64, v65, v66, v67, v68, v69, v70, v71, v72, v73, v74, v75, v76, rfl, hR⟩ := hI
                obtain rfl := hR.e4 hp.1
                obtain rfl := hR.e6 hp.2.1
                clear hn hp
                go_wp2_with fail
                exact ⟨_, _, _, _, _, _, _, _, _, _, _, _, _, _, _, _, _, _, _, rfl, hR.s7 (Below.refl _ _)⟩
              · intro D a w' hn hp hI
                obtain ⟨v58, v59, v60, v61, v62, v63, v64, v65, v66, v67, v68, v69, v70, v71, v72, v73, v74, v75, v76, rfl, hR⟩ := hI
                obtain rfl := hR.e7 hp.1
                clear hn hp
                go_wp2_with fail
                exact ⟨_, _, _, _, _, _, _, _, _, _, _, _, _, _, _, _, _, _, _, rfl, hR.s8 (Below.refl _ _)⟩
              · intro D a w' hn hp hI
                obtain ⟨v58, v59, v60, v61, v62, v63, v64, v65, v66, v67, v68, v69, v70, v71, v72, v73, v74, v75, v76, rfl, hR⟩ := hI
                obtain rfl := hR.e8 hp.1
                clear hn hp
                go_wp2_with fail
                exact ⟨_, _, _, _, _, _, _, _, _, _, _, _, _, _, _, _, _, _, _, rfl, hR.s9 (Below.refl _ _)⟩
              · intro D a w' hn hp hI
                obtain ⟨v58, v59, v60, v61, v62, v63, v64, v65, v66, v67, v68, v69, v70, v71, v72, v73, v74, v75, v76, rfl, hR⟩ := hI
                obtain rfl := hR.e9 hp.1
                obtain rfl := hR.e8 hp.2.1
                have y1 := kc hR.b y1
                clear hn hp
                go_wp2_with fail
                exact ⟨_, _, _, _, _, _, _, _, _, _, _, _, _, _, _, _, _, _, _, rfl, hR.s10 (Below.refl _ _)⟩
              · intro D a w' hn hp hI
                obtain ⟨v58, v59, v60, v61, v62, v63, v64, v65, v66, v67, v68, v69, v70, v71, v72, v73, v74, v75, v76, rfl, hR⟩ := hI
                obtain rfl := hR.e10 hp.1
                obtain rfl := hR.e8 hp.2.1
                clear hn hp
                go_wp2_with fail
                exact ⟨_, _, _, _, _, _, _, _, _, _, _, _, _, _, _, _, _, _, _, rfl, hR.s11 (Below.refl _ _)⟩
              · intro D a w' hn hp hI
                obtain ⟨v58, v59, v60, v61, v62, v63, v64, v65, v66, v67, v68, v69, v70, v71, v72, v73, v74, v75, v76, rfl, hR⟩ := hI
                obtain rfl := hR.e11 hp.1
                clear hn hp
                go_wp2_with fail
                exact ⟨_, _, _, _, _, _, _, _, _, _, _, _, _, _, _, _, _, _, _, rfl, hR.s12 (Below.refl _ _)⟩
              · intro D a w' hn hp hI
                obtain ⟨v58, v59, v60, v61, v62, v63, v64, v65, v66, v67, v68, v69, v70, v71, v72, v73, v74, v75, v76, rfl, hR⟩ := hI
                obtain rfl := hR.e11 hp.1
                clear hn hp
                go_wp2_with fail
                exact ⟨_, _, _, _, _, _, _, _, _, _, _, _, _, _, _, _, _, _, _, rfl, hR.s13 (Below.refl _ _)⟩
              · intro D a w' hn hp hI
                obtain ⟨v58, v59, v60, v61, v62, v63, v64, v65, v66, v67, v68, v69, v70, v71, v72, v73, v74, v75, v76, rfl, hR⟩ := hI
                obtain rfl := hR.e13 hp.1
                obtain rfl := hR.e11 hp.2.1
                clear hn hp
                go_wp2_with fail
                exact ⟨_, _, _, _, _, _, _, _, _, _, _, _, _, _, _, _, _, _, _, rfl, hR.s14 (Below.refl _ _)⟩
              · intro D a w' hn hp hI
                obtain ⟨v58, v59, v60, v61, v62, v63, v64, v65, v66, v67, v68, v69, v70, v71, v72, v73, v74, v75, v76, rfl, hR⟩ := hI
                obtain rfl := hR.e11 hp.1
                clear hn hp
                go_wp2_with fail
                exact ⟨_, _, _, _, _, _, _, _, _, _, _, _, _, _, _, _, _, _, _, rfl, hR.s15 (Below.refl _ _)⟩
              · intro D a w' hn hp hI
                obtain ⟨v58, v59, v60, v61, v62, v63, v64, v65, v66, v67, v68, v69, v70, v71, v72, v73, v74, v75, v76, rfl, hR⟩ := hI
                obtain rfl := hR.e12 hp.1
                obtain rfl := hR.e14 hp.2.1
                obtain rfl := hR.e15 hp.2.2.1
                obtain rfl := hR.e11 hp.2.2.2.1
                clear hn hp
                go_wp2_with fail
                exact ⟨_, _, _, _, _, _, _, _, _, _, _, _, _, _, _, _, _, _, _, rfl, hR.s16 (Below.refl _ _)⟩
              · intro D a w' hn hp hI
                obtain ⟨v58, v59, v60, v61, v62, v63, v64, v65, v66, v67, v68, v69, v70, v71, v72, v73, v74, v75, v76, rfl, hR⟩ := hI
                obtain rfl := hR.e16 hp.1
                obtain rfl := hR.e11 hp.2.1
                clear hn hp
                go_wp2_with fail
                exact ⟨_, _, _, _, _, _, _, _, _, _, _, _, _, _, _, _, _, _, _, rfl, hR.s17 (Below.refl _ _)⟩
              · intro D a w' hn hp hI
                obtain ⟨v58, v59, v60, v61, v62, v63, v64, v65, v66, v67, v68, v69, v70, v71, v72, v73, v74, v75, v76, rfl, hR⟩ := hI
                obtain rfl := hR.e11 hp.1
                obtain rfl := hR.e17 hp.2.1
                obtain rfl := hR.e8 hp.2.2.1
                clear hn hp
                go_wp2_with fail
                exact ⟨_, _, _, _, _, _, _, _, _, _, _, _, _, _, _, _, _, _, _, rfl, hR.s18 (Below.refl _ _)⟩
            intro D a w' hD hI
            obtain ⟨v58, v59, v60, v61, v62, v63, v64, v65, v66, v67, v68, v69, v70, v71, v72, v73, v74, v75, v76, rfl, hR⟩ := hI
            obtain rfl := hR.e18 (hD 18 (by decide))
            obtain rfl := hR.e8 (hD 8 (by decide))
            have hbU := bthen hU hR.b
            clear hR
            simp only [List.drop_succ_cons, List.drop_zero]
            go_wp2_with fail
            go_roundw
            case rel => exact ⟨j + 1, by omega, by go_num, hbU⟩
            case measure => simp [intOf]; omega
          · have HFt := Lib.hid (HFit1.out x HX.out HR.out)
            generalize pk 4 x 0 0 0 = P at *
            refine wp_region_steps 19 [[], [], [1], [], [0, 2, 3], [], [5], [4, 6], [7], [8], [9, 8], [10, 8], [11], [11], [13, 11], [11], [12, 14, 15, 11], [16, 11], [11, 17, 8]] (fun D a w' => ∃ v58 v59 v60 v61 v62 v63 v64 v65 v66 v67 v68 v69 v70 v71 v72 v73 v74 v75 v76 : Value, a = ⟨#[.int .u32 ack, .int .u16 size, .int .u32 s, undef, undef, undef, u6, .int .u8 1, .pointer (some ⟨B, 0, none⟩), .int .u32 W, undef, .pointer (some ⟨N, 0, none⟩), .pointer (some ⟨M, 0, none⟩), .bool true, .bool false, .int .u8 1, .bool true, .int .u8 1, .agg #[.bool false, .bool false, .int .u32 0, .int .u32 0, .int .i64 0, .bool false, .bool false, .int .u32 0, .int .u32 0, .int .i64 0], .int .u8 1, .int .u32 ack, .int .u16 size, .int .i64 size, .agg #[.int .u8 0, .int .u32 0, .int .u32 0, .int .u16 0, .int .u16 0, .int .u8 0, .int .u8 16, .int .u8 0, .int .u8 0, .int .u32 0, .int .u32 ack, .int .i64 size, .int .i64 0, .int .u8 0, .int .u32 0, .int .u32 0, .int .u16 0, .int .u16 0, .int .u8 0], .agg T1, .int .u16 size, .int .u16 W, .int .u32 W, .int .u32 ack, .agg #[.int .u32 ack, .bool true], .int .u32 ack, .int .u32 W, .int .u32 ((ack + W) % 4294967296), .int .u32 G33, .agg #[.int .u32 ((ack + W - 1) % 4294967296), .bool true], .int .u32 ack, .int .u32 ((ack - 1) % 4294967296), .agg #[.int .u32 ((ack - 1) % 4294967296), .bool false], .int .u32 ack, .int .u32 W, .int .u32 ((ack + W) % 4294967296), .agg #[.int .u32 ((ack + W) % 4294967296), .bool false], .int .u32 s, .int .u32 s, .int .u32 ack, .int .u32 ((s - ack) % 4294967296), .int .u32 W, .bool (decide ((s - ack) % 4294967296 < W)), .agg #[.int .u32 s, .bool (decide ((s - ack) % 4294967296 < W))], .slice (some ⟨PB, 0, none⟩) 5 5, .int .i64 5, .int .i64 (j : Int), .bool true, .pointer (some ⟨PB, j * 2, none⟩), .agg #[.int .u32 x, .bool true], .pointer (some ⟨N, 0, none⟩), .int .u32 x, .agg #[.int .u8 0, .int .u32 0, .int .u32 0, .int .u16 0, .int .u16 0, .int .u8 0, .int .u8 4, .int .u8 0, .int .u8 0, .int .u32 x, .int .u32 0, .int .i64 0, .int .i64 0, .int .u8 0, .int .u32 0, .int .u32 0, .int .u16 0, .int .u16 0, .int .u8 0], v58, v59, v60, v61, v62, v63, v64, v65, v66, v67, v68, v69, v70, v71, v72, v73, v74, v75, v76, u77, u78, u79], []⟩ ∧ Wi11 U N T1 P D v58 v59 v60 v61 v62 v63 v64 v65 v66 v67 v68 v69 v70 v71 v72 v73 v74 v75 v76 w') (by kernel_rfl) (by kernel_rfl) ⟨u58, u59, u60, u61, u62, u63, u64, u65, u66, u67, u68, u69, u70, u71, u72, u73, u74, u75, u76, rfl, Wi11.zero U N T1 P (u58) (u59) (u60) (u61) (u62) (u63) (u64) (u65) (u66) (u67) (u68) (u69) (u70) (u71) (u72) (u73) (u74) (u75) (u76)⟩ ?_ ?_
            · simp only [List.take_succ_cons, List.take_zero]
              refine ⟨?_, ?_, ?_, ?_, ?_, ?_, ?_, ?_, ?_, ?_, ?_, ?_, ?_, ?_, ?_, ?_, ?_, ?_, ?_, trivial⟩
              · intro D a w' hn hp hI
                obtain ⟨v58, v59, v60, v61, v62, v63, v64, v65, v66, v67, v68, v69, v70, v71, v72, v73, v74, v75, v76, rfl, hR⟩ := hI
                have RR := range_below hR.b zB RT
                clear hn hp
                go_wp2_with (refine wpList_load_wide 29 (.tmp 8) rfl (by rfl) B 0 rfl T1 _ Try.underlying29 rfl IT.out RR ?_)
                exact ⟨_, _, _, _, _, _, _, _, _, _, _, _, _, _, _, _, _, _, _, rfl, hR.s0 (Below.refl _ _)⟩
              · intro D a w' hn hp hI
                obtain ⟨v58, v59, v60, v61, v62, v63, v64, v65, v66, v67, v68, v69, v70, v71, v72, v73, v74, v75, v76, rfl, hR⟩ := hI
                clear hn hp
                go_wp2_with fail
                exact ⟨_, _, _, _, _, _, _, _, _, _, _, _, _, _, _, _, _, _, _, rfl, hR.s1 (Below.refl _ _)⟩
              · intro D a w' hn hp hI
                obtain ⟨v58, v59, v60, v61, v62, v63, v64, v65, v66, v67, v68, v69, v70, v71, v72, v73, v74, v75, v76, rfl, hR⟩ := hI
                obtain rfl := hR.e1 hp.1
                have hw1 : IntKind.u8.wrap 0 = 0 := by kernel_rfl
                clear hn hp
                go_wp2_with fail
                exact ⟨_, _, _, _, _, _, _, _, _, _, _, _, _, _, _, _, _, _, _, rfl, hR.s2 (Below.refl _ _)⟩
              · intro D a w' hn hp hI
                obtain ⟨v58, v59, v60, v61, v62, v63, v64, v65, v66, v67, v68, v69, v70, v71, v72, v73, v74, v75, v76, rfl, hR⟩ := hI
                have RR := range_below hR.b zM RP
                clear hn hp
                go_wp2_with (refine wpList_load_wide 34 (.tmp 12) rfl (by rfl) M 0 rfl P _ Try.underlying34 rfl IP.out RR ?_)
                exact ⟨_, _, _, _, _, _, _, _, _, _, _, _, _, _, _, _, _, _, _, rfl, hR.s3 (Below.refl _ _)⟩
              · intro D a w' hn hp hI
                obtain ⟨v58, v59, v60, v61, v62, v63, v64, v65, v66, v67, v68, v69, v70, v71, v72, v73, v74, v75, v76, rfl, hR⟩ := hI
                obtain rfl := hR.e0 hp.1
                obtain rfl := hR.e2 hp.2.1
                obtain rfl := hR.e3 hp.2.2.1
                clear hn hp
                go_wp2_with fail
                refine (HB.out _).mono ?_
                rintro e w'' ⟨rfl, hb⟩
                go_wp2_with fail
                exact ⟨_, _, _, _, _, _, _, _, _, _, _, _, _, _, _, _, _, _, _, rfl, hR.s4 hb⟩
              · intro D a w' hn hp hI
                obtain ⟨v58, v59, v60, v61, v62, v63, v64, v65, v66, v67, v68, v69, v70, v71, v72, v73, v74, v75, v76, rfl, hR⟩ := hI
                clear hn hp
                go_wp2_with fail
                exact ⟨_, _, _, _, _, _, _, _, _, _, _, _, _, _, _, _, _, _, _, rfl, hR.s5 (Below.refl _ _)⟩
              · intro D a w' hn hp hI
                obtain ⟨v58, v59, v60, v61, v62, v63, v64, v65, v66, v67, v68, v69, v70, v71, v72, v73, v74, v75, v76, rfl, hR⟩ := hI
                obtain rfl := hR.e5 hp.1
                have y1 := kc hR.b y1
                clear hn hp
                go_wp2_with fail
                exact ⟨_, _, _, _, _, _, _, _, _, _, _, _, _, _, _, _, _, _, _, rfl, hR.s6 (Below.refl _ _)⟩
              · intro D a w' hn hp hI
                obtain ⟨v58, v59, v60, v61, v62, v63, v64, v65, v66, v67, v68, v69, v70, v71, v72, v73, v74, v75, v76, rfl, hR⟩ := hI
                obtain rfl := hR.e4 hp.1
                obtain rfl := hR.e6 hp.2.1
                clear hn hp
                go_wp2_with fail
                exact ⟨_, _, _, _, _, _, _, _, _, _, _, _, _, _, _, _, _, _, _, rfl, hR.s7 (Below.refl _ _)⟩
              · intro D a w' hn hp hI
                obtain ⟨v58, v59, v60, v61, v62, v63, v64, v65, v66, v67, v68, v69, v70, v71, v72, v73, v74, v75, v76, rfl, hR⟩ := hI
                obtain rfl := hR.e7 hp.1
                clear hn hp
                go_wp2_with fail
                exact ⟨_, _, _, _, _, _, _, _, _, _, _, _, _, _, _, _, _, _, _, rfl, hR.s8 (Below.refl _ _)⟩
              · intro D a w' hn hp hI
                obtain ⟨v58, v59, v60, v61, v62, v63, v64, v65, v66, v67, v68, v69, v70, v71, v72, v73, v74, v75, v76, rfl, hR⟩ := hI
                obtain rfl := hR.e8 hp.1
                clear hn hp
                go_wp2_with fail
                exact ⟨_, _, _, _, _, _, _, _, _, _, _, _, _, _, _, _, _, _, _, rfl, hR.s9 (Below.refl _ _)⟩
              · intro D a w' hn hp hI
                obtain ⟨v58, v59, v60, v61, v62, v63, v64, v65, v66, v67, v68, v69, v70, v71, v72, v73, v74, v75, v76, rfl, hR⟩ := hI
                obtain rfl := hR.e9 hp.1
                obtain rfl := hR.e8 hp.2.1
                have y1 := kc hR.b y1
                clear hn hp
                go_wp2_with fail
                exact ⟨_, _, _, _, _, _, _, _, _, _, _, _, _, _, _, _, _, _, _, rfl, hR.s10 (Below.refl _ _)⟩
              · intro D a w' hn hp hI
                obtain ⟨v58, v59, v60, v61, v62, v63, v64, v65, v66, v67, v68, v69, v70, v71, v72, v73, v74, v75, v76, rfl, hR⟩ := hI
                obtain rfl := hR.e10 hp.1
                obtain rfl := hR.e8 hp.2.1
                clear hn hp
                go_wp2_with fail
                exact ⟨_, _, _, _, _, _, _, _, _, _, _, _, _, _, _, _, _, _, _, rfl, hR.s11 (Below.refl _ _)⟩
              · intro D a w' hn hp hI
                obtain ⟨v58, v59, v60, v61, v62, v63, v64, v65, v66, v67, v68, v69, v70, v71, v72, v73, v74, v75, v76, rfl, hR⟩ := hI
                obtain rfl := hR.e11 hp.1
                have RR := range_below hR.b zB RT
                clear hn hp
                go_wp2_with (refine wpList_load_wide 29 (.tmp 8) rfl (by rfl) B 0 rfl T1 _ Try.underlying29 rfl IT.out RR ?_)
                exact ⟨_, _, _, _, _, _, _, _, _, _, _, _, _, _, _, _, _, _, _, rfl, hR.s12 (Below.refl _ _)⟩
              · intro D a w' hn hp hI
                obtain ⟨v58, v59, v60, v61, v62, v63, v64, v65, v66, v67, v68, v69, v70, v71, v72, v73, v74, v75, v76, rfl, hR⟩ := hI
                obtain rfl := hR.e11 hp.1
                clear hn hp
                go_wp2_with fail
                exact ⟨_, _, _, _, _, _, _, _, _, _, _, _, _, _, _, _, _, _, _, rfl, hR.s13 (Below.refl _ _)⟩
              · intro D a w' hn hp hI
                obtain ⟨v58, v59, v60, v61, v62, v63, v64, v65, v66, v67, v68, v69, v70, v71, v72, v73, v74, v75, v76, rfl, hR⟩ := hI
                obtain rfl := hR.e13 hp.1
                obtain rfl := hR.e11 hp.2.1
                have hw1 : IntKind.u8.wrap 0 = 0 := by kernel_rfl
                clear hn hp
                go_wp2_with fail
                exact ⟨_, _, _, _, _, _, _, _, _, _, _, _, _, _, _, _, _, _, _, rfl, hR.s14 (Below.refl _ _)⟩
              · intro D a w' hn hp hI
                obtain ⟨v58, v59, v60, v61, v62, v63, v64, v65, v66, v67, v68, v69, v70, v71, v72, v73, v74, v75, v76, rfl, hR⟩ := hI
                obtain rfl := hR.e11 hp.1
                have RR := range_below hR.b zM RP
                clear hn hp
                go_wp2_with (refine wpList_load_wide 34 (.tmp 12) rfl (by rfl) M 0 rfl P _ Try.underlying34 rfl IP.out RR ?_)
                exact ⟨_, _, _, _, _, _, _, _, _, _, _, _, _, _, _, _, _, _, _, rfl, hR.s15 (Below.refl _ _)⟩
              · intro D a w' hn hp hI
                obtain ⟨v58, v59, v60, v61, v62, v63, v64, v65, v66, v67, v68, v69, v70, v71, v72, v73, v74, v75, v76, rfl, hR⟩ := hI
                obtain rfl := hR.e12 hp.1
                obtain rfl := hR.e14 hp.2.1
                obtain rfl := hR.e15 hp.2.2.1
                obtain rfl := hR.e11 hp.2.2.2.1
                clear hn hp
                go_wp2_with fail
                refine (HFt.out _).mono ?_
                rintro e w'' ⟨rfl, hb⟩
                go_wp2_with fail
                exact ⟨_, _, _, _, _, _, _, _, _, _, _, _, _, _, _, _, _, _, _, rfl, hR.s16 hb⟩
              · intro D a w' hn hp hI
                obtain ⟨v58, v59, v60, v61, v62, v63, v64, v65, v66, v67, v68, v69, v70, v71, v72, v73, v74, v75, v76, rfl, hR⟩ := hI
                obtain rfl := hR.e16 hp.1
                obtain rfl := hR.e11 hp.2.1
                clear hn hp
                go_wp2_with fail
                exact ⟨_, _, _, _, _, _, _, _, _, _, _, _, _, _, _, _, _, _, _, rfl, hR.s17 (Below.refl _ _)⟩
              · intro D a w' hn hp hI
                obtain ⟨v58, v59, v60, v61, v62, v63, v64, v65, v66, v67, v68, v69, v70, v71, v72, v73, v74, v75, v76, rfl, hR⟩ := hI
                obtain rfl := hR.e11 hp.1
                obtain rfl := hR.e17 hp.2.1
                obtain rfl := hR.e8 hp.2.2.1
                clear hn hp
                go_wp2_with fail
                exact ⟨_, _, _, _, _, _, _, _, _, _, _, _, _, _, _, _, _, _, _, rfl, hR.s18 (Below.refl _ _)⟩
            intro D a w' hD hI
            obtain ⟨v58, v59, v60, v61, v62, v63, v64, v65, v66, v67, v68, v69, v70, v71, v72, v73, v74, v75, v76, rfl, hR⟩ := hI
            obtain rfl := hR.e18 (hD 18 (by decide))
            obtain rfl := hR.e8 (hD 8 (by decide))
            have hbU := bthen hU hR.b
            clear hR
            simp only [List.drop_succ_cons, List.drop_zero]
            go_wp2_with fail
            go_roundw
            case rel => exact ⟨j + 1, by omega, by go_num, hbU⟩
            case measure => simp [intOf]; omega
        · obtain rfl : j = 5 := by omega
          have ebj := bthen eV hbj
          go_wp2_with fail
          go_roundw
          case rel => exact ⟨1 + 1, by omega, by go_num, ebj⟩
          case measure => simp [intOf]
    · rw [show ((2 : Nat) : Int) = 2 from rfl]
      go_wp2_with fail
      go_ret
      exact ⟨rfl, hbr⟩

theorem windowWide_walk (ack size s : Int) (w : World) (ha : 0 ≤ ack ∧ ack ≤ 4294967295) (hz : 0 ≤ size ∧ size ≤ 65535) (hs : 0 ≤ s ∧ s ≤ 4294967295) :
    Calls Try.prog 8 #[.int .u32 ack, .int .u16 size, .int .u32 s] w fun e w' => e = .returned (.bool true) ∧ Below w.heap.size w w' := by
  have f1 : Fa (pk 16 0 ack size 0) 16 0 ack size 0 := fa_pk 16 0 ack size 0 (by decide) (by decide) ha (by omega) (by decide)
  have f2 := fun (x : Int) (hx : 0 ≤ x ∧ x ≤ 4294967295) => fa_pk 4 x 0 0 0 (by decide) hx (by decide) (by decide) (by decide)
  have hm : (if size < 1 then 1 else size) = max 1 size := by split <;> omega
  exact wide_core ack size s _ (trk (sW ack size) sd0) (trk sd0 (sW ack size)) w ha hz hs rfl hm (by omega)
    (fun V => see0_is sd0 sd0 _ _ _ _ _ _ _ V f1 sd0_wf (see_ack ack size)) (fun x hx r hr V => believe1_is _ _ r _ _ _ _ _ _ V (f2 x hx) (sW_wf ack size ha) ((bel_ack ack size x).trans hr)) (fun x hx hr V => by
      have := fits1_any (sW ack size) sd0 _ _ _ _ _ _ V (f2 x hx) (sW_wf ack size ha)
      rwa [fit_ack ack size x hr] at this) (trk_size _ _) (trk_one _ _)
    (fun V => see1_is sd0 sd0 _ _ _ _ _ _ _ V f1 sd0_wf (see_ack ack size)) (fun x hx r hr V => believe0_is _ _ r _ _ _ _ _ _ V (f2 x hx) (sW_wf ack size ha) ((bel_ack ack size x).trans hr)) (fun x hx hr V => by
      have := fits0_any sd0 (sW ack size) _ _ _ _ _ _ V (f2 x hx) (sW_wf ack size ha)
      rwa [fit_ack ack size x hr] at this) (trk_size _ _) (trk_one _ _)

end Go.Proofs.Ytchephpmkommfaa

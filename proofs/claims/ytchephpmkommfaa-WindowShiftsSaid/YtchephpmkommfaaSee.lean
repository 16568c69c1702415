/-
  The contract of package window's See: the track after seeing a packet; nothing that was there is written. Conditions: the numbers lie in their types' ranges.
-/
import Derived.Test.YtchephpmkommfaaSeeA
import Derived.Test.YtchephpmkommfaaFa
import Derived.Test.YtchephpmkommfaaWide
import Derived.Test.YtchephpmkommfaaInv
import Derived.StillTailTactics
namespace Go.Proofs.Ytchephpmkommfaa
open Go.RowKit
set_option linter.unusedVariables false
set_option linter.unusedSimpArgs false

/-- See's three blocks: the track, the packet, the result. -/
structure Lay (w0 W : World) (B : Nat) (T : List Value) (F : Array Value) : Prop where
  b : Below w0.heap.size w0 W
  le : w0.heap.size ≤ B
  lt : B + 1 + 1 < W.heap.size
  len : T.length = 10
  t : W.rangeAt B 0 T
  th : W.there B 0 10
  f : W.rangeAt (B + 1) 0 F.toList
  z : W.there (B + 1 + 1) 0 10
theorem Lay.below {w0 W W' : World} {B : Nat} {T : List Value} {F : Array Value} (h : Lay w0 W B T F) (hb : Below W.heap.size W W') : Lay w0 W' B T F :=
  ⟨bthen h.b hb, h.le, Nat.lt_of_lt_of_le h.lt hb.size, h.len, range_below hb (by have := h.lt; omega) h.t, there_below hb (by have := h.lt; omega) h.th, range_below hb (by have := h.lt; omega) h.f, there_below hb h.lt h.z⟩
theorem Lay.cell {w0 W : World} {B : Nat} {T : List Value} {F : Array Value} (h : Lay w0 W B T F) (i : Nat) (v : Value) (hv : T[i]? = some v) : W.cell? ⟨B, i, none⟩ = some v := by simpa using h.t i v hv
theorem Lay.free {w0 W : World} {B : Nat} {T : List Value} {F : Array Value} (h : Lay w0 W B T F) (i : Nat) (hi : i < 10) : W.frozen? ⟨B, i, none⟩ = false := by simpa using (h.th i hi).2
theorem Lay.fcell {w0 W : World} {B : Nat} {T : List Value} {F : Array Value} (h : Lay w0 W B T F) (i : Nat) (v : Value) (hv : F[i]? = some v) : W.cell? ⟨B + 1, i, none⟩ = some v := by simpa using h.f i v (by simpa using hv)
theorem Lay.put {w0 W : World} {B : Nat} {T : List Value} {F : Array Value} (h : Lay w0 W B T F) (i : Nat) (v : Value) : Lay w0 (W.setCell ⟨B, i, none⟩ v) B (T.set i v) F := by
  have e : W.setCell ⟨B, i, none⟩ v = W.setCells B i [v] := rfl
  refine ⟨h.b.setCell (p := ⟨B, i, none⟩) h.le v, h.le, by rw [size_setC]; exact h.lt, by simp [h.len], fun j u hu => ?_, ?_, ?_, ?_⟩
  · rw [Nat.zero_add]
    by_cases hij : i = j
    · subst hij
      have hl : i < T.length := by
        have := (List.getElem?_eq_some_iff.1 hu).1
        simpa using this
      rw [List.getElem?_set_self hl] at hu
      cases hu
      obtain ⟨x, hx⟩ := Option.isSome_iff_exists.1 (h.th i (by rw [← h.len]; exact hl)).1
      rw [Nat.zero_add] at hx
      rw [World.cell?_setCell_same' _ _ _ (by rw [hx]; rfl)]
    · rw [List.getElem?_set_ne hij] at hu
      rw [World.cell?_setCell_other _ _ _ _ (fun e => hij (by injection e))]
      exact h.cell j u hu
  · rw [e]; exact World.there_setCells h.th B i [v]
  · rw [e]; exact World.rangeAt_setCells_apart h.f B i [v] (.inl (by omega))
  · rw [e]; exact World.there_setCells h.z B i [v]
theorem info29 : (Try.prog.info? 29).map (·.size) = some 10 := by kernel_rfl
theorem info34 : (Try.prog.info? 34).map (·.size) = some 19 := by kernel_rfl
theorem Fa.hi {F : Array Value} {flags seq ack win len : Int} (h : Fa F flags seq ack win len) : (Try.prog.info? 34).map (·.size) = some F.toList.length := by rw [info34]; simp [h.size]
structure Se01 (w1 : World) (w : World) (F : Array Value) (seq rm sum : Int) (D : Nat → Prop) (v14 v15 v16 v17 v18 v19 v20 v21 v22 v23 v24 v25 : Value) (w' : World) : Prop where
  b : Below w1.heap.size w1 w'
  e0 : D 0 → v14 = .func (.func 26) #[] #[]
  e1 : D 1 → v15 = .pointer (some ⟨w.heap.size, 0, none⟩)
  e2 : D 2 → v16 = .pointer (some ⟨w.heap.size, 0, none⟩)
  e3 : D 3 → v17 = .pointer (some ⟨w.heap.size, 0, none⟩)
  e4 : D 4 → v18 = .pointer (some ⟨w.heap.size, 0, none⟩)
  e5 : D 5 → v19 = .pointer (some ⟨w.heap.size, 0, none⟩)
  e6 : D 6 → v20 = .pointer (some ⟨w.heap.size, 2, none⟩)
  e7 : D 7 → v21 = .pointer (some ⟨w.heap.size + 1, 9, none⟩)
  e8 : D 8 → v22 = .int .u32 seq
  e9 : D 9 → v23 = .agg F
  e10 : D 10 → v24 = .int .u32 rm
  e11 : D 11 → v25 = .int .u32 sum
theorem Se01.s0 {w1 : World} {w : World} {F : Array Value} {seq rm sum : Int} {D : Nat → Prop} {v14 v15 v16 v17 v18 v19 v20 v21 v22 v23 v24 v25 : Value} {w' w'' : World} (h : Se01 w1 w F seq rm sum D v14 v15 v16 v17 v18 v19 v20 v21 v22 v23 v24 v25 w') (hb : Below w'.heap.size w' w'') : Se01 w1 w F seq rm sum (fun j => D j ∨ j = 0) (.func (.func 26) #[] #[]) v15 v16 v17 v18 v19 v20 v21 v22 v23 v24 v25 w'' :=
  ⟨bthen h.b hb, fun _ => rfl, or_keep h.e1 (by decide), or_keep h.e2 (by decide), or_keep h.e3 (by decide), or_keep h.e4 (by decide), or_keep h.e5 (by decide), or_keep h.e6 (by decide), or_keep h.e7 (by decide), or_keep h.e8 (by decide), or_keep h.e9 (by decide), or_keep h.e10 (by decide), or_keep h.e11 (by decide)⟩
theorem Se01.s1 {w1 : World} {w : World} {F : Array Value} {seq rm sum : Int} {D : Nat → Prop} {v14 v15 v16 v17 v18 v19 v20 v21 v22 v23 v24 v25 : Value} {w' w'' : World} (h : Se01 w1 w F seq rm sum D v14 v15 v16 v17 v18 v19 v20 v21 v22 v23 v24 v25 w') (hb : Below w'.heap.size w' w'') : Se01 w1 w F seq rm sum (fun j => D j ∨ j = 1) v14 (.pointer (some ⟨w.heap.size, 0, none⟩)) v16 v17 v18 v19 v20 v21 v22 v23 v24 v25 w'' :=
  ⟨bthen h.b hb, or_keep h.e0 (by decide), fun _ => rfl, or_keep h.e2 (by decide), or_keep h.e3 (by decide), or_keep h.e4 (by decide), or_keep h.e5 (by decide), or_keep h.e6 (by decide), or_keep h.e7 (by decide), or_keep h.e8 (by decide), or_keep h.e9 (by decide), or_keep h.e10 (by decide), or_keep h.e11 (by decide)⟩
theorem Se01.s2 {w1 : World} {w : World} {F : Array Value} {seq rm sum : Int} {D : Nat → Prop} {v14 v15 v16 v17 v18 v19 v20 v21 v22 v23 v24 v25 : Value} {w' w'' : World} (h : Se01 w1 w F seq rm sum D v14 v15 v16 v17 v18 v19 v20 v21 v22 v23 v24 v25 w') (hb : Below w'.heap.size w' w'') : Se01 w1 w F seq rm sum (fun j => D j ∨ j = 2) v14 v15 (.pointer (some ⟨w.heap.size, 0, none⟩)) v17 v18 v19 v20 v21 v22 v23 v24 v25 w'' :=
  ⟨bthen h.b hb, or_keep h.e0 (by decide), or_keep h.e1 (by decide), fun _ => rfl, or_keep h.e3 (by decide), or_keep h.e4 (by decide), or_keep h.e5 (by decide), or_keep h.e6 (by decide), or_keep h.e7 (by decide), or_keep h.e8 (by decide), or_keep h.e9 (by decide), or_keep h.e10 (by decide), or_keep h.e11 (by decide)⟩
theorem Se01.s3 {w1 : World} {w : World} {F : Array Value} {seq rm sum : Int} {D : Nat → Prop} {v14 v15 v16 v17 v18 v19 v20 v21 v22 v23 v24 v25 : Value} {w' w'' : World} (h : Se01 w1 w F seq rm sum D v14 v15 v16 v17 v18 v19 v20 v21 v22 v23 v24 v25 w') (hb : Below w'.heap.size w' w'') : Se01 w1 w F seq rm sum (fun j => D j ∨ j = 3) v14 v15 v16 (.pointer (some ⟨w.heap.size, 0, none⟩)) v18 v19 v20 v21 v22 v23 v24 v25 w'' :=
  ⟨bthen h.b hb, or_keep h.e0 (by decide), or_keep h.e1 (by decide), or_keep h.e2 (by decide), fun _ => rfl, or_keep h.e4 (by decide), or_keep h.e5 (by decide), or_keep h.e6 (by decide), or_keep h.e7 (by decide), or_keep h.e8 (by decide), or_keep h.e9 (by decide), or_keep h.e10 (by decide), or_keep h.e11 (by decide)⟩
theorem Se01.s4 {w1 : World} {w : World} {F : Array Value} {seq rm sum : Int} {D : Nat → Prop} {v14 v15 v16 v17 v18 v19 v20 v21 v22 v23 v24 v25 : Value} {w' w'' : World} (h : Se01 w1 w F seq rm sum D v14 v15 v16 v17 v18 v19 v20 v21 v22 v23 v24 v25 w') (hb : Below w'.heap.size w' w'') : Se01 w1 w F seq rm sum (fun j => D j ∨ j = 4) v14 v15 v16 v17 (.pointer (some ⟨w.heap.size, 0, none⟩)) v19 v20 v21 v22 v23 v24 v25 w'' :=
  ⟨bthen h.b hb, or_keep h.e0 (by decide), or_keep h.e1 (by decide), or_keep h.e2 (by decide), or_keep h.e3 (by decide), fun _ => rfl, or_keep h.e5 (by decide), or_keep h.e6 (by decide), or_keep h.e7 (by decide), or_keep h.e8 (by decide), or_keep h.e9 (by decide), or_keep h.e10 (by decide), or_keep h.e11 (by decide)⟩
theorem Se01.s5 {w1 : World} {w : World} {F : Array Value} {seq rm sum : Int} {D : Nat → Prop} {v14 v15 v16 v17 v18 v19 v20 v21 v22 v23 v24 v25 : Value} {w' w'' : World} (h : Se01 w1 w F seq rm sum D v14 v15 v16 v17 v18 v19 v20 v21 v22 v23 v24 v25 w') (hb : Below w'.heap.size w' w'') : Se01 w1 w F seq rm sum (fun j => D j ∨ j = 5) v14 v15 v16 v17 v18 (.pointer (some ⟨w.heap.size, 0, none⟩)) v20 v21 v22 v23 v24 v25 w'' :=
  ⟨bthen h.b hb, or_keep h.e0 (by decide), or_keep h.e1 (by decide), or_keep h.e2 (by decide), or_keep h.e3 (by decide), or_keep h.e4 (by decide), fun _ => rfl, or_keep h.e6 (by decide), or_keep h.e7 (by decide), or_keep h.e8 (by decide), or_keep h.e9 (by decide), or_keep h.e10 (by decide), or_keep h.e11 (by decide)⟩
theorem Se01.s6 {w1 : World} {w : World} {F : Array Value} {seq rm sum : Int} {D : Nat → Prop} {v14 v15 v16 v17 v18 v19 v20 v21 v22 v23 v24 v25 : Value} {w' w'' : World} (h : Se01 w1 w F seq rm sum D v14 v15 v16 v17 v18 v19 v20 v21 v22 v23 v24 v25 w') (hb : Below w'.heap.size w' w'') : Se01 w1 w F seq rm sum (fun j => D j ∨ j = 6) v14 v15 v16 v17 v18 v19 (.pointer (some ⟨w.heap.size, 2, none⟩)) v21 v22 v23 v24 v25 w'' :=
  ⟨bthen h.b hb, or_keep h.e0 (by decide), or_keep h.e1 (by decide), or_keep h.e2 (by decide), or_keep h.e3 (by decide), or_keep h.e4 (by decide), or_keep h.e5 (by decide), fun _ => rfl, or_keep h.e7 (by decide), or_keep h.e8 (by decide), or_keep h.e9 (by decide), or_keep h.e10 (by decide), or_keep h.e11 (by decide)⟩
theorem Se01.s7 {w1 : World} {w : World} {F : Array Value} {seq rm sum : Int} {D : Nat → Prop} {v14 v15 v16 v17 v18 v19 v20 v21 v22 v23 v24 v25 : Value} {w' w'' : World} (h : Se01 w1 w F seq rm sum D v14 v15 v16 v17 v18 v19 v20 v21 v22 v23 v24 v25 w') (hb : Below w'.heap.size w' w'') : Se01 w1 w F seq rm sum (fun j => D j ∨ j = 7) v14 v15 v16 v17 v18 v19 v20 (.pointer (some ⟨w.heap.size + 1, 9, none⟩)) v22 v23 v24 v25 w'' :=
  ⟨bthen h.b hb, or_keep h.e0 (by decide), or_keep h.e1 (by decide), or_keep h.e2 (by decide), or_keep h.e3 (by decide), or_keep h.e4 (by decide), or_keep h.e5 (by decide), or_keep h.e6 (by decide), fun _ => rfl, or_keep h.e8 (by decide), or_keep h.e9 (by decide), or_keep h.e10 (by decide), or_keep h.e11 (by decide)⟩
theorem Se01.s8 {w1 : World} {w : World} {F : Array Value} {seq rm sum : Int} {D : Nat → Prop} {v14 v15 v16 v17 v18 v19 v20 v21 v22 v23 v24 v25 : Value} {w' w'' : World} (h : Se01 w1 w F seq rm sum D v14 v15 v16 v17 v18 v19 v20 v21 v22 v23 v24 v25 w') (hb : Below w'.heap.size w' w'') : Se01 w1 w F seq rm sum (fun j => D j ∨ j = 8) v14 v15 v16 v17 v18 v19 v20 v21 (.int .u32 seq) v23 v24 v25 w'' :=
  ⟨bthen h.b hb, or_keep h.e0 (by decide), or_keep h.e1 (by decide), or_keep h.e2 (by decide), or_keep h.e3 (by decide), or_keep h.e4 (by decide), or_keep h.e5 (by decide), or_keep h.e6 (by decide), or_keep h.e7 (by decide), fun _ => rfl, or_keep h.e9 (by decide), or_keep h.e10 (by decide), or_keep h.e11 (by decide)⟩
theorem Se01.s9 {w1 : World} {w : World} {F : Array Value} {seq rm sum : Int} {D : Nat → Prop} {v14 v15 v16 v17 v18 v19 v20 v21 v22 v23 v24 v25 : Value} {w' w'' : World} (h : Se01 w1 w F seq rm sum D v14 v15 v16 v17 v18 v19 v20 v21 v22 v23 v24 v25 w') (hb : Below w'.heap.size w' w'') : Se01 w1 w F seq rm sum (fun j => D j ∨ j = 9) v14 v15 v16 v17 v18 v19 v20 v21 v22 (.agg F) v24 v25 w'' :=
  ⟨bthen h.b hb, or_keep h.e0 (by decide), or_keep h.e1 (by decide), or_keep h.e2 (by decide), or_keep h.e3 (by decide), or_keep h.e4 (by decide), or_keep h.e5 (by decide), or_keep h.e6 (by decide), or_keep h.e7 (by decide), or_keep h.e8 (by decide), fun _ => rfl, or_keep h.e10 (by decide), or_keep h.e11 (by decide)⟩
theorem Se01.s10 {w1 : World} {w : World} {F : Array Value} {seq rm sum : Int} {D : Nat → Prop} {v14 v15 v16 v17 v18 v19 v20 v21 v22 v23 v24 v25 : Value} {w' w'' : World} (h : Se01 w1 w F seq rm sum D v14 v15 v16 v17 v18 v19 v20 v21 v22 v23 v24 v25 w') (hb : Below w'.heap.size w' w'') : Se01 w1 w F seq rm sum (fun j => D j ∨ j = 10) v14 v15 v16 v17 v18 v19 v20 v21 v22 v23 (.int .u32 rm) v25 w'' :=
  ⟨bthen h.b hb, or_keep h.e0 (by decide), or_keep h.e1 (by decide), or_keep h.e2 (by decide), or_keep h.e3 (by decide), or_keep h.e4 (by decide), or_keep h.e5 (by decide), or_keep h.e6 (by decide), or_keep h.e7 (by decide), or_keep h.e8 (by decide), or_keep h.e9 (by decide), fun _ => rfl, or_keep h.e11 (by decide)⟩
theorem Se01.s11 {w1 : World} {w : World} {F : Array Value} {seq rm sum : Int} {D : Nat → Prop} {v14 v15 v16 v17 v18 v19 v20 v21 v22 v23 v24 v25 : Value} {w' w'' : World} (h : Se01 w1 w F seq rm sum D v14 v15 v16 v17 v18 v19 v20 v21 v22 v23 v24 v25 w') (hb : Below w'.heap.size w' w'') : Se01 w1 w F seq rm sum (fun j => D j ∨ j = 11) v14 v15 v16 v17 v18 v19 v20 v21 v22 v23 v24 (.int .u32 sum) w'' :=
  ⟨bthen h.b hb, or_keep h.e0 (by decide), or_keep h.e1 (by decide), or_keep h.e2 (by decide), or_keep h.e3 (by decide), or_keep h.e4 (by decide), or_keep h.e5 (by decide), or_keep h.e6 (by decide), or_keep h.e7 (by decide), or_keep h.e8 (by decide), or_keep h.e9 (by decide), or_keep h.e10 (by decide), fun _ => rfl⟩
theorem Se01.zero (w1 : World) (w : World) (F : Array Value) (seq rm sum : Int) (v14 v15 v16 v17 v18 v19 v20 v21 v22 v23 v24 v25 : Value) : Se01 w1 w F seq rm sum (fun _ => False) v14 v15 v16 v17 v18 v19 v20 v21 v22 v23 v24 v25 w1.drew :=
  ⟨(Below.refl _ _).drew, fun h => h.elim, fun h => h.elim, fun h => h.elim, fun h => h.elim, fun h => h.elim, fun h => h.elim, fun h => h.elim, fun h => h.elim, fun h => h.elim, fun h => h.elim, fun h => h.elim, fun h => h.elim⟩

set_option maxRecDepth 100000 in
set_option maxHeartbeats 2000000 in
theorem see_01 (ps pa qs qa : Bool) (pn pk pz qn qk qz : Int) (F : Array Value) (flags seq ack win len : Int) (rm sum : Int) (w : World) (HF : Hid (Fa F flags seq ack win len)) (h1 : 0 ≤ pn ∧ pn ≤ 4294967295) (h2 : 0 ≤ pk ∧ pk ≤ 4294967295) (h4 : 0 ≤ ack ∧ ack ≤ 4294967295) (hs : 0 ≤ sum ∧ sum ≤ 4294967295) (hsum : Hid (IntKind.u32.wrap (seq + rm) = sum)) (hfb : (bits .and .u8 flags 16 != 0) = true)
    (HR : Hid (∀ W, Calls Try.prog 18 #[.agg F] W fun e w' => e = .returned (.int .u32 rm) ∧ Below W.heap.size W w')) :
    Calls Try.prog 14 #[.agg #[.bool ps, .bool pa, .int .u32 pn, .int .u32 pk, .int .i64 pz, .bool qs, .bool qa, .int .u32 qn, .int .u32 qk, .int .i64 qz], .int .u8 0, .agg F] w fun e w' => e = .returned (.agg #[.bool true, .bool true, .int .u32 (nxt ps pn sum), .int .u32 (nxt pa pk ack), .int .i64 win, .bool qs, .bool qa, .int .u32 qn, .int .u32 qk, .int .i64 qz]) ∧ Below w.heap.size w w' := by
  have HI := Lib.hid HF.out.hi
  go_enter Try.func14, Try.ntmps14
  go_wp2_with fail
  generalize hW : World.alloc (World.alloc (World.alloc w _) _) _ = W
  have L : Lay w W w.heap.size [.bool ps, .bool pa, .int .u32 pn, .int .u32 pk, .int .i64 pz, .bool qs, .bool qa, .int .u32 qn, .int .u32 qk, .int .i64 qz] F := by
    subst hW
    refine ⟨by (repeat' (first | exact Below.refl _ _ | refine Below.setCell ?_ (by first | omega | (simp; done) | (simp; omega)) _ | refine Below.alloc ?_ (by first | omega | (simp; done) | (simp; omega)) _)), Nat.le_refl _, by simp, rfl, ?_, ?_, ?_, ?_⟩
    · exact World.rangeAt_alloc (World.rangeAt_alloc (range_new w _ _) _) _
    · exact World.there_alloc (World.there_alloc (there_new w _ _ _ _ rfl rfl) _) _
    · exact World.rangeAt_alloc (range_new' _ _ _ _ (by simp)) _
    · exact there_new _ _ _ _ _ (by simp) rfl
  have HL := Lib.hid L
  clear hW L
  refine wp_region_steps 12 [[], [], [1], [2], [], [4], [5], [], [7], [], [9], [8, 10]] (fun D a w' => ∃ v14 v15 v16 v17 v18 v19 v20 v21 v22 v23 v24 v25 : Value, a = ⟨#[.agg #[.bool ps, .bool pa, .int .u32 pn, .int .u32 pk, .int .i64 pz, .bool qs, .bool qa, .int .u32 qn, .int .u32 qk, .int .i64 qz], .int .u8 0, .agg F, .pointer (some ⟨w.heap.size, 0, none⟩), undef, .pointer (some ⟨w.heap.size + 1, 0, none⟩), .pointer (some ⟨w.heap.size + 1 + 1, 0, none⟩), .pointer (some ⟨w.heap.size, 0, none⟩), .func (.func 26) #[] #[], .int .u8 0, .bool false, undef, .int .u8 0, .pointer (some ⟨w.heap.size, 0, none⟩), v14, v15, v16, v17, v18, v19, v20, v21, v22, v23, v24, v25, undef, undef, undef, undef, undef, undef, undef, undef, undef, undef, undef, undef, undef, undef, undef, undef, undef, undef, undef, undef, undef], []⟩ ∧ Se01 W w F seq rm sum D v14 v15 v16 v17 v18 v19 v20 v21 v22 v23 v24 v25 w') (by kernel_rfl) (by kernel_rfl) ⟨undef, undef, undef, undef, undef, undef, undef, undef, undef, undef, undef, undef, rfl, Se01.zero W w F seq rm sum (undef) (undef) (undef) (undef) (undef) (undef) (undef) (undef) (undef) (undef) (undef) (undef)⟩ ?_ ?_
  · simp only [List.take_succ_cons, List.take_zero]
    refine ⟨?_, ?_, ?_, ?_, ?_, ?_, ?_, ?_, ?_, ?_, ?_, ?_, trivial⟩
    · intro D a w' hn hp hI
      obtain ⟨v14, v15, v16, v17, v18, v19, v20, v21, v22, v23, v24, v25, rfl, hR⟩ := hI
      clear hn hp
      go_wp2_with fail
      exact ⟨_, _, _, _, _, _, _, _, _, _, _, _, rfl, hR.s0 (Below.refl _ _)⟩
    · intro D a w' hn hp hI
      obtain ⟨v14, v15, v16, v17, v18, v19, v20, v21, v22, v23, v24, v25, rfl, hR⟩ := hI
      clear hn hp
      go_wp2_with fail
      exact ⟨_, _, _, _, _, _, _, _, _, _, _, _, rfl, hR.s1 (Below.refl _ _)⟩
    · intro D a w' hn hp hI
      obtain ⟨v14, v15, v16, v17, v18, v19, v20, v21, v22, v23, v24, v25, rfl, hR⟩ := hI
      obtain rfl := hR.e1 hp.1
      clear hn hp
      go_wp2_with fail
      exact ⟨_, _, _, _, _, _, _, _, _, _, _, _, rfl, hR.s2 (Below.refl _ _)⟩
    · intro D a w' hn hp hI
      obtain ⟨v14, v15, v16, v17, v18, v19, v20, v21, v22, v23, v24, v25, rfl, hR⟩ := hI
      obtain rfl := hR.e2 hp.1
      clear hn hp
      go_wp2_with fail
      exact ⟨_, _, _, _, _, _, _, _, _, _, _, _, rfl, hR.s3 (Below.refl _ _)⟩
    · intro D a w' hn hp hI
      obtain ⟨v14, v15, v16, v17, v18, v19, v20, v21, v22, v23, v24, v25, rfl, hR⟩ := hI
      clear hn hp
      go_wp2_with fail
      exact ⟨_, _, _, _, _, _, _, _, _, _, _, _, rfl, hR.s4 (Below.refl _ _)⟩
    · intro D a w' hn hp hI
      obtain ⟨v14, v15, v16, v17, v18, v19, v20, v21, v22, v23, v24, v25, rfl, hR⟩ := hI
      obtain rfl := hR.e4 hp.1
      clear hn hp
      go_wp2_with fail
      exact ⟨_, _, _, _, _, _, _, _, _, _, _, _, rfl, hR.s5 (Below.refl _ _)⟩
    · intro D a w' hn hp hI
      obtain ⟨v14, v15, v16, v17, v18, v19, v20, v21, v22, v23, v24, v25, rfl, hR⟩ := hI
      obtain rfl := hR.e5 hp.1
      clear hn hp
      go_wp2_with fail
      exact ⟨_, _, _, _, _, _, _, _, _, _, _, _, rfl, hR.s6 (Below.refl _ _)⟩
    · intro D a w' hn hp hI
      obtain ⟨v14, v15, v16, v17, v18, v19, v20, v21, v22, v23, v24, v25, rfl, hR⟩ := hI
      clear hn hp
      go_wp2_with fail
      exact ⟨_, _, _, _, _, _, _, _, _, _, _, _, rfl, hR.s7 (Below.refl _ _)⟩
    · intro D a w' hn hp hI
      obtain ⟨v14, v15, v16, v17, v18, v19, v20, v21, v22, v23, v24, v25, rfl, hR⟩ := hI
      obtain rfl := hR.e7 hp.1
      have c := (HL.out.below hR.b).fcell 9 _ HF.out.cseq
      clear hn hp
      go_wp2_with fail
      exact ⟨_, _, _, _, _, _, _, _, _, _, _, _, rfl, hR.s8 (Below.refl _ _)⟩
    · intro D a w' hn hp hI
      obtain ⟨v14, v15, v16, v17, v18, v19, v20, v21, v22, v23, v24, v25, rfl, hR⟩ := hI
      have RF := (HL.out.below hR.b).f
      clear hn hp
      go_wp2_with (refine wpList_load_wide 34 _ rfl (by rfl) _ _ rfl F _ Try.underlying34 rfl HI.out RF ?_)
      exact ⟨_, _, _, _, _, _, _, _, _, _, _, _, rfl, hR.s9 (Below.refl _ _)⟩
    · intro D a w' hn hp hI
      obtain ⟨v14, v15, v16, v17, v18, v19, v20, v21, v22, v23, v24, v25, rfl, hR⟩ := hI
      obtain rfl := hR.e9 hp.1
      clear hn hp
      go_wp2_with fail
      refine (HR.out _).mono ?_
      rintro e w'' ⟨rfl, hb⟩
      go_wp2_with fail
      exact ⟨_, _, _, _, _, _, _, _, _, _, _, _, rfl, hR.s10 hb⟩
    · intro D a w' hn hp hI
      obtain ⟨v14, v15, v16, v17, v18, v19, v20, v21, v22, v23, v24, v25, rfl, hR⟩ := hI
      obtain rfl := hR.e8 hp.1
      obtain rfl := hR.e10 hp.2.1
      clear hn hp
      have hq := hsum.out
      go_wp2_with fail
      exact ⟨_, _, _, _, _, _, _, _, _, _, _, _, rfl, hR.s11 (Below.refl _ _)⟩
  intro D a w' hD hI
  obtain ⟨v14, v15, v16, v17, v18, v19, v20, v21, v22, v23, v24, v25, rfl, hR⟩ := hI
  obtain rfl := hR.e0 (hD 0 (by decide))
  obtain rfl := hR.e1 (hD 1 (by decide))
  obtain rfl := hR.e2 (hD 2 (by decide))
  obtain rfl := hR.e3 (hD 3 (by decide))
  obtain rfl := hR.e4 (hD 4 (by decide))
  obtain rfl := hR.e5 (hD 5 (by decide))
  obtain rfl := hR.e6 (hD 6 (by decide))
  obtain rfl := hR.e7 (hD 7 (by decide))
  obtain rfl := hR.e8 (hD 8 (by decide))
  obtain rfl := hR.e9 (hD 9 (by decide))
  obtain rfl := hR.e10 (hD 10 (by decide))
  obtain rfl := hR.e11 (hD 11 (by decide))
  have L1 := HL.out.below hR.b
  have HL1 := Lib.hid L1
  clear hD hR L1
  simp only [List.drop_succ_cons, List.drop_zero]
  go_wp2_with fail
  refine (further_core w.heap.size 0 2 ps pn sum _ (HL1.out.cell 0 _ rfl) (HL1.out.cell 2 _ rfl) (HL1.out.free 0 (by decide)) (HL1.out.free 2 (by decide)) (by decide) h1 hs).mono ?_
  rintro e U ⟨rfl, hU⟩
  have L2 : Lay w U w.heap.size [.bool true, .bool pa, .int .u32 (nxt ps pn sum), .int .u32 pk, .int .i64 pz, .bool qs, .bool qa, .int .u32 qn, .int .u32 qk, .int .i64 qz] F := by rw [← hU]; exact (HL1.out.put 2 _).put 0 _
  have HL2 := Lib.hid L2
  have cf := L2.fcell 6 _ HF.out.cflags
  clear hU HL HL1 L2
  have ca := HL2.out.fcell 10 _ HF.out.cack
  go_wp2_with fail
  go_still_tail 9, (by kernel_rfl)
  go_wp2_with fail
  have L3 := HL2.out.below ((Below.refl _ _).drew)
  refine (further_core w.heap.size 1 3 pa pk ack _ (L3.cell 1 _ rfl) (L3.cell 3 _ rfl) (L3.free 1 (by decide)) (L3.free 3 (by decide)) (by decide) h2 h4).mono ?_
  rintro e V ⟨rfl, hV⟩
  have L4 : Lay w V w.heap.size [.bool true, .bool true, .int .u32 (nxt ps pn sum), .int .u32 (nxt pa pk ack), .int .i64 pz, .bool qs, .bool qa, .int .u32 qn, .int .u32 qk, .int .i64 qz] F := by rw [← hV]; exact (L3.put 3 _).put 1 _
  have HL4 := Lib.hid L4
  clear hV L3 L4 cf ca HL2
  have cw := HL4.out.fcell 11 _ HF.out.cwin
  have cz := HL4.out.cell 4 _ rfl
  have fz := HL4.out.free 4 (by decide)
  have L5 : Lay w (V.setCell ⟨w.heap.size, 4, none⟩ (.int .i64 win)) w.heap.size [.bool true, .bool true, .int .u32 (nxt ps pn sum), .int .u32 (nxt pa pk ack), .int .i64 win, .bool qs, .bool qa, .int .u32 qn, .int .u32 qk, .int .i64 qz] F := HL4.out.put 4 _
  have HL5 := Lib.hid L5
  clear L5
  go_wp2_with (first | (refine wpList_load_wide 29 (.tmp 3) rfl (by rfl) w.heap.size 0 rfl #[.bool true, .bool true, .int .u32 (nxt ps pn sum), .int .u32 (nxt pa pk ack), .int .i64 win, .bool qs, .bool qa, .int .u32 qn, .int .u32 qk, .int .i64 qz] _ Try.underlying29 rfl info29 HL5.out.t ?_) | (refine wpList_store_wide 29 (.tmp 6) (.tmp 46) rfl rfl (w.heap.size + 1 + 1) 0 #[.bool true, .bool true, .int .u32 (nxt ps pn sum), .int .u32 (nxt pa pk ack), .int .i64 win, .bool qs, .bool qa, .int .u32 qn, .int .u32 qk, .int .i64 qz] rfl rfl w.heap.size w info29 (by simp [Value.oneCell']) HL5.out.b (by omega) HL5.out.z ?_; intro w9 e9 z9 r9 j1 j2 j3; clear j1 j2 j3 z9))
  refine bodyPost_ret (v := .agg #[.bool true, .bool true, .int .u32 (nxt ps pn sum), .int .u32 (nxt pa pk ack), .int .i64 win, .bool qs, .bool qa, .int .u32 qn, .int .u32 qk, .int .i64 qz]) (results_wide Try.results14 _ rfl (run_loadVar_mid (P := Try.prog) w9 (w.heap.size + 1 + 1) 0 29 _ _ r9 Try.underlying29 rfl info29)) rfl ⟨rfl, e9⟩
structure Se00 (w1 : World) (w : World) (F : Array Value) (seq rm sum : Int) (D : Nat → Prop) (v14 v15 v16 v17 v18 v19 v20 v21 v22 v23 v24 v25 : Value) (w' : World) : Prop where
  b : Below w1.heap.size w1 w'
  e0 : D 0 → v14 = .func (.func 26) #[] #[]
  e1 : D 1 → v15 = .pointer (some ⟨w.heap.size, 0, none⟩)
  e2 : D 2 → v16 = .pointer (some ⟨w.heap.size, 0, none⟩)
  e3 : D 3 → v17 = .pointer (some ⟨w.heap.size, 0, none⟩)
  e4 : D 4 → v18 = .pointer (some ⟨w.heap.size, 0, none⟩)
  e5 : D 5 → v19 = .pointer (some ⟨w.heap.size, 0, none⟩)
  e6 : D 6 → v20 = .pointer (some ⟨w.heap.size, 2, none⟩)
  e7 : D 7 → v21 = .pointer (some ⟨w.heap.size + 1, 9, none⟩)
  e8 : D 8 → v22 = .int .u32 seq
  e9 : D 9 → v23 = .agg F
  e10 : D 10 → v24 = .int .u32 rm
  e11 : D 11 → v25 = .int .u32 sum
theorem Se00.s0 {w1 : World} {w : World} {F : Array Value} {seq rm sum : Int} {D : Nat → Prop} {v14 v15 v16 v17 v18 v19 v20 v21 v22 v23 v24 v25 : Value} {w' w'' : World} (h : Se00 w1 w F seq rm sum D v14 v15 v16 v17 v18 v19 v20 v21 v22 v23 v24 v25 w') (hb : Below w'.heap.size w' w'') : Se00 w1 w F seq rm sum (fun j => D j ∨ j = 0) (.func (.func 26) #[] #[]) v15 v16 v17 v18 v19 v20 v21 v22 v23 v24 v25 w'' :=
  ⟨bthen h.b hb, fun _ => rfl, or_keep h.e1 (by decide), or_keep h.e2 (by decide), or_keep h.e3 (by decide), or_keep h.e4 (by decide), or_keep h.e5 (by decide), or_keep h.e6 (by decide), or_keep h.e7 (by decide), or_keep h.e8 (by decide), or_keep h.e9 (by decide), or_keep h.e10 (by decide), or_keep h.e11 (by decide)⟩
theorem Se00.s1 {w1 : World} {w : World} {F : Array Value} {seq rm sum : Int} {D : Nat → Prop} {v14 v15 v16 v17 v18 v19 v20 v21 v22 v23 v24 v25 : Value} {w' w'' : World} (h : Se00 w1 w F seq rm sum D v14 v15 v16 v17 v18 v19 v20 v21 v22 v23 v24 v25 w') (hb : Below w'.heap.size w' w'') : Se00 w1 w F seq rm sum (fun j => D j ∨ j = 1) v14 (.pointer (some ⟨w.heap.size, 0, none⟩)) v16 v17 v18 v19 v20 v21 v22 v23 v24 v25 w'' :=
  ⟨bthen h.b hb, or_keep h.e0 (by decide), fun _ => rfl, or_keep h.e2 (by decide), or_keep h.e3 (by decide), or_keep h.e4 (by decide), or_keep h.e5 (by decide), or_keep h.e6 (by decide), or_keep h.e7 (by decide), or_keep h.e8 (by decide), or_keep h.e9 (by decide), or_keep h.e10 (by decide), or_keep h.e11 (by decide)⟩
theorem Se00.s2 {w1 : World} {w : World} {F : Array Value} {seq rm sum : Int} {D : Nat → Prop} {v14 v15 v16 v17 v18 v19 v20 v21 v22 v23 v24 v25 : Value} {w' w'' : World} (h : Se00 w1 w F seq rm sum D v14 v15 v16 v17 v18 v19 v20 v21 v22 v23 v24 v25 w') (hb : Below w'.heap.size w' w'') : Se00 w1 w F seq rm sum (fun j => D j ∨ j = 2) v14 v15 (.pointer (some ⟨w.heap.size, 0, none⟩)) v17 v18 v19 v20 v21 v22 v23 v24 v25 w'' :=
  ⟨bthen h.b hb, or_keep h.e0 (by decide), or_keep h.e1 (by decide), fun _ => rfl, or_keep h.e3 (by decide), or_keep h.e4 (by decide), or_keep h.e5 (by decide), or_keep h.e6 (by decide), or_keep h.e7 (by decide), or_keep h.e8 (by decide), or_keep h.e9 (by decide), or_keep h.e10 (by decide), or_keep h.e11 (by decide)⟩
theorem Se00.s3 {w1 : World} {w : World} {F : Array Value} {seq rm sum : Int} {D : Nat → Prop} {v14 v15 v16 v17 v18 v19 v20 v21 v22 v23 v24 v25 : Value} {w' w'' : World} (h : Se00 w1 w F seq rm sum D v14 v15 v16 v17 v18 v19 v20 v21 v22 v23 v24 v25 w') (hb : Below w'.heap.size w' w'') : Se00 w1 w F seq rm sum (fun j => D j ∨ j = 3) v14 v15 v16 (.pointer (some ⟨w.heap.size, 0, none⟩)) v18 v19 v20 v21 v22 v23 v24 v25 w'' :=
  ⟨bthen h.b hb, or_keep h.e0 (by decide), or_keep h.e1 (by decide), or_keep h.e2 (by decide), fun _ => rfl, or_keep h.e4 (by decide), or_keep h.e5 (by decide), or_keep h.e6 (by decide), or_keep h.e7 (by decide), or_keep h.e8 (by decide), or_keep h.e9 (by decide), or_keep h.e10 (by decide), or_keep h.e11 (by decide)⟩
theorem Se00.s4 {w1 : World} {w : World} {F : Array Value} {seq rm sum : Int} {D : Nat → Prop} {v14 v15 v16 v17 v18 v19 v20 v21 v22 v23 v24 v25 : Value} {w' w'' : World} (h : Se00 w1 w F seq rm sum D v14 v15 v16 v17 v18 v19 v20 v21 v22 v23 v24 v25 w') (hb : Below w'.heap.size w' w'') : Se00 w1 w F seq rm sum (fun j => D j ∨ j = 4) v14 v15 v16 v17 (.pointer (some ⟨w.heap.size, 0, none⟩)) v19 v20 v21 v22 v23 v24 v25 w'' :=
  ⟨bthen h.b hb, or_keep h.e0 (by decide), or_keep h.e1 (by decide), or_keep h.e2 (by decide), or_keep h.e3 (by decide), fun _ => rfl, or_keep h.e5 (by decide), or_keep h.e6 (by decide), or_keep h.e7 (by decide), or_keep h.e8 (by decide), or_keep h.e9 (by decide), or_keep h.e10 (by decide), or_keep h.e11 (by decide)⟩
theorem Se00.s5 {w1 : World} {w : World} {F : Array Value} {seq rm sum : Int} {D : Nat → Prop} {v14 v15 v16 v17 v18 v19 v20 v21 v22 v23 v24 v25 : Value} {w' w'' : World} (h : Se00 w1 w F seq rm sum D v14 v15 v16 v17 v18 v19 v20 v21 v22 v23 v24 v25 w') (hb : Below w'.heap.size w' w'') : Se00 w1 w F seq rm sum (fun j => D j ∨ j = 5) v14 v15 v16 v17 v18 (.pointer (some ⟨w.heap.size, 0, none⟩)) v20 v21 v22 v23 v24 v25 w'' :=
  ⟨bthen h.b hb, or_keep h.e0 (by decide), or_keep h.e1 (by decide), or_keep h.e2 (by decide), or_keep h.e3 (by decide), or_keep h.e4 (by decide), fun _ => rfl, or_keep h.e6 (by decide), or_keep h.e7 (by decide), or_keep h.e8 (by decide), or_keep h.e9 (by decide), or_keep h.e10 (by decide), or_keep h.e11 (by decide)⟩
theorem Se00.s6 {w1 : World} {w : World} {F : Array Value} {seq rm sum : Int} {D : Nat → Prop} {v14 v15 v16 v17 v18 v19 v20 v21 v22 v23 v24 v25 : Value} {w' w'' : World} (h : Se00 w1 w F seq rm sum D v14 v15 v16 v17 v18 v19 v20 v21 v22 v23 v24 v25 w') (hb : Below w'.heap.size w' w'') : Se00 w1 w F seq rm sum (fun j => D j ∨ j = 6) v14 v15 v16 v17 v18 v19 (.pointer (some ⟨w.heap.size, 2, none⟩)) v21 v22 v23 v24 v25 w'' :=
  ⟨bthen h.b hb, or_keep h.e0 (by decide), or_keep h.e1 (by decide), or_keep h.e2 (by decide), or_keep h.e3 (by decide), or_keep h.e4 (by decide), or_keep h.e5 (by decide), fun _ => rfl, or_keep h.e7 (by decide), or_keep h.e8 (by decide), or_keep h.e9 (by decide), or_keep h.e10 (by decide), or_keep h.e11 (by decide)⟩
theorem Se00.s7 {w1 : World} {w : World} {F : Array Value} {seq rm sum : Int} {D : Nat → Prop} {v14 v15 v16 v17 v18 v19 v20 v21 v22 v23 v24 v25 : Value} {w' w'' : World} (h : Se00 w1 w F seq rm sum D v14 v15 v16 v17 v18 v19 v20 v21 v22 v23 v24 v25 w') (hb : Below w'.heap.size w' w'') : Se00 w1 w F seq rm sum (fun j => D j ∨ j = 7) v14 v15 v16 v17 v18 v19 v20 (.pointer (some ⟨w.heap.size + 1, 9, none⟩)) v22 v23 v24 v25 w'' :=
  ⟨bthen h.b hb, or_keep h.e0 (by decide), or_keep h.e1 (by decide), or_keep h.e2 (by decide), or_keep h.e3 (by decide), or_keep h.e4 (by decide), or_keep h.e5 (by decide), or_keep h.e6 (by decide), fun _ => rfl, or_keep h.e8 (by decide), or_keep h.e9 (by decide), or_keep h.e10 (by decide), or_keep h.e11 (by decide)⟩
theorem Se00.s8 {w1 : World} {w : World} {F : Array Value} {seq rm sum : Int} {D : Nat → Prop} {v14 v15 v16 v17 v18 v19 v20 v21 v22 v23 v24 v25 : Value} {w' w'' : World} (h : Se00 w1 w F seq rm sum D v14 v15 v16 v17 v18 v19 v20 v21 v22 v23 v24 v25 w') (hb : Below w'.heap.size w' w'') : Se00 w1 w F seq rm sum (fun j => D j ∨ j = 8) v14 v15 v16 v17 v18 v19 v20 v21 (.int .u32 seq) v23 v24 v25 w'' :=
  ⟨bthen h.b hb, or_keep h.e0 (by decide), or_keep h.e1 (by decide), or_keep h.e2 (by decide), or_keep h.e3 (by decide), or_keep h.e4 (by decide), or_keep h.e5 (by decide), or_keep h.e6 (by decide), or_keep h.e7 (by decide), fun _ => rfl, or_keep h.e9 (by decide), or_keep h.e10 (by decide), or_keep h.e11 (by decide)⟩
theorem Se00.s9 {w1 : World} {w : World} {F : Array Value} {seq rm sum : Int} {D : Nat → Prop} {v14 v15 v16 v17 v18 v19 v20 v21 v22 v23 v24 v25 : Value} {w' w'' : World} (h : Se00 w1 w F seq rm sum D v14 v15 v16 v17 v18 v19 v20 v21 v22 v23 v24 v25 w') (hb : Below w'.heap.size w' w'') : Se00 w1 w F seq rm sum (fun j => D j ∨ j = 9) v14 v15 v16 v17 v18 v19 v20 v21 v22 (.agg F) v24 v25 w'' :=
  ⟨bthen h.b hb, or_keep h.e0 (by decide), or_keep h.e1 (by decide), or_keep h.e2 (by decide), or_keep h.e3 (by decide), or_keep h.e4 (by decide), or_keep h.e5 (by decide), or_keep h.e6 (by decide), or_keep h.e7 (by decide), or_keep h.e8 (by decide), fun _ => rfl, or_keep h.e10 (by decide), or_keep h.e11 (by decide)⟩
theorem Se00.s10 {w1 : World} {w : World} {F : Array Value} {seq rm sum : Int} {D : Nat → Prop} {v14 v15 v16 v17 v18 v19 v20 v21 v22 v23 v24 v25 : Value} {w' w'' : World} (h : Se00 w1 w F seq rm sum D v14 v15 v16 v17 v18 v19 v20 v21 v22 v23 v24 v25 w') (hb : Below w'.heap.size w' w'') : Se00 w1 w F seq rm sum (fun j => D j ∨ j = 10) v14 v15 v16 v17 v18 v19 v20 v21 v22 v23 (.int .u32 rm) v25 w'' :=
  ⟨bthen h.b hb, or_keep h.e0 (by decide), or_keep h.e1 (by decide), or_keep h.e2 (by decide), or_keep h.e3 (by decide), or_keep h.e4 (by decide), or_keep h.e5 (by decide), or_keep h.e6 (by decide), or_keep h.e7 (by decide), or_keep h.e8 (by decide), or_keep h.e9 (by decide), fun _ => rfl, or_keep h.e11 (by decide)⟩
theorem Se00.s11 {w1 : World} {w : World} {F : Array Value} {seq rm sum : Int} {D : Nat → Prop} {v14 v15 v16 v17 v18 v19 v20 v21 v22 v23 v24 v25 : Value} {w' w'' : World} (h : Se00 w1 w F seq rm sum D v14 v15 v16 v17 v18 v19 v20 v21 v22 v23 v24 v25 w') (hb : Below w'.heap.size w' w'') : Se00 w1 w F seq rm sum (fun j => D j ∨ j = 11) v14 v15 v16 v17 v18 v19 v20 v21 v22 v23 v24 (.int .u32 sum) w'' :=
  ⟨bthen h.b hb, or_keep h.e0 (by decide), or_keep h.e1 (by decide), or_keep h.e2 (by decide), or_keep h.e3 (by decide), or_keep h.e4 (by decide), or_keep h.e5 (by decide), or_keep h.e6 (by decide), or_keep h.e7 (by decide), or_keep h.e8 (by decide), or_keep h.e9 (by decide), or_keep h.e10 (by decide), fun _ => rfl⟩
theorem Se00.zero (w1 : World) (w : World) (F : Array Value) (seq rm sum : Int) (v14 v15 v16 v17 v18 v19 v20 v21 v22 v23 v24 v25 : Value) : Se00 w1 w F seq rm sum (fun _ => False) v14 v15 v16 v17 v18 v19 v20 v21 v22 v23 v24 v25 w1.drew :=
  ⟨(Below.refl _ _).drew, fun h => h.elim, fun h => h.elim, fun h => h.elim, fun h => h.elim, fun h => h.elim, fun h => h.elim, fun h => h.elim, fun h => h.elim, fun h => h.elim, fun h => h.elim, fun h => h.elim, fun h => h.elim⟩

set_option maxRecDepth 100000 in
set_option maxHeartbeats 2000000 in
theorem see_00 (ps pa qs qa : Bool) (pn pk pz qn qk qz : Int) (F : Array Value) (flags seq ack win len : Int) (rm sum : Int) (w : World) (HF : Hid (Fa F flags seq ack win len)) (h1 : 0 ≤ pn ∧ pn ≤ 4294967295) (h2 : 0 ≤ pk ∧ pk ≤ 4294967295) (h4 : 0 ≤ ack ∧ ack ≤ 4294967295) (hs : 0 ≤ sum ∧ sum ≤ 4294967295) (hsum : Hid (IntKind.u32.wrap (seq + rm) = sum)) (hfb : (bits .and .u8 flags 16 != 0) = false)
    (HR : Hid (∀ W, Calls Try.prog 18 #[.agg F] W fun e w' => e = .returned (.int .u32 rm) ∧ Below W.heap.size W w')) :
    Calls Try.prog 14 #[.agg #[.bool ps, .bool pa, .int .u32 pn, .int .u32 pk, .int .i64 pz, .bool qs, .bool qa, .int .u32 qn, .int .u32 qk, .int .i64 qz], .int .u8 0, .agg F] w fun e w' => e = .returned (.agg #[.bool true, .bool pa, .int .u32 (nxt ps pn sum), .int .u32 pk, .int .i64 win, .bool qs, .bool qa, .int .u32 qn, .int .u32 qk, .int .i64 qz]) ∧ Below w.heap.size w w' := by
  have HI := Lib.hid HF.out.hi
  go_enter Try.func14, Try.ntmps14
  go_wp2_with fail
  generalize hW : World.alloc (World.alloc (World.alloc w _) _) _ = W
  have L : Lay w W w.heap.size [.bool ps, .bool pa, .int .u32 pn, .int .u32 pk, .int .i64 pz, .bool qs, .bool qa, .int .u32 qn, .int .u32 qk, .int .i64 qz] F := by
    subst hW
    refine ⟨by (repeat' (first | exact Below.refl _ _ | refine Below.setCell ?_ (by first | omega | (simp; done) | (simp; omega)) _ | refine Below.alloc ?_ (by first | omega | (simp; done) | (simp; omega)) _)), Nat.le_refl _, by simp, rfl, ?_, ?_, ?_, ?_⟩
    · exact World.rangeAt_alloc (World.rangeAt_alloc (range_new w _ _) _) _
    · exact World.there_alloc (World.there_alloc (there_new w _ _ _ _ rfl rfl) _) _
    · exact World.rangeAt_alloc (range_new' _ _ _ _ (by simp)) _
    · exact there_new _ _ _ _ _ (by simp) rfl
  have HL := Lib.hid L
  clear hW L
  refine wp_region_steps 12 [[], [], [1], [2], [], [4], [5], [], [7], [], [9], [8, 10]] (fun D a w' => ∃ v14 v15 v16 v17 v18 v19 v20 v21 v22 v23 v24 v25 : Value, a = ⟨#[.agg #[.bool ps, .bool pa, .int .u32 pn, .int .u32 pk, .int .i64 pz, .bool qs, .bool qa, .int .u32 qn, .int .u32 qk, .int .i64 qz], .int .u8 0, .agg F, .pointer (some ⟨w.heap.size, 0, none⟩), undef, .pointer (some ⟨w.heap.size + 1, 0, none⟩), .pointer (some ⟨w.heap.size + 1 + 1, 0, none⟩), .pointer (some ⟨w.heap.size, 0, none⟩), .func (.func 26) #[] #[], .int .u8 0, .bool false, undef, .int .u8 0, .pointer (some ⟨w.heap.size, 0, none⟩), v14, v15, v16, v17, v18, v19, v20, v21, v22, v23, v24, v25, undef, undef, undef, undef, undef, undef, undef, undef, undef, undef, undef, undef, undef, undef, undef, undef, undef, undef, undef, undef, undef], []⟩ ∧ Se00 W w F seq rm sum D v14 v15 v16 v17 v18 v19 v20 v21 v22 v23 v24 v25 w') (by kernel_rfl) (by kernel_rfl) ⟨undef, undef, undef, undef, undef, undef, undef, undef, undef, undef, undef, undef, rfl, Se00.zero W w F seq rm sum (undef) (undef) (undef) (undef) (undef) (undef) (undef) (undef) (undef) (undef) (undef) (undef)⟩ ?_ ?_
  · simp only [List.take_succ_cons, List.take_zero]
    refine ⟨?_, ?_, ?_, ?_, ?_, ?_, ?_, ?_, ?_, ?_, ?_, ?_, trivial⟩
    · intro D a w' hn hp hI
      obtain ⟨v14, v15, v16, v17, v18, v19, v20, v21, v22, v23, v24, v25, rfl, hR⟩ := hI
      clear hn hp
      go_wp2_with fail
      exact ⟨_, _, _, _, _, _, _, _, _, _, _, _, rfl, hR.s0 (Below.refl _ _)⟩
    · intro D a w' hn hp hI
      obtain ⟨v14, v15, v16, v17, v18, v19, v20, v21, v22, v23, v24, v25, rfl, hR⟩ := hI
      clear hn hp
      go_wp2_with fail
      exact ⟨_, _, _, _, _, _, _, _, _, _, _, _, rfl, hR.s1 (Below.refl _ _)⟩
    · intro D a w' hn hp hI
      obtain ⟨v14, v15, v16, v17, v18, v19, v20, v21, v22, v23, v24, v25, rfl, hR⟩ := hI
      obtain rfl := hR.e1 hp.1
      clear hn hp
      go_wp2_with fail
      exact ⟨_, _, _, _, _, _, _, _, _, _, _, _, rfl, hR.s2 (Below.refl _ _)⟩
    · intro D a w' hn hp hI
      obtain ⟨v14, v15, v16, v17, v18, v19, v20, v21, v22, v23, v24, v25, rfl, hR⟩ := hI
      obtain rfl := hR.e2 hp.1
      clear hn hp
      go_wp2_with fail
      exact ⟨_, _, _, _, _, _, _, _, _, _, _, _, rfl, hR.s3 (Below.refl _ _)⟩
    · intro D a w' hn hp hI
      obtain ⟨v14, v15, v16, v17, v18, v19, v20, v21, v22, v23, v24, v25, rfl, hR⟩ := hI
      clear hn hp
      go_wp2_with fail
      exact ⟨_, _, _, _, _, _, _, _, _, _, _, _, rfl, hR.s4 (Below.refl _ _)⟩
    · intro D a w' hn hp hI
      obtain ⟨v14, v15, v16, v17, v18, v19, v20, v21, v22, v23, v24, v25, rfl, hR⟩ := hI
      obtain rfl := hR.e4 hp.1
      clear hn hp
      go_wp2_with fail
      exact ⟨_, _, _, _, _, _, _, _, _, _, _, _, rfl, hR.s5 (Below.refl _ _)⟩
    · intro D a w' hn hp hI
      obtain ⟨v14, v15, v16, v17, v18, v19, v20, v21, v22, v23, v24, v25, rfl, hR⟩ := hI
      obtain rfl := hR.e5 hp.1
      clear hn hp
      go_wp2_with fail
      exact ⟨_, _, _, _, _, _, _, _, _, _, _, _, rfl, hR.s6 (Below.refl _ _)⟩
    · intro D a w' hn hp hI
      obtain ⟨v14, v15, v16, v17, v18, v19, v20, v21, v22, v23, v24, v25, rfl, hR⟩ := hI
      clear hn hp
      go_wp2_with fail
      exact ⟨_, _, _, _, _, _, _, _, _, _, _, _, rfl, hR.s7 (Below.refl _ _)⟩
    · intro D a w' hn hp hI
      obtain ⟨v14, v15, v16, v17, v18, v19, v20, v21, v22, v23, v24, v25, rfl, hR⟩ := hI
      obtain rfl := hR.e7 hp.1
      have c := (HL.out.below hR.b).fcell 9 _ HF.out.cseq
      clear hn hp
      go_wp2_with fail
      exact ⟨_, _, _, _, _, _, _, _, _, _, _, _, rfl, hR.s8 (Below.refl _ _)⟩
    · intro D a w' hn hp hI
      obtain ⟨v14, v15, v16, v17, v18, v19, v20, v21, v22, v23, v24, v25, rfl, hR⟩ := hI
      have RF := (HL.out.below hR.b).f
      clear hn hp
      go_wp2_with (refine wpList_load_wide 34 _ rfl (by rfl) _ _ rfl F _ Try.underlying34 rfl HI.out RF ?_)
      exact ⟨_, _, _, _, _, _, _, _, _, _, _, _, rfl, hR.s9 (Below.refl _ _)⟩
    · intro D a w' hn hp hI
      obtain ⟨v14, v15, v16, v17, v18, v19, v20, v21, v22, v23, v24, v25, rfl, hR⟩ := hI
      obtain rfl := hR.e9 hp.1
      clear hn hp
      go_wp2_with fail
      refine (HR.out _).mono ?_
      rintro e w'' ⟨rfl, hb⟩
      go_wp2_with fail
      exact ⟨_, _, _, _, _, _, _, _, _, _, _, _, rfl, hR.s10 hb⟩
    · intro D a w' hn hp hI
      obtain ⟨v14, v15, v16, v17, v18, v19, v20, v21, v22, v23, v24, v25, rfl, hR⟩ := hI
      obtain rfl := hR.e8 hp.1
      obtain rfl := hR.e10 hp.2.1
      clear hn hp
      have hq := hsum.out
      go_wp2_with fail
      exact ⟨_, _, _, _, _, _, _, _, _, _, _, _, rfl, hR.s11 (Below.refl _ _)⟩
  intro D a w' hD hI
  obtain ⟨v14, v15, v16, v17, v18, v19, v20, v21, v22, v23, v24, v25, rfl, hR⟩ := hI
  obtain rfl := hR.e0 (hD 0 (by decide))
  obtain rfl := hR.e1 (hD 1 (by decide))
  obtain rfl := hR.e2 (hD 2 (by decide))
  obtain rfl := hR.e3 (hD 3 (by decide))
  obtain rfl := hR.e4 (hD 4 (by decide))
  obtain rfl := hR.e5 (hD 5 (by decide))
  obtain rfl := hR.e6 (hD 6 (by decide))
  obtain rfl := hR.e7 (hD 7 (by decide))
  obtain rfl := hR.e8 (hD 8 (by decide))
  obtain rfl := hR.e9 (hD 9 (by decide))
  obtain rfl := hR.e10 (hD 10 (by decide))
  obtain rfl := hR.e11 (hD 11 (by decide))
  have L1 := HL.out.below hR.b
  have HL1 := Lib.hid L1
  clear hD hR L1
  simp only [List.drop_succ_cons, List.drop_zero]
  go_wp2_with fail
  refine (further_core w.heap.size 0 2 ps pn sum _ (HL1.out.cell 0 _ rfl) (HL1.out.cell 2 _ rfl) (HL1.out.free 0 (by decide)) (HL1.out.free 2 (by decide)) (by decide) h1 hs).mono ?_
  rintro e U ⟨rfl, hU⟩
  have L2 : Lay w U w.heap.size [.bool true, .bool pa, .int .u32 (nxt ps pn sum), .int .u32 pk, .int .i64 pz, .bool qs, .bool qa, .int .u32 qn, .int .u32 qk, .int .i64 qz] F := by rw [← hU]; exact (HL1.out.put 2 _).put 0 _
  have HL2 := Lib.hid L2
  have cf := L2.fcell 6 _ HF.out.cflags
  clear hU HL HL1 L2
  obtain ⟨V, hV⟩ : ∃ V, U = V := ⟨_, rfl⟩
  subst hV
  have HL4 := HL2
  clear HL2
  have cw := HL4.out.fcell 11 _ HF.out.cwin
  have cz := HL4.out.cell 4 _ rfl
  have fz := HL4.out.free 4 (by decide)
  have L5 : Lay w (U.setCell ⟨w.heap.size, 4, none⟩ (.int .i64 win)) w.heap.size [.bool true, .bool pa, .int .u32 (nxt ps pn sum), .int .u32 pk, .int .i64 win, .bool qs, .bool qa, .int .u32 qn, .int .u32 qk, .int .i64 qz] F := HL4.out.put 4 _
  have HL5 := Lib.hid L5
  clear L5
  go_wp2_with (first | (refine wpList_load_wide 29 (.tmp 3) rfl (by rfl) w.heap.size 0 rfl #[.bool true, .bool pa, .int .u32 (nxt ps pn sum), .int .u32 pk, .int .i64 win, .bool qs, .bool qa, .int .u32 qn, .int .u32 qk, .int .i64 qz] _ Try.underlying29 rfl info29 HL5.out.t ?_) | (refine wpList_store_wide 29 (.tmp 6) (.tmp 46) rfl rfl (w.heap.size + 1 + 1) 0 #[.bool true, .bool pa, .int .u32 (nxt ps pn sum), .int .u32 pk, .int .i64 win, .bool qs, .bool qa, .int .u32 qn, .int .u32 qk, .int .i64 qz] rfl rfl w.heap.size w info29 (by simp [Value.oneCell']) HL5.out.b (by omega) HL5.out.z ?_; intro w9 e9 z9 r9 j1 j2 j3; clear j1 j2 j3 z9))
  refine bodyPost_ret (v := .agg #[.bool true, .bool pa, .int .u32 (nxt ps pn sum), .int .u32 pk, .int .i64 win, .bool qs, .bool qa, .int .u32 qn, .int .u32 qk, .int .i64 qz]) (results_wide Try.results14 _ rfl (run_loadVar_mid (P := Try.prog) w9 (w.heap.size + 1 + 1) 0 29 _ _ r9 Try.underlying29 rfl info29)) rfl ⟨rfl, e9⟩
structure Se11 (w1 : World) (w : World) (F : Array Value) (seq rm sum : Int) (D : Nat → Prop) (v14 v15 v16 v17 v18 v19 v20 v21 v22 v23 v24 v25 : Value) (w' : World) : Prop where
  b : Below w1.heap.size w1 w'
  e0 : D 0 → v14 = .func (.func 26) #[] #[]
  e1 : D 1 → v15 = .pointer (some ⟨w.heap.size, 5, none⟩)
  e2 : D 2 → v16 = .pointer (some ⟨w.heap.size, 5, none⟩)
  e3 : D 3 → v17 = .pointer (some ⟨w.heap.size, 5, none⟩)
  e4 : D 4 → v18 = .pointer (some ⟨w.heap.size, 5, none⟩)
  e5 : D 5 → v19 = .pointer (some ⟨w.heap.size, 5, none⟩)
  e6 : D 6 → v20 = .pointer (some ⟨w.heap.size, 7, none⟩)
  e7 : D 7 → v21 = .pointer (some ⟨w.heap.size + 1, 9, none⟩)
  e8 : D 8 → v22 = .int .u32 seq
  e9 : D 9 → v23 = .agg F
  e10 : D 10 → v24 = .int .u32 rm
  e11 : D 11 → v25 = .int .u32 sum
theorem Se11.s0 {w1 : World} {w : World} {F : Array Value} {seq rm sum : Int} {D : Nat → Prop} {v14 v15 v16 v17 v18 v19 v20 v21 v22 v23 v24 v25 : Value} {w' w'' : World} (h : Se11 w1 w F seq rm sum D v14 v15 v16 v17 v18 v19 v20 v21 v22 v23 v24 v25 w') (hb : Below w'.heap.size w' w'') : Se11 w1 w F seq rm sum (fun j => D j ∨ j = 0) (.func (.func 26) #[] #[]) v15 v16 v17 v18 v19 v20 v21 v22 v23 v24 v25 w'' :=
  ⟨bthen h.b hb, fun _ => rfl, or_keep h.e1 (by decide), or_keep h.e2 (by decide), or_keep h.e3 (by decide), or_keep h.e4 (by decide), or_keep h.e5 (by decide), or_keep h.e6 (by decide), or_keep h.e7 (by decide), or_keep h.e8 (by decide), or_keep h.e9 (by decide), or_keep h.e10 (by decide), or_keep h.e11 (by decide)⟩
theorem Se11.s1 {w1 : World} {w : World} {F : Array Value} {seq rm sum : Int} {D : Nat → Prop} {v14 v15 v16 v17 v18 v19 v20 v21 v22 v23 v24 v25 : Value} {w' w'' : World} (h : Se11 w1 w F seq rm sum D v14 v15 v16 v17 v18 v19 v20 v21 v22 v23 v24 v25 w') (hb : Below w'.heap.size w' w'') : Se11 w1 w F seq rm sum (fun j => D j ∨ j = 1) v14 (.pointer (some ⟨w.heap.size, 5, none⟩)) v16 v17 v18 v19 v20 v21 v22 v23 v24 v25 w'' :=
  ⟨bthen h.b hb, or_keep h.e0 (by decide), fun _ => rfl, or_keep h.e2 (by decide), or_keep h.e3 (by decide), or_keep h.e4 (by decide), or_keep h.e5 (by decide), or_keep h.e6 (by decide), or_keep h.e7 (by decide), or_keep h.e8 (by decide), or_keep h.e9 (by decide), or_keep h.e10 (by decide), or_keep h.e11 (by decide)⟩
theorem Se11.s2 {w1 : World} {w : World} {F : Array Value} {seq rm sum : Int} {D : Nat → Prop} {v14 v15 v16 v17 v18 v19 v20 v21 v22 v23 v24 v25 : Value} {w' w'' : World} (h : Se11 w1 w F seq rm sum D v14 v15 v16 v17 v18 v19 v20 v21 v22 v23 v24 v25 w') (hb : Below w'.heap.size w' w'') : Se11 w1 w F seq rm sum (fun j => D j ∨ j = 2) v14 v15 (.pointer (some ⟨w.heap.size, 5, none⟩)) v17 v18 v19 v20 v21 v22 v23 v24 v25 w'' :=
  ⟨bthen h.b hb, or_keep h.e0 (by decide), or_keep h.e1 (by decide), fun _ => rfl, or_keep h.e3 (by decide), or_keep h.e4 (by decide), or_keep h.e5 (by decide), or_keep h.e6 (by decide), or_keep h.e7 (by decide), or_keep h.e8 (by decide), or_keep h.e9 (by decide), or_keep h.e10 (by decide), or_keep h.e11 (by decide)⟩
theorem Se11.s3 {w1 : World} {w : World} {F : Array Value} {seq rm sum : Int} {D : Nat → Prop} {v14 v15 v16 v17 v18 v19 v20 v21 v22 v23 v24 v25 : Value} {w' w'' : World} (h : Se11 w1 w F seq rm sum D v14 v15 v16 v17 v18 v19 v20 v21 v22 v23 v24 v25 w') (hb : Below w'.heap.size w' w'') : Se11 w1 w F seq rm sum (fun j => D j ∨ j = 3) v14 v15 v16 (.pointer (some ⟨w.heap.size, 5, none⟩)) v18 v19 v20 v21 v22 v23 v24 v25 w'' :=
  ⟨bthen h.b hb, or_keep h.e0 (by decide), or_keep h.e1 (by decide), or_keep h.e2 (by decide), fun _ => rfl, or_keep h.e4 (by decide), or_keep h.e5 (by decide), or_keep h.e6 (by decide), or_keep h.e7 (by decide), or_keep h.e8 (by decide), or_keep h.e9 (by decide), or_keep h.e10 (by decide), or_keep h.e11 (by decide)⟩
theorem Se11.s4 {w1 : World} {w : World} {F : Array Value} {seq rm sum : Int} {D : Nat → Prop} {v14 v15 v16 v17 v18 v19 v20 v21 v22 v23 v24 v25 : Value} {w' w'' : World} (h : Se11 w1 w F seq rm sum D v14 v15 v16 v17 v18 v19 v20 v21 v22 v23 v24 v25 w') (hb : Below w'.heap.size w' w'') : Se11 w1 w F seq rm sum (fun j => D j ∨ j = 4) v14 v15 v16 v17 (.pointer (some ⟨w.heap.size, 5, none⟩)) v19 v20 v21 v22 v23 v24 v25 w'' :=
  ⟨bthen h.b hb, or_keep h.e0 (by decide), or_keep h.e1 (by decide), or_keep h.e2 (by decide), or_keep h.e3 (by decide), fun _ => rfl, or_keep h.e5 (by decide), or_keep h.e6 (by decide), or_keep h.e7 (by decide), or_keep h.e8 (by decide), or_keep h.e9 (by decide), or_keep h.e10 (by decide), or_keep h.e11 (by decide)⟩
theorem Se11.s5 {w1 : World} {w : World} {F : Array Value} {seq rm sum : Int} {D : Nat → Prop} {v14 v15 v16 v17 v18 v19 v20 v21 v22 v23 v24 v25 : Value} {w' w'' : World} (h : Se11 w1 w F seq rm sum D v14 v15 v16 v17 v18 v19 v20 v21 v22 v23 v24 v25 w') (hb : Below w'.heap.size w' w'') : Se11 w1 w F seq rm sum (fun j => D j ∨ j = 5) v14 v15 v16 v17 v18 (.pointer (some ⟨w.heap.size, 5, none⟩)) v20 v21 v22 v23 v24 v25 w'' :=
  ⟨bthen h.b hb, or_keep h.e0 (by decide), or_keep h.e1 (by decide), or_keep h.e2 (by decide), or_keep h.e3 (by decide), or_keep h.e4 (by decide), fun _ => rfl, or_keep h.e6 (by decide), or_keep h.e7 (by decide), or_keep h.e8 (by decide), or_keep h.e9 (by decide), or_keep h.e10 (by decide), or_keep h.e11 (by decide)⟩
theorem Se11.s6 {w1 : World} {w : World} {F : Array Value} {seq rm sum : Int} {D : Nat → Prop} {v14 v15 v16 v17 v18 v19 v20 v21 v22 v23 v24 v25 : Value} {w' w'' : World} (h : Se11 w1 w F seq rm sum D v14 v15 v16 v17 v18 v19 v20 v21 v22 v23 v24 v25 w') (hb : Below w'.heap.size w' w'') : Se11 w1 w F seq rm sum (fun j => D j ∨ j = 6) v14 v15 v16 v17 v18 v19 (.pointer (some ⟨w.heap.size, 7, none⟩)) v21 v22 v23 v24 v25 w'' :=
  ⟨bthen h.b hb, or_keep h.e0 (by decide), or_keep h.e1 (by decide), or_keep h.e2 (by decide), or_keep h.e3 (by decide), or_keep h.e4 (by decide), or_keep h.e5 (by decide), fun _ => rfl, or_keep h.e7 (by decide), or_keep h.e8 (by decide), or_keep h.e9 (by decide), or_keep h.e10 (by decide), or_keep h.e11 (by decide)⟩
theorem Se11.s7 {w1 : World} {w : World} {F : Array Value} {seq rm sum : Int} {D : Nat → Prop} {v14 v15 v16 v17 v18 v19 v20 v21 v22 v23 v24 v25 : Value} {w' w'' : World} (h : Se11 w1 w F seq rm sum D v14 v15 v16 v17 v18 v19 v20 v21 v22 v23 v24 v25 w') (hb : Below w'.heap.size w' w'') : Se11 w1 w F seq rm sum (fun j => D j ∨ j = 7) v14 v15 v16 v17 v18 v19 v20 (.pointer (some ⟨w.heap.size + 1, 9, none⟩)) v22 v23 v24 v25 w'' :=
  ⟨bthen h.b hb, or_keep h.e0 (by decide), or_keep h.e1 (by decide), or_keep h.e2 (by decide), or_keep h.e3 (by decide), or_keep h.e4 (by decide), or_keep h.e5 (by decide), or_keep h.e6 (by decide), fun _ => rfl, or_keep h.e8 (by decide), or_keep h.e9 (by decide), or_keep h.e10 (by decide), or_keep h.e11 (by decide)⟩
theorem Se11.s8 {w1 : World} {w : World} {F : Array Value} {seq rm sum : Int} {D : Nat → Prop} {v14 v15 v16 v17 v18 v19 v20 v21 v22 v23 v24 v25 : Value} {w' w'' : World} (h : Se11 w1 w F seq rm sum D v14 v15 v16 v17 v18 v19 v20 v21 v22 v23 v24 v25 w') (hb : Below w'.heap.size w' w'') : Se11 w1 w F seq rm sum (fun j => D j ∨ j = 8) v14 v15 v16 v17 v18 v19 v20 v21 (.int .u32 seq) v23 v24 v25 w'' :=
  ⟨bthen h.b hb, or_keep h.e0 (by decide), or_keep h.e1 (by decide), or_keep h.e2 (by decide), or_keep h.e3 (by decide), or_keep h.e4 (by decide), or_keep h.e5 (by decide), or_keep h.e6 (by decide), or_keep h.e7 (by decide), fun _ => rfl, or_keep h.e9 (by decide), or_keep h.e10 (by decide), or_keep h.e11 (by decide)⟩
theorem Se11.s9 {w1 : World} {w : World} {F : Array Value} {seq rm sum : Int} {D : Nat → Prop} {v14 v15 v16 v17 v18 v19 v20 v21 v22 v23 v24 v25 : Value} {w' w'' : World} (h : Se11 w1 w F seq rm sum D v14 v15 v16 v17 v18 v19 v20 v21 v22 v23 v24 v25 w') (hb : Below w'.heap.size w' w'') : Se11 w1 w F seq rm sum (fun j => D j ∨ j = 9) v14 v15 v16 v17 v18 v19 v20 v21 v22 (.agg F) v24 v25 w'' :=
  ⟨bthen h.b hb, or_keep h.e0 (by decide), or_keep h.e1 (by decide), or_keep h.e2 (by decide), or_keep h.e3 (by decide), or_keep h.e4 (by decide), or_keep h.e5 (by decide), or_keep h.e6 (by decide), or_keep h.e7 (by decide), or_keep h.e8 (by decide), fun _ => rfl, or_keep h.e10 (by decide), or_keep h.e11 (by decide)⟩
theorem Se11.s10 {w1 : World} {w : World} {F : Array Value} {seq rm sum : Int} {D : Nat → Prop} {v14 v15 v16 v17 v18 v19 v20 v21 v22 v23 v24 v25 : Value} {w' w'' : World} (h : Se11 w1 w F seq rm sum D v14 v15 v16 v17 v18 v19 v20 v21 v22 v23 v24 v25 w') (hb : Below w'.heap.size w' w'') : Se11 w1 w F seq rm sum (fun j => D j ∨ j = 10) v14 v15 v16 v17 v18 v19 v20 v21 v22 v23 (.int .u32 rm) v25 w'' :=
  ⟨bthen h.b hb, or_keep h.e0 (by decide), or_keep h.e1 (by decide), or_keep h.e2 (by decide), or_keep h.e3 (by decide), or_keep h.e4 (by decide), or_keep h.e5 (by decide), or_keep h.e6 (by decide), or_keep h.e7 (by decide), or_keep h.e8 (by decide), or_keep h.e9 (by decide), fun _ => rfl, or_keep h.e11 (by decide)⟩
theorem Se11.s11 {w1 : World} {w : World} {F : Array Value} {seq rm sum : Int} {D : Nat → Prop} {v14 v15 v16 v17 v18 v19 v20 v21 v22 v23 v24 v25 : Value} {w' w'' : World} (h : Se11 w1 w F seq rm sum D v14 v15 v16 v17 v18 v19 v20 v21 v22 v23 v24 v25 w') (hb : Below w'.heap.size w' w'') : Se11 w1 w F seq rm sum (fun j => D j ∨ j = 11) v14 v15 v16 v17 v18 v19 v20 v21 v22 v23 v24 (.int .u32 sum) w'' :=
  ⟨bthen h.b hb, or_keep h.e0 (by decide), or_keep h.e1 (by decide), or_keep h.e2 (by decide), or_keep h.e3 (by decide), or_keep h.e4 (by decide), or_keep h.e5 (by decide), or_keep h.e6 (by decide), or_keep h.e7 (by decide), or_keep h.e8 (by decide), or_keep h.e9 (by decide), or_keep h.e10 (by decide), fun _ => rfl⟩
theorem Se11.zero (w1 : World) (w : World) (F : Array Value) (seq rm sum : Int) (v14 v15 v16 v17 v18 v19 v20 v21 v22 v23 v24 v25 : Value) : Se11 w1 w F seq rm sum (fun _ => False) v14 v15 v16 v17 v18 v19 v20 v21 v22 v23 v24 v25 w1.drew :=
  ⟨(Below.refl _ _).drew, fun h => h.elim, fun h => h.elim, fun h => h.elim, fun h => h.elim, fun h => h.elim, fun h => h.elim, fun h => h.elim, fun h => h.elim, fun h => h.elim, fun h => h.elim, fun h => h.elim, fun h => h.elim⟩

set_option maxRecDepth 100000 in
set_option maxHeartbeats 2000000 in
theorem see_11 (ps pa qs qa : Bool) (pn pk pz qn qk qz : Int) (F : Array Value) (flags seq ack win len : Int) (rm sum : Int) (w : World) (HF : Hid (Fa F flags seq ack win len)) (h1 : 0 ≤ qn ∧ qn ≤ 4294967295) (h2 : 0 ≤ qk ∧ qk ≤ 4294967295) (h4 : 0 ≤ ack ∧ ack ≤ 4294967295) (hs : 0 ≤ sum ∧ sum ≤ 4294967295) (hsum : Hid (IntKind.u32.wrap (seq + rm) = sum)) (hfb : (bits .and .u8 flags 16 != 0) = true)
    (HR : Hid (∀ W, Calls Try.prog 18 #[.agg F] W fun e w' => e = .returned (.int .u32 rm) ∧ Below W.heap.size W w')) :
    Calls Try.prog 14 #[.agg #[.bool ps, .bool pa, .int .u32 pn, .int .u32 pk, .int .i64 pz, .bool qs, .bool qa, .int .u32 qn, .int .u32 qk, .int .i64 qz], .int .u8 1, .agg F] w fun e w' => e = .returned (.agg #[.bool ps, .bool pa, .int .u32 pn, .int .u32 pk, .int .i64 pz, .bool true, .bool true, .int .u32 (nxt qs qn sum), .int .u32 (nxt qa qk ack), .int .i64 win]) ∧ Below w.heap.size w w' := by
  have HI := Lib.hid HF.out.hi
  go_enter Try.func14, Try.ntmps14
  go_wp2_with fail
  generalize hW : World.alloc (World.alloc (World.alloc w _) _) _ = W
  have L : Lay w W w.heap.size [.bool ps, .bool pa, .int .u32 pn, .int .u32 pk, .int .i64 pz, .bool qs, .bool qa, .int .u32 qn, .int .u32 qk, .int .i64 qz] F := by
    subst hW
    refine ⟨by (repeat' (first | exact Below.refl _ _ | refine Below.setCell ?_ (by first | omega | (simp; done) | (simp; omega)) _ | refine Below.alloc ?_ (by first | omega | (simp; done) | (simp; omega)) _)), Nat.le_refl _, by simp, rfl, ?_, ?_, ?_, ?_⟩
    · exact World.rangeAt_alloc (World.rangeAt_alloc (range_new w _ _) _) _
    · exact World.there_alloc (World.there_alloc (there_new w _ _ _ _ rfl rfl) _) _
    · exact World.rangeAt_alloc (range_new' _ _ _ _ (by simp)) _
    · exact there_new _ _ _ _ _ (by simp) rfl
  have HL := Lib.hid L
  clear hW L
  refine wp_region_steps 12 [[], [], [1], [2], [], [4], [5], [], [7], [], [9], [8, 10]] (fun D a w' => ∃ v14 v15 v16 v17 v18 v19 v20 v21 v22 v23 v24 v25 : Value, a = ⟨#[.agg #[.bool ps, .bool pa, .int .u32 pn, .int .u32 pk, .int .i64 pz, .bool qs, .bool qa, .int .u32 qn, .int .u32 qk, .int .i64 qz], .int .u8 1, .agg F, .pointer (some ⟨w.heap.size, 0, none⟩), undef, .pointer (some ⟨w.heap.size + 1, 0, none⟩), .pointer (some ⟨w.heap.size + 1 + 1, 0, none⟩), .pointer (some ⟨w.heap.size, 5, none⟩), .func (.func 26) #[] #[], .int .u8 1, .bool false, undef, .int .u8 1, .pointer (some ⟨w.heap.size, 5, none⟩), v14, v15, v16, v17, v18, v19, v20, v21, v22, v23, v24, v25, undef, undef, undef, undef, undef, undef, undef, undef, undef, undef, undef, undef, undef, undef, undef, undef, undef, undef, undef, undef, undef], []⟩ ∧ Se11 W w F seq rm sum D v14 v15 v16 v17 v18 v19 v20 v21 v22 v23 v24 v25 w') (by kernel_rfl) (by kernel_rfl) ⟨undef, undef, undef, undef, undef, undef, undef, undef, undef, undef, undef, undef, rfl, Se11.zero W w F seq rm sum (undef) (undef) (undef) (undef) (undef) (undef) (undef) (undef) (undef) (undef) (undef) (undef)⟩ ?_ ?_
  · simp only [List.take_succ_cons, List.take_zero]
    refine ⟨?_, ?_, ?_, ?_, ?_, ?_, ?_, ?_, ?_, ?_, ?_, ?_, trivial⟩
    · intro D a w' hn hp hI
      obtain ⟨v14, v15, v16, v17, v18, v19, v20, v21, v22, v23, v24, v25, rfl, hR⟩ := hI
      clear hn hp
      go_wp2_with fail
      exact ⟨_, _, _, _, _, _, _, _, _, _, _, _, rfl, hR.s0 (Below.refl _ _)⟩
    · intro D a w' hn hp hI
      obtain ⟨v14, v15, v16, v17, v18, v19, v20, v21, v22, v23, v24, v25, rfl, hR⟩ := hI
      clear hn hp
      go_wp2_with fail
      exact ⟨_, _, _, _, _, _, _, _, _, _, _, _, rfl, hR.s1 (Below.refl _ _)⟩
    · intro D a w' hn hp hI
      obtain ⟨v14, v15, v16, v17, v18, v19, v20, v21, v22, v23, v24, v25, rfl, hR⟩ := hI
      obtain rfl := hR.e1 hp.1
      clear hn hp
      go_wp2_with fail
      exact ⟨_, _, _, _, _, _, _, _, _, _, _, _, rfl, hR.s2 (Below.refl _ _)⟩
    · intro D a w' hn hp hI
      obtain ⟨v14, v15, v16, v17, v18, v19, v20, v21, v22, v23, v24, v25, rfl, hR⟩ := hI
      obtain rfl := hR.e2 hp.1
      clear hn hp
      go_wp2_with fail
      exact ⟨_, _, _, _, _, _, _, _, _, _, _, _, rfl, hR.s3 (Below.refl _ _)⟩
    · intro D a w' hn hp hI
      obtain ⟨v14, v15, v16, v17, v18, v19, v20, v21, v22, v23, v24, v25, rfl, hR⟩ := hI
      clear hn hp
      go_wp2_with fail
      exact ⟨_, _, _, _, _, _, _, _, _, _, _, _, rfl, hR.s4 (Below.refl _ _)⟩
    · intro D a w' hn hp hI
      obtain ⟨v14, v15, v16, v17, v18, v19, v20, v21, v22, v23, v24, v25, rfl, hR⟩ := hI
      obtain rfl := hR.e4 hp.1
      clear hn hp
      go_wp2_with fail
      exact ⟨_, _, _, _, _, _, _, _, _, _, _, _, rfl, hR.s5 (Below.refl _ _)⟩
    · intro D a w' hn hp hI
      obtain ⟨v14, v15, v16, v17, v18, v19, v20, v21, v22, v23, v24, v25, rfl, hR⟩ := hI
      obtain rfl := hR.e5 hp.1
      clear hn hp
      go_wp2_with fail
      exact ⟨_, _, _, _, _, _, _, _, _, _, _, _, rfl, hR.s6 (Below.refl _ _)⟩
    · intro D a w' hn hp hI
      obtain ⟨v14, v15, v16, v17, v18, v19, v20, v21, v22, v23, v24, v25, rfl, hR⟩ := hI
      clear hn hp
      go_wp2_with fail
      exact ⟨_, _, _, _, _, _, _, _, _, _, _, _, rfl, hR.s7 (Below.refl _ _)⟩
    · intro D a w' hn hp hI
      obtain ⟨v14, v15, v16, v17, v18, v19, v20, v21, v22, v23, v24, v25, rfl, hR⟩ := hI
      obtain rfl := hR.e7 hp.1
      have c := (HL.out.below hR.b).fcell 9 _ HF.out.cseq
      clear hn hp
      go_wp2_with fail
      exact ⟨_, _, _, _, _, _, _, _, _, _, _, _, rfl, hR.s8 (Below.refl _ _)⟩
    · intro D a w' hn hp hI
      obtain ⟨v14, v15, v16, v17, v18, v19, v20, v21, v22, v23, v24, v25, rfl, hR⟩ := hI
      have RF := (HL.out.below hR.b).f
      clear hn hp
      go_wp2_with (refine wpList_load_wide 34 _ rfl (by rfl) _ _ rfl F _ Try.underlying34 rfl HI.out RF ?_)
      exact ⟨_, _, _, _, _, _, _, _, _, _, _, _, rfl, hR.s9 (Below.refl _ _)⟩
    · intro D a w' hn hp hI
      obtain ⟨v14, v15, v16, v17, v18, v19, v20, v21, v22, v23, v24, v25, rfl, hR⟩ := hI
      obtain rfl := hR.e9 hp.1
      clear hn hp
      go_wp2_with fail
      refine (HR.out _).mono ?_
      rintro e w'' ⟨rfl, hb⟩
      go_wp2_with fail
      exact ⟨_, _, _, _, _, _, _, _, _, _, _, _, rfl, hR.s10 hb⟩
    · intro D a w' hn hp hI
      obtain ⟨v14, v15, v16, v17, v18, v19, v20, v21, v22, v23, v24, v25, rfl, hR⟩ := hI
      obtain rfl := hR.e8 hp.1
      obtain rfl := hR.e10 hp.2.1
      clear hn hp
      have hq := hsum.out
      go_wp2_with fail
      exact ⟨_, _, _, _, _, _, _, _, _, _, _, _, rfl, hR.s11 (Below.refl _ _)⟩
  intro D a w' hD hI
  obtain ⟨v14, v15, v16, v17, v18, v19, v20, v21, v22, v23, v24, v25, rfl, hR⟩ := hI
  obtain rfl := hR.e0 (hD 0 (by decide))
  obtain rfl := hR.e1 (hD 1 (by decide))
  obtain rfl := hR.e2 (hD 2 (by decide))
  obtain rfl := hR.e3 (hD 3 (by decide))
  obtain rfl := hR.e4 (hD 4 (by decide))
  obtain rfl := hR.e5 (hD 5 (by decide))
  obtain rfl := hR.e6 (hD 6 (by decide))
  obtain rfl := hR.e7 (hD 7 (by decide))
  obtain rfl := hR.e8 (hD 8 (by decide))
  obtain rfl := hR.e9 (hD 9 (by decide))
  obtain rfl := hR.e10 (hD 10 (by decide))
  obtain rfl := hR.e11 (hD 11 (by decide))
  have L1 := HL.out.below hR.b
  have HL1 := Lib.hid L1
  clear hD hR L1
  simp only [List.drop_succ_cons, List.drop_zero]
  go_wp2_with fail
  refine (further_core w.heap.size 5 7 qs qn sum _ (HL1.out.cell 5 _ rfl) (HL1.out.cell 7 _ rfl) (HL1.out.free 5 (by decide)) (HL1.out.free 7 (by decide)) (by decide) h1 hs).mono ?_
  rintro e U ⟨rfl, hU⟩
  have L2 : Lay w U w.heap.size [.bool ps, .bool pa, .int .u32 pn, .int .u32 pk, .int .i64 pz, .bool true, .bool qa, .int .u32 (nxt qs qn sum), .int .u32 qk, .int .i64 qz] F := by rw [← hU]; exact (HL1.out.put 7 _).put 5 _
  have HL2 := Lib.hid L2
  have cf := L2.fcell 6 _ HF.out.cflags
  clear hU HL HL1 L2
  have ca := HL2.out.fcell 10 _ HF.out.cack
  go_wp2_with fail
  go_still_tail 9, (by kernel_rfl)
  go_wp2_with fail
  have L3 := HL2.out.below ((Below.refl _ _).drew)
  refine (further_core w.heap.size 6 8 qa qk ack _ (L3.cell 6 _ rfl) (L3.cell 8 _ rfl) (L3.free 6 (by decide)) (L3.free 8 (by decide)) (by decide) h2 h4).mono ?_
  rintro e V ⟨rfl, hV⟩
  have L4 : Lay w V w.heap.size [.bool ps, .bool pa, .int .u32 pn, .int .u32 pk, .int .i64 pz, .bool true, .bool true, .int .u32 (nxt qs qn sum), .int .u32 (nxt qa qk ack), .int .i64 qz] F := by rw [← hV]; exact (L3.put 8 _).put 6 _
  have HL4 := Lib.hid L4
  clear hV L3 L4 cf ca HL2
  have cw := HL4.out.fcell 11 _ HF.out.cwin
  have cz := HL4.out.cell 9 _ rfl
  have fz := HL4.out.free 9 (by decide)
  have L5 : Lay w (V.setCell ⟨w.heap.size, 9, none⟩ (.int .i64 win)) w.heap.size [.bool ps, .bool pa, .int .u32 pn, .int .u32 pk, .int .i64 pz, .bool true, .bool true, .int .u32 (nxt qs qn sum), .int .u32 (nxt qa qk ack), .int .i64 win] F := HL4.out.put 9 _
  have HL5 := Lib.hid L5
  clear L5
  go_wp2_with (first | (refine wpList_load_wide 29 (.tmp 3) rfl (by rfl) w.heap.size 0 rfl #[.bool ps, .bool pa, .int .u32 pn, .int .u32 pk, .int .i64 pz, .bool true, .bool true, .int .u32 (nxt qs qn sum), .int .u32 (nxt qa qk ack), .int .i64 win] _ Try.underlying29 rfl info29 HL5.out.t ?_) | (refine wpList_store_wide 29 (.tmp 6) (.tmp 46) rfl rfl (w.heap.size + 1 + 1) 0 #[.bool ps, .bool pa, .int .u32 pn, .int .u32 pk, .int .i64 pz, .bool true, .bool true, .int .u32 (nxt qs qn sum), .int .u32 (nxt qa qk ack), .int .i64 win] rfl rfl w.heap.size w info29 (by simp [Value.oneCell']) HL5.out.b (by omega) HL5.out.z ?_; intro w9 e9 z9 r9 j1 j2 j3; clear j1 j2 j3 z9))
  refine bodyPost_ret (v := .agg #[.bool ps, .bool pa, .int .u32 pn, .int .u32 pk, .int .i64 pz, .bool true, .bool true, .int .u32 (nxt qs qn sum), .int .u32 (nxt qa qk ack), .int .i64 win]) (results_wide Try.results14 _ rfl (run_loadVar_mid (P := Try.prog) w9 (w.heap.size + 1 + 1) 0 29 _ _ r9 Try.underlying29 rfl info29)) rfl ⟨rfl, e9⟩
structure Se10 (w1 : World) (w : World) (F : Array Value) (seq rm sum : Int) (D : Nat → Prop) (v14 v15 v16 v17 v18 v19 v20 v21 v22 v23 v24 v25 : Value) (w' : World) : Prop where
  b : Below w1.heap.size w1 w'
  e0 : D 0 → v14 = .func (.func 26) #[] #[]
  e1 : D 1 → v15 = .pointer (some ⟨w.heap.size, 5, none⟩)
  e2 : D 2 → v16 = .pointer (some ⟨w.heap.size, 5, none⟩)
  e3 : D 3 → v17 = .pointer (some ⟨w.heap.size, 5, none⟩)
  e4 : D 4 → v18 = .pointer (some ⟨w.heap.size, 5, none⟩)
  e5 : D 5 → v19 = .pointer (some ⟨w.heap.size, 5, none⟩)
  e6 : D 6 → v20 = .pointer (some ⟨w.heap.size, 7, none⟩)
  e7 : D 7 → v21 = .pointer (some ⟨w.heap.size + 1, 9, none⟩)
  e8 : D 8 → v22 = .int .u32 seq
  e9 : D 9 → v23 = .agg F
  e10 : D 10 → v24 = .int .u32 rm
  e11 : D 11 → v25 = .int .u32 sum
theorem Se10.s0 {w1 : World} {w : World} {F : Array Value} {seq rm sum : Int} {D : Nat → Prop} {v14 v15 v16 v17 v18 v19 v20 v21 v22 v23 v24 v25 : Value} {w' w'' : World} (h : Se10 w1 w F seq rm sum D v14 v15 v16 v17 v18 v19 v20 v21 v22 v23 v24 v25 w') (hb : Below w'.heap.size w' w'') : Se10 w1 w F seq rm sum (fun j => D j ∨ j = 0) (.func (.func 26) #[] #[]) v15 v16 v17 v18 v19 v20 v21 v22 v23 v24 v25 w'' :=
  ⟨bthen h.b hb, fun _ => rfl, or_keep h.e1 (by decide), or_keep h.e2 (by decide), or_keep h.e3 (by decide), or_keep h.e4 (by decide), or_keep h.e5 (by decide), or_keep h.e6 (by decide), or_keep h.e7 (by decide), or_keep h.e8 (by decide), or_keep h.e9 (by decide), or_keep h.e10 (by decide), or_keep h.e11 (by decide)⟩
theorem Se10.s1 {w1 : World} {w : World} {F : Array Value} {seq rm sum : Int} {D : Nat → Prop} {v14 v15 v16 v17 v18 v19 v20 v21 v22 v23 v24 v25 : Value} {w' w'' : World} (h : Se10 w1 w F seq rm sum D v14 v15 v16 v17 v18 v19 v20 v21 v22 v23 v24 v25 w') (hb : Below w'.heap.size w' w'') : Se10 w1 w F seq rm sum (fun j => D j ∨ j = 1) v14 (.pointer (some ⟨w.heap.size, 5, none⟩)) v16 v17 v18 v19 v20 v21 v22 v23 v24 v25 w'' :=
  ⟨bthen h.b hb, or_keep h.e0 (by decide), fun _ => rfl, or_keep h.e2 (by decide), or_keep h.e3 (by decide), or_keep h.e4 (by decide), or_keep h.e5 (by decide), or_keep h.e6 (by decide), or_keep h.e7 (by decide), or_keep h.e8 (by decide), or_keep h.e9 (by decide), or_keep h.e10 (by decide), or_keep h.e11 (by decide)⟩
theorem Se10.s2 {w1 : World} {w : World} {F : Array Value} {seq rm sum : Int} {D : Nat → Prop} {v14 v15 v16 v17 v18 v19 v20 v21 v22 v23 v24 v25 : Value} {w' w'' : World} (h : Se10 w1 w F seq rm sum D v14 v15 v16 v17 v18 v19 v20 v21 v22 v23 v24 v25 w') (hb : Below w'.heap.size w' w'') : Se10 w1 w F seq rm sum (fun j => D j ∨ j = 2) v14 v15 (.pointer (some ⟨w.heap.size, 5, none⟩)) v17 v18 v19 v20 v21 v22 v23 v24 v25 w'' :=
  ⟨bthen h.b hb, or_keep h.e0 (by decide), or_keep h.e1 (by decide), fun _ => rfl, or_keep h.e3 (by decide), or_keep h.e4 (by decide), or_keep h.e5 (by decide), or_keep h.e6 (by decide), or_keep h.e7 (by decide), or_keep h.e8 (by decide), or_keep h.e9 (by decide), or_keep h.e10 (by decide), or_keep h.e11 (by decide)⟩
theorem Se10.s3 {w1 : World} {w : World} {F : Array Value} {seq rm sum : Int} {D : Nat → Prop} {v14 v15 v16 v17 v18 v19 v20 v21 v22 v23 v24 v25 : Value} {w' w'' : World} (h : Se10 w1 w F seq rm sum D v14 v15 v16 v17 v18 v19 v20 v21 v22 v23 v24 v25 w') (hb : Below w'.heap.size w' w'') : Se10 w1 w F seq rm sum (fun j => D j ∨ j = 3) v14 v15 v16 (.pointer (some ⟨w.heap.size, 5, none⟩)) v18 v19 v20 v21 v22 v23 v24 v25 w'' :=
  ⟨bthen h.b hb, or_keep h.e0 (by decide), or_keep h.e1 (by decide), or_keep h.e2 (by decide), fun _ => rfl, or_keep h.e4 (by decide), or_keep h.e5 (by decide), or_keep h.e6 (by decide), or_keep h.e7 (by decide), or_keep h.e8 (by decide), or_keep h.e9 (by decide), or_keep h.e10 (by decide), or_keep h.e11 (by decide)⟩
theorem Se10.s4 {w1 : World} {w : World} {F : Array Value} {seq rm sum : Int} {D : Nat → Prop} {v14 v15 v16 v17 v18 v19 v20 v21 v22 v23 v24 v25 : Value} {w' w'' : World} (h : Se10 w1 w F seq rm sum D v14 v15 v16 v17 v18 v19 v20 v21 v22 v23 v24 v25 w') (hb : Below w'.heap.size w' w'') : Se10 w1 w F seq rm sum (fun j => D j ∨ j = 4) v14 v15 v16 v17 (.pointer (some ⟨w.heap.size, 5, none⟩)) v19 v20 v21 v22 v23 v24 v25 w'' :=
  ⟨bthen h.b hb, or_keep h.e0 (by decide), or_keep h.e1 (by decide), or_keep h.e2 (by decide), or_keep h.e3 (by decide), fun _ => rfl, or_keep h.e5 (by decide), or_keep h.e6 (by decide), or_keep h.e7 (by decide), or_keep h.e8 (by decide), or_keep h.e9 (by decide), or_keep h.e10 (by decide), or_keep h.e11 (by decide)⟩
theorem Se10.s5 {w1 : World} {w : World} {F : Array Value} {seq rm sum : Int} {D : Nat → Prop} {v14 v15 v16 v17 v18 v19 v20 v21 v22 v23 v24 v25 : Value} {w' w'' : World} (h : Se10 w1 w F seq rm sum D v14 v15 v16 v17 v18 v19 v20 v21 v22 v23 v24 v25 w') (hb : Below w'.heap.size w' w'') : Se10 w1 w F seq rm sum (fun j => D j ∨ j = 5) v14 v15 v16 v17 v18 (.pointer (some ⟨w.heap.size, 5, none⟩)) v20 v21 v22 v23 v24 v25 w'' :=
  ⟨bthen h.b hb, or_keep h.e0 (by decide), or_keep h.e1 (by decide), or_keep h.e2 (by decide), or_keep h.e3 (by decide), or_keep h.e4 (by decide), fun _ => rfl, or_keep h.e6 (by decide), or_keep h.e7 (by decide), or_keep h.e8 (by decide), or_keep h.e9 (by decide), or_keep h.e10 (by decide), or_keep h.e11 (by decide)⟩
theorem Se10.s6 {w1 : World} {w : World} {F : Array Value} {seq rm sum : Int} {D : Nat → Prop} {v14 v15 v16 v17 v18 v19 v20 v21 v22 v23 v24 v25 : Value} {w' w'' : World} (h : Se10 w1 w F seq rm sum D v14 v15 v16 v17 v18 v19 v20 v21 v22 v23 v24 v25 w') (hb : Below w'.heap.size w' w'') : Se10 w1 w F seq rm sum (fun j => D j ∨ j = 6) v14 v15 v16 v17 v18 v19 (.pointer (some ⟨w.heap.size, 7, none⟩)) v21 v22 v23 v24 v25 w'' :=
  ⟨bthen h.b hb, or_keep h.e0 (by decide), or_keep h.e1 (by decide), or_keep h.e2 (by decide), or_keep h.e3 (by decide), or_keep h.e4 (by decide), or_keep h.e5 (by decide), fun _ => rfl, or_keep h.e7 (by decide), or_keep h.e8 (by decide), or_keep h.e9 (by decide), or_keep h.e10 (by decide), or_keep h.e11 (by decide)⟩
theorem Se10.s7 {w1 : World} {w : World} {F : Array Value} {seq rm sum : Int} {D : Nat → Prop} {v14 v15 v16 v17 v18 v19 v20 v21 v22 v23 v24 v25 : Value} {w' w'' : World} (h : Se10 w1 w F seq rm sum D v14 v15 v16 v17 v18 v19 v20 v21 v22 v23 v24 v25 w') (hb : Below w'.heap.size w' w'') : Se10 w1 w F seq rm sum (fun j => D j ∨ j = 7) v14 v15 v16 v17 v18 v19 v20 (.pointer (some ⟨w.heap.size + 1, 9, none⟩)) v22 v23 v24 v25 w'' :=
  ⟨bthen h.b hb, or_keep h.e0 (by decide), or_keep h.e1 (by decide), or_keep h.e2 (by decide), or_keep h.e3 (by decide), or_keep h.e4 (by decide), or_keep h.e5 (by decide), or_keep h.e6 (by decide), fun _ => rfl, or_keep h.e8 (by decide), or_keep h.e9 (by decide), or_keep h.e10 (by decide), or_keep h.e11 (by decide)⟩
theorem Se10.s8 {w1 : World} {w : World} {F : Array Value} {seq rm sum : Int} {D : Nat → Prop} {v14 v15 v16 v17 v18 v19 v20 v21 v22 v23 v24 v25 : Value} {w' w'' : World} (h : Se10 w1 w F seq rm sum D v14 v15 v16 v17 v18 v19 v20 v21 v22 v23 v24 v25 w') (hb : Below w'.heap.size w' w'') : Se10 w1 w F seq rm sum (fun j => D j ∨ j = 8) v14 v15 v16 v17 v18 v19 v20 v21 (.int .u32 seq) v23 v24 v25 w'' :=
  ⟨bthen h.b hb, or_keep h.e0 (by decide), or_keep h.e1 (by decide), or_keep h.e2 (by decide), or_keep h.e3 (by decide), or_keep h.e4 (by decide), or_keep h.e5 (by decide), or_keep h.e6 (by decide), or_keep h.e7 (by decide), fun _ => rfl, or_keep h.e9 (by decide), or_keep h.e10 (by decide), or_keep h.e11 (by decide)⟩
theorem Se10.s9 {w1 : World} {w : World} {F : Array Value} {seq rm sum : Int} {D : Nat → Prop} {v14 v15 v16 v17 v18 v19 v20 v21 v22 v23 v24 v25 : Value} {w' w'' : World} (h : Se10 w1 w F seq rm sum D v14 v15 v16 v17 v18 v19 v20 v21 v22 v23 v24 v25 w') (hb : Below w'.heap.size w' w'') : Se10 w1 w F seq rm sum (fun j => D j ∨ j = 9) v14 v15 v16 v17 v18 v19 v20 v21 v22 (.agg F) v24 v25 w'' :=
  ⟨bthen h.b hb, or_keep h.e0 (by decide), or_keep h.e1 (by decide), or_keep h.e2 (by decide), or_keep h.e3 (by decide), or_keep h.e4 (by decide), or_keep h.e5 (by decide), or_keep h.e6 (by decide), or_keep h.e7 (by decide), or_keep h.e8 (by decide), fun _ => rfl, or_keep h.e10 (by decide), or_keep h.e11 (by decide)⟩
theorem Se10.s10 {w1 : World} {w : World} {F : Array Value} {seq rm sum : Int} {D : Nat → Prop} {v14 v15 v16 v17 v18 v19 v20 v21 v22 v23 v24 v25 : Value} {w' w'' : World} (h : Se10 w1 w F seq rm sum D v14 v15 v16 v17 v18 v19 v20 v21 v22 v23 v24 v25 w') (hb : Below w'.heap.size w' w'') : Se10 w1 w F seq rm sum (fun j => D j ∨ j = 10) v14 v15 v16 v17 v18 v19 v20 v21 v22 v23 (.int .u32 rm) v25 w'' :=
  ⟨bthen h.b hb, or_keep h.e0 (by decide), or_keep h.e1 (by decide), or_keep h.e2 (by decide), or_keep h.e3 (by decide), or_keep h.e4 (by decide), or_keep h.e5 (by decide), or_keep h.e6 (by decide), or_keep h.e7 (by decide), or_keep h.e8 (by decide), or_keep h.e9 (by decide), fun _ => rfl, or_keep h.e11 (by decide)⟩
theorem Se10.s11 {w1 : World} {w : World} {F : Array Value} {seq rm sum : Int} {D : Nat → Prop} {v14 v15 v16 v17 v18 v19 v20 v21 v22 v23 v24 v25 : Value} {w' w'' : World} (h : Se10 w1 w F seq rm sum D v14 v15 v16 v17 v18 v19 v20 v21 v22 v23 v24 v25 w') (hb : Below w'.heap.size w' w'') : Se10 w1 w F seq rm sum (fun j => D j ∨ j = 11) v14 v15 v16 v17 v18 v19 v20 v21 v22 v23 v24 (.int .u32 sum) w'' :=
  ⟨bthen h.b hb, or_keep h.e0 (by decide), or_keep h.e1 (by decide), or_keep h.e2 (by decide), or_keep h.e3 (by decide), or_keep h.e4 (by decide), or_keep h.e5 (by decide), or_keep h.e6 (by decide), or_keep h.e7 (by decide), or_keep h.e8 (by decide), or_keep h.e9 (by decide), or_keep h.e10 (by decide), fun _ => rfl⟩
theorem Se10.zero (w1 : World) (w : World) (F : Array Value) (seq rm sum : Int) (v14 v15 v16 v17 v18 v19 v20 v21 v22 v23 v24 v25 : Value) : Se10 w1 w F seq rm sum (fun _ => False) v14 v15 v16 v17 v18 v19 v20 v21 v22 v23 v24 v25 w1.drew :=
  ⟨(Below.refl _ _).drew, fun h => h.elim, fun h => h.elim, fun h => h.elim, fun h => h.elim, fun h => h.elim, fun h => h.elim, fun h => h.elim, fun h => h.elim, fun h => h.elim, fun h => h.elim, fun h => h.elim, fun h => h.elim⟩

set_option maxRecDepth 100000 in
set_option maxHeartbeats 2000000 in
theorem see_10 (ps pa qs qa : Bool) (pn pk pz qn qk qz : Int) (F : Array Value) (flags seq ack win len : Int) (rm sum : Int) (w : World) (HF : Hid (Fa F flags seq ack win len)) (h1 : 0 ≤ qn ∧ qn ≤ 4294967295) (h2 : 0 ≤ qk ∧ qk ≤ 4294967295) (h4 : 0 ≤ ack ∧ ack ≤ 4294967295) (hs : 0 ≤ sum ∧ sum ≤ 4294967295) (hsum : Hid (IntKind.u32.wrap (seq + rm) = sum)) (hfb : (bits .and .u8 flags 16 != 0) = false)
    (HR : Hid (∀ W, Calls Try.prog 18 #[.agg F] W fun e w' => e = .returned (.int .u32 rm) ∧ Below W.heap.size W w')) :
    Calls Try.prog 14 #[.agg #[.bool ps, .bool pa, .int .u32 pn, .int .u32 pk, .int .i64 pz, .bool qs, .bool qa, .int .u32 qn, .int .u32 qk, .int .i64 qz], .int .u8 1, .agg F] w fun e w' => e = .returned (.agg #[.bool ps, .bool pa, .int .u32 pn, .int .u32 pk, .int .i64 pz, .bool true, .bool qa, .int .u32 (nxt qs qn sum), .int .u32 qk, .int .i64 win]) ∧ Below w.heap.size w w' := by
  have HI := Lib.hid HF.out.hi
  go_enter Try.func14, Try.ntmps14
  go_wp2_with fail
  generalize hW : World.alloc (World.alloc (World.alloc w _) _) _ = W
  have L : Lay w W w.heap.size [.bool ps, .bool pa, .int .u32 pn, .int .u32 pk, .int .i64 pz, .bool qs, .bool qa, .int .u32 qn, .int .u32 qk, .int .i64 qz] F := by
    subst hW
    refine ⟨by (repeat' (first | exact Below.refl _ _ | refine Below.setCell ?_ (by first | omega | (simp; done) | (simp; omega)) _ | refine Below.alloc ?_ (by first | omega | (simp; done) | (simp; omega)) _)), Nat.le_refl _, by simp, rfl, ?_, ?_, ?_, ?_⟩
    · exact World.rangeAt_alloc (World.rangeAt_alloc (range_new w _ _) _) _
    · exact World.there_alloc (World.there_alloc (there_new w _ _ _ _ rfl rfl) _) _
    · exact World.rangeAt_alloc (range_new' _ _ _ _ (by simp)) _
    · exact there_new _ _ _ _ _ (by simp) rfl
  have HL := Lib.hid L
  clear hW L
  refine wp_region_steps 12 [[], [], [1], [2], [], [4], [5], [], [7], [], [9], [8, 10]] (fun D a w' => ∃ v14 v15 v16 v17 v18 v19 v20 v21 v22 v23 v24 v25 : Value, a = ⟨#[.agg #[.bool ps, .bool pa, .int .u32 pn, .int .u32 pk, .int .i64 pz, .bool qs, .bool qa, .int .u32 qn, .int .u32 qk, .int .i64 qz], .int .u8 1, .agg F, .pointer (some ⟨w.heap.size, 0, none⟩), undef, .pointer (some ⟨w.heap.size + 1, 0, none⟩), .pointer (some ⟨w.heap.size + 1 + 1, 0, none⟩), .pointer (some ⟨w.heap.size, 5, none⟩), .func (.func 26) #[] #[], .int .u8 1, .bool false, undef, .int .u8 1, .pointer (some ⟨w.heap.size, 5, none⟩), v14, v15, v16, v17, v18, v19, v20, v21, v22, v23, v24, v25, undef, undef, undef, undef, undef, undef, undef, undef, undef, undef, undef, undef, undef, undef, undef, undef, undef, undef, undef, undef, undef], []⟩ ∧ Se10 W w F seq rm sum D v14 v15 v16 v17 v18 v19 v20 v21 v22 v23 v24 v25 w') (by kernel_rfl) (by kernel_rfl) ⟨undef, undef, undef, undef, undef, undef, undef, undef, undef, undef, undef, undef, rfl, Se10.zero W w F seq rm sum (undef) (undef) (undef) (undef) (undef) (undef) (undef) (undef) (undef) (undef) (undef) (undef)⟩ ?_ ?_
  · simp only [List.take_succ_cons, List.take_zero]
    refine ⟨?_, ?_, ?_, ?_, ?_, ?_, ?_, ?_, ?_, ?_, ?_, ?_, trivial⟩
    · intro D a w' hn hp hI
      obtain ⟨v14, v15, v16, v17, v18, v19, v20, v21, v22, v23, v24, v25, rfl, hR⟩ := hI
      clear hn hp
      go_wp2_with fail
      exact ⟨_, _, _, _, _, _, _, _, _, _, _, _, rfl, hR.s0 (Below.refl _ _)⟩
    · intro D a w' hn hp hI
      obtain ⟨v14, v15, v16, v17, v18, v19, v20, v21, v22, v23, v24, v25, rfl, hR⟩ := hI
      clear hn hp
      go_wp2_with fail
      exact ⟨_, _, _, _, _, _, _, _, _, _, _, _, rfl, hR.s1 (Below.refl _ _)⟩
    · intro D a w' hn hp hI
      obtain ⟨v14, v15, v16, v17, v18, v19, v20, v21, v22, v23, v24, v25, rfl, hR⟩ := hI
      obtain rfl := hR.e1 hp.1
      clear hn hp
      go_wp2_with fail
      exact ⟨_, _, _, _, _, _, _, _, _, _, _, _, rfl, hR.s2 (Below.refl _ _)⟩
    · intro D a w' hn hp hI
      obtain ⟨v14, v15, v16, v17, v18, v19, v20, v21, v22, v23, v24, v25, rfl, hR⟩ := hI
      obtain rfl := hR.e2 hp.1
      clear hn hp
      go_wp2_with fail
      exact ⟨_, _, _, _, _, _, _, _, _, _, _, _, rfl, hR.s3 (Below.refl _ _)⟩
    · intro D a w' hn hp hI
      obtain ⟨v14, v15, v16, v17, v18, v19, v20, v21, v22, v23, v24, v25, rfl, hR⟩ := hI
      clear hn hp
      go_wp2_with fail
      exact ⟨_, _, _, _, _, _, _, _, _, _, _, _, rfl, hR.s4 (Below.refl _ _)⟩
    · intro D a w' hn hp hI
      obtain ⟨v14, v15, v16, v17, v18, v19, v20, v21, v22, v23, v24, v25, rfl, hR⟩ := hI
      obtain rfl := hR.e4 hp.1
      clear hn hp
      go_wp2_with fail
      exact ⟨_, _, _, _, _, _, _, _, _, _, _, _, rfl, hR.s5 (Below.refl _ _)⟩
    · intro D a w' hn hp hI
      obtain ⟨v14, v15, v16, v17, v18, v19, v20, v21, v22, v23, v24, v25, rfl, hR⟩ := hI
      obtain rfl := hR.e5 hp.1
      clear hn hp
      go_wp2_with fail
      exact ⟨_, _, _, _, _, _, _, _, _, _, _, _, rfl, hR.s6 (Below.refl _ _)⟩
    · intro D a w' hn hp hI
      obtain ⟨v14, v15, v16, v17, v18, v19, v20, v21, v22, v23, v24, v25, rfl, hR⟩ := hI
      clear hn hp
      go_wp2_with fail
      exact ⟨_, _, _, _, _, _, _, _, _, _, _, _, rfl, hR.s7 (Below.refl _ _)⟩
    · intro D a w' hn hp hI
      obtain ⟨v14, v15, v16, v17, v18, v19, v20, v21, v22, v23, v24, v25, rfl, hR⟩ := hI
      obtain rfl := hR.e7 hp.1
      have c := (HL.out.below hR.b).fcell 9 _ HF.out.cseq
      clear hn hp
      go_wp2_with fail
      exact ⟨_, _, _, _, _, _, _, _, _, _, _, _, rfl, hR.s8 (Below.refl _ _)⟩
    · intro D a w' hn hp hI
      obtain ⟨v14, v15, v16, v17, v18, v19, v20, v21, v22, v23, v24, v25, rfl, hR⟩ := hI
      have RF := (HL.out.below hR.b).f
      clear hn hp
      go_wp2_with (refine wpList_load_wide 34 _ rfl (by rfl) _ _ rfl F _ Try.underlying34 rfl HI.out RF ?_)
      exact ⟨_, _, _, _, _, _, _, _, _, _, _, _, rfl, hR.s9 (Below.refl _ _)⟩
    · intro D a w' hn hp hI
      obtain ⟨v14, v15, v16, v17, v18, v19, v20, v21, v22, v23, v24, v25, rfl, hR⟩ := hI
      obtain rfl := hR.e9 hp.1
      clear hn hp
      go_wp2_with fail
      refine (HR.out _).mono ?_
      rintro e w'' ⟨rfl, hb⟩
      go_wp2_with fail
      exact ⟨_, _, _, _, _, _, _, _, _, _, _, _, rfl, hR.s10 hb⟩
    · intro D a w' hn hp hI
      obtain ⟨v14, v15, v16, v17, v18, v19, v20, v21, v22, v23, v24, v25, rfl, hR⟩ := hI
      obtain rfl := hR.e8 hp.1
      obtain rfl := hR.e10 hp.2.1
      clear hn hp
      have hq := hsum.out
      go_wp2_with fail
      exact ⟨_, _, _, _, _, _, _, _, _, _, _, _, rfl, hR.s11 (Below.refl _ _)⟩
  intro D a w' hD hI
  obtain ⟨v14, v15, v16, v17, v18, v19, v20, v21, v22, v23, v24, v25, rfl, hR⟩ := hI
  obtain rfl := hR.e0 (hD 0 (by decide))
  obtain rfl := hR.e1 (hD 1 (by decide))
  obtain rfl := hR.e2 (hD 2 (by decide))
  obtain rfl := hR.e3 (hD 3 (by decide))
  obtain rfl := hR.e4 (hD 4 (by decide))
  obtain rfl := hR.e5 (hD 5 (by decide))
  obtain rfl := hR.e6 (hD 6 (by decide))
  obtain rfl := hR.e7 (hD 7 (by decide))
  obtain rfl := hR.e8 (hD 8 (by decide))
  obtain rfl := hR.e9 (hD 9 (by decide))
  obtain rfl := hR.e10 (hD 10 (by decide))
  obtain rfl := hR.e11 (hD 11 (by decide))
  have L1 := HL.out.below hR.b
  have HL1 := Lib.hid L1
  clear hD hR L1
  simp only [List.drop_succ_cons, List.drop_zero]
  go_wp2_with fail
  refine (further_core w.heap.size 5 7 qs qn sum _ (HL1.out.cell 5 _ rfl) (HL1.out.cell 7 _ rfl) (HL1.out.free 5 (by decide)) (HL1.out.free 7 (by decide)) (by decide) h1 hs).mono ?_
  rintro e U ⟨rfl, hU⟩
  have L2 : Lay w U w.heap.size [.bool ps, .bool pa, .int .u32 pn, .int .u32 pk, .int .i64 pz, .bool true, .bool qa, .int .u32 (nxt qs qn sum), .int .u32 qk, .int .i64 qz] F := by rw [← hU]; exact (HL1.out.put 7 _).put 5 _
  have HL2 := Lib.hid L2
  have cf := L2.fcell 6 _ HF.out.cflags
  clear hU HL HL1 L2
  obtain ⟨V, hV⟩ : ∃ V, U = V := ⟨_, rfl⟩
  subst hV
  have HL4 := HL2
  clear HL2
  have cw := HL4.out.fcell 11 _ HF.out.cwin
  have cz := HL4.out.cell 9 _ rfl
  have fz := HL4.out.free 9 (by decide)
  have L5 : Lay w (U.setCell ⟨w.heap.size, 9, none⟩ (.int .i64 win)) w.heap.size [.bool ps, .bool pa, .int .u32 pn, .int .u32 pk, .int .i64 pz, .bool true, .bool qa, .int .u32 (nxt qs qn sum), .int .u32 qk, .int .i64 win] F := HL4.out.put 9 _
  have HL5 := Lib.hid L5
  clear L5
  go_wp2_with (first | (refine wpList_load_wide 29 (.tmp 3) rfl (by rfl) w.heap.size 0 rfl #[.bool ps, .bool pa, .int .u32 pn, .int .u32 pk, .int .i64 pz, .bool true, .bool qa, .int .u32 (nxt qs qn sum), .int .u32 qk, .int .i64 win] _ Try.underlying29 rfl info29 HL5.out.t ?_) | (refine wpList_store_wide 29 (.tmp 6) (.tmp 46) rfl rfl (w.heap.size + 1 + 1) 0 #[.bool ps, .bool pa, .int .u32 pn, .int .u32 pk, .int .i64 pz, .bool true, .bool qa, .int .u32 (nxt qs qn sum), .int .u32 qk, .int .i64 win] rfl rfl w.heap.size w info29 (by simp [Value.oneCell']) HL5.out.b (by omega) HL5.out.z ?_; intro w9 e9 z9 r9 j1 j2 j3; clear j1 j2 j3 z9))
  refine bodyPost_ret (v := .agg #[.bool ps, .bool pa, .int .u32 pn, .int .u32 pk, .int .i64 pz, .bool true, .bool qa, .int .u32 (nxt qs qn sum), .int .u32 qk, .int .i64 win]) (results_wide Try.results14 _ rfl (run_loadVar_mid (P := Try.prog) w9 (w.heap.size + 1 + 1) 0 29 _ _ r9 Try.underlying29 rfl info29)) rfl ⟨rfl, e9⟩

/-- A side's cells. -/
def Sd.wf (s : Sd) : Prop := (0 ≤ s.next ∧ s.next ≤ 4294967295) ∧ (0 ≤ s.ack ∧ s.ack ≤ 4294967295)
theorem room_below (F : Array Value) (flags seq ack win len : Int) (h : Fa F flags seq ack win len) (W : World) : Calls Try.prog 18 #[.agg F] W fun e w' => e = .returned (.int .u32 (room flags len)) ∧ Below W.heap.size W w' :=
  (room_fa F flags seq ack win len W h).mono fun _ _ ⟨a, b⟩ => ⟨a, b ▸ (((Below.refl _ _).alloc (Nat.le_refl _) _).alloc (by simp) _)⟩
/-- A track. -/
def trk (a b : Sd) : Array Value := (a.cells ++ b.cells).toArray
theorem see0_any (a b : Sd) (F : Array Value) (flags seq ack win len : Int) (w : World) (h : Fa F flags seq ack win len) (ha : a.wf) :
    Calls Try.prog 14 #[.agg (trk a b), .int .u8 0, .agg F] w fun e w' => e = .returned (.agg (trk (seeS a flags seq ack win len) b)) ∧ Below w.heap.size w w' := by
  have hx := wrap_range (seq + room flags len)
  have hs : seeS a flags seq ack win len = ⟨true, a.acked || (bits .and .u8 flags 16 != 0), nxt a.seen a.next (IntKind.u32.wrap (seq + room flags len)), if bits .and .u8 flags 16 != 0 then nxt a.acked a.ack ack else a.ack, win⟩ := by rw [seeS, IntKind.wrap_u32']
  rw [hs]
  cases hf : bits .and .u8 flags 16 != 0
  · have := see_00 a.seen a.acked b.seen b.acked a.next a.ack a.size b.next b.ack b.size F flags seq ack win len _ _ w h ha.1 ha.2 h.ba hx (show _ from rfl) hf (room_below F flags seq ack win len h)
    simpa [trk, Sd.cells] using this
  · have := see_01 a.seen a.acked b.seen b.acked a.next a.ack a.size b.next b.ack b.size F flags seq ack win len _ _ w h ha.1 ha.2 h.ba hx (show _ from rfl) hf (room_below F flags seq ack win len h)
    simpa [trk, Sd.cells] using this
theorem see1_any (a b : Sd) (F : Array Value) (flags seq ack win len : Int) (w : World) (h : Fa F flags seq ack win len) (hb : b.wf) :
    Calls Try.prog 14 #[.agg (trk a b), .int .u8 1, .agg F] w fun e w' => e = .returned (.agg (trk a (seeS b flags seq ack win len))) ∧ Below w.heap.size w w' := by
  have hx := wrap_range (seq + room flags len)
  have hs : seeS b flags seq ack win len = ⟨true, b.acked || (bits .and .u8 flags 16 != 0), nxt b.seen b.next (IntKind.u32.wrap (seq + room flags len)), if bits .and .u8 flags 16 != 0 then nxt b.acked b.ack ack else b.ack, win⟩ := by rw [seeS, IntKind.wrap_u32']
  rw [hs]
  cases hf : bits .and .u8 flags 16 != 0
  · have := see_10 a.seen a.acked b.seen b.acked a.next a.ack a.size b.next b.ack b.size F flags seq ack win len _ _ w h hb.1 hb.2 h.ba hx (show _ from rfl) hf (room_below F flags seq ack win len h)
    simpa [trk, Sd.cells] using this
  · have := see_11 a.seen a.acked b.seen b.acked a.next a.ack a.size b.next b.ack b.size F flags seq ack win len _ _ w h hb.1 hb.2 h.ba hx (show _ from rfl) hf (room_below F flags seq ack win len h)
    simpa [trk, Sd.cells] using this
set_option maxRecDepth 100000 in
set_option maxHeartbeats 1000000 in
theorem see_out (a b : Sd) (F : Array Value) (d : Int) (w : World) (hd : 1 < d) :
    Calls Try.prog 14 #[.agg (trk a b), .int .u8 d, .agg F] w fun e w' => e = .returned (.agg (trk a b)) ∧ Below w.heap.size w w' := by
  have ht : (trk a b).size = 10 := rfl
  have ho : (trk a b).all (·.oneCell') = true := by simp [trk, Sd.cells, Value.oneCell']
  have HI : Hid ((Try.prog.info? 29).map (·.size) = some (trk a b).size) := by rw [ht]; exact info29
  have HI2 : Hid ((Try.prog.info? 29).map (·.size) = some (trk a b).toList.length) := by rw [Array.length_toList, ht]; exact info29
  have Ht := Lib.hid ht
  have Ho := Lib.hid ho
  clear ht ho
  generalize trk a b = T at *
  go_enter Try.func14, Try.ntmps14
  go_wp2_with (first | (refine wpList_load_wide 29 (.tmp 3) rfl (by rfl) w.heap.size 0 rfl T _ Try.underlying29 rfl HI2.out ?_ ?_; · (repeat (first | exact range_new _ _ _ | refine World.rangeAt_alloc ?_ _))) | (refine wpList_store_wide 29 (.tmp 6) (.tmp 11) rfl rfl (w.heap.size + 1 + 1) 0 T rfl rfl w.heap.size w HI.out Ho.out ?_ (by omega) ?_ ?_; (· (repeat' (first | exact Below.refl _ _ | refine Below.setCell ?_ (by first | omega | (simp; done) | (simp; omega)) _ | refine Below.alloc ?_ (by first | omega | (simp; done) | (simp; omega)) _))); (· (rw [Ht.out]; exact there_new _ _ _ _ _ (by simp) rfl)); intro w9 e9 z9 r9 j1 j2 j3; clear j1 j2 j3 z9))
  refine bodyPost_ret (v := .agg T) (results_wide Try.results14 _ rfl (run_loadVar_mid (P := Try.prog) w9 (w.heap.size + 1 + 1) 0 29 _ _ r9 Try.underlying29 rfl HI2.out)) rfl ⟨rfl, e9⟩

end Go.Proofs.Ytchephpmkommfaa

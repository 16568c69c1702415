/-
  The walk of WindowShifts: only differences count. Condition: the words are those of an argument.
-/
import Derived.Test.YtchephpmkommfaaPktA
import Derived.Deep.DeepCutAuto
namespace Go.Proofs.Ytchephpmkommfaa
open Go.RowKit
set_option linter.unusedVariables false
set_option linter.unusedSimpArgs false

/-- What lies where, as the conversations begin. -/
structure Cn (W : World) (pa pb po : Nat) (A1 A2 B2 : Option Addr) (M N : Mo) (f0 f1 g0 g1 ow ol obk : Int) : Prop where
  a0 : W.cell? ⟨pa, 0, none⟩ = some (.int .u32 f0)
  a1 : W.cell? ⟨pa, 1, none⟩ = some (.int .u32 f1)
  b0 : W.cell? ⟨pb, 0, none⟩ = some (.int .u32 g0)
  b1 : W.cell? ⟨pb, 1, none⟩ = some (.int .u32 g1)
  o0 : W.cell? ⟨po, 0, none⟩ = some (.int .u8 ow)
  o1 : W.cell? ⟨po, 1, none⟩ = some (.int .u16 ol)
  o2 : W.cell? ⟨po, 2, none⟩ = some (.int .i8 obk)
  d1 : Rd W A1 1 (M.ds.map fun d => [.int .u8 d])
  p1 : Rd W A2 19 (M.ps.map Pk.row)
  q1 : Rd W B2 19 (N.ps.map Pk.row)
theorem Cn.below {W W' : World} {pa pb po : Nat} {A1 A2 B2 : Option Addr} {M N : Mo} {f0 f1 g0 g1 ow ol obk : Int} (h : Cn W pa pb po A1 A2 B2 M N f0 f1 g0 g1 ow ol obk) (hb : Below W.heap.size W W') : Cn W' pa pb po A1 A2 B2 M N f0 f1 g0 g1 ow ol obk :=
  ⟨kc hb h.a0, kc hb h.a1, kc hb h.b0, kc hb h.b1, kc hb h.o0, kc hb h.o1, kc hb h.o2, h.d1.below hb, h.p1.below hb, h.q1.below hb⟩
/-- The two tracks. -/
structure Tb (w0 W : World) (bs bt : Nat) (T U : Array Value) : Prop where
  b : Below w0.heap.size w0 W
  s : W.rangeAt bs 0 T.toList
  st : W.there bs 0 10
  t : W.rangeAt bt 0 U.toList
  tt : W.there bt 0 10
theorem Tb.below {w0 W W' : World} {bs bt : Nat} {T U : Array Value} (h : Tb w0 W bs bt T U) (hb : Below W.heap.size W W') : Tb w0 W' bs bt T U :=
  ⟨bthen h.b hb, range_below hb (there_lt h.st) h.s, there_below hb (there_lt h.st) h.st, range_below hb (there_lt h.tt) h.t, there_below hb (there_lt h.tt) h.tt⟩
/-- A variable of a packet. -/
structure Rb (w0 W : World) (b : Nat) (F : Array Value) : Prop where
  lo : w0.heap.size ≤ b
  lt : b < W.heap.size
  r : W.rangeAt b 0 F.toList
  t : W.there b 0 19
theorem Rb.below {w0 W W' : World} {b : Nat} {F : Array Value} (h : Rb w0 W b F) (hb : Below W.heap.size W W') : Rb w0 W' b F := ⟨h.lo, Nat.lt_of_lt_of_le h.lt hb.size, range_below hb h.lt h.r, there_below hb h.lt h.t⟩
theorem Rb.set {w0 W : World} {b : Nat} {F G : Array Value} (h : Rb w0 W b F) (hF : F.toList.length = 19) (i : Nat) (v : Value) (hG : F.toList.set i v = G.toList) : Rb w0 (W.setCell ⟨b, i, none⟩ v) b G :=
  ⟨h.lo, by simpa using h.lt, hG ▸ rput h.r (by rw [hF]; exact h.t) v, World.there_setCells h.t b i [v]⟩
theorem Rb.apart {w0 W : World} {b c : Nat} {F : Array Value} (h : Rb w0 W b F) (hne : b ≠ c) (i : Nat) (v : Value) : Rb w0 (W.setCell ⟨c, i, none⟩ v) b F :=
  ⟨h.lo, by simpa using h.lt, World.rangeAt_setCells_apart h.r c i [v] (.inl hne), World.there_setCells h.t c i [v]⟩
theorem Rb.base {w0 w1 W : World} {b : Nat} {F : Array Value} (h : Rb w1 W b F) (hl : w0.heap.size ≤ w1.heap.size) : Rb w0 W b F := ⟨Nat.le_trans hl h.lo, h.lt, h.r, h.t⟩
/-- A struct literal, its value said. -/
theorem wpList_buildSd {P : Program} {ops : Array Oper} {rest : List Oper} {o : Oper} {a : Act} {w : World} {Q : Exit → Act → World → Prop} (hg : o.guard = none) (t : TypeId) (parts : Array (Nat × Operand)) (ho : o.op = .build t parts)
    (vs : List (Nat × Value)) (d : Option Tmp) (hd : o.dst = d) (hp : (parts.map fun (i, x) => (i, a.eval x)).toList = vs) (cells : Array Value) (hf : P.built t vs = some cells)
    (h : wpList P ops Q rest (a.put d (.agg cells)) w) : wpList P ops Q (o :: rest) a w :=
  wpList_buildTo hg t parts ho d hd cells (by rw [hp]; exact hf) h
theorem built_probe (s k l : Int) : Try.prog.built 34 [(2, .int .u8 4), (5, .int .u32 s), (6, .int .u32 k), (8, .int .i64 l)] = some (pk 4 s k 0 l) := by kernel_rfl
theorem bool_neq (b : Bool) (W : World) : (binOp .neq 4 (.bool b) (.bool b)).run Try.prog W = .ok (.bool false) W := by cases b <;> go_simp
theorem pk_len (a b c d e : Int) : (pk a b c d e).toList.length = 19 := rfl
def sv16 (qd od m c1 j dn : Nat) (T U F3 F4 : Array Value) (ba fi : Bool) : List Value := [.agg T, .slice (some ⟨qd, od, none⟩) m c1, .int .i64 (j : Int), .pointer (some ⟨qd, od + j, none⟩), .int .u8 (dn : Int), .agg F3, .bool ba, .agg U, .slice (some ⟨qd, od, none⟩) m c1, .int .i64 (j : Int), .pointer (some ⟨qd, od + j, none⟩), .int .u8 (dn : Int), .agg F4, .bool ba, .bool false, .bool false, .agg T, .slice (some ⟨qd, od, none⟩) m c1, .int .i64 (j : Int), .pointer (some ⟨qd, od + j, none⟩), .int .u8 (dn : Int), .agg F3, .bool fi, .agg U, .slice (some ⟨qd, od, none⟩) m c1, .int .i64 (j : Int), .pointer (some ⟨qd, od + j, none⟩), .int .u8 (dn : Int), .agg F4, .bool fi, .bool false, .bool false]
def sv18 (qd od m c1 j dn : Nat) (T U F3 F4 T2 U2 : Array Value) : List Value := [.agg T, .slice (some ⟨qd, od, none⟩) m c1, .int .i64 (j : Int), .pointer (some ⟨qd, od + j, none⟩), .int .u8 (dn : Int), .agg F3, .agg T2, .agg U, .slice (some ⟨qd, od, none⟩) m c1, .int .i64 (j : Int), .pointer (some ⟨qd, od + j, none⟩), .int .u8 (dn : Int), .agg F4, .agg U2]
structure Sr22 (w1 : World) (bs bt c : Nat) (x y : Sd) (D : Nat → Prop) (v21 v22 v141 v142 v143 v144 v145 v146 : Value) (w' : World) : Prop where
  b : Below w1.heap.size w1 w'
  e0 : D 0 → v141 = .int .i64 (c : Int)
  e1 : D 1 → v142 = .pointer (some ⟨bs, c * 5, none⟩)
  e2 : D 2 → v143 = .agg #[.bool x.seen, .bool x.acked, .int .u32 x.next, .int .u32 x.ack, .int .i64 x.size]
  e3 : D 3 → v144 = .int .i64 (c : Int)
  e4 : D 4 → v145 = .pointer (some ⟨bt, c * 5, none⟩)
  e5 : D 5 → v146 = .agg #[.bool y.seen, .bool y.acked, .int .u32 y.next, .int .u32 y.ack, .int .i64 y.size]
  m6 : D 6 → Made w1.heap.size 5 v21 w'
  m7 : D 7 → Made w1.heap.size 5 v22 w'
  n6_7 : D 6 → D 7 → v21 ≠ v22
  r8 : D 8 → ∃ b, v21 = .pointer (some ⟨b, 0, none⟩) ∧ b < w'.heap.size ∧ w'.rangeAt b 0 [.bool x.seen, .bool x.acked, .int .u32 x.next, .int .u32 x.ack, .int .i64 x.size]
  o8 : D 8 → D 6
theorem Sr22.s0 {w1 : World} {bs bt c : Nat} {x y : Sd} {D : Nat → Prop} {v21 v22 v141 v142 v143 v144 v145 v146 : Value} {w' w'' : World} (h : Sr22 w1 bs bt c x y D v21 v22 v141 v142 v143 v144 v145 v146 w') (hb : Below w'.heap.size w' w'') : Sr22 w1 bs bt c x y (fun j => D j ∨ j = 0) v21 v22 (.int .i64 (c : Int)) v142 v143 v144 v145 v146 w'' :=
  ⟨bthen h.b hb, fun _ => rfl, or_keep h.e1 (by decide), or_keep h.e2 (by decide), or_keep h.e3 (by decide), or_keep h.e4 (by decide), or_keep h.e5 (by decide), or_keep (fun hd => (h.m6 hd).below hb) (by decide), or_keep (fun hd => (h.m7 hd).below hb) (by decide), or_keep2 h.n6_7 (by decide) (by decide), or_keep (fun hd => by obtain ⟨b, e, hl, hr⟩ := h.r8 hd; exact ⟨b, e, Nat.lt_of_lt_of_le hl hb.size, rangeAt_below hb hl hr⟩) (by decide), fun hd => .inl (h.o8 (hd.resolve_right (by decide)))⟩
theorem Sr22.s1 {w1 : World} {bs bt c : Nat} {x y : Sd} {D : Nat → Prop} {v21 v22 v141 v142 v143 v144 v145 v146 : Value} {w' w'' : World} (h : Sr22 w1 bs bt c x y D v21 v22 v141 v142 v143 v144 v145 v146 w') (hb : Below w'.heap.size w' w'') : Sr22 w1 bs bt c x y (fun j => D j ∨ j = 1) v21 v22 v141 (.pointer (some ⟨bs, c * 5, none⟩)) v143 v144 v145 v146 w'' :=
  ⟨bthen h.b hb, or_keep h.e0 (by decide), fun _ => rfl, or_keep h.e2 (by decide), or_keep h.e3 (by decide), or_keep h.e4 (by decide), or_keep h.e5 (by decide), or_keep (fun hd => (h.m6 hd).below hb) (by decide), or_keep (fun hd => (h.m7 hd).below hb) (by decide), or_keep2 h.n6_7 (by decide) (by decide), or_keep (fun hd => by obtain ⟨b, e, hl, hr⟩ := h.r8 hd; exact ⟨b, e, Nat.lt_of_lt_of_le hl hb.size, rangeAt_below hb hl hr⟩) (by decide), fun hd => .inl (h.o8 (hd.resolve_right (by decide)))⟩
theorem Sr22.s2 {w1 : World} {bs bt c : Nat} {x y : Sd} {D : Nat → Prop} {v21 v22 v141 v142 v143 v144 v145 v146 : Value} {w' w'' : World} (h : Sr22 w1 bs bt c x y D v21 v22 v141 v142 v143 v144 v145 v146 w') (hb : Below w'.heap.size w' w'') : Sr22 w1 bs bt c x y (fun j => D j ∨ j = 2) v21 v22 v141 v142 (.agg #[.bool x.seen, .bool x.acked, .int .u32 x.next, .int .u32 x.ack, .int .i64 x.size]) v144 v145 v146 w'' :=
  ⟨bthen h.b hb, or_keep h.e0 (by decide), or_keep h.e1 (by decide), fun _ => rfl, or_keep h.e3 (by decide), or_keep h.e4 (by decide), or_keep h.e5 (by decide), or_keep (fun hd => (h.m6 hd).below hb) (by decide), or_keep (fun hd => (h.m7 hd).below hb) (by decide), or_keep2 h.n6_7 (by decide) (by decide), or_keep (fun hd => by obtain ⟨b, e, hl, hr⟩ := h.r8 hd; exact ⟨b, e, Nat.lt_of_lt_of_le hl hb.size, rangeAt_below hb hl hr⟩) (by decide), fun hd => .inl (h.o8 (hd.resolve_right (by decide)))⟩
theorem Sr22.s3 {w1 : World} {bs bt c : Nat} {x y : Sd} {D : Nat → Prop} {v21 v22 v141 v142 v143 v144 v145 v146 : Value} {w' w'' : World} (h : Sr22 w1 bs bt c x y D v21 v22 v141 v142 v143 v144 v145 v146 w') (hb : Below w'.heap.size w' w'') : Sr22 w1 bs bt c x y (fun j => D j ∨ j = 3) v21 v22 v141 v142 v143 (.int .i64 (c : Int)) v145 v146 w'' :=
  ⟨bthen h.b hb, or_keep h.e0 (by decide), or_keep h.e1 (by decide), or_keep h.e2 (by decide), fun _ => rfl, or_keep h.e4 (by decide), or_keep h.e5 (by decide), or_keep (fun hd => (h.m6 hd).below hb) (by decide), or_keep (fun hd => (h.m7 hd).below hb) (by decide), or_keep2 h.n6_7 (by decide) (by decide), or_keep (fun hd => by obtain ⟨b, e, hl, hr⟩ := h.r8 hd; exact ⟨b, e, Nat.lt_of_lt_of_le hl hb.size, rangeAt_below hb hl hr⟩) (by decide), fun hd => .inl (h.o8 (hd.resolve_right (by decide)))⟩
theorem Sr22.s4 {w1 : World} {bs bt c : Nat} {x y : Sd} {D : Nat → Prop} {v21 v22 v141 v142 v143 v144 v145 v146 : Value} {w' w'' : World} (h : Sr22 w1 bs bt c x y D v21 v22 v141 v142 v143 v144 v145 v146 w') (hb : Below w'.heap.size w' w'') : Sr22 w1 bs bt c x y (fun j => D j ∨ j = 4) v21 v22 v141 v142 v143 v144 (.pointer (some ⟨bt, c * 5, none⟩)) v146 w'' :=
  ⟨bthen h.b hb, or_keep h.e0 (by decide), or_keep h.e1 (by decide), or_keep h.e2 (by decide), or_keep h.e3 (by decide), fun _ => rfl, or_keep h.e5 (by decide), or_keep (fun hd => (h.m6 hd).below hb) (by decide), or_keep (fun hd => (h.m7 hd).below hb) (by decide), or_keep2 h.n6_7 (by decide) (by decide), or_keep (fun hd => by obtain ⟨b, e, hl, hr⟩ := h.r8 hd; exact ⟨b, e, Nat.lt_of_lt_of_le hl hb.size, rangeAt_below hb hl hr⟩) (by decide), fun hd => .inl (h.o8 (hd.resolve_right (by decide)))⟩
theorem Sr22.s5 {w1 : World} {bs bt c : Nat} {x y : Sd} {D : Nat → Prop} {v21 v22 v141 v142 v143 v144 v145 v146 : Value} {w' w'' : World} (h : Sr22 w1 bs bt c x y D v21 v22 v141 v142 v143 v144 v145 v146 w') (hb : Below w'.heap.size w' w'') : Sr22 w1 bs bt c x y (fun j => D j ∨ j = 5) v21 v22 v141 v142 v143 v144 v145 (.agg #[.bool y.seen, .bool y.acked, .int .u32 y.next, .int .u32 y.ack, .int .i64 y.size]) w'' :=
  ⟨bthen h.b hb, or_keep h.e0 (by decide), or_keep h.e1 (by decide), or_keep h.e2 (by decide), or_keep h.e3 (by decide), or_keep h.e4 (by decide), fun _ => rfl, or_keep (fun hd => (h.m6 hd).below hb) (by decide), or_keep (fun hd => (h.m7 hd).below hb) (by decide), or_keep2 h.n6_7 (by decide) (by decide), or_keep (fun hd => by obtain ⟨b, e, hl, hr⟩ := h.r8 hd; exact ⟨b, e, Nat.lt_of_lt_of_le hl hb.size, rangeAt_below hb hl hr⟩) (by decide), fun hd => .inl (h.o8 (hd.resolve_right (by decide)))⟩
theorem Sr22.s6 {w1 : World} {bs bt c : Nat} {x y : Sd} {D : Nat → Prop} {v21 v22 v141 v142 v143 v144 v145 v146 : Value} {w' w'' : World} (h : Sr22 w1 bs bt c x y D v21 v22 v141 v142 v143 v144 v145 v146 w') (hb : Below w'.heap.size w' w'') (hm : Made w1.heap.size 5 (.pointer (some ⟨w'.heap.size, 0, none⟩)) w'') (hn : ¬ D 6) : Sr22 w1 bs bt c x y (fun j => D j ∨ j = 6) ((.pointer (some ⟨w'.heap.size, 0, none⟩))) v22 v141 v142 v143 v144 v145 v146 w'' :=
  ⟨bthen h.b hb, or_keep h.e0 (by decide), or_keep h.e1 (by decide), or_keep h.e2 (by decide), or_keep h.e3 (by decide), or_keep h.e4 (by decide), or_keep h.e5 (by decide), fun _ => hm, or_keep (fun hd => (h.m7 hd).below hb) (by decide), fun _ hd => ((h.m7 (hd.resolve_right (by decide))).ne).symm, fun hd => absurd (h.o8 (hd.resolve_right (by decide))) hn, fun _ => .inr rfl⟩
theorem Sr22.s7 {w1 : World} {bs bt c : Nat} {x y : Sd} {D : Nat → Prop} {v21 v22 v141 v142 v143 v144 v145 v146 : Value} {w' w'' : World} (h : Sr22 w1 bs bt c x y D v21 v22 v141 v142 v143 v144 v145 v146 w') (hb : Below w'.heap.size w' w'') (hm : Made w1.heap.size 5 (.pointer (some ⟨w'.heap.size, 0, none⟩)) w'') : Sr22 w1 bs bt c x y (fun j => D j ∨ j = 7) v21 ((.pointer (some ⟨w'.heap.size, 0, none⟩))) v141 v142 v143 v144 v145 v146 w'' :=
  ⟨bthen h.b hb, or_keep h.e0 (by decide), or_keep h.e1 (by decide), or_keep h.e2 (by decide), or_keep h.e3 (by decide), or_keep h.e4 (by decide), or_keep h.e5 (by decide), or_keep (fun hd => (h.m6 hd).below hb) (by decide), fun _ => hm, fun hd _ => (h.m6 (hd.resolve_right (by decide))).ne, or_keep (fun hd => by obtain ⟨b, e, hl, hr⟩ := h.r8 hd; exact ⟨b, e, Nat.lt_of_lt_of_le hl hb.size, rangeAt_below hb hl hr⟩) (by decide), fun hd => .inl (h.o8 (hd.resolve_right (by decide)))⟩
theorem Sr22.s8 {w1 : World} {bs bt c : Nat} {x y : Sd} {D : Nat → Prop} {v21 v22 v141 v142 v143 v144 v145 v146 : Value} {w' w'' : World} (h : Sr22 w1 bs bt c x y D v21 v22 v141 v142 v143 v144 v145 v146 w') (hm : D 6) (hB : Below w1.heap.size w1 w'') (hth : ∀ b o n, w'.there b o n → w''.there b o n) (hr : ∃ b, v21 = .pointer (some ⟨b, 0, none⟩) ∧ b < w''.heap.size ∧ w''.rangeAt b 0 [.bool x.seen, .bool x.acked, .int .u32 x.next, .int .u32 x.ack, .int .i64 x.size]) : Sr22 w1 bs bt c x y (fun j => D j ∨ j = 8) v21 v22 v141 v142 v143 v144 v145 v146 w'' :=
  ⟨hB, or_keep h.e0 (by decide), or_keep h.e1 (by decide), or_keep h.e2 (by decide), or_keep h.e3 (by decide), or_keep h.e4 (by decide), or_keep h.e5 (by decide), or_keep (fun hd => by obtain ⟨b, e, hl, ht⟩ := h.m6 hd; exact ⟨b, e, hl, hth _ _ _ ht⟩) (by decide), or_keep (fun hd => by obtain ⟨b, e, hl, ht⟩ := h.m7 hd; exact ⟨b, e, hl, hth _ _ _ ht⟩) (by decide), or_keep2 h.n6_7 (by decide) (by decide), fun _ => hr, fun _ => .inl hm⟩
theorem Sr22.zero (w1 : World) (bs bt c : Nat) (x y : Sd) (v21 v22 v141 v142 v143 v144 v145 v146 : Value) : Sr22 w1 bs bt c x y (fun _ => False) v21 v22 v141 v142 v143 v144 v145 v146 w1.drew :=
  ⟨(Below.refl _ _).drew, fun h => h.elim, fun h => h.elim, fun h => h.elim, fun h => h.elim, fun h => h.elim, fun h => h.elim, fun h => h.elim, fun h => h.elim, fun h => h.elim, fun h => h.elim, fun h => h.elim⟩
theorem sd_of (a b c d : Sd) (i : Nat) (h : i < 2) : (trk a b).toList.length = 10 := rfl
/-- The two sides of one direction. -/
structure Sp (W : World) (pa pb bs bt c e : Nat) (x y : Sd) (fc fe gc ge : Int) : Prop where
  ce : (c = 0 ∧ e = 1) ∨ (c = 1 ∧ e = 0)
  sx : W.rangeAt bs (c * 5) x.cells
  sy : W.rangeAt bt (c * 5) y.cells
  h : Sh x y (gc - fc) (ge - fe)
  qc : W.cell? ⟨pa, c, none⟩ = some (.int .u32 fc)
  qe : W.cell? ⟨pa, e, none⟩ = some (.int .u32 fe)
  rc : W.cell? ⟨pb, c, none⟩ = some (.int .u32 gc)
  re : W.cell? ⟨pb, e, none⟩ = some (.int .u32 ge)
theorem half_lo {W : World} {b : Nat} {x y : Sd} (h : W.rangeAt b 0 (trk x y).toList) : W.rangeAt b (0 * 5) x.cells := fun i v hv => by
  have hi : i < 5 := (List.getElem?_eq_some_iff.1 hv).1
  have := h i v (by rcases (by omega : i = 0 ∨ i = 1 ∨ i = 2 ∨ i = 3 ∨ i = 4) with rfl | rfl | rfl | rfl | rfl <;> exact hv)
  simpa using this
theorem half_hi {W : World} {b : Nat} {x y : Sd} (h : W.rangeAt b 0 (trk x y).toList) : W.rangeAt b (1 * 5) y.cells := fun i v hv => by
  have hi : i < 5 := (List.getElem?_eq_some_iff.1 hv).1
  have := h (5 + i) v (by rcases (by omega : i = 0 ∨ i = 1 ∨ i = 2 ∨ i = 3 ∨ i = 4) with rfl | rfl | rfl | rfl | rfl <;> exact hv)
  simpa using this
theorem sp_of {W : World} {pa pb po bs bt c : Nat} {A1 A2 B2 : Option Addr} {M N : Mo} {f0 f1 g0 g1 ow ol obk : Int} {a0 a1 c0 c1 : Sd} (hs : W.rangeAt bs 0 (trk a0 a1).toList) (ht : W.rangeAt bt 0 (trk c0 c1).toList) (hc : Cn W pa pb po A1 A2 B2 M N f0 f1 g0 g1 ow ol obk) (hA : Sh a0 c0 (g0 - f0) (g1 - f1)) (hB : Sh a1 c1 (g1 - f1) (g0 - f0)) (h2 : c < 2) :
    ∃ (e : Nat) (x y : Sd) (fc fe gc ge : Int), Sp W pa pb bs bt c e x y fc fe gc ge := by
  rcases (by omega : c = 0 ∨ c = 1) with rfl | rfl
  · exact ⟨1, a0, c0, _, _, _, _, .inl ⟨rfl, rfl⟩, half_lo hs, half_lo ht, hA, hc.a0, hc.a1, hc.b0, hc.b1⟩
  · exact ⟨0, a1, c1, _, _, _, _, .inr ⟨rfl, rfl⟩, half_hi hs, half_hi ht, hB, hc.a1, hc.a0, hc.b1, hc.b0⟩
structure Sq (W : World) (pa pb bs bt c e : Nat) (x y : Sd) (fc fe gc ge : Int) : Prop where
  d0 : (0 : Int) ≤ (c : Int)
  d1 : (c : Int) < 2
  e0 : (0 : Int) ≤ (e : Int)
  e1 : (e : Int) < 2
  ce : (1 : Int) - (c : Int) = (e : Int)
  qc : W.cell? ⟨pa, c, none⟩ = some (.int .u32 fc)
  qe : W.cell? ⟨pa, e, none⟩ = some (.int .u32 fe)
  rc : W.cell? ⟨pb, c, none⟩ = some (.int .u32 gc)
  re : W.cell? ⟨pb, e, none⟩ = some (.int .u32 ge)
  h : Hid (Sh x y (gc - fc) (ge - fe))
  ub0 : W.cell? ⟨bs, c * 5, none⟩ = some (.bool x.seen)
  ub1 : W.cell? ⟨bs, c * 5 + 1, none⟩ = some (.bool x.acked)
  ub2 : W.cell? ⟨bs, c * 5 + 2, none⟩ = some (.int .u32 x.next)
  ub3 : W.cell? ⟨bs, c * 5 + 3, none⟩ = some (.int .u32 x.ack)
  ub4 : W.cell? ⟨bs, c * 5 + 4, none⟩ = some (.int .i64 x.size)
  vb0 : W.cell? ⟨bt, c * 5, none⟩ = some (.bool y.seen)
  vb1 : W.cell? ⟨bt, c * 5 + 1, none⟩ = some (.bool y.acked)
  vb2 : W.cell? ⟨bt, c * 5 + 2, none⟩ = some (.int .u32 y.next)
  vb3 : W.cell? ⟨bt, c * 5 + 3, none⟩ = some (.int .u32 y.ack)
  vb4 : W.cell? ⟨bt, c * 5 + 4, none⟩ = some (.int .i64 y.size)
theorem sq_of {W : World} {pa pb po bs bt c : Nat} {A1 A2 B2 : Option Addr} {M N : Mo} {f0 f1 g0 g1 ow ol obk : Int} {a0 a1 c0 c1 : Sd} (hs : W.rangeAt bs 0 (trk a0 a1).toList) (ht : W.rangeAt bt 0 (trk c0 c1).toList) (hc : Cn W pa pb po A1 A2 B2 M N f0 f1 g0 g1 ow ol obk) (hA : Sh a0 c0 (g0 - f0) (g1 - f1)) (hB : Sh a1 c1 (g1 - f1) (g0 - f0)) (h2 : c < 2) :
    ∃ (e : Nat) (x y : Sd) (fc fe gc ge : Int), Sq W pa pb bs bt c e x y fc fe gc ge := by
  obtain ⟨e, x, y, fc, fe, gc, ge, h⟩ := sp_of hs ht hc hA hB h2
  have hce := h.ce
  refine ⟨e, x, y, fc, fe, gc, ge, by omega, by omega, by omega, by omega, by omega, h.qc, h.qe, h.rc, h.re, Lib.hid h.h, ?_, h.sx 1 _ rfl, h.sx 2 _ rfl, h.sx 3 _ rfl, h.sx 4 _ rfl, ?_, h.sy 1 _ rfl, h.sy 2 _ rfl, h.sy 3 _ rfl, h.sy 4 _ rfl⟩
  · have := h.sx 0 _ rfl
    simpa using this
  · have := h.sy 0 _ rfl
    simpa using this
structure St (Z : World) (b21 b22 : Nat) (sn sa : Bool) (xs xn xk yn yk un uk fc fe gc ge : Int) : Prop where
  t0 : Z.cell? ⟨b21, 0, none⟩ = some (.bool sn)
  t1 : Z.cell? ⟨b21, 1, none⟩ = some (.bool sa)
  t2 : Z.cell? ⟨b21, 2, none⟩ = some (.int .u32 xn)
  t3 : Z.cell? ⟨b21, 3, none⟩ = some (.int .u32 xk)
  t4 : Z.cell? ⟨b21, 4, none⟩ = some (.int .i64 xs)
  s0 : Z.cell? ⟨b22, 0, none⟩ = some (.bool sn)
  s1 : Z.cell? ⟨b22, 1, none⟩ = some (.bool sa)
  s2 : Z.cell? ⟨b22, 2, none⟩ = some (.int .u32 yn)
  s3 : Z.cell? ⟨b22, 3, none⟩ = some (.int .u32 yk)
  s4 : Z.cell? ⟨b22, 4, none⟩ = some (.int .i64 xs)
  hun : (gc - fc) % 4294967296 = un
  huk : (ge - fe) % 4294967296 = uk
  hmn : sn = true → (yn - xn) % 4294967296 = un
  hmk : sa = true → (yk - xk) % 4294967296 = uk
theorem st_of {Z : World} {b21 b22 : Nat} {x y : Sd} {fc fe gc ge : Int} (r21 : Z.rangeAt b21 0 x.cells) (r22 : Z.rangeAt b22 0 y.cells) (h : Sh x y (gc - fc) (ge - fe)) :
    ∃ (sn sa : Bool) (xs xn xk yn yk un uk : Int), St Z b21 b22 sn sa xs xn xk yn yk un uk fc fe gc ge := by
  refine ⟨x.seen, x.acked, x.size, x.next, x.ack, y.next, y.ack, _, _, rc r21 rfl, rc r21 rfl, rc r21 rfl, rc r21 rfl, rc r21 rfl, h.seen ▸ rc r22 rfl, h.acked ▸ rc r22 rfl, rc r22 rfl, rc r22 rfl, h.size ▸ rc r22 rfl, rfl, rfl, fun hh => ?_, fun hh => ?_⟩
  · have := h.next hh
    unfold Mv at this
    omega
  · have := h.ack hh
    unfold Mv at this
    omega
set_option maxRecDepth 100000 in
set_option maxHeartbeats 16000000 in
theorem shifts_core (A : Option Addr) (css : List (List Value)) (nw cap m : Nat) (f0 f1 g0 g1 ow ol obk owi : Int) (w : World) (how : 0 ≤ ow ∧ ow ≤ 255) (hol : 0 ≤ ol ∧ ol ≤ 65535) (hobk : -128 ≤ obk ∧ obk ≤ 127) (hm : min nw 100 = m) (HOa : Hid (MoOk (mo (css.take m) f0 f1))) (HOb : Hid (MoOk (mo (css.take m) g0 g1)))
    (HPa : Hid (∀ W, Below w.heap.size w W → Calls Try.prog 15 #[.slice A nw cap, .agg #[.int .u32 f0, .int .u32 f1]] W fun e w' => ∃ (A1 A2 : Option Addr) (c1 c2 : Nat), e = .returned (.tuple #[.slice A1 m c1, .slice A2 m c2]) ∧ Below W.heap.size W w' ∧ Rd w' A1 1 ((mo (css.take m) f0 f1).ds.map fun d => [.int .u8 d]) ∧ Rd w' A2 19 ((mo (css.take m) f0 f1).ps.map Pk.row) ∧ (mo (css.take m) f0 f1).ds.length = m ∧ (mo (css.take m) f0 f1).ps.length = m ∧ m ≤ c1 ∧ m ≤ c2))
    (HPb : Hid (∀ W, Below w.heap.size w W → Calls Try.prog 15 #[.slice A nw cap, .agg #[.int .u32 g0, .int .u32 g1]] W fun e w' => ∃ (A1 A2 : Option Addr) (c1 c2 : Nat), e = .returned (.tuple #[.slice A1 m c1, .slice A2 m c2]) ∧ Below W.heap.size W w' ∧ Rd w' A1 1 ((mo (css.take m) g0 g1).ds.map fun d => [.int .u8 d]) ∧ Rd w' A2 19 ((mo (css.take m) g0 g1).ps.map Pk.row) ∧ (mo (css.take m) g0 g1).ds.length = m ∧ (mo (css.take m) g0 g1).ps.length = m ∧ m ≤ c1 ∧ m ≤ c2)) :
    Calls Try.prog 7 #[.slice A nw cap, .agg #[.int .u32 f0, .int .u32 f1], .agg #[.int .u32 g0, .int .u32 g1], .agg #[.int .u8 ow, .int .u16 ol, .int .i8 obk, .int .u16 owi]] w fun e w' => e = .returned (.bool true) ∧ Below w.heap.size w w' := by
  go_enter Try.func7, Try.ntmps7
  go_wp2_with fail
  refine (awake_any _).mono ?_
  rintro e w1 ⟨rfl, hb1⟩
  have x0 := kc hb1 (a := ⟨w.heap.size, 0, none⟩) (v := .int .u32 f0) (by simp [go_sem])
  have x1 := kc hb1 (a := ⟨w.heap.size, 1, none⟩) (v := .int .u32 f1) (by simp [go_sem])
  have y0 := kc hb1 (a := ⟨w.heap.size + 1, 0, none⟩) (v := .int .u32 g0) (by simp [go_sem])
  have y1 := kc hb1 (a := ⟨w.heap.size + 1, 1, none⟩) (v := .int .u32 g1) (by simp [go_sem])
  have o0 := kc hb1 (a := ⟨w.heap.size + 1 + 1, 0, none⟩) (v := .int .u8 ow) (by simp [go_sem])
  have o1 := kc hb1 (a := ⟨w.heap.size + 1 + 1, 1, none⟩) (v := .int .u16 ol) (by simp [go_sem])
  have o2 := kc hb1 (a := ⟨w.heap.size + 1 + 1, 2, none⟩) (v := .int .i8 obk) (by simp [go_sem])
  have b1 : Below w.heap.size w w1 := bthen ((((Below.refl _ _).alloc (Nat.le_refl _) _).alloc (by simp) _).alloc (by simp; omega) _) hb1
  clear hb1
  go_wp2_with fail
  refine (HPa.out _ b1).mono ?_
  rintro e w2 ⟨A1, A2, c1, c2, rfl, hb2, rd1, rd2, l1, l2, hc1, hc2⟩
  replace x0 := kc hb2 x0
  replace x1 := kc hb2 x1
  replace y0 := kc hb2 y0
  replace y1 := kc hb2 y1
  replace o0 := kc hb2 o0
  replace o1 := kc hb2 o1
  replace o2 := kc hb2 o2
  have b2 := bthen b1 hb2
  clear hb2 b1
  go_wp2_with fail
  refine (HPb.out _ b2).mono ?_
  rintro e w3 ⟨B1, B2, c3, c4, rfl, hb3, _, rd3, _, l3, hc3, hc4⟩
  replace x0 := kc hb3 x0
  replace x1 := kc hb3 x1
  replace y0 := kc hb3 y0
  replace y1 := kc hb3 y1
  replace o0 := kc hb3 o0
  replace o1 := kc hb3 o1
  replace o2 := kc hb3 o2
  replace rd1 := rd1.below hb3
  replace rd2 := rd2.below hb3
  have b3 := bthen b2 hb3
  clear hb3 b2
  go_wp2_with fail
  have HC0 : Hid (Cn w3 w.heap.size (w.heap.size + 1) (w.heap.size + 1 + 1) A1 A2 B2 (mo (css.take m) f0 f1) (mo (css.take m) g0 g1) f0 f1 g0 g1 ow ol obk) := Lib.hid ⟨x0, x1, y0, y1, o0, o1, o2, rd1, rd2, rd3⟩
  obtain ⟨W4, hW4⟩ : ∃ W, (w3.alloc (.cells #[.bool false, .bool false, .int .u32 0, .int .u32 0, .int .i64 0, .bool false, .bool false, .int .u32 0, .int .u32 0, .int .i64 0] 29)).alloc (.cells #[.bool false, .bool false, .int .u32 0, .int .u32 0, .int .i64 0, .bool false, .bool false, .int .u32 0, .int .u32 0, .int .i64 0] 29) = W := ⟨_, rfl⟩
  have d4 : Below w3.heap.size w3 W4 := by rw [← hW4]; exact ((Below.refl _ _).alloc (Nat.le_refl _) _).alloc (by simp) _
  have s4 : W4.rangeAt w3.heap.size 0 (trk sd0 sd0).toList := by rw [← hW4]; exact World.rangeAt_alloc (range_new w3 _ _) _
  have u4 : W4.there w3.heap.size 0 10 := by rw [← hW4]; exact World.there_alloc (there_new w3 _ _ _ _ rfl rfl) _
  have t4 : W4.rangeAt (w3.heap.size + 1) 0 (trk sd0 sd0).toList := by rw [← hW4]; exact range_new' _ _ _ _ (by simp)
  have v4 : W4.there (w3.heap.size + 1) 0 10 := by rw [← hW4]; exact there_new _ _ _ _ _ (by simp) rfl
  rw [hW4]
  have hle := b3.size
  have H0 : Tb w3 W4 w3.heap.size (w3.heap.size + 1) (trk sd0 sd0) (trk sd0 sd0) := ⟨d4, s4, u4, t4, v4⟩
  obtain ⟨pa, hpa⟩ : ∃ n, w.heap.size = n := ⟨_, rfl⟩
  obtain ⟨pb, hpb⟩ : ∃ n, pa + 1 = n := ⟨_, rfl⟩
  obtain ⟨po, hpo⟩ : ∃ n, pb + 1 = n := ⟨_, rfl⟩
  obtain ⟨bs, hbs⟩ : ∃ n, w3.heap.size = n := ⟨_, rfl⟩
  obtain ⟨bt, hbt⟩ : ∃ n, bs + 1 = n := ⟨_, rfl⟩
  rw [hpa, hpb, hpo] at HC0
  rw [hpa, hpb, hpo, hbs, hbt]
  rw [hbs, hbt] at H0
  have hks : w3.heap.size ≤ bs := by omega
  have hkt : w3.heap.size ≤ bt := by omega
  have hst : bs ≠ bt := by omega
  have HL1 := Lib.hid l1
  have HL2 := Lib.hid l2
  have HL3 := Lib.hid l3
  have B3 := Lib.hid b3
  clear hW4 x0 x1 y0 y1 o0 o1 o2 rd1 rd2 rd3 b3 d4 s4 u4 t4 v4 hpa hpb hpo hbs hbt l1 l2 l3 hle
  go_loopw [39] (fun i wr => ∃ (j : Nat) (x0 x1 y0 y1 : Sd), j ≤ m ∧ i = .int .i64 j ∧ Tb w3 wr bs bt (trk x0 x1) (trk y0 y1) ∧ Sh x0 y0 (g0 - f0) (g1 - f1) ∧ Sh x1 y1 (g1 - f1) (g0 - f0)) (fun i _ => m - (intOf i).toNat)
  case atStart => exact ⟨0, sd0, sd0, sd0, sd0, Nat.zero_le _, rfl, H0, sh_zero _ _, sh_zero _ _⟩
  case round =>
    clear H0
    obtain ⟨j, x0, x1, y0, y1, hj, rfl, HT, hs0, hs1⟩ := hrel
    by_cases hjl : j < m
    · obtain ⟨d, hd⟩ : ∃ d, (mo (css.take m) f0 f1).ds[j]? = some d := ⟨_, List.getElem?_eq_getElem (by have := HL1.out; omega)⟩
      obtain ⟨p, hp⟩ : ∃ p, (mo (css.take m) f0 f1).ps[j]? = some p := ⟨_, List.getElem?_eq_getElem (by have := HL2.out; omega)⟩
      obtain ⟨q, hq⟩ : ∃ q, (mo (css.take m) g0 g1).ps[j]? = some q := ⟨_, List.getElem?_eq_getElem (by have := HL3.out; omega)⟩
      have HR := Lib.hid ((mo_moved (css.take m) f0 f1 g0 g1).rel j d p q hd hp hq)
      have HP := Lib.hid (HOa.out.ps p (List.mem_of_getElem? hp))
      have HQ := Lib.hid (HOb.out.ps q (List.mem_of_getElem? hq))
      have CC := HC0.out.below HT.b
      obtain ⟨qd, od, rfl, hld, hcd⟩ := CC.d1.mem (by intro e; have h := List.map_eq_nil_iff.1 e; rw [h] at hd; simp at hd)
      obtain ⟨qa, oa, rfl, hla, hca⟩ := CC.p1.mem (by intro e; have h := List.map_eq_nil_iff.1 e; rw [h] at hp; simp at hp)
      obtain ⟨qb, ob, rfl, hlb, hcb⟩ := CC.q1.mem (by intro e; have h := List.map_eq_nil_iff.1 e; rw [h] at hq; simp at hq)
      have R0 : wr.cell? ⟨qd, od + j, none⟩ = some (.int .u8 d) := by have h := hcd j _ (by rw [List.getElem?_map, hd]; rfl) 0 _ rfl; simpa using h
      have R1 : wr.rangeAt qa (oa + j * 19) (spk p.fl p.sq p.ak p.win p.lw).toList := fun i v hv => hca j _ (by rw [List.getElem?_map, hp]; rfl) i v hv
      have R2 : wr.rangeAt qb (ob + j * 19) (spk q.fl q.sq q.ak q.win q.lw).toList := fun i v hv => hcb j _ (by rw [List.getElem?_map, hq]; rfl) i v hv
      have oo0 := CC.o0
      have oo1 := CC.o1
      have oo2 := CC.o2
      have FA := Lib.hid HP.out.fa
      have FB := Lib.hid HQ.out.fa
      clear hca hcb hcd CC
      have hjm : (j : Int) < (m : Int) := by omega
      have hjd : decide ((j : Int) < (m : Int)) = true := by simpa using hjl
      obtain ⟨F1, hF1⟩ : ∃ F, spk p.fl p.sq p.ak p.win p.lw = F := ⟨_, rfl⟩
      obtain ⟨F2, hF2⟩ : ∃ F, spk q.fl q.sq q.ak q.win q.lw = F := ⟨_, rfl⟩
      rw [hF1] at R1 FA
      rw [hF2] at R2 FB
      clear hF1 hF2
      obtain ⟨wb, hwb⟩ : ∃ b, (bits .and .u8 ow 2 != 0) = b := ⟨_, rfl⟩
      go_upto_region 8 with fail
      go_cut [15, 16] (fun v15 v16 wx => v15 = .int .i64 j ∧ ∃ b : Nat, v16 = .pointer (some ⟨b, 0, none⟩) ∧ Below wr.heap.size wr wx ∧ Rb wr wx b F1)
      case first => as_aux_lemma =>
        go_wp2_with (first | (refine wpList_load_wide 34 _ rfl (by rfl) _ _ rfl F1 _ Try.underlying34 rfl FA.out.hi ?_ ?_; · with_reducible assumption) | (refine wpList_store_wide 34 (.tmp 16) (.tmp 43) rfl rfl wr.heap.size 0 F1 rfl rfl wr.heap.size wr (by rw [info34, FA.out.size]) FA.out.one ?_ ?_ ?_ ?_; (· exact (Below.refl _ _).alloc (Nat.le_refl _) _); (· omega); (· rw [FA.out.size]; exact there_new _ _ _ _ _ rfl rfl); intro X1 dX1 zX1 RX1 kX tX cX; have TX1 := tX _ _ _ (there_new wr _ 34 wr.heap.size 19 rfl rfl); clear kX tX cX; have z1 : wr.heap.size < X1.heap.size := (by rw [zX1]; simp); clear zX1))
        go_meet
        exact ⟨rfl, _, rfl, dX1, Nat.le_refl _, z1, RX1, TX1⟩
      obtain ⟨rfl, p16, rfl, dX, K1⟩ := hcut
      obtain ⟨X1, hX1⟩ : ∃ X, X = wc := ⟨_, rfl⟩
      subst hX1
      have R2x := range_below dX hlb R2
      have zz1 := dX.size
      go_upto_region 9 with fail
      go_cut [17] (fun v17 wx => ∃ b : Nat, v17 = .pointer (some ⟨b, 0, none⟩) ∧ Below X1.heap.size X1 wx ∧ Rb X1 wx b F2)
      case first => as_aux_lemma =>
        go_wp2_with (first | (refine wpList_load_wide 34 _ rfl (by rfl) _ _ rfl F2 _ Try.underlying34 rfl FB.out.hi ?_ ?_; · with_reducible assumption) | (refine wpList_store_wide 34 (.tmp 17) (.tmp 47) rfl rfl X1.heap.size 0 F2 rfl rfl X1.heap.size X1 (by rw [info34, FB.out.size]) FB.out.one ?_ ?_ ?_ ?_; (· exact (Below.refl _ _).alloc (Nat.le_refl _) _); (· omega); (· rw [FB.out.size]; exact there_new _ _ _ _ _ rfl rfl); intro X2 dX2 zX2 RX2 kX tX cX; have TX2 := tX _ _ _ (there_new X1 _ 34 X1.heap.size 19 rfl rfl); clear kX tX cX; have z2 : X1.heap.size < X2.heap.size := (by rw [zX2]; simp); clear zX2))
        go_meet
        exact ⟨_, rfl, dX2, Nat.le_refl _, z2, RX2, TX2⟩
      obtain ⟨p17, rfl, dXb, K2⟩ := hcut
      obtain ⟨X2, hX2⟩ : ∃ X, X = wc := ⟨_, rfl⟩
      subst hX2
      have dX2 := bthen dX dXb
      have K1b := K1.below dXb
      have K2b := K2.base (w0 := wr) zz1
      have e9 := fcell K1b.r 9 _ FA.out.cseq
      have e10 := fcell K1b.r 10 _ FA.out.cack
      have i9 := fcell K2b.r 9 _ FB.out.cseq
      have i10 := fcell K2b.r 10 _ FB.out.cack
      have o0 := kc dX2 oo0
      have o1 := kc dX2 oo1
      have o2 := kc dX2 oo2
      have HT2 := HT.below dX2
      have d2 := kc dX2 R0
      have hl2 := dX2.size
      clear dX dXb K1 K2 R2x zz1 oo0 oo1 oo2 X1 HT R0 R1 R2
      as_aux_lemma =>
        obtain ⟨sq3, hsq3⟩ : ∃ s, (p.sq + obk) % 4294967296 = s := ⟨_, rfl⟩
        obtain ⟨ak3, hak3⟩ : ∃ s, (p.ak + ol) % 4294967296 = s := ⟨_, rfl⟩
        have hs3 : 0 ≤ sq3 ∧ sq3 ≤ 4294967295 := by omega
        have ha3 : 0 ≤ ak3 ∧ ak3 ≤ 4294967295 := by omega
        go_upto_region 10 with fail
        go_cut [18] (fun v18 wx => ∃ b : Nat, v18 = .pointer (some ⟨b, 0, none⟩) ∧ Below X2.heap.size X2 wx ∧ Rb X2 wx b (pk 4 sq3 ak3 0 ol))
        case first => as_aux_lemma =>
          go_wp2_with (first | (refine wpList_buildSd rfl 34 #[(2, .const (.int .u8 4)), (5, .tmp 54), (6, .tmp 60), (8, .tmp 63)] rfl [(2, .int .u8 4), (5, .int .u32 sq3), (6, .int .u32 ak3), (8, .int .i64 ol)] _ rfl ?_ (pk 4 sq3 ak3 0 ol) (built_probe sq3 ak3 ol) ?_; (· simp; rfl)) | (refine wpList_store_wide 34 (.tmp 18) (.tmp 64) rfl rfl X2.heap.size 0 (pk 4 sq3 ak3 0 ol) rfl rfl X2.heap.size X2 (by rw [info34]; rfl) (by simp [pk, Value.oneCell']) ?_ ?_ ?_ ?_; (· exact (Below.refl _ _).alloc (Nat.le_refl _) _); (· omega); (· exact there_new _ _ _ _ _ rfl rfl); intro X3 dX3 zX3 RX3 kX tX cX; have TX3 := tX _ _ _ (there_new X2 _ 34 X2.heap.size 19 rfl rfl); clear kX tX cX; have z3 : X2.heap.size < X3.heap.size := (by rw [zX3]; simp); clear zX3))
          go_meet
          exact ⟨_, rfl, dX3, Nat.le_refl _, z3, RX3, TX3⟩
        obtain ⟨p18, rfl, dX3, K3⟩ := hcut
        obtain ⟨X3, hX3⟩ : ∃ X, X = wc := ⟨_, rfl⟩
        subst hX3
        replace o0 := kc dX3 o0
        have e6 := fcell K3.r 6 (.int .u8 4) rfl
        have fz6 : X3.frozen? ⟨p18, 6, none⟩ = false := by simpa using (K3.t 6 (by decide)).2
        have hlt3 := K3.lt
        have hlo3 := K3.lo
        go_upto_if 68 with fail
        go_cut [] (fun wx => ∃ pf : Int, (0 ≤ pf ∧ pf ≤ 255) ∧ Below X2.heap.size X2 wx ∧ Rb X2 wx p18 (pk pf sq3 ak3 0 ol))
        case first => as_aux_lemma =>
          cases wb
          · go_wp2_with fail
            go_meet
            exact ⟨4, by decide, dX3, K3⟩
          · go_wp2_with fail
            go_meet
            exact ⟨20, by decide, dX3.setCell (p := ⟨p18, 6, none⟩) hlo3 _, K3.set (pk_len _ _ _ _ _) 6 _ rfl⟩
        obtain ⟨pf, hpf, dX4, K4⟩ := hcut
        obtain ⟨X4, hX4⟩ : ∃ X, X = wc := ⟨_, rfl⟩
        subst hX4
        clear dX3 K3 e6 fz6 o0 hlt3 X3
        as_aux_lemma =>
          have hlt4 := K4.lt
          have hsz4 := dX4.size
          go_upto_region 13 with fail
          go_cut [19] (fun v19 wx => ∃ b : Nat, v19 = .pointer (some ⟨b, 0, none⟩) ∧ Below X4.heap.size X4 wx ∧ Rb X4 wx b (pk pf sq3 ak3 0 ol))
          case first => as_aux_lemma =>
            have RP := K4.r
            go_wp2_with (first | (refine wpList_load_wide 34 _ rfl (by rfl) _ _ rfl (pk pf sq3 ak3 0 ol) _ Try.underlying34 rfl rfl ?_ ?_; · with_reducible assumption) | (refine wpList_store_wide 34 (.tmp 19) (.tmp 73) rfl rfl X4.heap.size 0 (pk pf sq3 ak3 0 ol) rfl rfl X4.heap.size X4 (by rw [info34]; rfl) (by simp [pk, Value.oneCell']) ?_ ?_ ?_ ?_; (· exact (Below.refl _ _).alloc (Nat.le_refl _) _); (· omega); (· exact there_new _ _ _ _ _ rfl rfl); intro X5 dX5 zX5 RX5 kX tX cX; have TX5 := tX _ _ _ (there_new X4 _ 34 X4.heap.size 19 rfl rfl); clear kX tX cX; have z5 : X4.heap.size < X5.heap.size := (by rw [zX5]; simp); clear zX5))
            go_meet
            exact ⟨_, rfl, dX5, Nat.le_refl _, z5, RX5, TX5⟩
          obtain ⟨p19, rfl, dX5, K5⟩ := hcut
          obtain ⟨X5, hX5⟩ : ∃ X, X = wc := ⟨_, rfl⟩
          subst hX5
          have K4b := K4.below dX5
          have K5b := K5.base (w0 := X2) hsz4
          have hne : p18 ≠ p19 := by have := K5.lo; omega
          have hlo5 : X2.heap.size ≤ p19 := K5b.lo
          have dX6 := bthen dX4 dX5
          have i9' := kc dX6 i9
          have i10' := kc dX6 i10
          have e9' := kc dX6 e9
          have e10' := kc dX6 e10
          have s9 := fcell K5.r 9 (.int .u32 sq3) rfl
          have s10 := fcell K5.r 10 (.int .u32 ak3) rfl
          have fz9 : X5.frozen? ⟨p19, 9, none⟩ = false := by simpa using (K5.t 9 (by decide)).2
          have fz10 : X5.frozen? ⟨p19, 10, none⟩ = false := by simpa using (K5.t 10 (by decide)).2
          clear dX4 dX5 K4 K5 hsz4 hlt4 X4
          obtain ⟨sq4, hsq4⟩ : ∃ s, (sq3 + (q.sq - p.sq) % 4294967296) % 4294967296 = s := ⟨_, rfl⟩
          obtain ⟨ak4, hak4⟩ : ∃ s, (ak3 + (q.ak - p.ak) % 4294967296) % 4294967296 = s := ⟨_, rfl⟩
          have hs4 : 0 ≤ sq4 ∧ sq4 ≤ 4294967295 := by omega
          have ha4 : 0 ≤ ak4 ∧ ak4 ≤ 4294967295 := by omega
          go_upto_region 14 with fail
          go_cut [] (fun wx => wx = X5.setCell ⟨p19, 9, none⟩ (.int .u32 sq4))
          case first => as_aux_lemma =>
            go_wp2_with fail
            go_meet
            rfl
          subst hcut
          go_upto_region 15 with fail
          go_cut [] (fun wx => wx = (X5.setCell ⟨p19, 9, none⟩ (.int .u32 sq4)).setCell ⟨p19, 10, none⟩ (.int .u32 ak4))
          case first => as_aux_lemma =>
            go_wp2_with fail
            go_meet
            rfl
          as_aux_lemma =>
            subst hcut
            have K6 : Rb X2 ((X5.setCell ⟨p19, 9, none⟩ (.int .u32 sq4)).setCell ⟨p19, 10, none⟩ (.int .u32 ak4)) p19 (pk pf sq4 ak4 0 ol) := (K5b.set (G := pk pf sq4 ak3 0 ol) (pk_len _ _ _ _ _) 9 _ rfl).set (pk_len _ _ _ _ _) 10 _ rfl
            have K4c : Rb X2 ((X5.setCell ⟨p19, 9, none⟩ (.int .u32 sq4)).setCell ⟨p19, 10, none⟩ (.int .u32 ak4)) p18 (pk pf sq3 ak3 0 ol) := (K4b.apart hne 9 _).apart hne 10 _
            have dW : Below X2.heap.size X2 ((X5.setCell ⟨p19, 9, none⟩ (.int .u32 sq4)).setCell ⟨p19, 10, none⟩ (.int .u32 ak4)) := (dX6.setCell (p := ⟨p19, 9, none⟩) hlo5 _).setCell (p := ⟨p19, 10, none⟩) hlo5 _
            generalize ((X5.setCell ⟨p19, 9, none⟩ (.int .u32 sq4)).setCell ⟨p19, 10, none⟩ (.int .u32 ak4)) = X7 at K6 K4c dW ⊢
            have K1c := K1b.below dW
            have K2c := K2b.below dW
            have HT7 := HT2.below dW
            have d7 := kc dW d2
            clear K1b K2b HT2 d2 dW dX6 K5b K4b X5 i9 i10 e9 e10 i9' i10' e9' e10' s9 s10 fz9 fz10 o1 o2 hne hlo3 hlo5
            obtain ⟨dn, en, x, y, x', y', sd, se, rfl, hss, hTT, hUU, hX, hY, hsq, hak⟩ : ∃ (dn en : Nat) (x y x' y' : Sd) (sd se : Int), d = (dn : Int) ∧ ((dn = 0 ∧ en = 1 ∧ sd = g0 - f0 ∧ se = g1 - f1) ∨ (dn = 1 ∧ en = 0 ∧ sd = g1 - f1 ∧ se = g0 - f0)) ∧ trk x0 x1 = tk dn x y ∧ trk y0 y1 = tk dn x' y' ∧ Sh x x' sd se ∧ Sh y y' se sd ∧ Mv p.sq q.sq sd ∧ Mv p.ak q.ak se := by
              have h1 := HR.out.sq
              have h2 := HR.out.ak
              rcases HR.out.d01 with rfl | rfl
              · exact ⟨0, 1, x0, x1, y0, y1, _, _, rfl, .inl ⟨rfl, rfl, rfl, rfl⟩, rfl, rfl, hs0, hs1, by simpa using h1, by simpa using h2⟩
              · exact ⟨1, 0, x1, x0, y1, y0, _, _, rfl, .inr ⟨rfl, rfl, rfl, rfl⟩, rfl, rfl, hs1, hs0, by simpa using h1, by simpa using h2⟩
            rw [hTT, hUU] at HT7
            clear hTT hUU hs0 hs1
            have hde : (dn = 0 ∧ en = 1) ∨ (dn = 1 ∧ en = 0) := by omega
            have hdlt : dn < 2 := by omega
            have FB' : Hid (Fa F2 p.fl q.sq q.ak p.win p.lw) := Lib.hid (by have h := FB.out; rw [HR.out.fl, HR.out.win, HR.out.lw] at h; exact h)
            obtain ⟨F3, hF3⟩ : ∃ F, pk pf sq3 ak3 0 ol = F := ⟨_, rfl⟩
            obtain ⟨F4, hF4⟩ : ∃ F, pk pf sq4 ak4 0 ol = F := ⟨_, rfl⟩
            have FC : Hid (Fa F3 pf sq3 ak3 0 ol) := Lib.hid (hF3 ▸ fa_pk pf sq3 ak3 0 ol hpf hs3 ha3 (by decide) (by omega))
            have FD : Hid (Fa F4 pf sq4 ak4 0 ol) := Lib.hid (hF4 ▸ fa_pk pf sq4 ak4 0 ol hpf hs4 ha4 (by decide) (by omega))
            rw [hF3] at K4c
            rw [hF4] at K6
            clear hF3 hF4 FB
            have hms : Mv sq3 sq4 sd := by unfold Mv at hsq ⊢; omega
            have hma : Mv ak3 ak4 se := by unfold Mv at hak ⊢; omega
            clear hsq3 hsq4 hak3 hak4
            obtain ⟨ba, hba⟩ : ∃ b, bel x y pf sq3 ak3 = b := ⟨_, rfl⟩
            obtain ⟨fi, hfi⟩ : ∃ b, fit y sq3 = b := ⟨_, rfl⟩
            have hba' : bel x' y' pf sq4 ak4 = ba := hba ▸ sh_bel hX hY pf sq3 ak3 sq4 ak4 hms hma hs3 ha3 hs4 ha4
            have hfi' : fit y' sq4 = fi := hfi ▸ sh_fit hY sq3 sq4 hms
            have hds := hde.symm.imp (fun (h : dn = 1 ∧ en = 0) => And.intro h.2 h.1) (fun (h : dn = 0 ∧ en = 1) => And.intro h.2 h.1)
            have HBel1 : Hid (∀ W, Calls Try.prog 16 #[.agg (tk dn x y), .int .u8 (dn : Int), .agg F3] W fun e w' => e = .returned (.bool ba) ∧ Below W.heap.size W w') := Lib.hid fun W => by rw [tk_swap dn en x y hde]; exact hba ▸ believe_tk y x F3 pf sq3 ak3 0 ol W hds FC.out hY.wx
            have HBel2 : Hid (∀ W, Calls Try.prog 16 #[.agg (tk dn x' y'), .int .u8 (dn : Int), .agg F4] W fun e w' => e = .returned (.bool ba) ∧ Below W.heap.size W w') := Lib.hid fun W => by rw [tk_swap dn en x' y' hde]; exact hba' ▸ believe_tk y' x' F4 pf sq4 ak4 0 ol W hds FD.out hY.wy
            have HFit1 : Hid (∀ W, Calls Try.prog 17 #[.agg (tk dn x y), .int .u8 (dn : Int), .agg F3] W fun e w' => e = .returned (.bool fi) ∧ Below W.heap.size W w') := Lib.hid fun W => hfi ▸ fits_tk x y F3 pf sq3 ak3 0 ol W hde FC.out hY.wx
            have HFit2 : Hid (∀ W, Calls Try.prog 17 #[.agg (tk dn x' y'), .int .u8 (dn : Int), .agg F4] W fun e w' => e = .returned (.bool fi) ∧ Below W.heap.size W w') := Lib.hid fun W => hfi' ▸ fits_tk x' y' F4 pf sq4 ak4 0 ol W hde FD.out hY.wy
            have HSee1 : Hid (∀ W, Calls Try.prog 14 #[.agg (tk dn x y), .int .u8 (dn : Int), .agg F1] W fun e w' => e = .returned (.agg (tk dn (seeS x p.fl p.sq p.ak p.win p.lw) y)) ∧ Below W.heap.size W w') := Lib.hid fun W => see_tk x y F1 p.fl p.sq p.ak p.win p.lw W hde FA.out hX.wx
            have HSee2 : Hid (∀ W, Calls Try.prog 14 #[.agg (tk dn x' y'), .int .u8 (dn : Int), .agg F2] W fun e w' => e = .returned (.agg (tk dn (seeS x' p.fl q.sq q.ak p.win p.lw) y')) ∧ Below W.heap.size W w') := Lib.hid fun W => see_tk x' y' F2 p.fl q.sq q.ak p.win p.lw W hde FB'.out hX.wy
            have hX2 : Sh (seeS x p.fl p.sq p.ak p.win p.lw) (seeS x' p.fl q.sq q.ak p.win p.lw) sd se := hX.sees _ _ _ _ _ _ _ hsq hak HP.out.ak HQ.out.ak
            clear hms hma hba hfi hba' hfi' hpf hs3 hs4 ha3 ha4
            have HQQ : Hid ((∀ W, (binOp .neq 4 (.bool ba) (.bool ba)).run Try.prog W = .ok (.bool false) W) ∧ (∀ W, (binOp .neq 4 (.bool fi) (.bool fi)).run Try.prog W = .ok (.bool false) W)) := Lib.hid ⟨bool_neq ba, bool_neq fi⟩
            go_upto_region 16 with fail
            as_aux_lemma =>
              go_cut [123] (fun v wx => v = .bool false ∧ Below X7.heap.size X7 wx)
              case first => as_aux_lemma =>
                refine wp_region_steps 31 [[], [], [], [1, 2], [3], [], [0, 4, 5], [], [], [], [8, 9], [10], [], [7, 11, 12], [6, 13], [14], [15], [15], [15], [17, 18, 15], [19, 15], [15], [16, 20, 21, 15], [15], [15], [15], [24, 25, 15], [26, 15], [15], [23, 27, 28, 15], [22, 29, 15], [15, 30]] (fun D a w' => ∃ g : Nat → Value, a = ⟨#[.slice A nw cap, .agg #[.int .u32 f0, .int .u32 f1], .agg #[.int .u32 g0, .int .u32 g1], .agg #[.int .u8 ow, .int .u16 ol, .int .i8 obk, .int .u16 owi], undef, .pointer (some ⟨pa, 0, none⟩), .pointer (some ⟨pb, 0, none⟩), .pointer (some ⟨po, 0, none⟩), u8, .slice (some ⟨qd, od, none⟩) m c1, .slice (some ⟨qa, oa, none⟩) m c2, .slice B1 m c3, .slice (some ⟨qb, ob, none⟩) m c4, .pointer (some ⟨bs, 0, none⟩), .pointer (some ⟨bt, 0, none⟩), .int .i64 ↑j, .pointer (some ⟨p16, 0, none⟩), .pointer (some ⟨p17, 0, none⟩), .pointer (some ⟨p18, 0, none⟩), .pointer (some ⟨p19, 0, none⟩), u20, u21, u22, .bool true, .bool false, .tuple #[.slice (some ⟨qd, od, none⟩) m c1, .slice (some ⟨qa, oa, none⟩) m c2], .slice A nw cap, .agg #[.int .u32 f0, .int .u32 f1], .tuple #[.slice (some ⟨qd, od, none⟩) m c1, .slice (some ⟨qa, oa, none⟩) m c2], .slice (some ⟨qd, od, none⟩) m c1, .slice (some ⟨qa, oa, none⟩) m c2, .tuple #[.slice B1 m c3, .slice (some ⟨qb, ob, none⟩) m c4], .slice A nw cap, .agg #[.int .u32 g0, .int .u32 g1], .tuple #[.slice B1 m c3, .slice (some ⟨qb, ob, none⟩) m c4], .slice B1 m c3, .slice (some ⟨qb, ob, none⟩) m c4, .slice (some ⟨qa, oa, none⟩) m c2, .int .i64 ↑m, .int .i64 ↑j, u40, u41, u42, u43, u44, u45, u46, u47, u48, u49, u50, u51, u52, u53, u54, u55, u56, u57, u58, u59, u60, u61, u62, u63, u64, u65, u66, u67, u68, u69, u70, u71, u72, u73, u74, u75, u76, u77, u78, u79, u80, u81, u82, u83, u84, u85, u86, u87, u88, u89, u90, u91, g 0, g 1, g 2, g 3, g 4, g 5, g 6, g 7, g 8, g 9, g 10, g 11, g 12, g 13, g 14, g 15, g 16, g 17, g 18, g 19, g 20, g 21, g 22, g 23, g 24, g 25, g 26, g 27, g 28, g 29, g 30, g 31, u124, u125, u126, u127, u128, u129, u130, u131, u132, u133, u134, u135, u136, u137, u138, u139, u140, u141, u142, u143, u144, u145, u146, u147, u148, u149, u150, u151, u152, u153, u154, u155, u156, u157, u158, u159, u160, u161, u162, u163, u164, u165, u166, u167, u168, u169, u170, u171, u172, u173, u174, u175, u176, u177, u178, u179, u180, u181, u182, u183, u184, u185, u186, u187, u188, u189, u190, u191, u192, u193, u194, u195, u196, u197, u198, u199, u200, u201, u202, u203, u204, u205, u206, u207], []⟩ ∧ Iv X7 (fun i => (sv16 qd od m c1 j dn (tk dn x y) (tk dn x' y') F3 F4 ba fi).getD i undef) D g w') (by kernel_rfl) (by kernel_rfl) ⟨fun i => if i = 0 then u92 else if i = 1 then u93 else if i = 2 then u94 else if i = 3 then u95 else if i = 4 then u96 else if i = 5 then u97 else if i = 6 then u98 else if i = 7 then u99 else if i = 8 then u100 else if i = 9 then u101 else if i = 10 then u102 else if i = 11 then u103 else if i = 12 then u104 else if i = 13 then u105 else if i = 14 then u106 else if i = 15 then u107 else if i = 16 then u108 else if i = 17 then u109 else if i = 18 then u110 else if i = 19 then u111 else if i = 20 then u112 else if i = 21 then u113 else if i = 22 then u114 else if i = 23 then u115 else if i = 24 then u116 else if i = 25 then u117 else if i = 26 then u118 else if i = 27 then u119 else if i = 28 then u120 else if i = 29 then u121 else if i = 30 then u122 else if i = 31 then u123 else undef, rfl, Iv.zero X7 _ _⟩ ?_ ?_
                · simp only [List.take_succ_cons, List.take_zero]
                  refine ⟨?_, ?_, ?_, ?_, ?_, ?_, ?_, ?_, ?_, ?_, ?_, ?_, ?_, ?_, ?_, ?_, ?_, ?_, ?_, ?_, ?_, ?_, ?_, ?_, ?_, ?_, ?_, ?_, ?_, ?_, ?_, trivial⟩
                  · intro D a w' hn hp hI
                    obtain ⟨g, rfl, hR⟩ := hI
                    have rr := (HT7.below hR.b).s
                    clear hn hp
                    go_wp2_with (first | (refine wpList_load_wide 29 _ rfl (by rfl) _ _ rfl (tk dn x y) _ Try.underlying29 rfl (tk_hi dn x y) ?_ ?_; · with_reducible assumption))
                    exact ⟨fun ix => if ix = 0 then .agg (tk dn x y) else g ix, by rfl, hR.step 0 _ rfl (Below.refl _ _)⟩
                  · intro D a w' hn hp hI
                    obtain ⟨g, rfl, hR⟩ := hI
                    clear hn hp
                    go_wp2_with fail
                    exact ⟨fun ix => if ix = 1 then .slice (some ⟨qd, od, none⟩) m c1 else g ix, by rfl, hR.step 1 _ rfl (Below.refl _ _)⟩
                  · intro D a w' hn hp hI
                    obtain ⟨g, rfl, hR⟩ := hI
                    clear hn hp
                    go_wp2_with fail
                    exact ⟨fun ix => if ix = 2 then .int .i64 (j : Int) else g ix, by rfl, hR.step 2 _ rfl (Below.refl _ _)⟩
                  · intro D a w' hn hp hI
                    obtain ⟨g, rfl, hR⟩ := hI
                    have e1 : g 1 = .slice (some ⟨qd, od, none⟩) m c1 := hR.e 1 hp.1
                    have e2 : g 2 = .int .i64 (j : Int) := hR.e 2 hp.2.1
                    rw [e1, e2]
                    clear hn hp
                    go_wp2_with fail
                    exact ⟨fun ix => if ix = 3 then .pointer (some ⟨qd, od + j, none⟩) else g ix, by simp [e1, e2], hR.step 3 _ rfl (Below.refl _ _)⟩
                  · intro D a w' hn hp hI
                    obtain ⟨g, rfl, hR⟩ := hI
                    have e3 : g 3 = .pointer (some ⟨qd, od + j, none⟩) := hR.e 3 hp.1
                    rw [e3]
                    have cc := kc hR.b d7
                    clear hn hp
                    go_wp2_with fail
                    exact ⟨fun ix => if ix = 4 then .int .u8 (dn : Int) else g ix, by simp [e3], hR.step 4 _ rfl (Below.refl _ _)⟩
                  · intro D a w' hn hp hI
                    obtain ⟨g, rfl, hR⟩ := hI
                    have rr := (K4c.below hR.b).r
                    clear hn hp
                    go_wp2_with (first | (refine wpList_load_wide 34 _ rfl (by rfl) _ _ rfl F3 _ Try.underlying34 rfl FC.out.hi ?_ ?_; · with_reducible assumption))
                    exact ⟨fun ix => if ix = 5 then .agg F3 else g ix, by rfl, hR.step 5 _ rfl (Below.refl _ _)⟩
                  · intro D a w' hn hp hI
                    obtain ⟨g, rfl, hR⟩ := hI
                    have e0 : g 0 = .agg (tk dn x y) := hR.e 0 hp.1
                    have e4 : g 4 = .int .u8 (dn : Int) := hR.e 4 hp.2.1
                    have e5 : g 5 = .agg F3 := hR.e 5 hp.2.2.1
                    rw [e0, e4, e5]
                    clear hn hp
                    go_wp2_with fail
                    refine (HBel1.out _).mono ?_
                    rintro e w'' ⟨rfl, hb9⟩
                    go_wp2_with fail
                    exact ⟨fun ix => if ix = 6 then .bool ba else g ix, by simp [e0, e4, e5], hR.step 6 _ rfl hb9⟩
                  · intro D a w' hn hp hI
                    obtain ⟨g, rfl, hR⟩ := hI
                    have rr := (HT7.below hR.b).t
                    clear hn hp
                    go_wp2_with (first | (refine wpList_load_wide 29 _ rfl (by rfl) _ _ rfl (tk dn x' y') _ Try.underlying29 rfl (tk_hi dn x' y') ?_ ?_; · with_reducible assumption))
                    exact ⟨fun ix => if ix = 7 then .agg (tk dn x' y') else g ix, by rfl, hR.step 7 _ rfl (Below.refl _ _)⟩
                  · intro D a w' hn hp hI
                    obtain ⟨g, rfl, hR⟩ := hI
                    clear hn hp
                    go_wp2_with fail
                    exact ⟨fun ix => if ix = 8 then .slice (some ⟨qd, od, none⟩) m c1 else g ix, by rfl, hR.step 8 _ rfl (Below.refl _ _)⟩
                  · intro D a w' hn hp hI
                    obtain ⟨g, rfl, hR⟩ := hI
                    clear hn hp
                    go_wp2_with fail
                    exact ⟨fun ix => if ix = 9 then .int .i64 (j : Int) else g ix, by rfl, hR.step 9 _ rfl (Below.refl _ _)⟩
                  · intro D a w' hn hp hI
                    obtain ⟨g, rfl, hR⟩ := hI
                    have e8 : g 8 = .slice (some ⟨qd, od, none⟩) m c1 := hR.e 8 hp.1
                    have e9 : g 9 = .int .i64 (j : Int) := hR.e 9 hp.2.1
                    rw [e8, e9]
                    clear hn hp
                    go_wp2_with fail
                    exact ⟨fun ix => if ix = 10 then .pointer (some ⟨qd, od + j, none⟩) else g ix, by simp [e8, e9], hR.step 10 _ rfl (Below.refl _ _)⟩
                  · intro D a w' hn hp hI
                    obtain ⟨g, rfl, hR⟩ := hI
                    have e10 : g 10 = .pointer (some ⟨qd, od + j, none⟩) := hR.e 10 hp.1
                    rw [e10]
                    have cc := kc hR.b d7
                    clear hn hp
                    go_wp2_with fail
                    exact ⟨fun ix => if ix = 11 then .int .u8 (dn : Int) else g ix, by simp [e10], hR.step 11 _ rfl (Below.refl _ _)⟩
                  · intro D a w' hn hp hI
                    obtain ⟨g, rfl, hR⟩ := hI
                    have rr := (K6.below hR.b).r
                    clear hn hp
                    go_wp2_with (first | (refine wpList_load_wide 34 _ rfl (by rfl) _ _ rfl F4 _ Try.underlying34 rfl FD.out.hi ?_ ?_; · with_reducible assumption))
                    exact ⟨fun ix => if ix = 12 then .agg F4 else g ix, by rfl, hR.step 12 _ rfl (Below.refl _ _)⟩
                  · intro D a w' hn hp hI
                    obtain ⟨g, rfl, hR⟩ := hI
                    have e7 : g 7 = .agg (tk dn x' y') := hR.e 7 hp.1
                    have e11 : g 11 = .int .u8 (dn : Int) := hR.e 11 hp.2.1
                    have e12 : g 12 = .agg F4 := hR.e 12 hp.2.2.1
                    rw [e7, e11, e12]
                    clear hn hp
                    go_wp2_with fail
                    refine (HBel2.out _).mono ?_
                    rintro e w'' ⟨rfl, hb9⟩
                    go_wp2_with fail
                    exact ⟨fun ix => if ix = 13 then .bool ba else g ix, by simp [e7, e11, e12], hR.step 13 _ rfl hb9⟩
                  · intro D a w' hn hp hI
                    obtain ⟨g, rfl, hR⟩ := hI
                    have e6 : g 6 = .bool ba := hR.e 6 hp.1
                    have e13 : g 13 = .bool ba := hR.e 13 hp.2.1
                    rw [e6, e13]
                    obtain ⟨hq1, hq2⟩ := HQQ.out
                    clear hn hp
                    go_wp2_with fail
                    exact ⟨fun ix => if ix = 14 then .bool false else g ix, by simp [e6, e13], hR.step 14 _ rfl (Below.refl _ _)⟩
                  · intro D a w' hn hp hI
                    obtain ⟨g, rfl, hR⟩ := hI
                    have e14 : g 14 = .bool false := hR.e 14 hp.1
                    rw [e14]
                    clear hn hp
                    go_wp2_with fail
                    exact ⟨fun ix => if ix = 15 then .bool false else g ix, by simp [e14], hR.step 15 _ rfl (Below.refl _ _)⟩
                  · intro D a w' hn hp hI
                    obtain ⟨g, rfl, hR⟩ := hI
                    have e15 : g 15 = .bool false := hR.e 15 hp.1
                    rw [e15]
                    have rr := (HT7.below hR.b).s
                    clear hn hp
                    go_wp2_with (first | (refine wpList_load_wide 29 _ rfl (by rfl) _ _ rfl (tk dn x y) _ Try.underlying29 rfl (tk_hi dn x y) ?_ ?_; · with_reducible assumption))
                    exact ⟨fun ix => if ix = 16 then .agg (tk dn x y) else g ix, by simp [e15], hR.step 16 _ rfl (Below.refl _ _)⟩
                  · intro D a w' hn hp hI
                    obtain ⟨g, rfl, hR⟩ := hI
                    have e15 : g 15 = .bool false := hR.e 15 hp.1
                    rw [e15]
                    clear hn hp
                    go_wp2_with fail
                    exact ⟨fun ix => if ix = 17 then .slice (some ⟨qd, od, none⟩) m c1 else g ix, by simp [e15], hR.step 17 _ rfl (Below.refl _ _)⟩
                  · intro D a w' hn hp hI
                    obtain ⟨g, rfl, hR⟩ := hI
                    have e15 : g 15 = .bool false := hR.e 15 hp.1
                    rw [e15]
                    clear hn hp
                    go_wp2_with fail
                    exact ⟨fun ix => if ix = 18 then .int .i64 (j : Int) else g ix, by simp [e15], hR.step 18 _ rfl (Below.refl _ _)⟩
                  · intro D a w' hn hp hI
                    obtain ⟨g, rfl, hR⟩ := hI
                    have e17 : g 17 = .slice (some ⟨qd, od, none⟩) m c1 := hR.e 17 hp.1
                    have e18 : g 18 = .int .i64 (j : Int) := hR.e 18 hp.2.1
                    have e15 : g 15 = .bool false := hR.e 15 hp.2.2.1
                    rw [e17, e18, e15]
                    clear hn hp
                    go_wp2_with fail
                    exact ⟨fun ix => if ix = 19 then .pointer (some ⟨qd, od + j, none⟩) else g ix, by simp [e17, e18, e15], hR.step 19 _ rfl (Below.refl _ _)⟩
                  · intro D a w' hn hp hI
                    obtain ⟨g, rfl, hR⟩ := hI
                    have e19 : g 19 = .pointer (some ⟨qd, od + j, none⟩) := hR.e 19 hp.1
                    have e15 : g 15 = .bool false := hR.e 15 hp.2.1
                    rw [e19, e15]
                    have cc := kc hR.b d7
                    clear hn hp
                    go_wp2_with fail
                    exact ⟨fun ix => if ix = 20 then .int .u8 (dn : Int) else g ix, by simp [e19, e15], hR.step 20 _ rfl (Below.refl _ _)⟩
                  · intro D a w' hn hp hI
                    obtain ⟨g, rfl, hR⟩ := hI
                    have e15 : g 15 = .bool false := hR.e 15 hp.1
                    rw [e15]
                    have rr := (K4c.below hR.b).r
                    clear hn hp
                    go_wp2_with (first | (refine wpList_load_wide 34 _ rfl (by rfl) _ _ rfl F3 _ Try.underlying34 rfl FC.out.hi ?_ ?_; · with_reducible assumption))
                    exact ⟨fun ix => if ix = 21 then .agg F3 else g ix, by simp [e15], hR.step 21 _ rfl (Below.refl _ _)⟩
                  · intro D a w' hn hp hI
                    obtain ⟨g, rfl, hR⟩ := hI
                    have e16 : g 16 = .agg (tk dn x y) := hR.e 16 hp.1
                    have e20 : g 20 = .int .u8 (dn : Int) := hR.e 20 hp.2.1
                    have e21 : g 21 = .agg F3 := hR.e 21 hp.2.2.1
                    have e15 : g 15 = .bool false := hR.e 15 hp.2.2.2.1
                    rw [e16, e20, e21, e15]
                    clear hn hp
                    go_wp2_with fail
                    refine (HFit1.out _).mono ?_
                    rintro e w'' ⟨rfl, hb9⟩
                    go_wp2_with fail
                    exact ⟨fun ix => if ix = 22 then .bool fi else g ix, by simp [e16, e20, e21, e15], hR.step 22 _ rfl hb9⟩
                  · intro D a w' hn hp hI
                    obtain ⟨g, rfl, hR⟩ := hI
                    have e15 : g 15 = .bool false := hR.e 15 hp.1
                    rw [e15]
                    have rr := (HT7.below hR.b).t
                    clear hn hp
                    go_wp2_with (first | (refine wpList_load_wide 29 _ rfl (by rfl) _ _ rfl (tk dn x' y') _ Try.underlying29 rfl (tk_hi dn x' y') ?_ ?_; · with_reducible assumption))
                    exact ⟨fun ix => if ix = 23 then .agg (tk dn x' y') else g ix, by simp [e15], hR.step 23 _ rfl (Below.refl _ _)⟩
                  · intro D a w' hn hp hI
                    obtain ⟨g, rfl, hR⟩ := hI
                    have e15 : g 15 = .bool false := hR.e 15 hp.1
                    rw [e15]
                    clear hn hp
                    go_wp2_with fail
                    exact ⟨fun ix => if ix = 24 then .slice (some ⟨qd, od, none⟩) m c1 else g ix, by simp [e15], hR.step 24 _ rfl (Below.refl _ _)⟩
                  · intro D a w' hn hp hI
                    obtain ⟨g, rfl, hR⟩ := hI
                    have e15 : g 15 = .bool false := hR.e 15 hp.1
                    rw [e15]
                    clear hn hp
                    go_wp2_with fail
                    exact ⟨fun ix => if ix = 25 then .int .i64 (j : Int) else g ix, by simp [e15], hR.step 25 _ rfl (Below.refl _ _)⟩
                  · intro D a w' hn hp hI
                    obtain ⟨g, rfl, hR⟩ := hI
                    have e24 : g 24 = .slice (some ⟨qd, od, none⟩) m c1 := hR.e 24 hp.1
                    have e25 : g 25 = .int .i64 (j : Int) := hR.e 25 hp.2.1
                    have e15 : g 15 = .bool false := hR.e 15 hp.2.2.1
                    rw [e24, e25, e15]
                    clear hn hp
                    go_wp2_with fail
                    exact ⟨fun ix => if ix = 26 then .pointer (some ⟨qd, od + j, none⟩) else g ix, by simp [e24, e25, e15], hR.step 26 _ rfl (Below.refl _ _)⟩
                  · intro D a w' hn hp hI
                    obtain ⟨g, rfl, hR⟩ := hI
                    have e26 : g 26 = .pointer (some ⟨qd, od + j, none⟩) := hR.e 26 hp.1
                    have e15 : g 15 = .bool false := hR.e 15 hp.2.1
                    rw [e26, e15]
                    have cc := kc hR.b d7
                    clear hn hp
                    go_wp2_with fail
                    exact ⟨fun ix => if ix = 27 then .int .u8 (dn : Int) else g ix, by simp [e26, e15], hR.step 27 _ rfl (Below.refl _ _)⟩
                  · intro D a w' hn hp hI
                    obtain ⟨g, rfl, hR⟩ := hI
                    have e15 : g 15 = .bool false := hR.e 15 hp.1
                    rw [e15]
                    have rr := (K6.below hR.b).r
                    clear hn hp
                    go_wp2_with (first | (refine wpList_load_wide 34 _ rfl (by rfl) _ _ rfl F4 _ Try.underlying34 rfl FD.out.hi ?_ ?_; · with_reducible assumption))
                    exact ⟨fun ix => if ix = 28 then .agg F4 else g ix, by simp [e15], hR.step 28 _ rfl (Below.refl _ _)⟩
                  · intro D a w' hn hp hI
                    obtain ⟨g, rfl, hR⟩ := hI
                    have e23 : g 23 = .agg (tk dn x' y') := hR.e 23 hp.1
                    have e27 : g 27 = .int .u8 (dn : Int) := hR.e 27 hp.2.1
                    have e28 : g 28 = .agg F4 := hR.e 28 hp.2.2.1
                    have e15 : g 15 = .bool false := hR.e 15 hp.2.2.2.1
                    rw [e23, e27, e28, e15]
                    clear hn hp
                    go_wp2_with fail
                    refine (HFit2.out _).mono ?_
                    rintro e w'' ⟨rfl, hb9⟩
                    go_wp2_with fail
                    exact ⟨fun ix => if ix = 29 then .bool fi else g ix, by simp [e23, e27, e28, e15], hR.step 29 _ rfl hb9⟩
                  · intro D a w' hn hp hI
                    obtain ⟨g, rfl, hR⟩ := hI
                    have e22 : g 22 = .bool fi := hR.e 22 hp.1
                    have e29 : g 29 = .bool fi := hR.e 29 hp.2.1
                    have e15 : g 15 = .bool false := hR.e 15 hp.2.2.1
                    rw [e22, e29, e15]
                    obtain ⟨hq1, hq2⟩ := HQQ.out
                    clear hn hp
                    go_wp2_with fail
                    exact ⟨fun ix => if ix = 30 then .bool false else g ix, by simp [e22, e29, e15], hR.step 30 _ rfl (Below.refl _ _)⟩
                intro D a w' hD hI
                obtain ⟨g16, rfl, hR⟩ := hI
                have e15 : g16 15 = .bool false := hR.e 15 (hD 15 (by decide))
                have e30 : g16 30 = .bool false := hR.e 30 (hD 30 (by decide))
                rw [e15, e30]
                have dR := hR.b
                clear hD hR e15 e30
                simp only [List.drop_succ_cons, List.drop_zero]
                go_wp2_with fail
                go_meet
                exact ⟨rfl, dR⟩
              obtain ⟨rfl, dX8⟩ := hcut
              obtain ⟨X8, hX8⟩ : ∃ X, X = wc := ⟨_, rfl⟩
              subst hX8
              have K1d := K1c.below dX8
              have K2d := K2c.below dX8
              have HT8 := HT7.below dX8
              have d8 := kc dX8 d7
              clear K1c K2c HT7 d7 dX8 K6 K4c HBel1 HBel2 HFit1 HFit2 HQQ FC FD X7
              as_aux_lemma =>
                go_upto_region 18 with fail
                go_cut [] (fun wx => Tb w3 wx bs bt (tk dn (seeS x p.fl p.sq p.ak p.win p.lw) y) (tk dn (seeS x' p.fl q.sq q.ak p.win p.lw) y'))
                case first => as_aux_lemma =>
                  refine wp_region_steps 14 [[], [], [], [1, 2], [3], [], [0, 4, 5], [], [], [], [8, 9], [10], [], [7, 11, 12]] (fun D a w' => ∃ g : Nat → Value, a = ⟨#[.slice A nw cap, .agg #[.int .u32 f0, .int .u32 f1], .agg #[.int .u32 g0, .int .u32 g1], .agg #[.int .u8 ow, .int .u16 ol, .int .i8 obk, .int .u16 owi], undef, .pointer (some ⟨pa, 0, none⟩), .pointer (some ⟨pb, 0, none⟩), .pointer (some ⟨po, 0, none⟩), u8, .slice (some ⟨qd, od, none⟩) m c1, .slice (some ⟨qa, oa, none⟩) m c2, .slice B1 m c3, .slice (some ⟨qb, ob, none⟩) m c4, .pointer (some ⟨bs, 0, none⟩), .pointer (some ⟨bt, 0, none⟩), .int .i64 ↑j, .pointer (some ⟨p16, 0, none⟩), .pointer (some ⟨p17, 0, none⟩), .pointer (some ⟨p18, 0, none⟩), .pointer (some ⟨p19, 0, none⟩), u20, u21, u22, .bool true, .bool false, .tuple #[.slice (some ⟨qd, od, none⟩) m c1, .slice (some ⟨qa, oa, none⟩) m c2], .slice A nw cap, .agg #[.int .u32 f0, .int .u32 f1], .tuple #[.slice (some ⟨qd, od, none⟩) m c1, .slice (some ⟨qa, oa, none⟩) m c2], .slice (some ⟨qd, od, none⟩) m c1, .slice (some ⟨qa, oa, none⟩) m c2, .tuple #[.slice B1 m c3, .slice (some ⟨qb, ob, none⟩) m c4], .slice A nw cap, .agg #[.int .u32 g0, .int .u32 g1], .tuple #[.slice B1 m c3, .slice (some ⟨qb, ob, none⟩) m c4], .slice B1 m c3, .slice (some ⟨qb, ob, none⟩) m c4, .slice (some ⟨qa, oa, none⟩) m c2, .int .i64 ↑m, .int .i64 ↑j, u40, u41, u42, u43, u44, u45, u46, u47, u48, u49, u50, u51, u52, u53, u54, u55, u56, u57, u58, u59, u60, u61, u62, u63, u64, u65, u66, u67, u68, u69, u70, u71, u72, u73, u74, u75, u76, u77, u78, u79, u80, u81, u82, u83, u84, u85, u86, u87, u88, u89, u90, u91, u92, u93, u94, u95, u96, u97, u98, u99, u100, u101, u102, u103, u104, u105, u106, u107, u108, u109, u110, u111, u112, u113, u114, u115, u116, u117, u118, u119, u120, u121, u122, .bool false, g 0, g 1, g 2, g 3, g 4, g 5, g 6, g 7, g 8, g 9, g 10, g 11, g 12, g 13, u138, u139, u140, u141, u142, u143, u144, u145, u146, u147, u148, u149, u150, u151, u152, u153, u154, u155, u156, u157, u158, u159, u160, u161, u162, u163, u164, u165, u166, u167, u168, u169, u170, u171, u172, u173, u174, u175, u176, u177, u178, u179, u180, u181, u182, u183, u184, u185, u186, u187, u188, u189, u190, u191, u192, u193, u194, u195, u196, u197, u198, u199, u200, u201, u202, u203, u204, u205, u206, u207], []⟩ ∧ Iv X8 (fun i => (sv18 qd od m c1 j dn (tk dn x y) (tk dn x' y') F1 F2 (tk dn (seeS x p.fl p.sq p.ak p.win p.lw) y) (tk dn (seeS x' p.fl q.sq q.ak p.win p.lw) y')).getD i undef) D g w') (by kernel_rfl) (by kernel_rfl) ⟨fun i => if i = 0 then u124 else if i = 1 then u125 else if i = 2 then u126 else if i = 3 then u127 else if i = 4 then u128 else if i = 5 then u129 else if i = 6 then u130 else if i = 7 then u131 else if i = 8 then u132 else if i = 9 then u133 else if i = 10 then u134 else if i = 11 then u135 else if i = 12 then u136 else if i = 13 then u137 else undef, rfl, Iv.zero X8 _ _⟩ ?_ ?_
                  · simp only [List.take_succ_cons, List.take_zero]
                    refine ⟨?_, ?_, ?_, ?_, ?_, ?_, ?_, ?_, ?_, ?_, ?_, ?_, ?_, ?_, trivial⟩
                    · intro D a w' hn hp hI
                      obtain ⟨g, rfl, hR⟩ := hI
                      have rr := (HT8.below hR.b).s
                      clear hn hp
                      go_wp2_with (first | (refine wpList_load_wide 29 _ rfl (by rfl) _ _ rfl (tk dn x y) _ Try.underlying29 rfl (tk_hi dn x y) ?_ ?_; · with_reducible assumption))
                      exact ⟨fun ix => if ix = 0 then .agg (tk dn x y) else g ix, by rfl, hR.step 0 _ rfl (Below.refl _ _)⟩
                    · intro D a w' hn hp hI
                      obtain ⟨g, rfl, hR⟩ := hI
                      clear hn hp
                      go_wp2_with fail
                      exact ⟨fun ix => if ix = 1 then .slice (some ⟨qd, od, none⟩) m c1 else g ix, by rfl, hR.step 1 _ rfl (Below.refl _ _)⟩
                    · intro D a w' hn hp hI
                      obtain ⟨g, rfl, hR⟩ := hI
                      clear hn hp
                      go_wp2_with fail
                      exact ⟨fun ix => if ix = 2 then .int .i64 (j : Int) else g ix, by rfl, hR.step 2 _ rfl (Below.refl _ _)⟩
                    · intro D a w' hn hp hI
                      obtain ⟨g, rfl, hR⟩ := hI
                      have e1 : g 1 = .slice (some ⟨qd, od, none⟩) m c1 := hR.e 1 hp.1
                      have e2 : g 2 = .int .i64 (j : Int) := hR.e 2 hp.2.1
                      rw [e1, e2]
                      clear hn hp
                      go_wp2_with fail
                      exact ⟨fun ix => if ix = 3 then .pointer (some ⟨qd, od + j, none⟩) else g ix, by simp [e1, e2], hR.step 3 _ rfl (Below.refl _ _)⟩
                    · intro D a w' hn hp hI
                      obtain ⟨g, rfl, hR⟩ := hI
                      have e3 : g 3 = .pointer (some ⟨qd, od + j, none⟩) := hR.e 3 hp.1
                      rw [e3]
                      have cc := kc hR.b d8
                      clear hn hp
                      go_wp2_with fail
                      exact ⟨fun ix => if ix = 4 then .int .u8 (dn : Int) else g ix, by simp [e3], hR.step 4 _ rfl (Below.refl _ _)⟩
                    · intro D a w' hn hp hI
                      obtain ⟨g, rfl, hR⟩ := hI
                      have rr := (K1d.below hR.b).r
                      clear hn hp
                      go_wp2_with (first | (refine wpList_load_wide 34 _ rfl (by rfl) _ _ rfl F1 _ Try.underlying34 rfl FA.out.hi ?_ ?_; · with_reducible assumption))
                      exact ⟨fun ix => if ix = 5 then .agg F1 else g ix, by rfl, hR.step 5 _ rfl (Below.refl _ _)⟩
                    · intro D a w' hn hp hI
                      obtain ⟨g, rfl, hR⟩ := hI
                      have e0 : g 0 = .agg (tk dn x y) := hR.e 0 hp.1
                      have e4 : g 4 = .int .u8 (dn : Int) := hR.e 4 hp.2.1
                      have e5 : g 5 = .agg F1 := hR.e 5 hp.2.2.1
                      rw [e0, e4, e5]
                      clear hn hp
                      go_wp2_with fail
                      refine (HSee1.out _).mono ?_
                      rintro e w'' ⟨rfl, hb9⟩
                      go_wp2_with fail
                      exact ⟨fun ix => if ix = 6 then .agg (tk dn (seeS x p.fl p.sq p.ak p.win p.lw) y) else g ix, by simp [e0, e4, e5], hR.step 6 _ rfl hb9⟩
                    · intro D a w' hn hp hI
                      obtain ⟨g, rfl, hR⟩ := hI
                      have rr := (HT8.below hR.b).t
                      clear hn hp
                      go_wp2_with (first | (refine wpList_load_wide 29 _ rfl (by rfl) _ _ rfl (tk dn x' y') _ Try.underlying29 rfl (tk_hi dn x' y') ?_ ?_; · with_reducible assumption))
                      exact ⟨fun ix => if ix = 7 then .agg (tk dn x' y') else g ix, by rfl, hR.step 7 _ rfl (Below.refl _ _)⟩
                    · intro D a w' hn hp hI
                      obtain ⟨g, rfl, hR⟩ := hI
                      clear hn hp
                      go_wp2_with fail
                      exact ⟨fun ix => if ix = 8 then .slice (some ⟨qd, od, none⟩) m c1 else g ix, by rfl, hR.step 8 _ rfl (Below.refl _ _)⟩
                    · intro D a w' hn hp hI
                      obtain ⟨g, rfl, hR⟩ := hI
                      clear hn hp
                      go_wp2_with fail
                      exact ⟨fun ix => if ix = 9 then .int .i64 (j : Int) else g ix, by rfl, hR.step 9 _ rfl (Below.refl _ _)⟩
                    · intro D a w' hn hp hI
                      obtain ⟨g, rfl, hR⟩ := hI
                      have e8 : g 8 = .slice (some ⟨qd, od, none⟩) m c1 := hR.e 8 hp.1
                      have e9 : g 9 = .int .i64 (j : Int) := hR.e 9 hp.2.1
                      rw [e8, e9]
                      clear hn hp
                      go_wp2_with fail
                      exact ⟨fun ix => if ix = 10 then .pointer (some ⟨qd, od + j, none⟩) else g ix, by simp [e8, e9], hR.step 10 _ rfl (Below.refl _ _)⟩
                    · intro D a w' hn hp hI
                      obtain ⟨g, rfl, hR⟩ := hI
                      have e10 : g 10 = .pointer (some ⟨qd, od + j, none⟩) := hR.e 10 hp.1
                      rw [e10]
                      have cc := kc hR.b d8
                      clear hn hp
                      go_wp2_with fail
                      exact ⟨fun ix => if ix = 11 then .int .u8 (dn : Int) else g ix, by simp [e10], hR.step 11 _ rfl (Below.refl _ _)⟩
                    · intro D a w' hn hp hI
                      obtain ⟨g, rfl, hR⟩ := hI
                      have rr := (K2d.below hR.b).r
                      clear hn hp
                      go_wp2_with (first | (refine wpList_load_wide 34 _ rfl (by rfl) _ _ rfl F2 _ Try.underlying34 rfl FB'.out.hi ?_ ?_; · with_reducible assumption))
                      exact ⟨fun ix => if ix = 12 then .agg F2 else g ix, by rfl, hR.step 12 _ rfl (Below.refl _ _)⟩
                    · intro D a w' hn hp hI
                      obtain ⟨g, rfl, hR⟩ := hI
                      have e7 : g 7 = .agg (tk dn x' y') := hR.e 7 hp.1
                      have e11 : g 11 = .int .u8 (dn : Int) := hR.e 11 hp.2.1
                      have e12 : g 12 = .agg F2 := hR.e 12 hp.2.2.1
                      rw [e7, e11, e12]
                      clear hn hp
                      go_wp2_with fail
                      refine (HSee2.out _).mono ?_
                      rintro e w'' ⟨rfl, hb9⟩
                      go_wp2_with fail
                      exact ⟨fun ix => if ix = 13 then .agg (tk dn (seeS x' p.fl q.sq q.ak p.win p.lw) y') else g ix, by simp [e7, e11, e12], hR.step 13 _ rfl hb9⟩
                  intro D a w' hD hI
                  obtain ⟨g18, rfl, hR⟩ := hI
                  have e6 : g18 6 = .agg (tk dn (seeS x p.fl p.sq p.ak p.win p.lw) y) := hR.e 6 (hD 6 (by decide))
                  have e13 : g18 13 = .agg (tk dn (seeS x' p.fl q.sq q.ak p.win p.lw) y') := hR.e 13 (hD 13 (by decide))
                  rw [e6, e13]
                  have HT9 := HT8.below hR.b
                  clear hD hR e6 e13
                  simp only [List.drop_succ_cons, List.drop_zero]
                  refine wpList_store_wide 29 (.tmp 13) (.tmp 130) rfl rfl bs 0 (tk dn (seeS x p.fl p.sq p.ak p.win p.lw) y) rfl rfl w3.heap.size w3 (tk_hs dn _ _) (tk_one _ _ _) HT9.b hks (by rw [tk_size]; exact HT9.st) ?_
                  intro Y1 b1 z1 r1 k1 t1 c1'
                  refine wpList_store_wide 29 (.tmp 14) (.tmp 137) rfl rfl bt 0 (tk dn (seeS x' p.fl q.sq q.ak p.win p.lw) y') rfl rfl w3.heap.size w3 (tk_hs dn _ _) (tk_one _ _ _) b1 hkt (by rw [tk_size]; exact (t1 _ _ _ HT9.tt)) ?_
                  intro Y2 b2 z2 r2 k2 t2 c2'
                  have HT10 : Tb w3 Y2 bs bt (tk dn (seeS x p.fl p.sq p.ak p.win p.lw) y) (tk dn (seeS x' p.fl q.sq q.ak p.win p.lw) y') := ⟨b2, k2 _ _ _ hst r1, t2 _ _ _ (t1 _ _ _ HT9.st), r2, t2 _ _ _ (t1 _ _ _ HT9.tt)⟩
                  clear k1 t1 c1' k2 t2 c2' z1 z2 r1 r2 HT9 b1 b2
                  go_wp2_with fail
                  go_meet
                  exact HT10
                obtain ⟨X9, hX9⟩ : ∃ X, X = wc := ⟨_, rfl⟩
                subst hX9
                obtain ⟨a0, a1, c0, c1', hTT, hUU, hA, hB⟩ : ∃ a0 a1 c0 c1' : Sd, (tk dn (seeS x p.fl p.sq p.ak p.win p.lw) y) = trk a0 a1 ∧ (tk dn (seeS x' p.fl q.sq q.ak p.win p.lw) y') = trk c0 c1' ∧ Sh a0 c0 (g0 - f0) (g1 - f1) ∧ Sh a1 c1' (g1 - f1) (g0 - f0) := by
                  rcases hss with ⟨rfl, rfl, rfl, rfl⟩ | ⟨rfl, rfl, rfl, rfl⟩
                  · exact ⟨_, _, _, _, rfl, rfl, hX2, hY⟩
                  · exact ⟨_, _, _, _, rfl, rfl, hY, hX2⟩
                rw [hTT, hUU] at hcut
                clear hTT hUU hX2 hX hY hss hsq hak HSee1 HSee2 K1d K2d HT8 d8 FA FB' F1 F2 X8 HP HQ HR
                go_wp2_with fail
                as_aux_lemma =>
                  go_loopw [138] (fun i wi => ∃ c : Nat, c ≤ 2 ∧ i = .int .i64 c ∧ Tb w3 wi bs bt (trk a0 a1) (trk c0 c1')) (fun i _ => 2 - (intOf i).toNat)
                  case atStart => exact ⟨0, by decide, rfl, hcut⟩
                  case round =>
                    clear hcut
                    obtain ⟨c, hc2, rfl, HI⟩ := hrel
                    by_cases hcl : c < 2
                    · have hcd : decide ((c : Int) < 2) = true := by simp; omega
                      obtain ⟨e, x, y, fc, fe, gc, ge, HSQ⟩ := sq_of HI.s HI.t (HC0.out.below HI.b) hA hB hcl
                      obtain ⟨D0, D1, E0, E1, hce2, qc, qe, rc', re, HSH, ub0, ub1, ub2, ub3, ub4, vb0, vb1, vb2, vb3, vb4⟩ := HSQ
                      go_upto_region 22 with fail
                      as_aux_lemma =>
                        go_cut [21, 22] (fun v21 v22 wx => ∃ b21 b22 : Nat, v21 = .pointer (some ⟨b21, 0, none⟩) ∧ v22 = .pointer (some ⟨b22, 0, none⟩) ∧ Below wr.heap.size wr wx ∧ wx.rangeAt b21 0 x.cells ∧ wx.rangeAt b22 0 y.cells)
                        case first => as_aux_lemma =>
                          refine wp_region_steps 9 [[], [0], [1], [], [3], [4], [], [], [6, 2]] (fun D a w' => ∃ v21 v22 v141 v142 v143 v144 v145 v146 : Value, a = ⟨#[.slice A nw cap, .agg #[.int .u32 f0, .int .u32 f1], .agg #[.int .u32 g0, .int .u32 g1], .agg #[.int .u8 ow, .int .u16 ol, .int .i8 obk, .int .u16 owi], undef, .pointer (some ⟨pa, 0, none⟩), .pointer (some ⟨pb, 0, none⟩), .pointer (some ⟨po, 0, none⟩), u8, .slice (some ⟨qd, od, none⟩) m c1, .slice (some ⟨qa, oa, none⟩) m c2, .slice B1 m c3, .slice (some ⟨qb, ob, none⟩) m c4, .pointer (some ⟨bs, 0, none⟩), .pointer (some ⟨bt, 0, none⟩), .int .i64 ↑j, .pointer (some ⟨p16, 0, none⟩), .pointer (some ⟨p17, 0, none⟩), .pointer (some ⟨p18, 0, none⟩), .pointer (some ⟨p19, 0, none⟩), .int .i64 ↑c, v21, v22, .bool true, .bool false, .tuple #[.slice (some ⟨qd, od, none⟩) m c1, .slice (some ⟨qa, oa, none⟩) m c2], .slice A nw cap, .agg #[.int .u32 f0, .int .u32 f1], .tuple #[.slice (some ⟨qd, od, none⟩) m c1, .slice (some ⟨qa, oa, none⟩) m c2], .slice (some ⟨qd, od, none⟩) m c1, .slice (some ⟨qa, oa, none⟩) m c2, .tuple #[.slice B1 m c3, .slice (some ⟨qb, ob, none⟩) m c4], .slice A nw cap, .agg #[.int .u32 g0, .int .u32 g1], .tuple #[.slice B1 m c3, .slice (some ⟨qb, ob, none⟩) m c4], .slice B1 m c3, .slice (some ⟨qb, ob, none⟩) m c4, .slice (some ⟨qa, oa, none⟩) m c2, .int .i64 ↑m, .int .i64 ↑j, u40, u41, u42, u43, u44, u45, u46, u47, u48, u49, u50, u51, u52, u53, u54, u55, u56, u57, u58, u59, u60, u61, u62, u63, u64, u65, u66, u67, u68, u69, u70, u71, u72, u73, u74, u75, u76, u77, u78, u79, u80, u81, u82, u83, u84, u85, u86, u87, u88, u89, u90, u91, u92, u93, u94, u95, u96, u97, u98, u99, u100, u101, u102, u103, u104, u105, u106, u107, u108, u109, u110, u111, u112, u113, u114, u115, u116, u117, u118, u119, u120, u121, u122, u123, u124, u125, u126, u127, u128, u129, u130, u131, u132, u133, u134, u135, u136, u137, .int .i64 ↑c, .bool true, .int .i64 ↑c, v141, v142, v143, v144, v145, v146, u147, u148, u149, u150, u151, u152, u153, u154, u155, u156, u157, u158, u159, u160, u161, u162, u163, u164, u165, u166, u167, u168, u169, u170, u171, u172, u173, u174, u175, u176, u177, u178, u179, u180, u181, u182, u183, u184, u185, u186, u187, u188, u189, u190, u191, u192, u193, u194, u195, u196, u197, u198, u199, u200, u201, u202, u203, u204, u205, u206, u207], []⟩ ∧ Sr22 wr bs bt c x y D v21 v22 v141 v142 v143 v144 v145 v146 w') (by kernel_rfl) (by kernel_rfl) ⟨u21, u22, u141, u142, u143, u144, u145, u146, rfl, Sr22.zero wr bs bt c x y (u21) (u22) (u141) (u142) (u143) (u144) (u145) (u146)⟩ ?_ ?_
                          · simp only [List.take_succ_cons, List.take_zero]
                            refine ⟨?_, ?_, ?_, ?_, ?_, ?_, ?_, ?_, ?_, trivial⟩
                            · intro D a w' hn hp hI
                              obtain ⟨v21, v22, v141, v142, v143, v144, v145, v146, rfl, hR⟩ := hI
                              clear hn hp
                              go_wp2_with fail
                              exact ⟨_, _, _, _, _, _, _, _, rfl, hR.s0 (Below.refl _ _)⟩
                            · intro D a w' hn hp hI
                              obtain ⟨v21, v22, v141, v142, v143, v144, v145, v146, rfl, hR⟩ := hI
                              obtain rfl := hR.e0 hp.1
                              clear hn hp
                              go_wp2_with fail
                              exact ⟨_, _, _, _, _, _, _, _, rfl, hR.s1 (Below.refl _ _)⟩
                            · intro D a w' hn hp hI
                              obtain ⟨v21, v22, v141, v142, v143, v144, v145, v146, rfl, hR⟩ := hI
                              obtain rfl := hR.e1 hp.1
                              have cc0 := kc hR.b ub0
                              have cc1 := kc hR.b ub1
                              have cc2 := kc hR.b ub2
                              have cc3 := kc hR.b ub3
                              have cc4 := kc hR.b ub4
                              clear hn hp
                              go_wp2_with fail
                              exact ⟨_, _, _, _, _, _, _, _, rfl, hR.s2 (Below.refl _ _)⟩
                            · intro D a w' hn hp hI
                              obtain ⟨v21, v22, v141, v142, v143, v144, v145, v146, rfl, hR⟩ := hI
                              clear hn hp
                              go_wp2_with fail
                              exact ⟨_, _, _, _, _, _, _, _, rfl, hR.s3 (Below.refl _ _)⟩
                            · intro D a w' hn hp hI
                              obtain ⟨v21, v22, v141, v142, v143, v144, v145, v146, rfl, hR⟩ := hI
                              obtain rfl := hR.e3 hp.1
                              clear hn hp
                              go_wp2_with fail
                              exact ⟨_, _, _, _, _, _, _, _, rfl, hR.s4 (Below.refl _ _)⟩
                            · intro D a w' hn hp hI
                              obtain ⟨v21, v22, v141, v142, v143, v144, v145, v146, rfl, hR⟩ := hI
                              obtain rfl := hR.e4 hp.1
                              have cc0 := kc hR.b vb0
                              have cc1 := kc hR.b vb1
                              have cc2 := kc hR.b vb2
                              have cc3 := kc hR.b vb3
                              have cc4 := kc hR.b vb4
                              clear hn hp
                              go_wp2_with fail
                              exact ⟨_, _, _, _, _, _, _, _, rfl, hR.s5 (Below.refl _ _)⟩
                            · intro D a w' hn hp hI
                              obtain ⟨v21, v22, v141, v142, v143, v144, v145, v146, rfl, hR⟩ := hI
                              clear hp
                              go_wp2_with fail
                              exact ⟨_, _, _, _, _, _, _, _, rfl, hR.s6 ((Below.refl _ _).alloc (Nat.le_refl _) _) ⟨_, rfl, hR.b.size, there_new _ _ _ _ _ rfl rfl⟩ hn⟩
                            · intro D a w' hn hp hI
                              obtain ⟨v21, v22, v141, v142, v143, v144, v145, v146, rfl, hR⟩ := hI
                              clear hp
                              go_wp2_with fail
                              exact ⟨_, _, _, _, _, _, _, _, rfl, hR.s7 ((Below.refl _ _).alloc (Nat.le_refl _) _) ⟨_, rfl, hR.b.size, there_new _ _ _ _ _ rfl rfl⟩⟩
                            · intro D a w' hn hp hI
                              obtain ⟨v21, v22, v141, v142, v143, v144, v145, v146, rfl, hR⟩ := hI
                              obtain rfl := hR.e2 hp.2.1
                              have hm := hp.1
                              obtain ⟨b5, rfl, l5, t5⟩ := hR.m6 hm
                              refine wpList_store_wide 27 (.tmp 21) (.tmp 143) rfl rfl b5 0 #[.bool x.seen, .bool x.acked, .int .u32 x.next, .int .u32 x.ack, .int .i64 x.size] rfl rfl wr.heap.size wr info27 (by simp [Value.oneCell']) hR.b l5 t5 ?_
                              intro W1 dW zW RW kW tW cW
                              have lt5 : b5 < W1.heap.size := by rw [zW]; exact there_lt t5
                              go_wp2_with fail
                              exact ⟨_, _, _, _, _, _, _, _, rfl, hR.s8 hm dW tW ⟨b5, rfl, lt5, RW⟩⟩
                          intro D a w' hD hI
                          obtain ⟨v21, v22, v141, v142, v143, v144, v145, v146, rfl, hR⟩ := hI
                          have n67 := hR.n6_7 (hD 6 (by decide)) (hD 7 (by decide))
                          obtain ⟨b21, rfl, q21, s21⟩ := hR.m6 (hD 6 (by decide))
                          obtain ⟨b22, rfl, q22, s22⟩ := hR.m7 (hD 7 (by decide))
                          obtain ⟨b21', h21, _, RY1⟩ := hR.r8 (hD 8 (by decide))
                          obtain rfl : b21 = b21' := by injection h21 with h; injection h with h; injection h
                          obtain rfl := hR.e5 (hD 5 (by decide))
                          have hb := hR.b
                          have hne : b21 ≠ b22 := fun e => n67 (by rw [e])
                          clear hD hR
                          simp only [List.drop_succ_cons, List.drop_zero]
                          refine wpList_store_wide 27 (.tmp 22) (.tmp 146) rfl rfl b22 0 #[.bool y.seen, .bool y.acked, .int .u32 y.next, .int .u32 y.ack, .int .i64 y.size] rfl rfl wr.heap.size wr info27 (by simp [Value.oneCell']) hb q22 s22 ?_
                          intro Y2 dY2 zY2 RY2 kY2 tY2 cY2
                          have RY1' := kY2 _ _ _ hne RY1
                          clear kY2 tY2 cY2 zY2
                          go_wp2_with fail
                          go_meet
                          exact ⟨b21, b22, rfl, rfl, dY2, RY1', RY2⟩
                        obtain ⟨b21, b22, rfl, rfl, dI, r21, r22⟩ := hcut
                        obtain ⟨Z1, hZ1⟩ : ∃ X, X = wc := ⟨_, rfl⟩
                        subst hZ1
                        have HI2 := HI.below dI
                        replace qc := kc dI qc
                        replace qe := kc dI qe
                        replace rc' := kc dI rc'
                        replace re := kc dI re
                        obtain ⟨sn, sa, xs, xn, xk, yn, yk, un, uk, HSS⟩ := st_of r21 r22 HSH.out
                        obtain ⟨t0, t1, t2, t3, t4, s0, s1, s2, s3, s4, hun, huk, hmn, hmk⟩ := HSS
                        clear ub0 ub1 ub2 ub3 ub4 vb0 vb1 vb2 vb3 vb4 r21 r22 HI dI HSH wr
                        as_aux_lemma =>
                          go_upto_region 23 with fail
                          go_cut [205] (fun v wx => v = .bool false ∧ Below Z1.heap.size Z1 wx)
                          case first => as_aux_lemma =>
                            cases sn <;> cases sa
                            · clear hmn hmk
                              go_quiet (fail)
                              go_wp2
                              go_meet
                              exact ⟨rfl, below_drewN (Below.refl _ _) _⟩
                            · have hk := hmk rfl
                              clear hmn hmk
                              go_quiet (fail)
                              go_wp2
                              go_meet
                              exact ⟨rfl, below_drewN (Below.refl _ _) _⟩
                            · have hn := hmn rfl
                              clear hmn hmk
                              go_quiet (fail)
                              go_wp2
                              go_meet
                              exact ⟨rfl, below_drewN (Below.refl _ _) _⟩
                            · have hn := hmn rfl
                              have hk := hmk rfl
                              clear hmn hmk
                              go_quiet (fail)
                              go_wp2
                              go_meet
                              exact ⟨rfl, below_drewN (Below.refl _ _) _⟩
                          obtain ⟨rfl, dZ⟩ := hcut
                          have HI3 := HI2.below dZ
                          clear HI2 hmn hmk
                          go_wp2_with fail
                          go_roundw
                          case rel => exact ⟨c + 1, by omega, by go_num, HI3⟩
                          case measure => simp [intOf]; omega
                    · obtain rfl : c = 2 := by omega
                      rw [show ((2 : Nat) : Int) = 2 from rfl]
                      have hcd : decide ((2 : Int) < 2) = false := by decide
                      go_wp2_with fail
                      go_roundw
                      case rel => exact ⟨j + 1, a0, a1, c0, c1', by omega, by go_num, HI, hA, hB⟩
                      case measure => simp [intOf]; omega
    · obtain rfl : j = m := by omega
      have hjd : decide ((j : Int) < (j : Int)) = false := by simp
      go_wp2_with fail
      go_ret
      exact ⟨rfl, bthen B3.out HT.b⟩

theorem word_of {cs : List Value} (h : All2 [some .u8, some .u16, some .i8, some .u16] cs) : ∃ o : Int × Int × Int × Int, cs = [.int .u8 o.1, .int .u16 o.2.1, .int .i8 o.2.2.1, .int .u16 o.2.2.2] ∧ ((0 ≤ o.1 ∧ o.1 ≤ 255) ∧ (0 ≤ o.2.1 ∧ o.2.1 ≤ 65535) ∧ (-128 ≤ o.2.2.1 ∧ o.2.2.1 ≤ 127)) := by
  obtain ⟨n0, r0, rfl, w0, h0⟩ := all2_int h
  obtain ⟨n1, r1, rfl, w1, h1⟩ := all2_int h0
  obtain ⟨n2, r2, rfl, w2, h2⟩ := all2_int h1
  obtain ⟨n3, r3, rfl, w3, h3⟩ := all2_int h2
  obtain rfl := all2_nil h3
  exact ⟨(n0, n1, n2, n3), rfl, bounds_u8 w0, bounds_u16 w1, bounds_i8 w2⟩
theorem windowShifts_walk (A : Option Addr) (css : List (List Value)) (n cap : Nat) (x y : Int × Int) (o : Int × Int × Int × Int) (w : World) (hn : n = css.length) (hle0 : n ≤ cap) (hp : cap ≤ maxLen ∧ Rd w A 4 css ∧ ∀ x ∈ css, All2 [some .u8, some .u16, some .i8, some .u16] x) (hx : (0 ≤ x.1 ∧ x.1 ≤ 4294967295) ∧ (0 ≤ x.2 ∧ x.2 ≤ 4294967295)) (hy : (0 ≤ y.1 ∧ y.1 ≤ 4294967295) ∧ (0 ≤ y.2 ∧ y.2 ≤ 4294967295)) (ho : (0 ≤ o.1 ∧ o.1 ≤ 255) ∧ (0 ≤ o.2.1 ∧ o.2.1 ≤ 65535) ∧ (-128 ≤ o.2.2.1 ∧ o.2.2.1 ≤ 127)) :
    Calls Try.prog 7 #[.slice A n cap, .agg #[.int .u32 x.1, .int .u32 x.2], .agg #[.int .u32 y.1, .int .u32 y.2], .agg #[.int .u8 o.1, .int .u16 o.2.1, .int .i8 o.2.2.1, .int .u16 o.2.2.2]] w fun e w' => e = .returned (.bool true) ∧ Below w.heap.size w w' :=
  have ht : ∀ c ∈ css.take (min n 100), All2 [some .u8, some .u16, some .i8, some .u16] c := fun c hc => hp.2.2 c (List.mem_of_mem_take hc)
  shifts_core A css n cap (min n 100) x.1 x.2 y.1 y.2 o.1 o.2.1 o.2.2.1 o.2.2.2 w ho.1 ho.2.1 ho.2.2 rfl (Lib.hid (mo_ok _ _ _ hx.1 hx.2 ht)) (Lib.hid (mo_ok _ _ _ hy.1 hy.2 ht))
    (Lib.hid fun W hb => packets_any A css n cap x.1 x.2 W hn hle0 ⟨hp.1, hp.2.1.below hb, hp.2.2⟩ hx.1 hx.2)
    (Lib.hid fun W hb => packets_any A css n cap y.1 y.2 W hn hle0 ⟨hp.1, hp.2.1.below hb, hp.2.2⟩ hy.1 hy.2)

end Go.Proofs.Ytchephpmkommfaa

/-
  The walk of WindowHonest: the packets of an honest conversation fit. Condition: the words are those of an argument.
-/
import Derived.Test.YtchephpmkommfaaHonS
import Derived.Test.YtchephpmkommfaaRuns
import Derived.BigRegion
import Derived.Deep.DeepCutAuto
namespace Go.Proofs.Ytchephpmkommfaa
open Go.RowKit
set_option linter.unusedVariables false
set_option linter.unusedSimpArgs false

structure Hr4 (w1 : World) (f0 f1 : Int) (D : Nat → Prop) (v6 v7 v8 v17 v18 v19 : Value) (w' : World) : Prop where
  b : Below w1.heap.size w1 w'
  e0 : D 0 → v17 = .agg #[.int .u32 f0, .int .u32 f1]
  e1 : D 1 → v18 = .agg #[.int .u32 f0, .int .u32 f1]
  e2 : D 2 → v19 = .agg #[.int .i64 1, .int .i64 1]
  m3 : D 3 → Made w1.heap.size 2 v6 w'
  m4 : D 4 → Made w1.heap.size 2 v7 w'
  m5 : D 5 → Made w1.heap.size 2 v8 w'
  n3_4 : D 3 → D 4 → v6 ≠ v7
  n3_5 : D 3 → D 5 → v6 ≠ v8
  n4_5 : D 4 → D 5 → v7 ≠ v8
  r6 : D 6 → ∃ b, v6 = .pointer (some ⟨b, 0, none⟩) ∧ b < w'.heap.size ∧ w'.rangeAt b 0 [.int .u32 f0, .int .u32 f1]
  r7 : D 7 → ∃ b, v7 = .pointer (some ⟨b, 0, none⟩) ∧ b < w'.heap.size ∧ w'.rangeAt b 0 [.int .u32 f0, .int .u32 f1]
  o6 : D 6 → D 3
  o7 : D 7 → D 4
theorem Hr4.s0 {w1 : World} {f0 f1 : Int} {D : Nat → Prop} {v6 v7 v8 v17 v18 v19 : Value} {w' w'' : World} (h : Hr4 w1 f0 f1 D v6 v7 v8 v17 v18 v19 w') (hb : Below w'.heap.size w' w'') : Hr4 w1 f0 f1 (fun j => D j ∨ j = 0) v6 v7 v8 (.agg #[.int .u32 f0, .int .u32 f1]) v18 v19 w'' :=
  ⟨bthen h.b hb, fun _ => rfl, or_keep h.e1 (by decide), or_keep h.e2 (by decide), or_keep (fun hd => (h.m3 hd).below hb) (by decide), or_keep (fun hd => (h.m4 hd).below hb) (by decide), or_keep (fun hd => (h.m5 hd).below hb) (by decide), or_keep2 h.n3_4 (by decide) (by decide), or_keep2 h.n3_5 (by decide) (by decide), or_keep2 h.n4_5 (by decide) (by decide), or_keep (fun hd => by obtain ⟨b, e, hl, hr⟩ := h.r6 hd; exact ⟨b, e, Nat.lt_of_lt_of_le hl hb.size, rangeAt_below hb hl hr⟩) (by decide), or_keep (fun hd => by obtain ⟨b, e, hl, hr⟩ := h.r7 hd; exact ⟨b, e, Nat.lt_of_lt_of_le hl hb.size, rangeAt_below hb hl hr⟩) (by decide), fun hd => .inl (h.o6 (hd.resolve_right (by decide))), fun hd => .inl (h.o7 (hd.resolve_right (by decide)))⟩
theorem Hr4.s1 {w1 : World} {f0 f1 : Int} {D : Nat → Prop} {v6 v7 v8 v17 v18 v19 : Value} {w' w'' : World} (h : Hr4 w1 f0 f1 D v6 v7 v8 v17 v18 v19 w') (hb : Below w'.heap.size w' w'') : Hr4 w1 f0 f1 (fun j => D j ∨ j = 1) v6 v7 v8 v17 (.agg #[.int .u32 f0, .int .u32 f1]) v19 w'' :=
  ⟨bthen h.b hb, or_keep h.e0 (by decide), fun _ => rfl, or_keep h.e2 (by decide), or_keep (fun hd => (h.m3 hd).below hb) (by decide), or_keep (fun hd => (h.m4 hd).below hb) (by decide), or_keep (fun hd => (h.m5 hd).below hb) (by decide), or_keep2 h.n3_4 (by decide) (by decide), or_keep2 h.n3_5 (by decide) (by decide), or_keep2 h.n4_5 (by decide) (by decide), or_keep (fun hd => by obtain ⟨b, e, hl, hr⟩ := h.r6 hd; exact ⟨b, e, Nat.lt_of_lt_of_le hl hb.size, rangeAt_below hb hl hr⟩) (by decide), or_keep (fun hd => by obtain ⟨b, e, hl, hr⟩ := h.r7 hd; exact ⟨b, e, Nat.lt_of_lt_of_le hl hb.size, rangeAt_below hb hl hr⟩) (by decide), fun hd => .inl (h.o6 (hd.resolve_right (by decide))), fun hd => .inl (h.o7 (hd.resolve_right (by decide)))⟩
theorem Hr4.s2 {w1 : World} {f0 f1 : Int} {D : Nat → Prop} {v6 v7 v8 v17 v18 v19 : Value} {w' w'' : World} (h : Hr4 w1 f0 f1 D v6 v7 v8 v17 v18 v19 w') (hb : Below w'.heap.size w' w'') : Hr4 w1 f0 f1 (fun j => D j ∨ j = 2) v6 v7 v8 v17 v18 (.agg #[.int .i64 1, .int .i64 1]) w'' :=
  ⟨bthen h.b hb, or_keep h.e0 (by decide), or_keep h.e1 (by decide), fun _ => rfl, or_keep (fun hd => (h.m3 hd).below hb) (by decide), or_keep (fun hd => (h.m4 hd).below hb) (by decide), or_keep (fun hd => (h.m5 hd).below hb) (by decide), or_keep2 h.n3_4 (by decide) (by decide), or_keep2 h.n3_5 (by decide) (by decide), or_keep2 h.n4_5 (by decide) (by decide), or_keep (fun hd => by obtain ⟨b, e, hl, hr⟩ := h.r6 hd; exact ⟨b, e, Nat.lt_of_lt_of_le hl hb.size, rangeAt_below hb hl hr⟩) (by decide), or_keep (fun hd => by obtain ⟨b, e, hl, hr⟩ := h.r7 hd; exact ⟨b, e, Nat.lt_of_lt_of_le hl hb.size, rangeAt_below hb hl hr⟩) (by decide), fun hd => .inl (h.o6 (hd.resolve_right (by decide))), fun hd => .inl (h.o7 (hd.resolve_right (by decide)))⟩
theorem Hr4.s3 {w1 : World} {f0 f1 : Int} {D : Nat → Prop} {v6 v7 v8 v17 v18 v19 : Value} {w' w'' : World} (h : Hr4 w1 f0 f1 D v6 v7 v8 v17 v18 v19 w') (hb : Below w'.heap.size w' w'') (hm : Made w1.heap.size 2 (.pointer (some ⟨w'.heap.size, 0, none⟩)) w'') (hn : ¬ D 3) : Hr4 w1 f0 f1 (fun j => D j ∨ j = 3) ((.pointer (some ⟨w'.heap.size, 0, none⟩))) v7 v8 v17 v18 v19 w'' :=
  ⟨bthen h.b hb, or_keep h.e0 (by decide), or_keep h.e1 (by decide), or_keep h.e2 (by decide), fun _ => hm, or_keep (fun hd => (h.m4 hd).below hb) (by decide), or_keep (fun hd => (h.m5 hd).below hb) (by decide), fun _ hd => ((h.m4 (hd.resolve_right (by decide))).ne).symm, fun _ hd => ((h.m5 (hd.resolve_right (by decide))).ne).symm, or_keep2 h.n4_5 (by decide) (by decide), fun hd => absurd (h.o6 (hd.resolve_right (by decide))) hn, or_keep (fun hd => by obtain ⟨b, e, hl, hr⟩ := h.r7 hd; exact ⟨b, e, Nat.lt_of_lt_of_le hl hb.size, rangeAt_below hb hl hr⟩) (by decide), fun _ => .inr rfl, fun hd => .inl (h.o7 (hd.resolve_right (by decide)))⟩
theorem Hr4.s4 {w1 : World} {f0 f1 : Int} {D : Nat → Prop} {v6 v7 v8 v17 v18 v19 : Value} {w' w'' : World} (h : Hr4 w1 f0 f1 D v6 v7 v8 v17 v18 v19 w') (hb : Below w'.heap.size w' w'') (hm : Made w1.heap.size 2 (.pointer (some ⟨w'.heap.size, 0, none⟩)) w'') (hn : ¬ D 4) : Hr4 w1 f0 f1 (fun j => D j ∨ j = 4) v6 ((.pointer (some ⟨w'.heap.size, 0, none⟩))) v8 v17 v18 v19 w'' :=
  ⟨bthen h.b hb, or_keep h.e0 (by decide), or_keep h.e1 (by decide), or_keep h.e2 (by decide), or_keep (fun hd => (h.m3 hd).below hb) (by decide), fun _ => hm, or_keep (fun hd => (h.m5 hd).below hb) (by decide), fun hd _ => (h.m3 (hd.resolve_right (by decide))).ne, or_keep2 h.n3_5 (by decide) (by decide), fun _ hd => ((h.m5 (hd.resolve_right (by decide))).ne).symm, or_keep (fun hd => by obtain ⟨b, e, hl, hr⟩ := h.r6 hd; exact ⟨b, e, Nat.lt_of_lt_of_le hl hb.size, rangeAt_below hb hl hr⟩) (by decide), fun hd => absurd (h.o7 (hd.resolve_right (by decide))) hn, fun hd => .inl (h.o6 (hd.resolve_right (by decide))), fun _ => .inr rfl⟩
theorem Hr4.s5 {w1 : World} {f0 f1 : Int} {D : Nat → Prop} {v6 v7 v8 v17 v18 v19 : Value} {w' w'' : World} (h : Hr4 w1 f0 f1 D v6 v7 v8 v17 v18 v19 w') (hb : Below w'.heap.size w' w'') (hm : Made w1.heap.size 2 (.pointer (some ⟨w'.heap.size, 0, none⟩)) w'') : Hr4 w1 f0 f1 (fun j => D j ∨ j = 5) v6 v7 ((.pointer (some ⟨w'.heap.size, 0, none⟩))) v17 v18 v19 w'' :=
  ⟨bthen h.b hb, or_keep h.e0 (by decide), or_keep h.e1 (by decide), or_keep h.e2 (by decide), or_keep (fun hd => (h.m3 hd).below hb) (by decide), or_keep (fun hd => (h.m4 hd).below hb) (by decide), fun _ => hm, or_keep2 h.n3_4 (by decide) (by decide), fun hd _ => (h.m3 (hd.resolve_right (by decide))).ne, fun hd _ => (h.m4 (hd.resolve_right (by decide))).ne, or_keep (fun hd => by obtain ⟨b, e, hl, hr⟩ := h.r6 hd; exact ⟨b, e, Nat.lt_of_lt_of_le hl hb.size, rangeAt_below hb hl hr⟩) (by decide), or_keep (fun hd => by obtain ⟨b, e, hl, hr⟩ := h.r7 hd; exact ⟨b, e, Nat.lt_of_lt_of_le hl hb.size, rangeAt_below hb hl hr⟩) (by decide), fun hd => .inl (h.o6 (hd.resolve_right (by decide))), fun hd => .inl (h.o7 (hd.resolve_right (by decide)))⟩
theorem Hr4.s6 {w1 : World} {f0 f1 : Int} {D : Nat → Prop} {v6 v7 v8 v17 v18 v19 : Value} {w' w'' : World} (h : Hr4 w1 f0 f1 D v6 v7 v8 v17 v18 v19 w') (hm : D 3) (hB : Below w1.heap.size w1 w'') (hth : ∀ b o n, w'.there b o n → w''.there b o n) (bi : Nat) (hbi : v6 = .pointer (some ⟨bi, 0, none⟩)) (hk : ∀ b' o' cs, b' ≠ bi → w'.rangeAt b' o' cs → w''.rangeAt b' o' cs) (hz : w'.heap.size ≤ w''.heap.size) (hr : ∃ b, v6 = .pointer (some ⟨b, 0, none⟩) ∧ b < w''.heap.size ∧ w''.rangeAt b 0 [.int .u32 f0, .int .u32 f1]) : Hr4 w1 f0 f1 (fun j => D j ∨ j = 6) v6 v7 v8 v17 v18 v19 w'' :=
  ⟨hB, or_keep h.e0 (by decide), or_keep h.e1 (by decide), or_keep h.e2 (by decide), or_keep (fun hd => by obtain ⟨b, e, hl, ht⟩ := h.m3 hd; exact ⟨b, e, hl, hth _ _ _ ht⟩) (by decide), or_keep (fun hd => by obtain ⟨b, e, hl, ht⟩ := h.m4 hd; exact ⟨b, e, hl, hth _ _ _ ht⟩) (by decide), or_keep (fun hd => by obtain ⟨b, e, hl, ht⟩ := h.m5 hd; exact ⟨b, e, hl, hth _ _ _ ht⟩) (by decide), or_keep2 h.n3_4 (by decide) (by decide), or_keep2 h.n3_5 (by decide) (by decide), or_keep2 h.n4_5 (by decide) (by decide), fun _ => hr, or_keep (fun hd => by obtain ⟨b, e, hl, hr'⟩ := h.r7 hd; exact ⟨b, e, Nat.lt_of_lt_of_le hl hz, hk _ _ _ (fun e' => h.n3_4 hm (h.o7 hd) (by rw [e, hbi, e'])) hr'⟩) (by decide), fun _ => .inl hm, or_keep (fun hd => .inl (h.o7 hd)) (by decide)⟩
theorem Hr4.s7 {w1 : World} {f0 f1 : Int} {D : Nat → Prop} {v6 v7 v8 v17 v18 v19 : Value} {w' w'' : World} (h : Hr4 w1 f0 f1 D v6 v7 v8 v17 v18 v19 w') (hm : D 4) (hB : Below w1.heap.size w1 w'') (hth : ∀ b o n, w'.there b o n → w''.there b o n) (bi : Nat) (hbi : v7 = .pointer (some ⟨bi, 0, none⟩)) (hk : ∀ b' o' cs, b' ≠ bi → w'.rangeAt b' o' cs → w''.rangeAt b' o' cs) (hz : w'.heap.size ≤ w''.heap.size) (hr : ∃ b, v7 = .pointer (some ⟨b, 0, none⟩) ∧ b < w''.heap.size ∧ w''.rangeAt b 0 [.int .u32 f0, .int .u32 f1]) : Hr4 w1 f0 f1 (fun j => D j ∨ j = 7) v6 v7 v8 v17 v18 v19 w'' :=
  ⟨hB, or_keep h.e0 (by decide), or_keep h.e1 (by decide), or_keep h.e2 (by decide), or_keep (fun hd => by obtain ⟨b, e, hl, ht⟩ := h.m3 hd; exact ⟨b, e, hl, hth _ _ _ ht⟩) (by decide), or_keep (fun hd => by obtain ⟨b, e, hl, ht⟩ := h.m4 hd; exact ⟨b, e, hl, hth _ _ _ ht⟩) (by decide), or_keep (fun hd => by obtain ⟨b, e, hl, ht⟩ := h.m5 hd; exact ⟨b, e, hl, hth _ _ _ ht⟩) (by decide), or_keep2 h.n3_4 (by decide) (by decide), or_keep2 h.n3_5 (by decide) (by decide), or_keep2 h.n4_5 (by decide) (by decide), or_keep (fun hd => by obtain ⟨b, e, hl, hr'⟩ := h.r6 hd; exact ⟨b, e, Nat.lt_of_lt_of_le hl hz, hk _ _ _ (fun e' => h.n3_4 (h.o6 hd) hm (by rw [e, hbi, e'])) hr'⟩) (by decide), fun _ => hr, or_keep (fun hd => .inl (h.o6 hd)) (by decide), fun _ => .inl hm⟩
theorem Hr4.zero (w1 : World) (f0 f1 : Int) (v6 v7 v8 v17 v18 v19 : Value) : Hr4 w1 f0 f1 (fun _ => False) v6 v7 v8 v17 v18 v19 w1.drew :=
  ⟨(Below.refl _ _).drew, fun h => h.elim, fun h => h.elim, fun h => h.elim, fun h => h.elim, fun h => h.elim, fun h => h.elim, fun h => h.elim, fun h => h.elim, fun h => h.elim, fun h => h.elim, fun h => h.elim, fun h => h.elim, fun h => h.elim⟩
theorem info43 : (Try.prog.info? 43).map (·.size) = some 2 := by kernel_rfl
theorem info54 : (Try.prog.info? 54).map (·.size) = some 2 := by kernel_rfl
theorem half0 (f0 f1 : Int) (h0 : 0 ≤ f0 ∧ f0 ≤ 4294967295) (h1 : 0 ≤ f1 ∧ f1 ≤ 4294967295) : Half sd0 f0 1 f1 f1 := ⟨sd0_wf, h0, h1, by decide, (fun h => by cases h), (fun h => by cases h)⟩
theorem Hs.back {W : World} {bt b6 b7 b8 dn en : Nat} {x y : Sd} {n no k ko w wo : Int} (h : Hs W bt b6 b7 b8 dn en x y n no k ko w wo) : ∃ (a b : Sd) (n0 n1 k0 k1 w0 w1 : Int), Hs W bt b6 b7 b8 0 1 a b n0 n1 k0 k1 w0 w1 := by
  rcases h.de with ⟨rfl, rfl⟩ | ⟨rfl, rfl⟩
  · exact ⟨_, _, _, _, _, _, _, _, h⟩
  · exact ⟨_, _, _, _, _, _, _, _, h.swap⟩
theorem rc {W : World} {b i : Nat} {l : List Value} {v : Value} (h : W.rangeAt b 0 l) (hi : l[i]? = some v) : W.cell? ⟨b, i, none⟩ = some v := by simpa using h i v hi
/-- As Iv, with one operation that makes a variable of some cells. -/
structure Ia (w1 : World) (val : Nat → Value) (ia sz : Nat) (D : Nat → Prop) (g : Nat → Value) (w' : World) : Prop where
  b : Below w1.heap.size w1 w'
  e : ∀ i, i ≠ ia → D i → g i = val i
  m : D ia → ∃ b, g ia = .pointer (some ⟨b, 0, none⟩) ∧ w1.heap.size ≤ b ∧ b < w'.heap.size ∧ w'.there b 0 (sz + 1)
theorem Ia.upd {w1 w' w'' : World} {val g : Nat → Value} {ia sz : Nat} {D : Nat → Prop} (h : Ia w1 val ia sz D g w') (i : Nat) (x : Value) (hb : Below w'.heap.size w' w'') (hv : i ≠ ia → x = val i) (hm : i = ia → ∃ b, x = .pointer (some ⟨b, 0, none⟩) ∧ w1.heap.size ≤ b ∧ b < w''.heap.size ∧ w''.there b 0 (sz + 1)) : Ia w1 val ia sz (fun j => D j ∨ j = i) (fun j => if j = i then x else g j) w'' := by
  refine ⟨bthen h.b hb, fun j hn hj => ?_, fun hj => ?_⟩
  · show (if j = i then x else g j) = val j
    by_cases hji : j = i
    · rw [if_pos hji, hv (hji ▸ hn), hji]
    · rw [if_neg hji]
      exact h.e j hn (hj.resolve_right hji)
  · by_cases hji : ia = i
    · rw [if_pos hji]
      exact hm hji.symm
    · rw [if_neg hji]
      obtain ⟨b, e, hl0, hl, hr⟩ := h.m (hj.resolve_right hji)
      exact ⟨b, e, hl0, Nat.lt_of_lt_of_le hl hb.size, there_below hb hl hr⟩
theorem Ia.zero (w1 : World) (val g : Nat → Value) (ia sz : Nat) : Ia w1 val ia sz (fun _ => False) g w1.drew := ⟨(Below.refl _ _).drew, fun _ _ h => h.elim, fun h => h.elim⟩
def hv13 (dn en p6 p8 bw : Nat) (n no lw wo out len win : Int) : List Value := [.int .u8 (dn : Int), .pointer (some ⟨p6, dn, none⟩), .int .u32 n, .int .u8 (dn : Int), .int .u8 (en : Int), .pointer (some ⟨p6, en, none⟩), .int .u32 no, .pointer (some ⟨bw, 1, none⟩), .int .u16 lw, .int .i64 lw, .int .u8 (dn : Int), .int .u8 (en : Int), .pointer (some ⟨p8, en, none⟩), .int .i64 wo, .int .i64 out, .int .i64 (wo - out), .int .i64 (wo - out + 1), .int .i64 len, .pointer (some ⟨bw, 3, none⟩), .int .u16 win, .int .i64 win, .agg (hpk n no win len), undef]
/-- The cells of the variables. -/
structure Hc (W : World) (bt b6 b7 b8 dn en : Nat) (T : Array Value) (n no k ko w wo : Int) : Prop where
  t : W.rangeAt bt 0 T.toList
  tt : W.there bt 0 10
  n6 : W.cell? ⟨b6, dn, none⟩ = some (.int .u32 n)
  o6 : W.cell? ⟨b6, en, none⟩ = some (.int .u32 no)
  t6 : W.there b6 0 2
  n7 : W.cell? ⟨b7, dn, none⟩ = some (.int .u32 k)
  o7 : W.cell? ⟨b7, en, none⟩ = some (.int .u32 ko)
  t7 : W.there b7 0 2
  n8 : W.cell? ⟨b8, dn, none⟩ = some (.int .i64 w)
  o8 : W.cell? ⟨b8, en, none⟩ = some (.int .i64 wo)
  t8 : W.there b8 0 2
theorem Hs.hc {W : World} {bt b6 b7 b8 dn en : Nat} {x y : Sd} {n no k ko w wo : Int} (h : Hs W bt b6 b7 b8 dn en x y n no k ko w wo) : Hc W bt b6 b7 b8 dn en (tk dn x y) n no k ko w wo := ⟨h.t, h.tt, h.n6, h.o6, h.t6, h.n7, h.o7, h.t7, h.n8, h.o8, h.t8⟩
theorem Hc.below {W W' : World} {bt b6 b7 b8 dn en : Nat} {T : Array Value} {n no k ko w wo : Int} (h : Hc W bt b6 b7 b8 dn en T n no k ko w wo) (hb : Below W.heap.size W W') : Hc W' bt b6 b7 b8 dn en T n no k ko w wo :=
  ⟨range_below hb (there_lt h.tt) h.t, there_below hb (there_lt h.tt) h.tt, kc hb h.n6, kc hb h.o6, there_below hb (there_lt h.t6) h.t6, kc hb h.n7, kc hb h.o7, there_below hb (there_lt h.t7) h.t7, kc hb h.n8, kc hb h.o8, there_below hb (there_lt h.t8) h.t8⟩
theorem Hc.put {W W' : World} {bt b6 b7 b8 dn en : Nat} {T T' : Array Value} {n no k ko w wo : Int} (h : Hc W bt b6 b7 b8 dn en T n no k ko w wo) (hr : W'.rangeAt bt 0 T'.toList) (hc : ∀ b' o', b' ≠ bt → W'.cell? ⟨b', o', none⟩ = W.cell? ⟨b', o', none⟩) (ht : ∀ b' o' n, W.there b' o' n → W'.there b' o' n) (h6 : b6 ≠ bt) (h7 : b7 ≠ bt) (h8 : b8 ≠ bt) : Hc W' bt b6 b7 b8 dn en T' n no k ko w wo :=
  ⟨hr, ht _ _ _ h.tt, (hc _ _ h6).trans h.n6, (hc _ _ h6).trans h.o6, ht _ _ _ h.t6, (hc _ _ h7).trans h.n7, (hc _ _ h7).trans h.o7, ht _ _ _ h.t7, (hc _ _ h8).trans h.n8, (hc _ _ h8).trans h.o8, ht _ _ _ h.t8⟩
theorem Hc.hs {W : World} {bt b6 b7 b8 dn en : Nat} {x y : Sd} {n no k ko w wo : Int} (h : Hc W bt b6 b7 b8 dn en (tk dn x y) n no k ko w wo) (de : (dn = 0 ∧ en = 1) ∨ (dn = 1 ∧ en = 0)) (hx : Half x n w no ko) (hy : Half y no wo n k) : Hs W bt b6 b7 b8 dn en x y n no k ko w wo := ⟨de, hx, hy, h.t, h.tt, h.n6, h.o6, h.t6, h.n7, h.o7, h.t7, h.n8, h.o8, h.t8⟩
theorem tk_hi (d : Nat) (x y : Sd) : (Try.prog.info? 29).map (·.size) = some (tk d x y).toList.length := by rw [Array.length_toList, tk_size]; exact info29
theorem tk_hs (d : Nat) (x y : Sd) : (Try.prog.info? 29).map (·.size) = some (tk d x y).size := by rw [tk_size]; exact info29
def hv18 (dn en p6 bt bg : Nat) (n no len win ee : Int) (y : Sd) : List Value := [.int .u8 (dn : Int), .pointer (some ⟨p6, dn, none⟩), .int .u32 n, .agg (hpk n no win len), .int .u32 len, .int .u32 ee]
def hv19 (dn en p6 bt bg : Nat) (n no len win ee : Int) (y : Sd) : List Value := [.agg (tk dn (hon n no len win) y), .int .u8 (dn : Int), .agg (hpk n no win len), .bool true, .bool false, .bool false, .int .u8 (dn : Int), .pointer (some ⟨bt, dn * 5, none⟩), .agg #[.bool true, .bool true, .int .u32 ee, .int .u32 no, .int .i64 win], .int .u32 ee, .int .u8 (dn : Int), .int .u8 (en : Int), .pointer (some ⟨p6, en, none⟩), .int .u32 no, .pointer (some ⟨bg, 11, none⟩), .int .i64 win, .agg #[.bool true, .bool true, .int .u32 ee, .int .u32 no, .int .i64 win], .bool false]
theorem Hc.set6 {W : World} {bt b6 b7 b8 dn en : Nat} {T : Array Value} {n no k ko w wo : Int} (h : Hc W bt b6 b7 b8 dn en T n no k ko w wo) (v' : Int) (ht : b6 ≠ bt) (h67 : b6 ≠ b7) (h68 : b6 ≠ b8) (h78 : b7 ≠ b8) (hne : dn ≠ en) : Hc (W.setCell ⟨b6, dn, none⟩ (.int .u32 v')) bt b6 b7 b8 dn en T v' no k ko w wo :=
  ⟨World.rangeAt_setCells_apart h.t b6 dn [.int .u32 v'] (.inl ht.symm), World.there_setCells h.tt b6 dn [.int .u32 v'], World.cell?_setCell_same' _ _ _ (by rw [h.n6]; rfl), (World.cell?_setCell_other _ _ _ _ (fun e => hne (by injection e))).trans h.o6, World.there_setCells h.t6 b6 dn [.int .u32 v'], (World.cell?_setCell_other _ _ _ _ (fun e => h67 (by injection e))).trans h.n7, (World.cell?_setCell_other _ _ _ _ (fun e => h67 (by injection e))).trans h.o7, World.there_setCells h.t7 b6 dn [.int .u32 v'], (World.cell?_setCell_other _ _ _ _ (fun e => h68 (by injection e))).trans h.n8, (World.cell?_setCell_other _ _ _ _ (fun e => h68 (by injection e))).trans h.o8, World.there_setCells h.t8 b6 dn [.int .u32 v']⟩
theorem Hc.set7 {W : World} {bt b6 b7 b8 dn en : Nat} {T : Array Value} {n no k ko w wo : Int} (h : Hc W bt b6 b7 b8 dn en T n no k ko w wo) (v' : Int) (ht : b7 ≠ bt) (h67 : b6 ≠ b7) (h68 : b6 ≠ b8) (h78 : b7 ≠ b8) (hne : dn ≠ en) : Hc (W.setCell ⟨b7, en, none⟩ (.int .u32 v')) bt b6 b7 b8 dn en T n no k v' w wo :=
  ⟨World.rangeAt_setCells_apart h.t b7 en [.int .u32 v'] (.inl ht.symm), World.there_setCells h.tt b7 en [.int .u32 v'], (World.cell?_setCell_other _ _ _ _ (fun e => h67.symm (by injection e))).trans h.n6, (World.cell?_setCell_other _ _ _ _ (fun e => h67.symm (by injection e))).trans h.o6, World.there_setCells h.t6 b7 en [.int .u32 v'], (World.cell?_setCell_other _ _ _ _ (fun e => hne.symm (by injection e))).trans h.n7, World.cell?_setCell_same' _ _ _ (by rw [h.o7]; rfl), World.there_setCells h.t7 b7 en [.int .u32 v'], (World.cell?_setCell_other _ _ _ _ (fun e => h78 (by injection e))).trans h.n8, (World.cell?_setCell_other _ _ _ _ (fun e => h78 (by injection e))).trans h.o8, World.there_setCells h.t8 b7 en [.int .u32 v']⟩
theorem Hc.set8 {W : World} {bt b6 b7 b8 dn en : Nat} {T : Array Value} {n no k ko w wo : Int} (h : Hc W bt b6 b7 b8 dn en T n no k ko w wo) (v' : Int) (ht : b8 ≠ bt) (h67 : b6 ≠ b7) (h68 : b6 ≠ b8) (h78 : b7 ≠ b8) (hne : dn ≠ en) : Hc (W.setCell ⟨b8, dn, none⟩ (.int .i64 v')) bt b6 b7 b8 dn en T n no k ko v' wo :=
  ⟨World.rangeAt_setCells_apart h.t b8 dn [.int .i64 v'] (.inl ht.symm), World.there_setCells h.tt b8 dn [.int .i64 v'], (World.cell?_setCell_other _ _ _ _ (fun e => h68.symm (by injection e))).trans h.n6, (World.cell?_setCell_other _ _ _ _ (fun e => h68.symm (by injection e))).trans h.o6, World.there_setCells h.t6 b8 dn [.int .i64 v'], (World.cell?_setCell_other _ _ _ _ (fun e => h78.symm (by injection e))).trans h.n7, (World.cell?_setCell_other _ _ _ _ (fun e => h78.symm (by injection e))).trans h.o7, World.there_setCells h.t7 b8 dn [.int .i64 v'], World.cell?_setCell_same' _ _ _ (by rw [h.n8]; rfl), (World.cell?_setCell_other _ _ _ _ (fun e => hne (by injection e))).trans h.o8, World.there_setCells h.t8 b8 dn [.int .i64 v']⟩
def hv22 (dn en p6 bt bg : Nat) (n no len win ee : Int) (y : Sd) : List Value := [.agg (tk dn (hon n no len win) y), .int .u8 (dn : Int), .int .u8 (en : Int), .int .u8 (dn : Int), .int .u8 (en : Int), .pointer (some ⟨p6, en, none⟩), .int .u32 no, .agg (pk 4 no 0 0 0), .bool true]
set_option maxRecDepth 100000 in
set_option maxHeartbeats 16000000 in
theorem honest_core (A : Option Addr) (css : List (List Value)) (nw cap m : Nat) (f0 f1 : Int) (w : World) (Hn : Hid (nw = css.length)) (hc : nw ≤ cap) (hmx : cap ≤ maxLen) (hm : (if 100 < (nw : Int) then (100 : Int) else nw) = m) (hm1 : m ≤ nw) (hm2 : m ≤ 100)
    (HRd : Hid (Rd w A 4 css)) (HA : Hid (∀ x ∈ css, All2 [some .u8, some .u16, some .i8, some .u16] x)) (HF0 : Hid (0 ≤ f0 ∧ f0 ≤ 4294967295)) (HF1 : Hid (0 ≤ f1 ∧ f1 ≤ 4294967295)) :
    Calls Try.prog 9 #[.slice A nw cap, .agg #[.int .u32 f0, .int .u32 f1]] w fun e w' => e = .returned (.bool true) ∧ Below w.heap.size w w' := by
  unfold maxLen at *
  go_enter Try.func9, Try.ntmps9
  go_wp2_with fail
  refine (awake_any _).mono ?_
  rintro e w1 ⟨rfl, hb1⟩
  have x0 := kc hb1 (a := ⟨w.heap.size, 0, none⟩) (v := .int .u32 f0) (by simp [go_sem])
  have x1 := kc hb1 (a := ⟨w.heap.size, 1, none⟩) (v := .int .u32 f1) (by simp [go_sem])
  have b1 : Below w.heap.size w w1 := bthen ((Below.refl _ _).alloc (Nat.le_refl _) _) hb1
  have hlt : w.heap.size < w1.heap.size := cell_lt x0
  clear hb1
  go_upto_region 4 with fail
  obtain ⟨W2, hW2⟩ : ∃ W, w1.alloc (.cells #[.bool false, .bool false, .int .u32 0, .int .u32 0, .int .i64 0, .bool false, .bool false, .int .u32 0, .int .u32 0, .int .i64 0] 29) = W := ⟨_, rfl⟩
  have bW : Below w1.heap.size w1 W2 := by rw [← hW2]; exact (Below.refl _ _).alloc (Nat.le_refl _) _
  have r2 : W2.rangeAt w1.heap.size 0 (tk 0 sd0 sd0).toList := by rw [← hW2]; exact range_new w1 _ _
  have t2 : W2.there w1.heap.size 0 10 := by rw [← hW2]; exact there_new _ _ _ _ _ rfl rfl
  have z2 : W2.heap.size = w1.heap.size + 1 := by rw [← hW2]; simp
  have y0 := kc bW x0
  have y1 := kc bW x1
  have b2 := bthen b1 bW
  rw [hW2]
  clear hW2 x0 x1 bW b1
  obtain ⟨bt, hbt⟩ : ∃ n, w1.heap.size = n := ⟨_, rfl⟩
  rw [hbt] at r2 t2 z2 hlt ⊢
  clear hbt
  have hl2 : w.heap.size < W2.heap.size := by omega
  obtain ⟨p0, hp0⟩ : ∃ p, w.heap.size = p := ⟨_, rfl⟩
  rw [hp0] at y0 y1 hl2 hlt ⊢
  go_cut [6, 7, 8] (fun v6 v7 v8 wx => ∃ p6 p7 p8 : Nat, v6 = .pointer (some ⟨p6, 0, none⟩) ∧ v7 = .pointer (some ⟨p7, 0, none⟩) ∧ v8 = .pointer (some ⟨p8, 0, none⟩) ∧ W2.heap.size ≤ p6 ∧ W2.heap.size ≤ p7 ∧ W2.heap.size ≤ p8 ∧ p6 ≠ p7 ∧ p6 ≠ p8 ∧ p7 ≠ p8 ∧ Below W2.heap.size W2 wx ∧ wx.cell? ⟨p6, 0, none⟩ = some (.int .u32 f0) ∧ wx.cell? ⟨p6, 1, none⟩ = some (.int .u32 f1) ∧ wx.there p6 0 2 ∧ wx.cell? ⟨p7, 0, none⟩ = some (.int .u32 f0) ∧ wx.cell? ⟨p7, 1, none⟩ = some (.int .u32 f1) ∧ wx.there p7 0 2 ∧ wx.cell? ⟨p8, 0, none⟩ = some (.int .i64 1) ∧ wx.cell? ⟨p8, 1, none⟩ = some (.int .i64 1) ∧ wx.there p8 0 2)
  case first =>
    refine wp_region_steps 8 [[], [], [], [], [], [], [3, 0], [4, 1]] (fun D a w' => ∃ v6 v7 v8 v17 v18 v19 : Value, a = ⟨#[.slice A nw cap, .agg #[.int .u32 f0, .int .u32 f1], undef, .pointer (some ⟨p0, 0, none⟩), .bool false, .pointer (some ⟨bt, 0, none⟩), v6, v7, v8, undef, undef, undef, undef, undef, undef, .bool true, .bool false, v17, v18, v19, undef, undef, undef, undef, undef, undef, undef, undef, undef, undef, undef, undef, undef, undef, undef, undef, undef, undef, undef, undef, undef, undef, undef, undef, undef, undef, undef, undef, undef, undef, undef, undef, undef, undef, undef, undef, undef, undef, undef, undef, undef, undef, undef, undef, undef, undef, undef, undef, undef, undef, undef, undef, undef, undef, undef, undef, undef, undef, undef, undef, undef, undef, undef, undef, undef, undef, undef, undef, undef, undef, undef, undef, undef, undef, undef, undef, undef, undef, undef, undef, undef, undef, undef, undef, undef, undef, undef, undef, undef, undef, undef, undef, undef, undef, undef, undef, undef, undef, undef, undef, undef, undef, undef, undef, undef, undef, undef, undef, undef, undef, undef, undef, undef, undef, undef, undef, undef, undef], []⟩ ∧ Hr4 W2 f0 f1 D v6 v7 v8 v17 v18 v19 w') (by kernel_rfl) (by kernel_rfl) ⟨undef, undef, undef, undef, undef, undef, rfl, Hr4.zero W2 f0 f1 (undef) (undef) (undef) (undef) (undef) (undef)⟩ ?_ ?_
    · simp only [List.take_succ_cons, List.take_zero]
      refine ⟨?_, ?_, ?_, ?_, ?_, ?_, ?_, ?_, trivial⟩
      · intro D a w' hn hp hI
        obtain ⟨v6, v7, v8, v17, v18, v19, rfl, hR⟩ := hI
        have z0 := kc hR.b y0
        have z1 := kc hR.b y1
        clear hn hp
        go_wp2_with fail
        exact ⟨_, _, _, _, _, _, rfl, hR.s0 (Below.refl _ _)⟩
      · intro D a w' hn hp hI
        obtain ⟨v6, v7, v8, v17, v18, v19, rfl, hR⟩ := hI
        have z0 := kc hR.b y0
        have z1 := kc hR.b y1
        clear hn hp
        go_wp2_with fail
        exact ⟨_, _, _, _, _, _, rfl, hR.s1 (Below.refl _ _)⟩
      · intro D a w' hn hp hI
        obtain ⟨v6, v7, v8, v17, v18, v19, rfl, hR⟩ := hI
        clear hn hp
        go_wp2_with fail
        exact ⟨_, _, _, _, _, _, rfl, hR.s2 (Below.refl _ _)⟩
      · intro D a w' hn hp hI
        obtain ⟨v6, v7, v8, v17, v18, v19, rfl, hR⟩ := hI
        clear hp
        go_wp2_with fail
        exact ⟨_, _, _, _, _, _, rfl, hR.s3 ((Below.refl _ _).alloc (Nat.le_refl _) _) ⟨_, rfl, hR.b.size, there_new _ _ _ _ _ rfl rfl⟩ hn⟩
      · intro D a w' hn hp hI
        obtain ⟨v6, v7, v8, v17, v18, v19, rfl, hR⟩ := hI
        clear hp
        go_wp2_with fail
        exact ⟨_, _, _, _, _, _, rfl, hR.s4 ((Below.refl _ _).alloc (Nat.le_refl _) _) ⟨_, rfl, hR.b.size, there_new _ _ _ _ _ rfl rfl⟩ hn⟩
      · intro D a w' hn hp hI
        obtain ⟨v6, v7, v8, v17, v18, v19, rfl, hR⟩ := hI
        clear hp
        go_wp2_with fail
        exact ⟨_, _, _, _, _, _, rfl, hR.s5 ((Below.refl _ _).alloc (Nat.le_refl _) _) ⟨_, rfl, hR.b.size, there_new _ _ _ _ _ rfl rfl⟩⟩
      · intro D a w' hn hp hI
        obtain ⟨v6, v7, v8, v17, v18, v19, rfl, hR⟩ := hI
        obtain rfl := hR.e0 hp.2.1
        have hm := hp.1
        obtain ⟨b5, rfl, l5, t5⟩ := hR.m3 hm
        refine wpList_store_wide 43 (.tmp 6) (.tmp 17) rfl rfl b5 0 #[.int .u32 f0, .int .u32 f1] rfl rfl W2.heap.size W2 info43 (by simp [Value.oneCell']) hR.b l5 t5 ?_
        intro W1 dW zW RW kW tW cW
        have lt5 : b5 < W1.heap.size := by rw [zW]; exact there_lt t5
        go_wp2_with fail
        exact ⟨_, _, _, _, _, _, rfl, hR.s6 hm dW tW b5 rfl kW (Nat.le_of_eq zW.symm) ⟨b5, rfl, lt5, RW⟩⟩
      · intro D a w' hn hp hI
        obtain ⟨v6, v7, v8, v17, v18, v19, rfl, hR⟩ := hI
        obtain rfl := hR.e1 hp.2.1
        have hm := hp.1
        obtain ⟨b5, rfl, l5, t5⟩ := hR.m4 hm
        refine wpList_store_wide 43 (.tmp 7) (.tmp 18) rfl rfl b5 0 #[.int .u32 f0, .int .u32 f1] rfl rfl W2.heap.size W2 info43 (by simp [Value.oneCell']) hR.b l5 t5 ?_
        intro W1 dW zW RW kW tW cW
        have lt5 : b5 < W1.heap.size := by rw [zW]; exact there_lt t5
        go_wp2_with fail
        exact ⟨_, _, _, _, _, _, rfl, hR.s7 hm dW tW b5 rfl kW (Nat.le_of_eq zW.symm) ⟨b5, rfl, lt5, RW⟩⟩
    intro D a w' hD hI
    obtain ⟨v6, v7, v8, v17, v18, v19, rfl, hR⟩ := hI
    have n34 := hR.n3_4 (hD 3 (by decide)) (hD 4 (by decide))
    have n35 := hR.n3_5 (hD 3 (by decide)) (hD 5 (by decide))
    have n45 := hR.n4_5 (hD 4 (by decide)) (hD 5 (by decide))
    obtain ⟨p6, rfl, q6, s6⟩ := hR.m3 (hD 3 (by decide))
    obtain ⟨p7, rfl, q7, s7⟩ := hR.m4 (hD 4 (by decide))
    obtain ⟨p8, rfl, q8, s8⟩ := hR.m5 (hD 5 (by decide))
    obtain ⟨p6', h6, _, c6⟩ := hR.r6 (hD 6 (by decide))
    obtain ⟨p7', h7, _, c7⟩ := hR.r7 (hD 7 (by decide))
    obtain rfl := hR.e2 (hD 2 (by decide))
    obtain rfl : p6 = p6' := by injection h6 with h; injection h with h; injection h
    obtain rfl : p7 = p7' := by injection h7 with h; injection h with h; injection h
    have hb := hR.b
    have m34 : p6 ≠ p7 := fun e => n34 (by rw [e])
    have m35 : p6 ≠ p8 := fun e => n35 (by rw [e])
    have m45 : p7 ≠ p8 := fun e => n45 (by rw [e])
    clear hD hR
    simp only [List.drop_succ_cons, List.drop_zero]
    refine wpList_store_wide 54 (.tmp 8) (.tmp 19) rfl rfl p8 0 #[.int .i64 1, .int .i64 1] rfl rfl W2.heap.size W2 info54 (by simp [Value.oneCell']) hb q8 s8 ?_
    intro W1 dW zW RW kW tW cW
    have c6' := kW _ _ _ m35 c6
    have c7' := kW _ _ _ m45 c7
    have s6' := tW _ _ _ s6
    have s7' := tW _ _ _ s7
    have s8' := tW _ _ _ s8
    clear kW tW cW
    go_wp2_with fail
    go_meet
    exact ⟨p6, p7, p8, rfl, rfl, rfl, q6, q7, q8, m34, m35, m45, dW, rc c6' rfl, rc c6' rfl, s6', rc c7' rfl, rc c7' rfl, s7', rc RW rfl, rc RW rfl, s8'⟩
  case rest =>
    obtain ⟨p6, p7, p8, rfl, rfl, rfl, q6, q7, q8, m67, m68, m78, bc, a0, a1, s6, c0, c1, s7, e0, e1, s8⟩ := hcut
    have hl0 : bt < W2.heap.size := by omega
    have H0 : Hs wc bt p6 p7 p8 0 1 sd0 sd0 f0 f1 f0 f1 1 1 := ⟨.inl ⟨rfl, rfl⟩, half0 f0 f1 HF0.out HF1.out, half0 f1 f0 HF1.out HF0.out, range_below bc hl0 r2, there_below bc hl0 t2, a0, a1, s6, c0, c1, s7, e0, e1, s8⟩
    have b3 := bthen b2 bc
    have hk6 : w.heap.size ≤ p6 := by omega
    have hk7 : w.heap.size ≤ p7 := by omega
    have hk8 : w.heap.size ≤ p8 := by omega
    have hkt : w.heap.size ≤ bt := by omega
    have ht6 : p6 ≠ bt := by omega
    have ht7 : p7 ≠ bt := by omega
    have ht8 : p8 ≠ bt := by omega
    clear bc a0 a1 s6 c0 c1 s7 e0 e1 s8 r2 t2 q6 q7 q8 z2 y0 y1 b2 hl2 hl0 hlt
    go_wp2_with fail
    go_loopw [26] (fun i wr => ∃ j : Nat, j ≤ m ∧ i = .int .i64 j ∧ Below w.heap.size w wr ∧ ∃ (a b : Sd) (n0 n1 k0 k1 w0 w1 : Int), Hs wr bt p6 p7 p8 0 1 a b n0 n1 k0 k1 w0 w1) (fun i _ => m - (intOf i).toNat)
    case atStart => exact ⟨0, Nat.zero_le _, rfl, b3, sd0, sd0, f0, f1, f0, f1, 1, 1, H0⟩
    case round =>
      clear b3 H0
      obtain ⟨j, hj, rfl, hb, a, b, n0, n1, k0, k1, w0, w1, HS0⟩ := hrel
      by_cases hjl : j < m
      · obtain ⟨cs, hcs⟩ : ∃ cs, css[j]? = some cs := ⟨_, List.getElem?_eq_getElem (by have := Hn.out; omega)⟩
        obtain ⟨q, off, rfl, hlt, hcell⟩ := (HRd.out.below hb).mem (by rintro rfl; simp at hcs)
        obtain ⟨way, r0, rfl, wa, ha⟩ := all2_int (HA.out cs (List.mem_of_getElem? hcs))
        obtain ⟨lw, r1, rfl, wb, hb1⟩ := all2_int ha
        obtain ⟨bk, r2, rfl, wc', hc1⟩ := all2_int hb1
        obtain ⟨win, r3, rfl, wd, hd1⟩ := all2_int hc1
        obtain rfl := all2_nil hd1
        have way1 := bounds_u8 wa
        have hlw := bounds_u16 wb
        have hwin := bounds_u16 wd
        have z0 := hcell j _ hcs 0 _ rfl
        have z1 := hcell j _ hcs 1 _ rfl
        have z2 := hcell j _ hcs 2 _ rfl
        have z3 := hcell j _ hcs 3 _ rfl
        rw [Nat.add_zero] at z0
        obtain ⟨dn, en, x, y, n, no, k, ko, wx, wo, hdn, HS⟩ : ∃ (dn en : Nat) (x y : Sd) (n no k ko wx wo : Int), bits .and .u8 way 1 = (dn : Int) ∧ Hs wr bt p6 p7 p8 dn en x y n no k ko wx wo := by
          rcases and1 way way1 with h | h
          · exact ⟨0, 1, a, b, n0, n1, k0, k1, w0, w1, h, HS0⟩
          · exact ⟨1, 0, b, a, n1, n0, k1, k0, w1, w0, h, HS0.swap⟩
        clear HS0 hcell hcs wa wb wc' wd ha hb1 hc1 hd1 way1 hlt
        have hjm : (j : Int) < (m : Int) := by omega
        have hjd : decide ((j : Int) < (m : Int)) = true := by simpa using hjl
        have hde := HS.de
        have D0 : (0 : Int) ≤ (dn : Int) := by omega
        have D1 : (dn : Int) < 2 := by omega
        have E0 : (0 : Int) ≤ (en : Int) := by omega
        have E1 : (en : Int) < 2 := by omega
        have hds : IntKind.u8.wrap (1 - (dn : Int)) = (en : Int) := by unfold IntKind.wrap; simp [IntKind.bits, IntKind.signed]; omega
        have hds2 : (1 : Int) - (dn : Int) = (en : Int) := by omega
        have hne : dn ≠ en := by omega
        go_upto_region 9 with fail
        obtain ⟨V, hV⟩ : ∃ V, wr.alloc (.cells #[.int .u8 way, .int .u16 lw, .int .i8 bk, .int .u16 win] 46) = V := ⟨_, rfl⟩
        have dV : Below wr.heap.size wr V := by rw [← hV]; exact (Below.refl _ _).alloc (Nat.le_refl _) _
        have RW : V.rangeAt wr.heap.size 0 [.int .u8 way, .int .u16 lw, .int .i8 bk, .int .u16 win] := by rw [← hV]; exact range_new wr _ _
        have HS1 := HS.below dV
        have bV := bthen hb dV
        have zw : wr.heap.size < V.heap.size := by rw [← hV]; simp
        rw [hV]
        obtain ⟨bw, hbw⟩ : ∃ n, wr.heap.size = n := ⟨_, rfl⟩
        rw [hbw] at RW zw ⊢
        clear hV hbw HS dV hb z0 z1 z2 z3
        have n6 := HS1.n6
        have n7 := HS1.n7
        obtain ⟨o, ho⟩ : ∃ o, (n - k) % 4294967296 = o := ⟨_, rfl⟩
        have ho' : IntKind.u32.wrap (n - k) = o := by rw [IntKind.wrap_u32']; exact ho
        go_quiet (fail)
        generalize hV2 : World.drewN V _ = V2
        have dV2 : Below V.heap.size V V2 := hV2 ▸ below_drewN (Below.refl _ _) _
        have HS2 := HS1.below dV2
        have RW2 := range_below dV2 zw RW
        have b2 := bthen bV dV2
        have zw2 : bw < V2.heap.size := Nat.lt_of_lt_of_le zw dV2.size
        obtain ⟨ya, hya⟩ : ∃ b, y.acked = b := ⟨_, rfl⟩
        have cy : V2.cell? ⟨bt, en * 5 + 1, none⟩ = some (.bool ya) := rc HS2.t (tk_oth x y hde 1 _ (by rw [← hya]; rfl))
        have o8 := HS2.o8
        obtain ⟨bg, hbg⟩ : ∃ b, decide (wo ≤ o) = b := ⟨_, rfl⟩
        clear hV2 dV2 HS1 RW bV zw n6 n7 ho' V
        go_upto_if 46 with fail
        go_cut [12] (fun v wx => ∃ out : Int, v = .int .i64 out ∧ wx = V2 ∧ (out = if wo ≤ o then 0 else o) ∧ (wo ≤ o → y.acked = false))
        case first =>
          cases bg
          · have hlt : ¬ wo ≤ o := of_decide_eq_false hbg
            go_wp2_with fail
            go_meet
            exact ⟨o, rfl, rfl, by rw [if_neg (by omega)], fun h => by omega⟩
          · have hge : wo ≤ o := of_decide_eq_true hbg
            cases ya
            · go_wp2_with fail
              go_meet
              exact ⟨0, rfl, rfl, by rw [if_pos (by omega)], fun _ => hya⟩
            · go_wp2_with fail
              go_roundw
              case rel => exact ⟨j + 1, by omega, by go_num, b2, HS2.back⟩
              case measure => simp [intOf]; omega
        case rest =>
          obtain ⟨out, rfl, hwc, hout, hnac⟩ := hcut
          subst hwc
          generalize wc = V3 at *
          clear cy o8 hbg hya
          go_wp2_with fail
          have hwr := HS2.hy.hw
          have hob : 0 ≤ o ∧ o ≤ 4294967295 := by omega
          have hout1 : 0 ≤ out ∧ out ≤ wo := by
            rw [hout]
            split <;> omega
          obtain ⟨len, hlen⟩ : ∃ len, lw.tmod (wo - out + 1) = len := ⟨_, rfl⟩
          have hlen1 : 0 ≤ len ∧ len ≤ wo - out := by
            rw [← hlen, Int.tmod_eq_emod_of_nonneg (by omega)]
            have h1 := Int.emod_nonneg lw (show wo - out + 1 ≠ 0 by omega)
            have h2 := Int.emod_lt_of_pos lw (show 0 < wo - out + 1 by omega)
            omega
          have HRn : Rnd x y n no wx wo k ko out len win := ⟨HS2.hx, HS2.hy, by rw [hout, ← ho]; rfl, fun h => hnac (by rw [← ho]; exact h), hlen1, hwin⟩
          have hlw2 := HRn.len_le
          have hdv : wo - out + 1 ≠ 0 := by omega
          have hdv2 : (wo - out + 1 == 0) = false := by simp; omega
          have hlx : IntKind.i64.wrap len = len := IntWalk.i64_in _ (by omega)
          have v6 := HS2.n6
          have u6 := HS2.o6
          have u8 := HS2.o8
          have rw1 := rc RW2 (i := 1) rfl
          have rw3 := rc RW2 (i := 3) rfl
          clear hob hout hnac
          refine wp_region_steps 23 [[], [0], [1], [], [3], [4], [5], [], [7], [8], [], [10], [11], [12], [], [13, 14], [15], [9, 16], [], [18], [19], [2, 6, 17, 20], []] (fun D a w' => ∃ g : Nat → Value, a = ⟨#[.slice (some ⟨q, off, none⟩) nw cap, .agg #[.int .u32 f0, .int .u32 f1], undef, .pointer (some ⟨p0, 0, none⟩), u4, .pointer (some ⟨bt, 0, none⟩), .pointer (some ⟨p6, 0, none⟩), .pointer (some ⟨p7, 0, none⟩), .pointer (some ⟨p8, 0, none⟩), undef, .pointer (some ⟨bw, 0, none⟩), .int .u8 ↑dn, .int .i64 out, g 22, u14, u15, u16, u17, u18, u19, .slice (some ⟨q, off, none⟩) nw cap, .slice (some ⟨q, off, none⟩) nw cap, .int .i64 ↑nw, .int .i64 ↑m, .slice (some ⟨q, off, none⟩) m cap, .int .i64 ↑m, .int .i64 ↑j, u27, u28, u29, u30, u31, u32, u33, u34, u35, u36, u37, u38, u39, u40, u41, u42, u43, u44, u45, u46, u47, u48, u49, u50, u51, g 0, g 1, g 2, g 3, g 4, g 5, g 6, g 7, g 8, g 9, g 10, g 11, g 12, g 13, g 14, g 15, g 16, g 17, g 18, g 19, g 20, g 21, u74, u75, u76, u77, u78, u79, u80, u81, u82, u83, u84, u85, u86, u87, u88, u89, u90, u91, u92, u93, u94, u95, u96, u97, u98, u99, u100, u101, u102, u103, u104, u105, u106, u107, u108, u109, u110, u111, u112, u113, u114, u115, u116, u117, u118, u119, u120, u121, u122, u123, u124, u125, u126, u127, u128, u129, u130, u131, u132, u133, u134, u135, u136, u137], []⟩ ∧ Ia V3 (fun i => (hv13 dn en p6 p8 bw n no lw wo out len win).getD i undef) 22 18 D g w') (by kernel_rfl) (by kernel_rfl) ⟨fun i => if i = 0 then u52 else if i = 1 then u53 else if i = 2 then u54 else if i = 3 then u55 else if i = 4 then u56 else if i = 5 then u57 else if i = 6 then u58 else if i = 7 then u59 else if i = 8 then u60 else if i = 9 then u61 else if i = 10 then u62 else if i = 11 then u63 else if i = 12 then u64 else if i = 13 then u65 else if i = 14 then u66 else if i = 15 then u67 else if i = 16 then u68 else if i = 17 then u69 else if i = 18 then u70 else if i = 19 then u71 else if i = 20 then u72 else if i = 21 then u73 else if i = 22 then u13 else undef, rfl, Ia.zero V3 _ _ 22 18⟩ ?_ ?_
          · simp only [List.take_succ_cons, List.take_zero]
            refine ⟨?_, ?_, ?_, ?_, ?_, ?_, ?_, ?_, ?_, ?_, ?_, ?_, ?_, ?_, ?_, ?_, ?_, ?_, ?_, ?_, ?_, ?_, ?_, trivial⟩
            · intro D a w' hn hp hI
              obtain ⟨g, rfl, hR⟩ := hI
              clear hn hp
              go_wp2_with fail
              exact ⟨fun ix => if ix = 0 then .int .u8 (dn : Int) else g ix, by rfl, hR.upd 0 _ (Below.refl _ _) (fun _ => rfl) (fun h => absurd h (by decide))⟩
            · intro D a w' hn hp hI
              obtain ⟨g, rfl, hR⟩ := hI
              have e0 : g 0 = .int .u8 (dn : Int) := hR.e 0 (by decide) hp.1
              rw [e0]
              clear hn hp
              go_wp2_with fail
              exact ⟨fun ix => if ix = 1 then .pointer (some ⟨p6, dn, none⟩) else g ix, by simp [e0], hR.upd 1 _ (Below.refl _ _) (fun _ => rfl) (fun h => absurd h (by decide))⟩
            · intro D a w' hn hp hI
              obtain ⟨g, rfl, hR⟩ := hI
              have e1 : g 1 = .pointer (some ⟨p6, dn, none⟩) := hR.e 1 (by decide) hp.1
              rw [e1]
              have cc := kc hR.b v6
              clear hn hp
              go_wp2_with fail
              exact ⟨fun ix => if ix = 2 then .int .u32 n else g ix, by simp [e1], hR.upd 2 _ (Below.refl _ _) (fun _ => rfl) (fun h => absurd h (by decide))⟩
            · intro D a w' hn hp hI
              obtain ⟨g, rfl, hR⟩ := hI
              clear hn hp
              go_wp2_with fail
              exact ⟨fun ix => if ix = 3 then .int .u8 (dn : Int) else g ix, by rfl, hR.upd 3 _ (Below.refl _ _) (fun _ => rfl) (fun h => absurd h (by decide))⟩
            · intro D a w' hn hp hI
              obtain ⟨g, rfl, hR⟩ := hI
              have e3 : g 3 = .int .u8 (dn : Int) := hR.e 3 (by decide) hp.1
              rw [e3]
              clear hn hp
              go_wp2_with fail
              exact ⟨fun ix => if ix = 4 then .int .u8 (en : Int) else g ix, by simp [e3], hR.upd 4 _ (Below.refl _ _) (fun _ => rfl) (fun h => absurd h (by decide))⟩
            · intro D a w' hn hp hI
              obtain ⟨g, rfl, hR⟩ := hI
              have e4 : g 4 = .int .u8 (en : Int) := hR.e 4 (by decide) hp.1
              rw [e4]
              clear hn hp
              go_wp2_with fail
              exact ⟨fun ix => if ix = 5 then .pointer (some ⟨p6, en, none⟩) else g ix, by simp [e4], hR.upd 5 _ (Below.refl _ _) (fun _ => rfl) (fun h => absurd h (by decide))⟩
            · intro D a w' hn hp hI
              obtain ⟨g, rfl, hR⟩ := hI
              have e5 : g 5 = .pointer (some ⟨p6, en, none⟩) := hR.e 5 (by decide) hp.1
              rw [e5]
              have cc := kc hR.b u6
              clear hn hp
              go_wp2_with fail
              exact ⟨fun ix => if ix = 6 then .int .u32 no else g ix, by simp [e5], hR.upd 6 _ (Below.refl _ _) (fun _ => rfl) (fun h => absurd h (by decide))⟩
            · intro D a w' hn hp hI
              obtain ⟨g, rfl, hR⟩ := hI
              clear hn hp
              go_wp2_with fail
              exact ⟨fun ix => if ix = 7 then .pointer (some ⟨bw, 1, none⟩) else g ix, by rfl, hR.upd 7 _ (Below.refl _ _) (fun _ => rfl) (fun h => absurd h (by decide))⟩
            · intro D a w' hn hp hI
              obtain ⟨g, rfl, hR⟩ := hI
              have e7 : g 7 = .pointer (some ⟨bw, 1, none⟩) := hR.e 7 (by decide) hp.1
              rw [e7]
              have cc := kc hR.b rw1
              clear hn hp
              go_wp2_with fail
              exact ⟨fun ix => if ix = 8 then .int .u16 lw else g ix, by simp [e7], hR.upd 8 _ (Below.refl _ _) (fun _ => rfl) (fun h => absurd h (by decide))⟩
            · intro D a w' hn hp hI
              obtain ⟨g, rfl, hR⟩ := hI
              have e8 : g 8 = .int .u16 lw := hR.e 8 (by decide) hp.1
              rw [e8]
              clear hn hp
              go_wp2_with fail
              exact ⟨fun ix => if ix = 9 then .int .i64 lw else g ix, by simp [e8], hR.upd 9 _ (Below.refl _ _) (fun _ => rfl) (fun h => absurd h (by decide))⟩
            · intro D a w' hn hp hI
              obtain ⟨g, rfl, hR⟩ := hI
              clear hn hp
              go_wp2_with fail
              exact ⟨fun ix => if ix = 10 then .int .u8 (dn : Int) else g ix, by rfl, hR.upd 10 _ (Below.refl _ _) (fun _ => rfl) (fun h => absurd h (by decide))⟩
            · intro D a w' hn hp hI
              obtain ⟨g, rfl, hR⟩ := hI
              have e10 : g 10 = .int .u8 (dn : Int) := hR.e 10 (by decide) hp.1
              rw [e10]
              clear hn hp
              go_wp2_with fail
              exact ⟨fun ix => if ix = 11 then .int .u8 (en : Int) else g ix, by simp [e10], hR.upd 11 _ (Below.refl _ _) (fun _ => rfl) (fun h => absurd h (by decide))⟩
            · intro D a w' hn hp hI
              obtain ⟨g, rfl, hR⟩ := hI
              have e11 : g 11 = .int .u8 (en : Int) := hR.e 11 (by decide) hp.1
              rw [e11]
              clear hn hp
              go_wp2_with fail
              exact ⟨fun ix => if ix = 12 then .pointer (some ⟨p8, en, none⟩) else g ix, by simp [e11], hR.upd 12 _ (Below.refl _ _) (fun _ => rfl) (fun h => absurd h (by decide))⟩
            · intro D a w' hn hp hI
              obtain ⟨g, rfl, hR⟩ := hI
              have e12 : g 12 = .pointer (some ⟨p8, en, none⟩) := hR.e 12 (by decide) hp.1
              rw [e12]
              have cc := kc hR.b u8
              clear hn hp
              go_wp2_with fail
              exact ⟨fun ix => if ix = 13 then .int .i64 wo else g ix, by simp [e12], hR.upd 13 _ (Below.refl _ _) (fun _ => rfl) (fun h => absurd h (by decide))⟩
            · intro D a w' hn hp hI
              obtain ⟨g, rfl, hR⟩ := hI
              clear hn hp
              go_wp2_with fail
              exact ⟨fun ix => if ix = 14 then .int .i64 out else g ix, by rfl, hR.upd 14 _ (Below.refl _ _) (fun _ => rfl) (fun h => absurd h (by decide))⟩
            · intro D a w' hn hp hI
              obtain ⟨g, rfl, hR⟩ := hI
              have e13 : g 13 = .int .i64 wo := hR.e 13 (by decide) hp.1
              have e14 : g 14 = .int .i64 out := hR.e 14 (by decide) hp.2.1
              rw [e13, e14]
              clear hn hp
              go_wp2_with fail
              exact ⟨fun ix => if ix = 15 then .int .i64 (wo - out) else g ix, by simp [e13, e14], hR.upd 15 _ (Below.refl _ _) (fun _ => rfl) (fun h => absurd h (by decide))⟩
            · intro D a w' hn hp hI
              obtain ⟨g, rfl, hR⟩ := hI
              have e15 : g 15 = .int .i64 (wo - out) := hR.e 15 (by decide) hp.1
              rw [e15]
              clear hn hp
              go_wp2_with fail
              exact ⟨fun ix => if ix = 16 then .int .i64 (wo - out + 1) else g ix, by simp [e15], hR.upd 16 _ (Below.refl _ _) (fun _ => rfl) (fun h => absurd h (by decide))⟩
            · intro D a w' hn hp hI
              obtain ⟨g, rfl, hR⟩ := hI
              have e9 : g 9 = .int .i64 lw := hR.e 9 (by decide) hp.1
              have e16 : g 16 = .int .i64 (wo - out + 1) := hR.e 16 (by decide) hp.2.1
              rw [e9, e16]
              clear hn hp
              go_wp2_with fail
              exact ⟨fun ix => if ix = 17 then .int .i64 len else g ix, by simp [e9, e16], hR.upd 17 _ (Below.refl _ _) (fun _ => rfl) (fun h => absurd h (by decide))⟩
            · intro D a w' hn hp hI
              obtain ⟨g, rfl, hR⟩ := hI
              clear hn hp
              go_wp2_with fail
              exact ⟨fun ix => if ix = 18 then .pointer (some ⟨bw, 3, none⟩) else g ix, by rfl, hR.upd 18 _ (Below.refl _ _) (fun _ => rfl) (fun h => absurd h (by decide))⟩
            · intro D a w' hn hp hI
              obtain ⟨g, rfl, hR⟩ := hI
              have e18 : g 18 = .pointer (some ⟨bw, 3, none⟩) := hR.e 18 (by decide) hp.1
              rw [e18]
              have cc := kc hR.b rw3
              clear hn hp
              go_wp2_with fail
              exact ⟨fun ix => if ix = 19 then .int .u16 win else g ix, by simp [e18], hR.upd 19 _ (Below.refl _ _) (fun _ => rfl) (fun h => absurd h (by decide))⟩
            · intro D a w' hn hp hI
              obtain ⟨g, rfl, hR⟩ := hI
              have e19 : g 19 = .int .u16 win := hR.e 19 (by decide) hp.1
              rw [e19]
              clear hn hp
              go_wp2_with fail
              exact ⟨fun ix => if ix = 20 then .int .i64 win else g ix, by simp [e19], hR.upd 20 _ (Below.refl _ _) (fun _ => rfl) (fun h => absurd h (by decide))⟩
            · intro D a w' hn hp hI
              obtain ⟨g, rfl, hR⟩ := hI
              have e2 : g 2 = .int .u32 n := hR.e 2 (by decide) hp.1
              have e6 : g 6 = .int .u32 no := hR.e 6 (by decide) hp.2.1
              have e17 : g 17 = .int .i64 len := hR.e 17 (by decide) hp.2.2.1
              have e20 : g 20 = .int .i64 win := hR.e 20 (by decide) hp.2.2.2.1
              rw [e2, e6, e17, e20]
              clear hn hp
              go_wp2_with fail
              exact ⟨fun ix => if ix = 21 then .agg (hpk n no win len) else g ix, by simp [e2, e6, e17, e20, hpk], hR.upd 21 _ (Below.refl _ _) (fun _ => rfl) (fun h => absurd h (by decide))⟩
            · intro D a w' hn hp hI
              obtain ⟨g, rfl, hR⟩ := hI
              clear hn hp
              go_wp2_with fail
              exact ⟨fun ix => if ix = 22 then .pointer (some ⟨w'.heap.size, 0, none⟩) else g ix, by rfl, hR.upd 22 _ ((Below.refl _ _).alloc (Nat.le_refl _) _) (fun h => absurd rfl h) (fun _ => ⟨_, rfl, hR.b.size, by simp, there_new _ _ _ _ _ rfl rfl⟩)⟩
          intro D a w' hD hI
          obtain ⟨g13, rfl, hR⟩ := hI
          have e21 : g13 21 = .agg (hpk n no win len) := hR.e 21 (by decide) (hD 21 (by decide))
          obtain ⟨bg, e22, lg0, lg, tg⟩ := hR.m (hD 22 (by decide))
          rw [e21, e22]
          have dR := hR.b
          clear hD hR e21 e22 v6 u6 u8 rw1 rw3
          simp only [List.drop_succ_cons, List.drop_zero]
          refine wpList_store_wide 34 (.tmp 13) (.tmp 73) rfl rfl bg 0 (hpk n no win len) rfl rfl V3.heap.size V3 (by rw [info34]; rfl) (by simp [hpk, Value.oneCell']) dR lg0 tg ?_
          intro X dX zX RG kX tX cX
          have HS3 := HS2.below dX
          have b3 := bthen b2 dX
          have zg : bg < X.heap.size := by omega
          have hkg : w.heap.size ≤ bg := by have := b2.size; omega
          have hgt : bg ≠ bt := by have := there_lt HS2.tt; omega
          have hg6 : bg ≠ p6 := by have := there_lt HS2.t6; omega
          have hg7 : bg ≠ p7 := by have := there_lt HS2.t7; omega
          have hg8 : bg ≠ p8 := by have := there_lt HS2.t8; omega
          clear kX tX cX dX zX dR lg0 lg tg HS2 b2 RW2 zw2
          have hG := fa_hpk n no win len HRn.hx.hn HRn.hy.hn hwin ⟨hlen1.1, hlw2⟩
          have HG := Lib.hid hG
          have HFit1 : Hid (∀ W, Calls Try.prog 17 #[.agg (tk dn x y), .int .u8 (dn : Int), .agg (hpk n no win len)] W fun e w' => e = .returned (.bool true) ∧ Below W.heap.size W w') := fun W => HRn.fits ▸ fits_tk x y (hpk n no win len) 16 n no win len W hde hG HRn.hy.wf
          have HFit2 : Hid (∀ W, Calls Try.prog 17 #[.agg (tk dn (hon n no len win) y), .int .u8 (dn : Int), .agg (hpk n no win len)] W fun e w' => e = .returned (.bool true) ∧ Below W.heap.size W w') := fun W => HRn.fits ▸ fits_tk (hon n no len win) y (hpk n no win len) 16 n no win len W hde hG HRn.hy.wf
          have HSee1 : Hid (∀ W, Calls Try.prog 14 #[.agg (tk dn x y), .int .u8 (dn : Int), .agg (hpk n no win len)] W fun e w' => e = .returned (.agg (tk dn (hon n no len win) y)) ∧ Below W.heap.size W w') := fun W => HRn.sees ▸ see_tk x y (hpk n no win len) 16 n no win len W hde hG HRn.hx.wf
          have HSee2 : Hid (∀ W, Calls Try.prog 14 #[.agg (tk dn (hon n no len win) y), .int .u8 (dn : Int), .agg (hpk n no win len)] W fun e w' => e = .returned (.agg (tk dn (hon n no len win) y)) ∧ Below W.heap.size W w') := fun W => by have := see_tk (hon n no len win) y (hpk n no win len) 16 n no win len W hde hG HRn.own.wf; rwa [HRn.see2] at this
          have HRoom : Hid (∀ W, Calls Try.prog 18 #[.agg (hpk n no win len)] W fun e w' => e = .returned (.int .u32 len) ∧ Below W.heap.size W w') := fun W => by have := room_below (hpk n no win len) 16 n no win len hG W; rwa [room16 len ⟨hlen1.1, hlw2⟩] at this
          have HBel : Hid (∀ W, Calls Try.prog 16 #[.agg (tk dn (hon n no len win) y), .int .u8 (en : Int), .agg (pk 4 no 0 0 0)] W fun e w' => e = .returned (.bool true) ∧ Below W.heap.size W w') := fun W => by have := believe_tk (hon n no len win) y (pk 4 no 0 0 0) 4 no 0 0 0 W hde (fa_pk 4 no 0 0 0 (by decide) HRn.hy.hn (by decide) (by decide) (by decide)) HRn.own.wf; rwa [HRn.believed] at this
          have HRN := Lib.hid HRn
          have HC3 := HS3.hc
          have RT3 := HC3.t
          clear hG HRn HS3
          go_wp2_with (first | (refine wpList_load_wide 29 _ rfl (by rfl) _ _ rfl (tk dn x y) _ Try.underlying29 rfl (tk_hi dn x y) ?_ ?_; · with_reducible assumption) | (refine wpList_load_wide 34 _ rfl (by rfl) _ _ rfl (hpk n no win len) _ Try.underlying34 rfl HG.out.hi ?_ ?_; · with_reducible assumption))
          refine (HFit1.out _).mono ?_
          rintro e w4 ⟨rfl, hb4⟩
          have HC4 := HC3.below hb4
          have RT4 := HC4.t
          have RG4 := range_below hb4 zg RG
          have b4 := bthen b3 hb4
          have zg4 := Nat.lt_of_lt_of_le zg hb4.size
          clear HC3 RT3 RG b3 hb4 zg HFit1
          go_wp2_with (first | (refine wpList_load_wide 29 _ rfl (by rfl) _ _ rfl (tk dn x y) _ Try.underlying29 rfl (tk_hi dn x y) ?_ ?_; · with_reducible assumption) | (refine wpList_load_wide 34 _ rfl (by rfl) _ _ rfl (hpk n no win len) _ Try.underlying34 rfl HG.out.hi ?_ ?_; · with_reducible assumption))
          refine (HSee1.out _).mono ?_
          rintro e w5 ⟨rfl, hb5⟩
          have HC5 := HC4.below hb5
          have TT5 := HC5.tt
          have RG5 := range_below hb5 zg4 RG4
          have b5 := bthen b4 hb5
          have zg5 := Nat.lt_of_lt_of_le zg4 hb5.size
          clear HC4 RT4 RG4 b4 hb5 zg4 HSee1
          go_wp2_with (first | (refine wpList_load_wide 29 _ rfl (by rfl) _ _ rfl (tk dn (hon n no len win) y) _ Try.underlying29 rfl (tk_hi dn (hon n no len win) y) ?_ ?_; · with_reducible assumption) | (refine wpList_load_wide 34 _ rfl (by rfl) _ _ rfl (hpk n no win len) _ Try.underlying34 rfl HG.out.hi ?_ ?_; · with_reducible assumption) | (refine wpList_store_wide 29 (.tmp 5) (.tmp 82) rfl rfl bt 0 (tk dn (hon n no len win) y) rfl rfl w.heap.size w (tk_hs dn (hon n no len win) y) (tk_one _ _ _) ?_ ?_ ?_ ?_; (· with_reducible assumption); (· with_reducible assumption); (· rw [tk_size]; with_reducible exact TT5); intro X6 b6 zX RT6 kX tX cX; have HC6 := HC5.put RT6 cX tX ht6 ht7 ht8; have RG6 := kX _ _ _ hgt RG5; have zg6 : bg < X6.heap.size := (by rw [zX]; assumption); clear kX tX cX zX))
          refine (HSee2.out _).mono ?_
          rintro e w7 ⟨rfl, hb7⟩
          have HC7 := HC6.below hb7
          have TT7 := HC7.tt
          have RG7 := range_below hb7 zg6 RG6
          have b7 := bthen b6 hb7
          have zg7 := Nat.lt_of_lt_of_le zg6 hb7.size
          clear HC6 RT6 RG6 b6 hb7 zg6 HSee2 TT5 HC5 RG5 b5 zg5
          go_wp2_with (first | (refine wpList_store_wide 29 (.tmp 5) (.tmp 86) rfl rfl bt 0 (tk dn (hon n no len win) y) rfl rfl w.heap.size w (tk_hs dn (hon n no len win) y) (tk_one _ _ _) ?_ ?_ ?_ ?_; (· with_reducible assumption); (· with_reducible assumption); (· rw [tk_size]; with_reducible exact TT7); intro X8 b8 zX RT8 kX tX cX; have HC8 := HC7.put RT8 cX tX ht6 ht7 ht8; have RG8 := kX _ _ _ hgt RG7; have zg8 : bg < X8.heap.size := (by rw [zX]; assumption); clear kX tX cX zX))
          clear HC7 TT7 RG7 b7 zg7
          obtain ⟨ee, hee⟩ : ∃ x, (n + len) % 4294967296 = x := ⟨_, rfl⟩
          have hee' : IntKind.u32.wrap (n + len) = ee := by rw [IntKind.wrap_u32']; exact hee
          have heer : 0 ≤ ee ∧ ee ≤ 4294967295 := by omega
          have a6 := HC8.n6
          have o6 := HC8.o6
          have hb0 : X8.cell? ⟨bt, dn * 5, none⟩ = some (.bool true) := rc RT8 (tk_own _ y hde 0 _ rfl)
          have hb1 : X8.cell? ⟨bt, dn * 5 + 1, none⟩ = some (.bool true) := rc RT8 (tk_own _ y hde 1 _ rfl)
          have hb2 : X8.cell? ⟨bt, dn * 5 + 2, none⟩ = some (.int .u32 ee) := rc RT8 (tk_own _ y hde 2 _ (by rw [← hee]; rfl))
          have hb3 : X8.cell? ⟨bt, dn * 5 + 3, none⟩ = some (.int .u32 no) := rc RT8 (tk_own _ y hde 3 _ rfl)
          have hb4 : X8.cell? ⟨bt, dn * 5 + 4, none⟩ = some (.int .i64 win) := rc RT8 (tk_own _ y hde 4 _ rfl)
          have hg11 : X8.cell? ⟨bg, 11, none⟩ = some (.int .i64 win) := rc RG8 rfl
          have hneq := fun W => hon_neq ⟨true, true, ee, no, win⟩ W
          have HNEQ := Lib.hid hneq
          clear hneq
          refine wp_region_steps 6 [[], [0], [1], [], [3], [2, 4]] (fun D a w' => ∃ g : Nat → Value, a = ⟨#[.slice (some ⟨q, off, none⟩) nw cap, .agg #[.int .u32 f0, .int .u32 f1], undef, .pointer (some ⟨p0, 0, none⟩), u4, .pointer (some ⟨bt, 0, none⟩), .pointer (some ⟨p6, 0, none⟩), .pointer (some ⟨p7, 0, none⟩), .pointer (some ⟨p8, 0, none⟩), undef, .pointer (some ⟨bw, 0, none⟩), .int .u8 ↑dn, .int .i64 out, .pointer (some ⟨bg, 0, none⟩), u14, u15, u16, u17, u18, u19, .slice (some ⟨q, off, none⟩) nw cap, .slice (some ⟨q, off, none⟩) nw cap, .int .i64 ↑nw, .int .i64 ↑m, .slice (some ⟨q, off, none⟩) m cap, .int .i64 ↑m, .int .i64 ↑j, u27, u28, u29, u30, u31, u32, u33, u34, u35, u36, u37, u38, u39, u40, u41, u42, u43, u44, u45, u46, u47, u48, u49, u50, u51, g13 0, g13 1, g13 2, g13 3, g13 4, g13 5, g13 6, g13 7, g13 8, g13 9, g13 10, g13 11, g13 12, g13 13, g13 14, g13 15, g13 16, g13 17, g13 18, g13 19, g13 20, .agg (hpk n no win len), .agg (tk dn x y), .int .u8 ↑dn, .agg (hpk n no win len), .bool true, .bool false, .agg (tk dn x y), .int .u8 ↑dn, .agg (hpk n no win len), .agg (tk dn (hon n no len win) y), .agg (tk dn (hon n no len win) y), .int .u8 ↑dn, .agg (hpk n no win len), .agg (tk dn (hon n no len win) y), g 0, g 1, g 2, g 3, g 4, g 5, u93, u94, u95, u96, u97, u98, u99, u100, u101, u102, u103, u104, u105, u106, u107, u108, u109, u110, u111, u112, u113, u114, u115, u116, u117, u118, u119, u120, u121, u122, u123, u124, u125, u126, u127, u128, u129, u130, u131, u132, u133, u134, u135, u136, u137], []⟩ ∧ Iv X8 (fun i => (hv18 dn en p6 bt bg n no len win ee y).getD i undef) D g w') (by kernel_rfl) (by kernel_rfl) ⟨fun i => if i = 0 then u87 else if i = 1 then u88 else if i = 2 then u89 else if i = 3 then u90 else if i = 4 then u91 else if i = 5 then u92 else undef, rfl, Iv.zero X8 _ _⟩ ?_ ?_
          · simp only [List.take_succ_cons, List.take_zero]
            refine ⟨?_, ?_, ?_, ?_, ?_, ?_, trivial⟩
            · intro D a w' hn hp hI
              obtain ⟨g, rfl, hR⟩ := hI
              clear hn hp
              go_wp2_with fail
              exact ⟨fun ix => if ix = 0 then .int .u8 (dn : Int) else g ix, by rfl, hR.step 0 _ rfl (Below.refl _ _)⟩
            · intro D a w' hn hp hI
              obtain ⟨g, rfl, hR⟩ := hI
              have e0 : g 0 = .int .u8 (dn : Int) := hR.e 0 hp.1
              rw [e0]
              clear hn hp
              go_wp2_with fail
              exact ⟨fun ix => if ix = 1 then .pointer (some ⟨p6, dn, none⟩) else g ix, by simp [e0], hR.step 1 _ rfl (Below.refl _ _)⟩
            · intro D a w' hn hp hI
              obtain ⟨g, rfl, hR⟩ := hI
              have e1 : g 1 = .pointer (some ⟨p6, dn, none⟩) := hR.e 1 hp.1
              rw [e1]
              have cc := kc hR.b a6
              clear hn hp
              go_wp2_with fail
              exact ⟨fun ix => if ix = 2 then .int .u32 n else g ix, by simp [e1], hR.step 2 _ rfl (Below.refl _ _)⟩
            · intro D a w' hn hp hI
              obtain ⟨g, rfl, hR⟩ := hI
              have rr := range_below hR.b zg8 RG8
              clear hn hp
              go_wp2_with (first | (refine wpList_load_wide 34 _ rfl (by rfl) _ _ rfl (hpk n no win len) _ Try.underlying34 rfl HG.out.hi ?_ ?_; · with_reducible assumption))
              exact ⟨fun ix => if ix = 3 then .agg (hpk n no win len) else g ix, by rfl, hR.step 3 _ rfl (Below.refl _ _)⟩
            · intro D a w' hn hp hI
              obtain ⟨g, rfl, hR⟩ := hI
              have e3 : g 3 = .agg (hpk n no win len) := hR.e 3 hp.1
              rw [e3]
              clear hn hp
              go_wp2_with fail
              refine (HRoom.out _).mono ?_
              rintro e w'' ⟨rfl, hb9⟩
              go_wp2_with fail
              exact ⟨fun ix => if ix = 4 then .int .u32 len else g ix, by simp [e3], hR.step 4 _ rfl hb9⟩
            · intro D a w' hn hp hI
              obtain ⟨g, rfl, hR⟩ := hI
              have e2 : g 2 = .int .u32 n := hR.e 2 hp.1
              have e4 : g 4 = .int .u32 len := hR.e 4 hp.2.1
              rw [e2, e4]
              clear hn hp
              go_wp2_with fail
              exact ⟨fun ix => if ix = 5 then .int .u32 ee else g ix, by simp [e2, e4], hR.step 5 _ rfl (Below.refl _ _)⟩
          intro D a w' hD hI
          obtain ⟨g18, rfl, hR⟩ := hI
          have e5 : g18 5 = .int .u32 ee := hR.e 5 (hD 5 (by decide))
          rw [e5]
          have dR := hR.b
          clear hD hR e5
          simp only [List.drop_succ_cons, List.drop_zero]
          generalize w' = Y at *
          have HC9 := HC8.below dR
          have RT9 := HC9.t
          have RG9 := range_below dR zg8 RG8
          have b9 := bthen b8 dR
          have zg9 := Nat.lt_of_lt_of_le zg8 dR.size
          have i6 := kc dR o6
          have ib0 := kc dR hb0
          have ib1 := kc dR hb1
          have ib2 := kc dR hb2
          have ib3 := kc dR hb3
          have ib4 := kc dR hb4
          have ig11 := kc dR hg11
          clear HC8 RT8 RG8 b8 zg8 a6 o6 hb0 hb1 hb2 hb3 hb4 hg11 dR HRoom hee'
          go_wp2_with fail
          refine wp_region_steps 18 [[], [], [], [0, 1, 2], [3], [4], [5], [5, 6], [5, 7], [5], [5], [5, 10], [5, 11], [5, 12], [5], [5, 14], [5, 9, 13, 15], [5, 8, 16]] (fun D a w' => ∃ g : Nat → Value, a = ⟨#[.slice (some ⟨q, off, none⟩) nw cap, .agg #[.int .u32 f0, .int .u32 f1], undef, .pointer (some ⟨p0, 0, none⟩), u4, .pointer (some ⟨bt, 0, none⟩), .pointer (some ⟨p6, 0, none⟩), .pointer (some ⟨p7, 0, none⟩), .pointer (some ⟨p8, 0, none⟩), undef, .pointer (some ⟨bw, 0, none⟩), .int .u8 ↑dn, .int .i64 out, .pointer (some ⟨bg, 0, none⟩), .int .u32 ee, u15, u16, u17, u18, u19, .slice (some ⟨q, off, none⟩) nw cap, .slice (some ⟨q, off, none⟩) nw cap, .int .i64 ↑nw, .int .i64 ↑m, .slice (some ⟨q, off, none⟩) m cap, .int .i64 ↑m, .int .i64 ↑j, u27, u28, u29, u30, u31, u32, u33, u34, u35, u36, u37, u38, u39, u40, u41, u42, u43, u44, u45, u46, u47, u48, u49, u50, u51, g13 0, g13 1, g13 2, g13 3, g13 4, g13 5, g13 6, g13 7, g13 8, g13 9, g13 10, g13 11, g13 12, g13 13, g13 14, g13 15, g13 16, g13 17, g13 18, g13 19, g13 20, .agg (hpk n no win len), .agg (tk dn x y), .int .u8 ↑dn, .agg (hpk n no win len), .bool true, .bool false, .agg (tk dn x y), .int .u8 ↑dn, .agg (hpk n no win len), .agg (tk dn (hon n no len win) y), .agg (tk dn (hon n no len win) y), .int .u8 ↑dn, .agg (hpk n no win len), .agg (tk dn (hon n no len win) y), g18 0, g18 1, g18 2, g18 3, g18 4, .int .u32 ee, g 0, g 1, g 2, g 3, g 4, g 5, g 6, g 7, g 8, g 9, g 10, g 11, g 12, g 13, g 14, g 15, g 16, g 17, u111, u112, u113, u114, u115, u116, u117, u118, u119, u120, u121, u122, u123, u124, u125, u126, u127, u128, u129, u130, u131, u132, u133, u134, u135, u136, u137], []⟩ ∧ Iv Y (fun i => (hv19 dn en p6 bt bg n no len win ee y).getD i undef) D g w') (by kernel_rfl) (by kernel_rfl) ⟨fun i => if i = 0 then u93 else if i = 1 then u94 else if i = 2 then u95 else if i = 3 then u96 else if i = 4 then u97 else if i = 5 then u98 else if i = 6 then u99 else if i = 7 then u100 else if i = 8 then u101 else if i = 9 then u102 else if i = 10 then u103 else if i = 11 then u104 else if i = 12 then u105 else if i = 13 then u106 else if i = 14 then u107 else if i = 15 then u108 else if i = 16 then u109 else if i = 17 then u110 else undef, rfl, Iv.zero Y _ _⟩ ?_ ?_
          · simp only [List.take_succ_cons, List.take_zero]
            refine ⟨?_, ?_, ?_, ?_, ?_, ?_, ?_, ?_, ?_, ?_, ?_, ?_, ?_, ?_, ?_, ?_, ?_, ?_, trivial⟩
            · intro D a w' hn hp hI
              obtain ⟨g, rfl, hR⟩ := hI
              have rr := range_below hR.b (there_lt HC9.tt) RT9
              clear hn hp
              go_wp2_with (first | (refine wpList_load_wide 29 _ rfl (by rfl) _ _ rfl (tk dn (hon n no len win) y) _ Try.underlying29 rfl (tk_hi dn (hon n no len win) y) ?_ ?_; · with_reducible assumption))
              exact ⟨fun ix => if ix = 0 then .agg (tk dn (hon n no len win) y) else g ix, by rfl, hR.step 0 _ rfl (Below.refl _ _)⟩
            · intro D a w' hn hp hI
              obtain ⟨g, rfl, hR⟩ := hI
              clear hn hp
              go_wp2_with fail
              exact ⟨fun ix => if ix = 1 then .int .u8 (dn : Int) else g ix, by rfl, hR.step 1 _ rfl (Below.refl _ _)⟩
            · intro D a w' hn hp hI
              obtain ⟨g, rfl, hR⟩ := hI
              have rr := range_below hR.b zg9 RG9
              clear hn hp
              go_wp2_with (first | (refine wpList_load_wide 34 _ rfl (by rfl) _ _ rfl (hpk n no win len) _ Try.underlying34 rfl HG.out.hi ?_ ?_; · with_reducible assumption))
              exact ⟨fun ix => if ix = 2 then .agg (hpk n no win len) else g ix, by rfl, hR.step 2 _ rfl (Below.refl _ _)⟩
            · intro D a w' hn hp hI
              obtain ⟨g, rfl, hR⟩ := hI
              have e0 : g 0 = .agg (tk dn (hon n no len win) y) := hR.e 0 hp.1
              have e1 : g 1 = .int .u8 (dn : Int) := hR.e 1 hp.2.1
              have e2 : g 2 = .agg (hpk n no win len) := hR.e 2 hp.2.2.1
              rw [e0, e1, e2]
              clear hn hp
              go_wp2_with fail
              refine (HFit2.out _).mono ?_
              rintro e w'' ⟨rfl, hb9⟩
              go_wp2_with fail
              exact ⟨fun ix => if ix = 3 then .bool true else g ix, by simp [e0, e1, e2], hR.step 3 _ rfl hb9⟩
            · intro D a w' hn hp hI
              obtain ⟨g, rfl, hR⟩ := hI
              have e3 : g 3 = .bool true := hR.e 3 hp.1
              rw [e3]
              clear hn hp
              go_wp2_with fail
              exact ⟨fun ix => if ix = 4 then .bool false else g ix, by simp [e3], hR.step 4 _ rfl (Below.refl _ _)⟩
            · intro D a w' hn hp hI
              obtain ⟨g, rfl, hR⟩ := hI
              have e4 : g 4 = .bool false := hR.e 4 hp.1
              rw [e4]
              clear hn hp
              go_wp2_with fail
              exact ⟨fun ix => if ix = 5 then .bool false else g ix, by simp [e4], hR.step 5 _ rfl (Below.refl _ _)⟩
            · intro D a w' hn hp hI
              obtain ⟨g, rfl, hR⟩ := hI
              have e5 : g 5 = .bool false := hR.e 5 hp.1
              rw [e5]
              clear hn hp
              go_wp2_with fail
              exact ⟨fun ix => if ix = 6 then .int .u8 (dn : Int) else g ix, by simp [e5], hR.step 6 _ rfl (Below.refl _ _)⟩
            · intro D a w' hn hp hI
              obtain ⟨g, rfl, hR⟩ := hI
              have e5 : g 5 = .bool false := hR.e 5 hp.1
              have e6 : g 6 = .int .u8 (dn : Int) := hR.e 6 hp.2.1
              rw [e5, e6]
              clear hn hp
              go_wp2_with fail
              exact ⟨fun ix => if ix = 7 then .pointer (some ⟨bt, dn * 5, none⟩) else g ix, by simp [e5, e6], hR.step 7 _ rfl (Below.refl _ _)⟩
            · intro D a w' hn hp hI
              obtain ⟨g, rfl, hR⟩ := hI
              have e5 : g 5 = .bool false := hR.e 5 hp.1
              have e7 : g 7 = .pointer (some ⟨bt, dn * 5, none⟩) := hR.e 7 hp.2.1
              rw [e5, e7]
              have cc0 := kc hR.b ib0
              have cc1 := kc hR.b ib1
              have cc2 := kc hR.b ib2
              have cc3 := kc hR.b ib3
              have cc4 := kc hR.b ib4
              clear hn hp
              go_wp2_with fail
              exact ⟨fun ix => if ix = 8 then .agg #[.bool true, .bool true, .int .u32 ee, .int .u32 no, .int .i64 win] else g ix, by simp [e5, e7], hR.step 8 _ rfl (Below.refl _ _)⟩
            · intro D a w' hn hp hI
              obtain ⟨g, rfl, hR⟩ := hI
              have e5 : g 5 = .bool false := hR.e 5 hp.1
              rw [e5]
              clear hn hp
              go_wp2_with fail
              exact ⟨fun ix => if ix = 9 then .int .u32 ee else g ix, by simp [e5], hR.step 9 _ rfl (Below.refl _ _)⟩
            · intro D a w' hn hp hI
              obtain ⟨g, rfl, hR⟩ := hI
              have e5 : g 5 = .bool false := hR.e 5 hp.1
              rw [e5]
              clear hn hp
              go_wp2_with fail
              exact ⟨fun ix => if ix = 10 then .int .u8 (dn : Int) else g ix, by simp [e5], hR.step 10 _ rfl (Below.refl _ _)⟩
            · intro D a w' hn hp hI
              obtain ⟨g, rfl, hR⟩ := hI
              have e5 : g 5 = .bool false := hR.e 5 hp.1
              have e10 : g 10 = .int .u8 (dn : Int) := hR.e 10 hp.2.1
              rw [e5, e10]
              clear hn hp
              go_wp2_with fail
              exact ⟨fun ix => if ix = 11 then .int .u8 (en : Int) else g ix, by simp [e5, e10], hR.step 11 _ rfl (Below.refl _ _)⟩
            · intro D a w' hn hp hI
              obtain ⟨g, rfl, hR⟩ := hI
              have e5 : g 5 = .bool false := hR.e 5 hp.1
              have e11 : g 11 = .int .u8 (en : Int) := hR.e 11 hp.2.1
              rw [e5, e11]
              clear hn hp
              go_wp2_with fail
              exact ⟨fun ix => if ix = 12 then .pointer (some ⟨p6, en, none⟩) else g ix, by simp [e5, e11], hR.step 12 _ rfl (Below.refl _ _)⟩
            · intro D a w' hn hp hI
              obtain ⟨g, rfl, hR⟩ := hI
              have e5 : g 5 = .bool false := hR.e 5 hp.1
              have e12 : g 12 = .pointer (some ⟨p6, en, none⟩) := hR.e 12 hp.2.1
              rw [e5, e12]
              have cc := kc hR.b i6
              clear hn hp
              go_wp2_with fail
              exact ⟨fun ix => if ix = 13 then .int .u32 no else g ix, by simp [e5, e12], hR.step 13 _ rfl (Below.refl _ _)⟩
            · intro D a w' hn hp hI
              obtain ⟨g, rfl, hR⟩ := hI
              have e5 : g 5 = .bool false := hR.e 5 hp.1
              rw [e5]
              clear hn hp
              go_wp2_with fail
              exact ⟨fun ix => if ix = 14 then .pointer (some ⟨bg, 11, none⟩) else g ix, by simp [e5], hR.step 14 _ rfl (Below.refl _ _)⟩
            · intro D a w' hn hp hI
              obtain ⟨g, rfl, hR⟩ := hI
              have e5 : g 5 = .bool false := hR.e 5 hp.1
              have e14 : g 14 = .pointer (some ⟨bg, 11, none⟩) := hR.e 14 hp.2.1
              rw [e5, e14]
              have cc := kc hR.b ig11
              clear hn hp
              go_wp2_with fail
              exact ⟨fun ix => if ix = 15 then .int .i64 win else g ix, by simp [e5, e14], hR.step 15 _ rfl (Below.refl _ _)⟩
            · intro D a w' hn hp hI
              obtain ⟨g, rfl, hR⟩ := hI
              have e5 : g 5 = .bool false := hR.e 5 hp.1
              have e9 : g 9 = .int .u32 ee := hR.e 9 hp.2.1
              have e13 : g 13 = .int .u32 no := hR.e 13 hp.2.2.1
              have e15 : g 15 = .int .i64 win := hR.e 15 hp.2.2.2.1
              rw [e5, e9, e13, e15]
              clear hn hp
              go_wp2_with fail
              exact ⟨fun ix => if ix = 16 then .agg #[.bool true, .bool true, .int .u32 ee, .int .u32 no, .int .i64 win] else g ix, by simp [e5, e9, e13, e15], hR.step 16 _ rfl (Below.refl _ _)⟩
            · intro D a w' hn hp hI
              obtain ⟨g, rfl, hR⟩ := hI
              have e5 : g 5 = .bool false := hR.e 5 hp.1
              have e8 : g 8 = .agg #[.bool true, .bool true, .int .u32 ee, .int .u32 no, .int .i64 win] := hR.e 8 hp.2.1
              have e16 : g 16 = .agg #[.bool true, .bool true, .int .u32 ee, .int .u32 no, .int .i64 win] := hR.e 16 hp.2.2.1
              rw [e5, e8, e16]
              clear hn hp
              have heq := HNEQ.out
              go_wp2_with fail
              exact ⟨fun ix => if ix = 17 then .bool false else g ix, by simp [e5, e8, e16], hR.step 17 _ rfl (Below.refl _ _)⟩
          intro D a w' hD hI
          obtain ⟨g19, rfl, hR⟩ := hI
          have e5 : g19 5 = .bool false := hR.e 5 (hD 5 (by decide))
          have e17 : g19 17 = .bool false := hR.e 17 (hD 17 (by decide))
          rw [e5, e17]
          have dR := hR.b
          clear hD hR e5 e17
          simp only [List.drop_succ_cons, List.drop_zero]
          generalize w' = Z at *
          have HCa := HC9.below dR
          have RTa := HCa.t
          have RGa := range_below dR zg9 RG9
          have ba := bthen b9 dR
          have zga := Nat.lt_of_lt_of_le zg9 dR.size
          clear HC9 RT9 RG9 b9 zg9 i6 ib0 ib1 ib2 ib3 ib4 dR HFit2
          go_wp2_with fail
          have k6 := HCa.n6
          have l6 := HCa.o6
          have k7 := HCa.o7
          have k8 := HCa.n8
          have fz6 : Z.frozen? ⟨p6, dn, none⟩ = false := by simpa using (HCa.t6 dn (by omega)).2
          have fz7 : Z.frozen? ⟨p7, en, none⟩ = false := by simpa using (HCa.t7 en (by omega)).2
          have fz8 : Z.frozen? ⟨p8, dn, none⟩ = false := by simpa using (HCa.t8 dn (by omega)).2
          have hg11 : Z.cell? ⟨bg, 11, none⟩ = some (.int .i64 win) := rc RGa rfl
          obtain ⟨mx, hmx⟩ : ∃ mx, (if 1 < win then win else (1 : Int)) = mx := ⟨_, rfl⟩
          have hne2 := hne.symm
          go_region
          have HQ := (((HCa.set6 ee ht6 m67 m68 m78 hne).set7 no ht7 m67 m68 m78 hne).set8 mx ht8 m67 m68 m78 hne).below ((Below.refl _ _).drew)
          have bq : Below w.heap.size w ((((Z.setCell ⟨p6, dn, none⟩ (.int .u32 ee)).setCell ⟨p7, en, none⟩ (.int .u32 no)).setCell ⟨p8, dn, none⟩ (.int .i64 mx)).drew) := (((ba.setCell (p := ⟨p6, dn, none⟩) hk6 _).setCell (p := ⟨p7, en, none⟩) hk7 _).setCell (p := ⟨p8, dn, none⟩) hk8 _).drew
          generalize ((((Z.setCell ⟨p6, dn, none⟩ (.int .u32 ee)).setCell ⟨p7, en, none⟩ (.int .u32 no)).setCell ⟨p8, dn, none⟩ (.int .i64 mx)).drew) = Y2 at HQ bq ⊢
          clear k6 l6 k7 k8 fz6 fz7 fz8 hg11 HCa RTa RGa ba zga
          have RTq := HQ.t
          have q6 := HQ.o6
          go_wp2_with fail
          refine wp_region_steps 9 [[], [], [1], [], [3], [4], [5], [6], [0, 2, 7]] (fun D a w' => ∃ g : Nat → Value, a = ⟨#[.slice (some ⟨q, off, none⟩) nw cap, .agg #[.int .u32 f0, .int .u32 f1], undef, .pointer (some ⟨p0, 0, none⟩), u4, .pointer (some ⟨bt, 0, none⟩), .pointer (some ⟨p6, 0, none⟩), .pointer (some ⟨p7, 0, none⟩), .pointer (some ⟨p8, 0, none⟩), undef, .pointer (some ⟨bw, 0, none⟩), .int .u8 ↑dn, .int .i64 out, .pointer (some ⟨bg, 0, none⟩), .int .u32 ee, u15, u16, u17, u18, u19, .slice (some ⟨q, off, none⟩) nw cap, .slice (some ⟨q, off, none⟩) nw cap, .int .i64 ↑nw, .int .i64 ↑m, .slice (some ⟨q, off, none⟩) m cap, .int .i64 ↑m, .int .i64 ↑j, u27, u28, u29, u30, u31, u32, u33, u34, u35, u36, u37, u38, u39, u40, u41, u42, u43, u44, u45, u46, u47, u48, u49, u50, u51, g13 0, g13 1, g13 2, g13 3, g13 4, g13 5, g13 6, g13 7, g13 8, g13 9, g13 10, g13 11, g13 12, g13 13, g13 14, g13 15, g13 16, g13 17, g13 18, g13 19, g13 20, .agg (hpk n no win len), .agg (tk dn x y), .int .u8 ↑dn, .agg (hpk n no win len), .bool true, .bool false, .agg (tk dn x y), .int .u8 ↑dn, .agg (hpk n no win len), .agg (tk dn (hon n no len win) y), .agg (tk dn (hon n no len win) y), .int .u8 ↑dn, .agg (hpk n no win len), .agg (tk dn (hon n no len win) y), g18 0, g18 1, g18 2, g18 3, g18 4, .int .u32 ee, g19 0, g19 1, g19 2, g19 3, g19 4, .bool false, g19 6, g19 7, g19 8, g19 9, g19 10, g19 11, g19 12, g19 13, g19 14, g19 15, g19 16, .bool false, .bool false, .int .u8 ↑dn, .int .u8 ↑dn, .int .u8 ↑en, .int .u8 ↑dn, .int .u32 ee, .int .u8 ↑dn, .int .u8 ↑en, .pointer (some ⟨p6, en, none⟩), .int .u32 no, .pointer (some ⟨bg, 11, none⟩), .int .i64 win, .int .i64 mx, .pointer (some ⟨p6, dn, none⟩), .pointer (some ⟨p7, en, none⟩), .pointer (some ⟨p8, dn, none⟩), g 0, g 1, g 2, g 3, g 4, g 5, g 6, g 7, g 8, u136, u137], []⟩ ∧ Iv Y2 (fun i => (hv22 dn en p6 bt bg n no len win ee y).getD i undef) D g w') (by kernel_rfl) (by kernel_rfl) ⟨fun i => if i = 0 then u127 else if i = 1 then u128 else if i = 2 then u129 else if i = 3 then u130 else if i = 4 then u131 else if i = 5 then u132 else if i = 6 then u133 else if i = 7 then u134 else if i = 8 then u135 else undef, rfl, Iv.zero Y2 _ _⟩ ?_ ?_
          · simp only [List.take_succ_cons, List.take_zero]
            refine ⟨?_, ?_, ?_, ?_, ?_, ?_, ?_, ?_, ?_, trivial⟩
            · intro D a w' hn hp hI
              obtain ⟨g, rfl, hR⟩ := hI
              have rr := range_below hR.b (there_lt HQ.tt) RTq
              clear hn hp
              go_wp2_with (first | (refine wpList_load_wide 29 _ rfl (by rfl) _ _ rfl (tk dn (hon n no len win) y) _ Try.underlying29 rfl (tk_hi dn (hon n no len win) y) ?_ ?_; · with_reducible assumption))
              exact ⟨fun ix => if ix = 0 then .agg (tk dn (hon n no len win) y) else g ix, by rfl, hR.step 0 _ rfl (Below.refl _ _)⟩
            · intro D a w' hn hp hI
              obtain ⟨g, rfl, hR⟩ := hI
              clear hn hp
              go_wp2_with fail
              exact ⟨fun ix => if ix = 1 then .int .u8 (dn : Int) else g ix, by rfl, hR.step 1 _ rfl (Below.refl _ _)⟩
            · intro D a w' hn hp hI
              obtain ⟨g, rfl, hR⟩ := hI
              have e1 : g 1 = .int .u8 (dn : Int) := hR.e 1 hp.1
              rw [e1]
              clear hn hp
              go_wp2_with fail
              exact ⟨fun ix => if ix = 2 then .int .u8 (en : Int) else g ix, by simp [e1], hR.step 2 _ rfl (Below.refl _ _)⟩
            · intro D a w' hn hp hI
              obtain ⟨g, rfl, hR⟩ := hI
              clear hn hp
              go_wp2_with fail
              exact ⟨fun ix => if ix = 3 then .int .u8 (dn : Int) else g ix, by rfl, hR.step 3 _ rfl (Below.refl _ _)⟩
            · intro D a w' hn hp hI
              obtain ⟨g, rfl, hR⟩ := hI
              have e3 : g 3 = .int .u8 (dn : Int) := hR.e 3 hp.1
              rw [e3]
              clear hn hp
              go_wp2_with fail
              exact ⟨fun ix => if ix = 4 then .int .u8 (en : Int) else g ix, by simp [e3], hR.step 4 _ rfl (Below.refl _ _)⟩
            · intro D a w' hn hp hI
              obtain ⟨g, rfl, hR⟩ := hI
              have e4 : g 4 = .int .u8 (en : Int) := hR.e 4 hp.1
              rw [e4]
              clear hn hp
              go_wp2_with fail
              exact ⟨fun ix => if ix = 5 then .pointer (some ⟨p6, en, none⟩) else g ix, by simp [e4], hR.step 5 _ rfl (Below.refl _ _)⟩
            · intro D a w' hn hp hI
              obtain ⟨g, rfl, hR⟩ := hI
              have e5 : g 5 = .pointer (some ⟨p6, en, none⟩) := hR.e 5 hp.1
              rw [e5]
              have cc := kc hR.b q6
              clear hn hp
              go_wp2_with fail
              exact ⟨fun ix => if ix = 6 then .int .u32 no else g ix, by simp [e5], hR.step 6 _ rfl (Below.refl _ _)⟩
            · intro D a w' hn hp hI
              obtain ⟨g, rfl, hR⟩ := hI
              have e6 : g 6 = .int .u32 no := hR.e 6 hp.1
              rw [e6]
              clear hn hp
              go_wp2_with fail
              exact ⟨fun ix => if ix = 7 then .agg (pk 4 no 0 0 0) else g ix, by simp [e6, pk], hR.step 7 _ rfl (Below.refl _ _)⟩
            · intro D a w' hn hp hI
              obtain ⟨g, rfl, hR⟩ := hI
              have e0 : g 0 = .agg (tk dn (hon n no len win) y) := hR.e 0 hp.1
              have e2 : g 2 = .int .u8 (en : Int) := hR.e 2 hp.2.1
              have e7 : g 7 = .agg (pk 4 no 0 0 0) := hR.e 7 hp.2.2.1
              rw [e0, e2, e7]
              clear hn hp
              go_wp2_with fail
              refine (HBel.out _).mono ?_
              rintro e w'' ⟨rfl, hb9⟩
              go_wp2_with fail
              exact ⟨fun ix => if ix = 8 then .bool true else g ix, by simp [e0, e2, e7], hR.step 8 _ rfl hb9⟩
          intro D a w' hD hI
          obtain ⟨g22, rfl, hR⟩ := hI
          have e8 : g22 8 = .bool true := hR.e 8 (hD 8 (by decide))
          rw [e8]
          have dR := hR.b
          clear hD hR e8
          simp only [List.drop_succ_cons, List.drop_zero]
          generalize w' = Y3 at *
          have HF := HQ.below dR
          have bf := bthen bq dR
          have hown := HRN.out.own
          have hoth := HRN.out.other
          rw [hee] at hown hoth
          rw [hmx] at hown
          have HSF := HF.hs hde hown hoth
          clear HQ RTq q6 bq dR HBel HF hown hoth HRN hmx hee
          go_wp2_with fail
          go_roundw
          case rel => exact ⟨j + 1, by omega, by go_num, bf, HSF.back⟩
          case measure => simp [intOf]; omega
      · obtain rfl : j = m := by omega
        have hjd : decide ((j : Int) < (j : Int)) = false := by simp
        go_wp2_with fail
        go_ret
        exact ⟨rfl, hb⟩

theorem words_of {A : Option Addr} {cap : Nat} {css : List (List Value)} {w : World} (hle : css.length ≤ cap) (hmx : cap ≤ maxLen) (hnil : A = none → css = [] ∧ cap = 0) (hrd : Rd w A 4 css) (hall : ∀ cs ∈ css, All2 [some .u8, some .u16, some .i8, some .u16] cs) :
    ∃ l : List (List Value), css.length = l.length ∧ (cap ≤ maxLen ∧ Rd w A 4 l ∧ ∀ x ∈ l, All2 [some .u8, some .u16, some .i8, some .u16] x) := ⟨css, rfl, hmx, hrd, hall⟩
theorem first2_of {cs : List Value} (h : All2 [some .u32, some .u32] cs) : ∃ x : Int × Int, cs = [.int .u32 x.1, .int .u32 x.2] ∧ ((0 ≤ x.1 ∧ x.1 ≤ 4294967295) ∧ (0 ≤ x.2 ∧ x.2 ≤ 4294967295)) := by
  obtain ⟨n0, r0, rfl, w0, h0⟩ := all2_int h
  obtain ⟨n1, r1, rfl, w1, h1⟩ := all2_int h0
  obtain rfl := all2_nil h1
  exact ⟨(n0, n1), rfl, bounds_u32 w0, bounds_u32 w1⟩
theorem windowHonest_walk (A : Option Addr) (css : List (List Value)) (n cap : Nat) (x : Int × Int) (w : World) (hn : n = css.length) (hle0 : n ≤ cap) (hp : cap ≤ maxLen ∧ Rd w A 4 css ∧ ∀ x ∈ css, All2 [some .u8, some .u16, some .i8, some .u16] x) (hx : (0 ≤ x.1 ∧ x.1 ≤ 4294967295) ∧ (0 ≤ x.2 ∧ x.2 ≤ 4294967295)) :
    Calls Try.prog 9 #[.slice A n cap, .agg #[.int .u32 x.1, .int .u32 x.2]] w fun e w' => e = .returned (.bool true) ∧ Below w.heap.size w w' :=
  honest_core A css n cap (min n 100) x.1 x.2 w hn hle0 hp.1 (by split <;> omega) (by omega) (by omega) hp.2.1 hp.2.2 hx.1 hx.2

end Go.Proofs.Ytchephpmkommfaa

/-
  The walk of RelatedTurned: a flow of TCP or UDP and the same flow seen from the other end have the same errors, in opposite directions; for ICMP the query of one is no reply of the other.
-/
import Derived.Test.YtapeminpgojeaaaDoorQuot
namespace Go.Proofs.YtapeminpgojeaaaDoor
open Go.RowKit
set_option linter.unusedVariables false
set_option linter.unusedSimpArgs false

theorem built41 (c0 c1 c2 c3 c4 c5 c6 c7 c8 c9 c10 c11 c12 c13 c14 c15 c16 c17 c18 : Value) (n : Int) : Tryd.prog.built 41 [(0, .agg #[c0, c1, c2, c3, c4, c5, c6, c7, c8, c9, c10, c11, c12, c13, c14, c15, c16, c17, c18]), (1, .int .u8 n)] = some #[c0, c1, c2, c3, c4, c5, c6, c7, c8, c9, c10, c11, c12, c13, c14, c15, c16, c17, c18, .int .u8 n] := by kernel_rfl
theorem wpList_buildWide {P : Program} {ops : Array Oper} {rest : List Oper} {o : Oper} {a : Act} {w : World} {Q : Exit → Act → World → Prop} (hg : o.guard = none) (t e : TypeId) (len s : Nat) (parts : Array (Nat × Operand)) (ho : o.op = .buildSlice t len parts) (vs : List (List Value))
    (N : Nat) (hN : w.heap.size = N) (d : Option Tmp) (hd : o.dst = d) (ie : TypeInfo) (z : Value) (hu : P.underlying t = some (.slice e)) (hie : P.info? e = some ie) (hz : ie.zero = some z) (hs : ie.size = s) (hs0 : 0 < s) (hsmall : len * s ≤ 2 ^ 24) (hlen : vs.length = len) (hpos : 0 < len)
    (hparts : (parts.map fun (i, x) => (i, a.eval x)).toList = ((vs.map fun l => Value.agg l.toArray).zipIdx 0).map fun x => (x.2, x.1)) (he : ∀ l ∈ vs, l.length = s)
    (h : wpList P ops Q rest (a.put d (.slice (some ⟨N, 0, none⟩) len len)) (w.alloc (.cells vs.flatten.toArray e))) : wpList P ops Q (o :: rest) a w := by
  subst hN hd hs hlen
  have h0 : 0 < vs.length * ie.size := Nat.mul_pos hpos hs0
  refine wpList_buildSlice hg t e _ parts ho vs.flatten.toArray ie z hu hie hz (by omega) (by omega) ?_ h
  rw [hparts, Great.fill_whole hs0 _ _ (fun v hv => by obtain ⟨l, hl, rfl⟩ := List.mem_map.1 hv; simpa [Value.cells] using he l hl) (by simp)]
  congr 2
  rw [List.flatMap_map]
  simp [Value.cells, List.flatMap_id']
theorem info41z : ∃ ie z, Tryd.prog.info? 41 = some ie ∧ ie.zero = some z ∧ ie.size = 20 := by
  have h : (Tryd.prog.info? 41).map (fun i => (i.zero.isSome, i.size)) = some (true, 20) := by kernel_rfl
  cases hi : Tryd.prog.info? 41 with
  | none => rw [hi] at h; cases h
  | some ie =>
    rw [hi] at h
    simp at h
    obtain ⟨h1, h2⟩ := h
    obtain ⟨z, hz⟩ := Option.isSome_iff_exists.1 h1
    exact ⟨ie, z, rfl, hz, h2⟩
theorem one20 {F : Array Value} (h : F.all (·.oneCell') = true) (n : Int) : (F.push (.int .u8 n)).all (·.oneCell') = true := by
  rw [Array.all_push, h]
  rfl
theorem range_part {W : World} {b : Nat} {l m r : List Value} (h : W.rangeAt b 0 (l ++ (m ++ r))) : W.rangeAt b l.length m := by
  intro j v hv
  have hj : j < m.length := (List.getElem?_eq_some_iff.1 hv).1
  have := h (l.length + j) v (by rw [List.getElem?_append_right (by omega), show l.length + j - l.length = j by omega, List.getElem?_append_left hj]; exact hv)
  rwa [Nat.zero_add] at this
theorem info41 : (Tryd.prog.info? 41).map (·.size) = some 20 := by kernel_rfl
structure TuR (w1 : World) (n0 : Nat) (P S E sp dp q0 : Int) (D : Nat → Prop) (v14 v29 v30 v31 v32 v33 v34 v35 : Value) (w' : World) : Prop where
  b : Below w1.heap.size w1 w'
  e0 : D 0 → v29 = .pointer (some ⟨n0, 0, none⟩)
  e1 : D 1 → v30 = .agg #[.int .u8 P, .int .u32 S, .int .u32 E, .int .u16 sp, .int .u16 dp]
  e2 : D 2 → v31 = .agg #[.int .u8 P, .int .u32 E, .int .u32 S, .int .u16 dp, .int .u16 sp]
  e3 : D 3 → v32 = .pointer (some ⟨n0, 5, none⟩)
  e4 : D 4 → v33 = .int .u8 q0
  e5 : D 5 → v34 = .int .u8 (1 - q0)
  e6 : D 6 → v35 = .agg #[.int .u8 P, .int .u32 E, .int .u32 S, .int .u16 dp, .int .u16 sp, .int .u8 (1 - q0)]
  m7 : D 7 → Made w1.heap.size 6 v14 w'
theorem TuR.s0 {w1 : World} {n0 : Nat} {P S E sp dp q0 : Int} {D : Nat → Prop} {v14 v29 v30 v31 v32 v33 v34 v35 : Value} {w' w'' : World} (h : TuR w1 n0 P S E sp dp q0 D v14 v29 v30 v31 v32 v33 v34 v35 w') (hb : Below w'.heap.size w' w'') : TuR w1 n0 P S E sp dp q0 (fun j => D j ∨ j = 0) v14 (.pointer (some ⟨n0, 0, none⟩)) v30 v31 v32 v33 v34 v35 w'' :=
  ⟨bthen h.b hb, fun _ => rfl, or_keep h.e1 (by decide), or_keep h.e2 (by decide), or_keep h.e3 (by decide), or_keep h.e4 (by decide), or_keep h.e5 (by decide), or_keep h.e6 (by decide), or_keep (fun hd => (h.m7 hd).below hb) (by decide)⟩
theorem TuR.s1 {w1 : World} {n0 : Nat} {P S E sp dp q0 : Int} {D : Nat → Prop} {v14 v29 v30 v31 v32 v33 v34 v35 : Value} {w' w'' : World} (h : TuR w1 n0 P S E sp dp q0 D v14 v29 v30 v31 v32 v33 v34 v35 w') (hb : Below w'.heap.size w' w'') : TuR w1 n0 P S E sp dp q0 (fun j => D j ∨ j = 1) v14 v29 (.agg #[.int .u8 P, .int .u32 S, .int .u32 E, .int .u16 sp, .int .u16 dp]) v31 v32 v33 v34 v35 w'' :=
  ⟨bthen h.b hb, or_keep h.e0 (by decide), fun _ => rfl, or_keep h.e2 (by decide), or_keep h.e3 (by decide), or_keep h.e4 (by decide), or_keep h.e5 (by decide), or_keep h.e6 (by decide), or_keep (fun hd => (h.m7 hd).below hb) (by decide)⟩
theorem TuR.s2 {w1 : World} {n0 : Nat} {P S E sp dp q0 : Int} {D : Nat → Prop} {v14 v29 v30 v31 v32 v33 v34 v35 : Value} {w' w'' : World} (h : TuR w1 n0 P S E sp dp q0 D v14 v29 v30 v31 v32 v33 v34 v35 w') (hb : Below w'.heap.size w' w'') : TuR w1 n0 P S E sp dp q0 (fun j => D j ∨ j = 2) v14 v29 v30 (.agg #[.int .u8 P, .int .u32 E, .int .u32 S, .int .u16 dp, .int .u16 sp]) v32 v33 v34 v35 w'' :=
  ⟨bthen h.b hb, or_keep h.e0 (by decide), or_keep h.e1 (by decide), fun _ => rfl, or_keep h.e3 (by decide), or_keep h.e4 (by decide), or_keep h.e5 (by decide), or_keep h.e6 (by decide), or_keep (fun hd => (h.m7 hd).below hb) (by decide)⟩
theorem TuR.s3 {w1 : World} {n0 : Nat} {P S E sp dp q0 : Int} {D : Nat → Prop} {v14 v29 v30 v31 v32 v33 v34 v35 : Value} {w' w'' : World} (h : TuR w1 n0 P S E sp dp q0 D v14 v29 v30 v31 v32 v33 v34 v35 w') (hb : Below w'.heap.size w' w'') : TuR w1 n0 P S E sp dp q0 (fun j => D j ∨ j = 3) v14 v29 v30 v31 (.pointer (some ⟨n0, 5, none⟩)) v33 v34 v35 w'' :=
  ⟨bthen h.b hb, or_keep h.e0 (by decide), or_keep h.e1 (by decide), or_keep h.e2 (by decide), fun _ => rfl, or_keep h.e4 (by decide), or_keep h.e5 (by decide), or_keep h.e6 (by decide), or_keep (fun hd => (h.m7 hd).below hb) (by decide)⟩
theorem TuR.s4 {w1 : World} {n0 : Nat} {P S E sp dp q0 : Int} {D : Nat → Prop} {v14 v29 v30 v31 v32 v33 v34 v35 : Value} {w' w'' : World} (h : TuR w1 n0 P S E sp dp q0 D v14 v29 v30 v31 v32 v33 v34 v35 w') (hb : Below w'.heap.size w' w'') : TuR w1 n0 P S E sp dp q0 (fun j => D j ∨ j = 4) v14 v29 v30 v31 v32 (.int .u8 q0) v34 v35 w'' :=
  ⟨bthen h.b hb, or_keep h.e0 (by decide), or_keep h.e1 (by decide), or_keep h.e2 (by decide), or_keep h.e3 (by decide), fun _ => rfl, or_keep h.e5 (by decide), or_keep h.e6 (by decide), or_keep (fun hd => (h.m7 hd).below hb) (by decide)⟩
theorem TuR.s5 {w1 : World} {n0 : Nat} {P S E sp dp q0 : Int} {D : Nat → Prop} {v14 v29 v30 v31 v32 v33 v34 v35 : Value} {w' w'' : World} (h : TuR w1 n0 P S E sp dp q0 D v14 v29 v30 v31 v32 v33 v34 v35 w') (hb : Below w'.heap.size w' w'') : TuR w1 n0 P S E sp dp q0 (fun j => D j ∨ j = 5) v14 v29 v30 v31 v32 v33 (.int .u8 (1 - q0)) v35 w'' :=
  ⟨bthen h.b hb, or_keep h.e0 (by decide), or_keep h.e1 (by decide), or_keep h.e2 (by decide), or_keep h.e3 (by decide), or_keep h.e4 (by decide), fun _ => rfl, or_keep h.e6 (by decide), or_keep (fun hd => (h.m7 hd).below hb) (by decide)⟩
theorem TuR.s6 {w1 : World} {n0 : Nat} {P S E sp dp q0 : Int} {D : Nat → Prop} {v14 v29 v30 v31 v32 v33 v34 v35 : Value} {w' w'' : World} (h : TuR w1 n0 P S E sp dp q0 D v14 v29 v30 v31 v32 v33 v34 v35 w') (hb : Below w'.heap.size w' w'') : TuR w1 n0 P S E sp dp q0 (fun j => D j ∨ j = 6) v14 v29 v30 v31 v32 v33 v34 (.agg #[.int .u8 P, .int .u32 E, .int .u32 S, .int .u16 dp, .int .u16 sp, .int .u8 (1 - q0)]) w'' :=
  ⟨bthen h.b hb, or_keep h.e0 (by decide), or_keep h.e1 (by decide), or_keep h.e2 (by decide), or_keep h.e3 (by decide), or_keep h.e4 (by decide), or_keep h.e5 (by decide), fun _ => rfl, or_keep (fun hd => (h.m7 hd).below hb) (by decide)⟩
theorem TuR.s7 {w1 : World} {n0 : Nat} {P S E sp dp q0 : Int} {D : Nat → Prop} {v14 v29 v30 v31 v32 v33 v34 v35 : Value} {w' w'' : World} (h : TuR w1 n0 P S E sp dp q0 D v14 v29 v30 v31 v32 v33 v34 v35 w') (hb : Below w'.heap.size w' w'') (hm : Made w1.heap.size 6 (.pointer (some ⟨w'.heap.size, 0, none⟩)) w'') : TuR w1 n0 P S E sp dp q0 (fun j => D j ∨ j = 7) ((.pointer (some ⟨w'.heap.size, 0, none⟩))) v29 v30 v31 v32 v33 v34 v35 w'' :=
  ⟨bthen h.b hb, or_keep h.e0 (by decide), or_keep h.e1 (by decide), or_keep h.e2 (by decide), or_keep h.e3 (by decide), or_keep h.e4 (by decide), or_keep h.e5 (by decide), or_keep h.e6 (by decide), fun _ => hm⟩
theorem TuR.zero (w1 : World) (n0 : Nat) (P S E sp dp q0 : Int) (v14 v29 v30 v31 v32 v33 v34 v35 : Value) : TuR w1 n0 P S E sp dp q0 (fun _ => False) v14 v29 v30 v31 v32 v33 v34 v35 w1.drew :=
  ⟨(Below.refl _ _).drew, fun h => h.elim, fun h => h.elim, fun h => h.elim, fun h => h.elim, fun h => h.elim, fun h => h.elim, fun h => h.elim, fun h => h.elim⟩

/-- Two errors of a flow and of the flow seen from the other end. -/
def agree (P : Int) (X Y : Int × Bool) : Prop := (P = 1 → ¬ (X.2 = true ∧ Y.2 = true)) ∧ (P ≠ 1 → X.2 = Y.2 ∧ (X.2 = true → X.1 = 1 - Y.1))
theorem quo_turned (P S E sp dp q0 dst kind ty qp qs qd qsp qdp qk src : Int) (hP : P = 6 ∨ P = 17 ∨ P = 1) (hne : S ≠ E) (hq : 0 ≤ q0 ∧ q0 ≤ 1) : agree P (quo P S E sp dp q0 dst kind ty qp qs qd qsp qdp qk src) (quo P E S dp sp (1 - q0) dst kind ty qp qs qd qsp qdp qk src) := by
  have hy : decide (1 - q0 ≤ 1) = true := decide_eq_true (by omega)
  have hx : decide (q0 ≤ 1) = true := decide_eq_true hq.2
  unfold quo
  rw [hx, hy]
  cases hc : (can dst kind ty qp qs qk && (true && decide (src ≤ 1))) with
  | false => exact ⟨fun _ h => by simp at h, fun _ => ⟨rfl, fun h => by simp at h⟩⟩
  | true =>
    have e0 : (way0 P S E sp dp q0).hit qp qs qd qsp qdp qk src = (eqK P S E sp dp qp qs qd qsp qdp && (ko P == qk && 1 - q0 == src)) := rfl
    have e1 : (way1 P S E sp dp q0).hit qp qs qd qsp qdp qk src = (eqK P E S dp sp qp qs qd qsp qdp && (kr P == qk && q0 == src)) := rfl
    have f0 : (way0 P E S dp sp (1 - q0)).hit qp qs qd qsp qdp qk src = (eqK P E S dp sp qp qs qd qsp qdp && (ko P == qk && q0 == src)) := by
      have : 1 - (1 - q0) = q0 := by omega
      simp only [Wy.hit, way0, this]
    have f1 : (way1 P E S dp sp (1 - q0)).hit qp qs qd qsp qdp qk src = (eqK P S E sp dp qp qs qd qsp qdp && (kr P == qk && 1 - q0 == src)) := rfl
    rw [e0, e1, f0, f1]
    have hx : eqK P S E sp dp qp qs qd qsp qdp = true → eqK P E S dp sp qp qs qd qsp qdp = true → False := by
      intro h1 h2
      simp [eqK] at h1 h2
      omega
    generalize eqK P S E sp dp qp qs qd qsp qdp = A at *
    generalize eqK P E S dp sp qp qs qd qsp qdp = B at *
    have hk : P ≠ 1 → ko P = kr P := by
      intro h
      rcases hP with rfl | rfl | rfl
      · rfl
      · rfl
      · exact absurd rfl h
    have h1 : P = 1 → ko P = 3 ∧ kr P = 4 := by rintro rfl; exact ⟨rfl, rfl⟩
    by_cases hP1 : P = 1
    · obtain ⟨k1, k2⟩ := h1 hP1
      refine ⟨fun _ => ?_, fun h => absurd hP1 h⟩
      rw [k1, k2]
      have h34 : ((3 : Int) == qk) = false ∨ ((4 : Int) == qk) = false := by
        by_cases h : qk = 3
        · right; simp; omega
        · left; simp; omega
      have hAB : ¬ (A = true ∧ B = true) := fun h => hx h.1 h.2
      rcases h34 with h | h <;> rw [h] <;> cases A <;> cases B <;> simp at hAB ⊢
    · have e := hk hP1
      refine ⟨fun h => absurd h hP1, fun _ => ?_⟩
      rw [e]
      cases A <;> cases B
      · simp
      · cases (kr P == qk && q0 == src) <;> simp
      · cases (kr P == qk && 1 - q0 == src) <;> simp
      · exact (hx rfl rfl).elim

set_option maxRecDepth 100000 in
set_option maxHeartbeats 16000000 in
theorem turned_core (p s d sp dp side dir by' src : Int) (P S E q0 ty kv fr : Int) (c0 c1 c2 c3 c4 c5 c6 c7 c8 c9 c10 c11 c12 c13 c14 c15 c16 c17 c18 g0 g1 g2 g3 g4 g5 g6 g7 g8 g9 g10 g11 g12 g13 g14 g15 g16 g17 g18 : Value) (dst kind typ qp qs qd qsp qdp qk : Int) (dst' kind' typ' qp' qs' qd' qsp' qdp' qk' : Int) (okv : Bool) (X1 Y1 X2 Y2 : Int × Bool) (w : World) (HT : Hid (Tabs w))
    (HR : Hid (∀ W, Calls Tryd.prog 13 #[.agg #[.int .u8 p, .int .u32 s, .int .u32 d, .int .u16 sp, .int .u16 dp], .int .u8 side] W fun e w' => e = .returned (.agg #[.int .u8 P, .int .u32 S, .int .u32 E, .int .u16 sp, .int .u16 dp, .int .u8 q0]) ∧ Below W.heap.size W w'))
    (HG : Hid (∀ W, Tabs W → Calls Tryd.prog 14 #[.agg #[.int .u8 P, .int .u32 S, .int .u32 E, .int .u16 sp, .int .u16 dp, .int .u8 q0], .int .u8 dir, .int .u32 by'] W fun e w' => e = .returned (.tuple #[.agg #[c0, c1, c2, c3, c4, c5, c6, c7, c8, c9, c10, c11, c12, c13, c14, c15, c16, c17, c18], .int .u8 fr, .bool okv]) ∧ Below W.heap.size W w'))
    (Hq0 : 0 ≤ q0) (Hq1 : q0 ≤ 1)
    (H1 : Hid (∀ W, Tabs W → Calls Tryd.prog 15 #[.agg #[.int .u8 P, .int .u32 S, .int .u32 E, .int .u16 sp, .int .u16 dp, .int .u8 q0], .agg #[c0, c1, c2, c3, c4, c5, c6, c7, c8, c9, c10, c11, c12, c13, c14, c15, c16, c17, c18], .int .u8 fr] W fun e w' => e = .returned (.tuple #[.int .u8 X1.1, .bool X1.2]) ∧ Below W.heap.size W w'))
    (H2 : Hid (∀ W, Tabs W → Calls Tryd.prog 15 #[.agg #[.int .u8 P, .int .u32 E, .int .u32 S, .int .u16 dp, .int .u16 sp, .int .u8 (1 - q0)], .agg #[c0, c1, c2, c3, c4, c5, c6, c7, c8, c9, c10, c11, c12, c13, c14, c15, c16, c17, c18], .int .u8 fr] W fun e w' => e = .returned (.tuple #[.int .u8 Y1.1, .bool Y1.2]) ∧ Below W.heap.size W w'))
    (H3 : Hid (∀ W, Tabs W → Calls Tryd.prog 15 #[.agg #[.int .u8 P, .int .u32 S, .int .u32 E, .int .u16 sp, .int .u16 dp, .int .u8 q0], .agg #[g0, g1, g2, g3, g4, g5, g6, g7, g8, g9, g10, g11, g12, g13, g14, g15, g16, g17, g18], .int .u8 src] W fun e w' => e = .returned (.tuple #[.int .u8 X2.1, .bool X2.2]) ∧ Below W.heap.size W w'))
    (H4 : Hid (∀ W, Tabs W → Calls Tryd.prog 15 #[.agg #[.int .u8 P, .int .u32 E, .int .u32 S, .int .u16 dp, .int .u16 sp, .int .u8 (1 - q0)], .agg #[g0, g1, g2, g3, g4, g5, g6, g7, g8, g9, g10, g11, g12, g13, g14, g15, g16, g17, g18], .int .u8 src] W fun e w' => e = .returned (.tuple #[.int .u8 Y2.1, .bool Y2.2]) ∧ Below W.heap.size W w'))
    (Ho1 : Hid ((#[c0, c1, c2, c3, c4, c5, c6, c7, c8, c9, c10, c11, c12, c13, c14, c15, c16, c17, c18] : Array Value).all (·.oneCell') = true)) (Ho2 : Hid ((#[g0, g1, g2, g3, g4, g5, g6, g7, g8, g9, g10, g11, g12, g13, g14, g15, g16, g17, g18] : Array Value).all (·.oneCell') = true)) (HA1 : Hid (agree P X1 Y1)) (HA2 : Hid (agree P X2 Y2)) (HY1 : Hid (0 ≤ Y1.1 ∧ Y1.1 ≤ 1)) (HY2 : Hid (0 ≤ Y2.1 ∧ Y2.1 ≤ 1)) :
    Calls Tryd.prog 5 #[.agg #[.int .u8 p, .int .u32 s, .int .u32 d, .int .u16 sp, .int .u16 dp], .int .u8 side, .int .u8 dir, .int .u32 by', .agg #[g0, g1, g2, g3, g4, g5, g6, g7, g8, g9, g10, g11, g12, g13, g14, g15, g16, g17, g18], .int .u8 src] w fun e w' => e = .returned (.bool true) ∧ Below w.heap.size w w' := by
  obtain ⟨x1, u1⟩ := X1
  obtain ⟨y1, v1⟩ := Y1
  obtain ⟨x2, u2⟩ := X2
  obtain ⟨y2, v2⟩ := Y2
  dsimp only at H1 H2 H3 H4 HY1 HY2
  go_enter Tryd.func5, Tryd.ntmps5
  go_wp2_with fail
  refine (awake_any _ (HT.out.below (by (repeat' (first | exact Below.refl _ _ | refine Below.setCell ?_ (by first | omega | (simp; done) | (simp; omega)) _ | refine Below.alloc ?_ (by first | omega | (simp; done) | (simp; omega)) _))))).mono ?_
  rintro e w1 ⟨rfl, hb⟩
  have b1 : Below w.heap.size w w1 := bthen (by (repeat' (first | exact Below.refl _ _ | refine Below.setCell ?_ (by first | omega | (simp; done) | (simp; omega)) _ | refine Below.alloc ?_ (by first | omega | (simp; done) | (simp; omega)) _))) hb
  have d1 : Below w.heap.size w w1 := b1
  have k1 : w.heap.size ≤ w1.heap.size := d1.size
  have G_1 : w1.rangeAt (w.heap.size + 1) 0 (#[g0, g1, g2, g3, g4, g5, g6, g7, g8, g9, g10, g11, g12, g13, g14, g15, g16, g17, g18]).toList := range_below hb (by first | (simp; done) | (simp; omega)) (by (repeat (first | with_reducible assumption | (refine range_new' _ _ _ _ ?_; first | rfl | (simp; done)) | refine World.rangeAt_alloc ?_ _)))
  have zG_1 : w.heap.size + 1 < w1.heap.size := by have := hb.size; simp at this; omega
  have x0_1 : w1.cell? ⟨w.heap.size, 0, none⟩ = some (.int .u8 p) := (hb.cell (p := ⟨w.heap.size, 0, none⟩) (by first | (simp; done) | (simp; omega))).trans (by simp [go_sem])
  have x1_1 : w1.cell? ⟨w.heap.size, 1, none⟩ = some (.int .u32 s) := (hb.cell (p := ⟨w.heap.size, 1, none⟩) (by first | (simp; done) | (simp; omega))).trans (by simp [go_sem])
  have x2_1 : w1.cell? ⟨w.heap.size, 2, none⟩ = some (.int .u32 d) := (hb.cell (p := ⟨w.heap.size, 2, none⟩) (by first | (simp; done) | (simp; omega))).trans (by simp [go_sem])
  have x3_1 : w1.cell? ⟨w.heap.size, 3, none⟩ = some (.int .u16 sp) := (hb.cell (p := ⟨w.heap.size, 3, none⟩) (by first | (simp; done) | (simp; omega))).trans (by simp [go_sem])
  have x4_1 : w1.cell? ⟨w.heap.size, 4, none⟩ = some (.int .u16 dp) := (hb.cell (p := ⟨w.heap.size, 4, none⟩) (by first | (simp; done) | (simp; omega))).trans (by simp [go_sem])
  have zx_1 : w.heap.size < w1.heap.size := by have := hb.size; simp at this; omega
  clear hb
  go_wp2_with fail
  refine (HR.out _).mono ?_
  rintro e w2 ⟨rfl, hb⟩
  have b2 : Below w1.heap.size w1 w2 := bthen (by (repeat' (first | exact Below.refl _ _ | refine Below.setCell ?_ (by first | omega | (simp; done) | (simp; omega)) _ | refine Below.alloc ?_ (by first | omega | (simp; done) | (simp; omega)) _))) hb
  have d2 : Below w.heap.size w w2 := bthen d1 b2
  have k2 : w.heap.size ≤ w2.heap.size := d2.size
  have G_2 : w2.rangeAt (w.heap.size + 1) 0 (#[g0, g1, g2, g3, g4, g5, g6, g7, g8, g9, g10, g11, g12, g13, g14, g15, g16, g17, g18]).toList := range_below b2 (by omega) G_1
  have zG_2 : w.heap.size + 1 < w2.heap.size := Nat.lt_of_lt_of_le zG_1 b2.size
  have x0_2 : w2.cell? ⟨w.heap.size, 0, none⟩ = some (.int .u8 p) := (b2.cell (p := ⟨w.heap.size, 0, none⟩) (by show w.heap.size < w1.heap.size; omega)).trans x0_1
  have x1_2 : w2.cell? ⟨w.heap.size, 1, none⟩ = some (.int .u32 s) := (b2.cell (p := ⟨w.heap.size, 1, none⟩) (by show w.heap.size < w1.heap.size; omega)).trans x1_1
  have x2_2 : w2.cell? ⟨w.heap.size, 2, none⟩ = some (.int .u32 d) := (b2.cell (p := ⟨w.heap.size, 2, none⟩) (by show w.heap.size < w1.heap.size; omega)).trans x2_1
  have x3_2 : w2.cell? ⟨w.heap.size, 3, none⟩ = some (.int .u16 sp) := (b2.cell (p := ⟨w.heap.size, 3, none⟩) (by show w.heap.size < w1.heap.size; omega)).trans x3_1
  have x4_2 : w2.cell? ⟨w.heap.size, 4, none⟩ = some (.int .u16 dp) := (b2.cell (p := ⟨w.heap.size, 4, none⟩) (by show w.heap.size < w1.heap.size; omega)).trans x4_1
  have zx_2 : w.heap.size < w2.heap.size := Nat.lt_of_lt_of_le zx_1 b2.size
  clear hb b2 d1 k1 G_1 zG_1 x0_1 x1_1 x2_1 x3_1 x4_1 zx_1
  clear x0_2 x1_2 x2_2 x3_2 x4_2 zx_2
  go_wp2_with fail
  obtain ⟨m0, hm0⟩ : ∃ n, w.heap.size = n := ⟨_, rfl⟩
  obtain ⟨n0, hn0⟩ : ∃ n, w2.heap.size = n := ⟨_, rfl⟩
  obtain ⟨V, hV⟩ : ∃ V, w2.alloc (.cells #[.int .u8 P, .int .u32 S, .int .u32 E, .int .u16 sp, .int .u16 dp, .int .u8 q0] 27) = V := ⟨_, rfl⟩
  have dV : Below w.heap.size w V := by rw [← hV]; exact d2.alloc (by omega) _
  have X : V.rangeAt n0 0 [.int .u8 P, .int .u32 S, .int .u32 E, .int .u16 sp, .int .u16 dp, .int .u8 q0] := by rw [← hV, ← hn0]; exact range_new w2 #[.int .u8 P, .int .u32 S, .int .u32 E, .int .u16 sp, .int .u16 dp, .int .u8 q0] 27
  have zX : n0 < V.heap.size := by rw [← hV, ← hn0]; simp
  have GV : V.rangeAt (m0 + 1) 0 #[g0, g1, g2, g3, g4, g5, g6, g7, g8, g9, g10, g11, g12, g13, g14, g15, g16, g17, g18].toList := by rw [← hV, ← hm0]; exact World.rangeAt_alloc G_2 _
  have zG : m0 + 1 < n0 := by rw [← hn0, ← hm0]; exact zG_2
  have lm : m0 ≤ n0 := by omega
  rw [hV, hn0, hm0]
  clear hV G_2 zG_2 d2 k2
  have x0 : V.cell? ⟨n0, 0, none⟩ = some (.int .u8 P) := by have := X 0 (.int .u8 P) rfl; rwa [Nat.zero_add] at this
  have x1 : V.cell? ⟨n0, 1, none⟩ = some (.int .u32 S) := by have := X 1 (.int .u32 S) rfl; rwa [Nat.zero_add] at this
  have x2 : V.cell? ⟨n0, 2, none⟩ = some (.int .u32 E) := by have := X 2 (.int .u32 E) rfl; rwa [Nat.zero_add] at this
  have x3 : V.cell? ⟨n0, 3, none⟩ = some (.int .u16 sp) := by have := X 3 (.int .u16 sp) rfl; rwa [Nat.zero_add] at this
  have x4 : V.cell? ⟨n0, 4, none⟩ = some (.int .u16 dp) := by have := X 4 (.int .u16 dp) rfl; rwa [Nat.zero_add] at this
  have x5 : V.cell? ⟨n0, 5, none⟩ = some (.int .u8 q0) := by have := X 5 (.int .u8 q0) rfl; rwa [Nat.zero_add] at this
  refine wp_region_steps 8 [[], [0], [1], [], [3], [4], [2, 5], []] (fun D a w' => ∃ v14 v29 v30 v31 v32 v33 v34 v35 : Value, a = ⟨#[.agg #[.int .u8 p, .int .u32 s, .int .u32 d, .int .u16 sp, .int .u16 dp], .int .u8 side, .int .u8 dir, .int .u32 by', .agg #[g0, g1, g2, g3, g4, g5, g6, g7, g8, g9, g10, g11, g12, g13, g14, g15, g16, g17, g18], .int .u8 src, .pointer (some ⟨m0, 0, none⟩), undef, undef, undef, .pointer (some ⟨m0 + 1, 0, none⟩), undef, .bool false, .pointer (some ⟨n0, 0, none⟩), v14, undef, undef, undef, undef, undef, undef, undef, undef, undef, .bool true, .bool false, .agg #[.int .u8 p, .int .u32 s, .int .u32 d, .int .u16 sp, .int .u16 dp], .int .u8 side, .agg #[.int .u8 P, .int .u32 S, .int .u32 E, .int .u16 sp, .int .u16 dp, .int .u8 q0], v29, v30, v31, v32, v33, v34, v35, undef, undef, undef, undef, undef, undef, undef, undef, undef, undef, undef, undef, undef, undef, undef, undef, undef, undef, undef, undef, undef, undef, undef, undef, undef, undef, undef, undef, undef, undef, undef, undef, undef, undef, undef, undef, undef, undef, undef, undef, undef, undef, undef, undef, undef, undef, undef, undef, undef, undef, undef, undef, undef, undef, undef, undef, undef, undef, undef], []⟩ ∧ TuR V n0 P S E sp dp q0 D v14 v29 v30 v31 v32 v33 v34 v35 w') (by kernel_rfl) (by kernel_rfl) ⟨undef, undef, undef, undef, undef, undef, undef, undef, rfl, TuR.zero V n0 P S E sp dp q0 (undef) (undef) (undef) (undef) (undef) (undef) (undef) (undef)⟩ ?_ ?_
  · simp only [List.take_succ_cons, List.take_zero]
    refine ⟨?_, ?_, ?_, ?_, ?_, ?_, ?_, ?_, trivial⟩
    · intro D a w' hn hp hI
      obtain ⟨v14, v29, v30, v31, v32, v33, v34, v35, rfl, hR⟩ := hI
      clear hn hp
      go_wp2_with fail
      exact ⟨_, _, _, _, _, _, _, _, rfl, hR.s0 (Below.refl _ _)⟩
    · intro D a w' hn hp hI
      obtain ⟨v14, v29, v30, v31, v32, v33, v34, v35, rfl, hR⟩ := hI
      obtain rfl := hR.e0 hp.1
      have c0 := kc hR.b x0
      have c1 := kc hR.b x1
      have c2 := kc hR.b x2
      have c3 := kc hR.b x3
      have c4 := kc hR.b x4
      clear hn hp
      go_wp2_with fail
      exact ⟨_, _, _, _, _, _, _, _, rfl, hR.s1 (Below.refl _ _)⟩
    · intro D a w' hn hp hI
      obtain ⟨v14, v29, v30, v31, v32, v33, v34, v35, rfl, hR⟩ := hI
      obtain rfl := hR.e1 hp.1
      clear hn hp
      go_wp2_with fail
      refine (turn_below _ _ _ _ _ _).mono ?_
      rintro e w'' ⟨rfl, hb⟩
      go_wp2_with fail
      exact ⟨_, _, _, _, _, _, _, _, rfl, hR.s2 hb⟩
    · intro D a w' hn hp hI
      obtain ⟨v14, v29, v30, v31, v32, v33, v34, v35, rfl, hR⟩ := hI
      clear hn hp
      go_wp2_with fail
      exact ⟨_, _, _, _, _, _, _, _, rfl, hR.s3 (Below.refl _ _)⟩
    · intro D a w' hn hp hI
      obtain ⟨v14, v29, v30, v31, v32, v33, v34, v35, rfl, hR⟩ := hI
      obtain rfl := hR.e3 hp.1
      have c5 := kc hR.b x5
      clear hn hp
      go_wp2_with fail
      exact ⟨_, _, _, _, _, _, _, _, rfl, hR.s4 (Below.refl _ _)⟩
    · intro D a w' hn hp hI
      obtain ⟨v14, v29, v30, v31, v32, v33, v34, v35, rfl, hR⟩ := hI
      obtain rfl := hR.e4 hp.1
      clear hn hp
      go_wp2_with fail
      exact ⟨_, _, _, _, _, _, _, _, rfl, hR.s5 (Below.refl _ _)⟩
    · intro D a w' hn hp hI
      obtain ⟨v14, v29, v30, v31, v32, v33, v34, v35, rfl, hR⟩ := hI
      obtain rfl := hR.e2 hp.1
      obtain rfl := hR.e5 hp.2.1
      clear hn hp
      go_wp2_with fail
      exact ⟨_, _, _, _, _, _, _, _, rfl, hR.s6 (Below.refl _ _)⟩
    · intro D a w' hn hp hI
      obtain ⟨v14, v29, v30, v31, v32, v33, v34, v35, rfl, hR⟩ := hI
      clear hn hp
      go_wp2_with fail
      exact ⟨_, _, _, _, _, _, _, _, rfl, hR.s7 ((Below.refl _ _).alloc (Nat.le_refl _) _) ⟨_, rfl, hR.b.size, there_new _ _ _ _ _ rfl rfl⟩⟩
  intro D a w' hD hI
  obtain ⟨v14, v29, v30, v31, v32, v33, v34, v35, rfl, hR⟩ := hI
  obtain rfl := hR.e0 (hD 0 (by decide))
  obtain rfl := hR.e1 (hD 1 (by decide))
  obtain rfl := hR.e2 (hD 2 (by decide))
  obtain rfl := hR.e3 (hD 3 (by decide))
  obtain rfl := hR.e4 (hD 4 (by decide))
  obtain rfl := hR.e5 (hD 5 (by decide))
  obtain rfl := hR.e6 (hD 6 (by decide))
  obtain ⟨b14, rfl, l14, t14⟩ := hR.m7 (hD 7 (by decide))
  have hbR := hR.b
  have dw := bthen dV hbR
  have X' := range_below hbR zX X
  have G' := range_below hbR (by omega) GV
  have lV := dV.size
  have n14 : n0 ≠ b14 := by omega
  have m14 : m0 + 1 ≠ b14 := by omega
  have zz14 := there_lt t14
  have zz0 := Nat.lt_of_lt_of_le zX hbR.size
  clear hD hR dV X GV zX x0 x1 x2 x3 x4 x5
  simp only [List.drop_succ_cons, List.drop_zero]
  refine wpList_store_wide 27 (.tmp 14) (.tmp 35) rfl rfl b14 0 #[.int .u8 P, .int .u32 E, .int .u32 S, .int .u16 dp, .int .u16 sp, .int .u8 (1 - q0)] rfl rfl w.heap.size w (by rw [info27]; rfl) (by simp [Value.oneCell']) dw (by omega) t14 ?_
  intro V20 d20 zV20 Y20 kV20 tV20 cV20
  have X20 := kV20 _ _ _ n14 X'
  have G_20 := kV20 _ _ _ m14 G'
  have zG_20 : m0 + 1 < V20.heap.size := by omega
  have zf_20 : n0 < V20.heap.size := by omega
  have zy_20 : b14 < V20.heap.size := by omega
  have k20 : w.heap.size ≤ V20.heap.size := d20.size
  clear kV20 tV20 cV20 X' G' hbR dw t14 zz14 zz0 zV20
  have f0_20 : V20.cell? ⟨n0, 0, none⟩ = some (.int .u8 P) := by have := X20 0 (.int .u8 P) rfl; rwa [Nat.zero_add] at this
  have f1_20 : V20.cell? ⟨n0, 1, none⟩ = some (.int .u32 S) := by have := X20 1 (.int .u32 S) rfl; rwa [Nat.zero_add] at this
  have f2_20 : V20.cell? ⟨n0, 2, none⟩ = some (.int .u32 E) := by have := X20 2 (.int .u32 E) rfl; rwa [Nat.zero_add] at this
  have f3_20 : V20.cell? ⟨n0, 3, none⟩ = some (.int .u16 sp) := by have := X20 3 (.int .u16 sp) rfl; rwa [Nat.zero_add] at this
  have f4_20 : V20.cell? ⟨n0, 4, none⟩ = some (.int .u16 dp) := by have := X20 4 (.int .u16 dp) rfl; rwa [Nat.zero_add] at this
  have f5_20 : V20.cell? ⟨n0, 5, none⟩ = some (.int .u8 q0) := by have := X20 5 (.int .u8 q0) rfl; rwa [Nat.zero_add] at this
  have y0_20 : V20.cell? ⟨b14, 0, none⟩ = some (.int .u8 P) := by have := Y20 0 (.int .u8 P) rfl; rwa [Nat.zero_add] at this
  have y1_20 : V20.cell? ⟨b14, 1, none⟩ = some (.int .u32 E) := by have := Y20 1 (.int .u32 E) rfl; rwa [Nat.zero_add] at this
  have y2_20 : V20.cell? ⟨b14, 2, none⟩ = some (.int .u32 S) := by have := Y20 2 (.int .u32 S) rfl; rwa [Nat.zero_add] at this
  have y3_20 : V20.cell? ⟨b14, 3, none⟩ = some (.int .u16 dp) := by have := Y20 3 (.int .u16 dp) rfl; rwa [Nat.zero_add] at this
  have y4_20 : V20.cell? ⟨b14, 4, none⟩ = some (.int .u16 sp) := by have := Y20 4 (.int .u16 sp) rfl; rwa [Nat.zero_add] at this
  have y5_20 : V20.cell? ⟨b14, 5, none⟩ = some (.int .u8 (1 - q0)) := by have := Y20 5 (.int .u8 (1 - q0)) rfl; rwa [Nat.zero_add] at this
  clear X20 Y20
  go_wp2_with fail
  refine (HG.out _ (HT.out.below (by (repeat' (first | with_reducible exact d20 | refine Below.setCell ?_ (by first | omega | (simp; done) | (simp; omega)) _ | refine Below.alloc ?_ (by first | omega | (simp; done) | (simp; omega)) _))))).mono ?_
  rintro e w21 ⟨rfl, hb⟩
  have b21 : Below V20.heap.size V20 w21 := bthen (by (repeat' (first | exact Below.refl _ _ | refine Below.setCell ?_ (by first | omega | (simp; done) | (simp; omega)) _ | refine Below.alloc ?_ (by first | omega | (simp; done) | (simp; omega)) _))) hb
  have d21 : Below w.heap.size w w21 := bthen d20 b21
  have k21 : w.heap.size ≤ w21.heap.size := d21.size
  have G_21 : w21.rangeAt (m0 + 1) 0 (#[g0, g1, g2, g3, g4, g5, g6, g7, g8, g9, g10, g11, g12, g13, g14, g15, g16, g17, g18]).toList := range_below b21 (by omega) G_20
  have zG_21 : m0 + 1 < w21.heap.size := Nat.lt_of_lt_of_le zG_20 b21.size
  have f0_21 : w21.cell? ⟨n0, 0, none⟩ = some (.int .u8 P) := (b21.cell (p := ⟨n0, 0, none⟩) (by show n0 < V20.heap.size; omega)).trans f0_20
  have f1_21 : w21.cell? ⟨n0, 1, none⟩ = some (.int .u32 S) := (b21.cell (p := ⟨n0, 1, none⟩) (by show n0 < V20.heap.size; omega)).trans f1_20
  have f2_21 : w21.cell? ⟨n0, 2, none⟩ = some (.int .u32 E) := (b21.cell (p := ⟨n0, 2, none⟩) (by show n0 < V20.heap.size; omega)).trans f2_20
  have f3_21 : w21.cell? ⟨n0, 3, none⟩ = some (.int .u16 sp) := (b21.cell (p := ⟨n0, 3, none⟩) (by show n0 < V20.heap.size; omega)).trans f3_20
  have f4_21 : w21.cell? ⟨n0, 4, none⟩ = some (.int .u16 dp) := (b21.cell (p := ⟨n0, 4, none⟩) (by show n0 < V20.heap.size; omega)).trans f4_20
  have f5_21 : w21.cell? ⟨n0, 5, none⟩ = some (.int .u8 q0) := (b21.cell (p := ⟨n0, 5, none⟩) (by show n0 < V20.heap.size; omega)).trans f5_20
  have zf_21 : n0 < w21.heap.size := Nat.lt_of_lt_of_le zf_20 b21.size
  have y0_21 : w21.cell? ⟨b14, 0, none⟩ = some (.int .u8 P) := (b21.cell (p := ⟨b14, 0, none⟩) (by show b14 < V20.heap.size; omega)).trans y0_20
  have y1_21 : w21.cell? ⟨b14, 1, none⟩ = some (.int .u32 E) := (b21.cell (p := ⟨b14, 1, none⟩) (by show b14 < V20.heap.size; omega)).trans y1_20
  have y2_21 : w21.cell? ⟨b14, 2, none⟩ = some (.int .u32 S) := (b21.cell (p := ⟨b14, 2, none⟩) (by show b14 < V20.heap.size; omega)).trans y2_20
  have y3_21 : w21.cell? ⟨b14, 3, none⟩ = some (.int .u16 dp) := (b21.cell (p := ⟨b14, 3, none⟩) (by show b14 < V20.heap.size; omega)).trans y3_20
  have y4_21 : w21.cell? ⟨b14, 4, none⟩ = some (.int .u16 sp) := (b21.cell (p := ⟨b14, 4, none⟩) (by show b14 < V20.heap.size; omega)).trans y4_20
  have y5_21 : w21.cell? ⟨b14, 5, none⟩ = some (.int .u8 (1 - q0)) := (b21.cell (p := ⟨b14, 5, none⟩) (by show b14 < V20.heap.size; omega)).trans y5_20
  have zy_21 : b14 < w21.heap.size := Nat.lt_of_lt_of_le zy_20 b21.size
  clear hb b21 d20 k20 G_20 zG_20 f0_20 f1_20 f2_20 f3_20 f4_20 f5_20 zf_20 y0_20 y1_20 y2_20 y3_20 y4_20 y5_20 zy_20
  obtain ⟨ie, zz, hie, hz, hs⟩ := info41z
  have HIE := Lib.hid (And.intro hie (And.intro hz hs))
  go_wp2_with (first | (refine wpList_store_wide 29 (.tmp 15) (.tmp 41) rfl rfl w21.heap.size 0 #[c0, c1, c2, c3, c4, c5, c6, c7, c8, c9, c10, c11, c12, c13, c14, c15, c16, c17, c18] rfl rfl w.heap.size w (by rw [info29]; rfl) Ho1.out ?_ k21 ?_ ?_; (· (repeat' (first | with_reducible exact d21 | refine Below.setCell ?_ (by first | omega | (simp; done) | (simp; omega)) _ | refine Below.alloc ?_ (by first | omega | (simp; done) | (simp; omega)) _))); (· (repeat (first | (refine there_new _ _ _ _ _ ?_ rfl; first | rfl | (simp; done)) | refine World.there_alloc ?_ _))); intro V30 d30 zV30 R30 kV30 tV30 cV30; have f0_30 : V30.cell? ⟨n0, 0, none⟩ = some (.int .u8 P) := (cV30 n0 0 (by omega)).trans (by simp [go_sem, f0_21, zf_21]); have f1_30 : V30.cell? ⟨n0, 1, none⟩ = some (.int .u32 S) := (cV30 n0 1 (by omega)).trans (by simp [go_sem, f1_21, zf_21]); have f2_30 : V30.cell? ⟨n0, 2, none⟩ = some (.int .u32 E) := (cV30 n0 2 (by omega)).trans (by simp [go_sem, f2_21, zf_21]); have f3_30 : V30.cell? ⟨n0, 3, none⟩ = some (.int .u16 sp) := (cV30 n0 3 (by omega)).trans (by simp [go_sem, f3_21, zf_21]); have f4_30 : V30.cell? ⟨n0, 4, none⟩ = some (.int .u16 dp) := (cV30 n0 4 (by omega)).trans (by simp [go_sem, f4_21, zf_21]); have f5_30 : V30.cell? ⟨n0, 5, none⟩ = some (.int .u8 q0) := (cV30 n0 5 (by omega)).trans (by simp [go_sem, f5_21, zf_21]); have y0_30 : V30.cell? ⟨b14, 0, none⟩ = some (.int .u8 P) := (cV30 b14 0 (by omega)).trans (by simp [go_sem, y0_21, zy_21]); have y1_30 : V30.cell? ⟨b14, 1, none⟩ = some (.int .u32 E) := (cV30 b14 1 (by omega)).trans (by simp [go_sem, y1_21, zy_21]); have y2_30 : V30.cell? ⟨b14, 2, none⟩ = some (.int .u32 S) := (cV30 b14 2 (by omega)).trans (by simp [go_sem, y2_21, zy_21]); have y3_30 : V30.cell? ⟨b14, 3, none⟩ = some (.int .u16 dp) := (cV30 b14 3 (by omega)).trans (by simp [go_sem, y3_21, zy_21]); have y4_30 : V30.cell? ⟨b14, 4, none⟩ = some (.int .u16 sp) := (cV30 b14 4 (by omega)).trans (by simp [go_sem, y4_21, zy_21]); have y5_30 : V30.cell? ⟨b14, 5, none⟩ = some (.int .u8 (1 - q0)) := (cV30 b14 5 (by omega)).trans (by simp [go_sem, y5_21, zy_21]); have zf_30 : n0 < V30.heap.size := (by rw [zV30]; simp; omega); have zy_30 : b14 < V30.heap.size := (by rw [zV30]; simp; omega); have G_30 := kV30 (m0 + 1) _ _ (by omega) (World.rangeAt_alloc G_21 _); clear cV30 kV30 tV30 zV30) | (refine wpList_load_wide 29 (.tmp 15) rfl (by rfl) _ _ rfl #[c0, c1, c2, c3, c4, c5, c6, c7, c8, c9, c10, c11, c12, c13, c14, c15, c16, c17, c18] _ Tryd.underlying29 rfl (by rw [info29]; rfl) R30 ?_) | (refine wpList_load_wide 29 (.tmp 10) rfl (by rfl) _ _ rfl #[g0, g1, g2, g3, g4, g5, g6, g7, g8, g9, g10, g11, g12, g13, g14, g15, g16, g17, g18] _ Tryd.underlying29 rfl (by rw [info29]; rfl) G_30 ?_) | (refine wpList_buildSaid rfl 41 #[(0, .tmp 44), (1, .tmp 45)] rfl [(0, .agg #[c0, c1, c2, c3, c4, c5, c6, c7, c8, c9, c10, c11, c12, c13, c14, c15, c16, c17, c18]), (1, .int .u8 fr)] (some 46) rfl ?_ #[c0, c1, c2, c3, c4, c5, c6, c7, c8, c9, c10, c11, c12, c13, c14, c15, c16, c17, c18, .int .u8 fr] (built41 c0 c1 c2 c3 c4 c5 c6 c7 c8 c9 c10 c11 c12 c13 c14 c15 c16 c17 c18 fr) ?_; (· (simp; (repeat' (first | rfl | apply And.intro))))) | (refine wpList_buildSaid rfl 41 #[(0, .tmp 47), (1, .tmp 48)] rfl [(0, .agg #[g0, g1, g2, g3, g4, g5, g6, g7, g8, g9, g10, g11, g12, g13, g14, g15, g16, g17, g18]), (1, .int .u8 src)] (some 49) rfl ?_ #[g0, g1, g2, g3, g4, g5, g6, g7, g8, g9, g10, g11, g12, g13, g14, g15, g16, g17, g18, .int .u8 src] (built41 g0 g1 g2 g3 g4 g5 g6 g7 g8 g9 g10 g11 g12 g13 g14 g15 g16 g17 g18 src) ?_; (· (simp; (repeat' (first | rfl | apply And.intro))))) | (refine wpList_buildWide rfl 42 41 2 20 #[(0, .tmp 46), (1, .tmp 49)] rfl [[c0, c1, c2, c3, c4, c5, c6, c7, c8, c9, c10, c11, c12, c13, c14, c15, c16, c17, c18, .int .u8 fr], [g0, g1, g2, g3, g4, g5, g6, g7, g8, g9, g10, g11, g12, g13, g14, g15, g16, g17, g18, .int .u8 src]] V30.heap.size rfl (some 50) rfl ie zz Tryd.underlying42 hie hz hs (by decide) (by decide) rfl (by decide) ?_ ?_ ?_; (· (simp; (repeat' (first | rfl | apply And.intro)))); (· (intro l hl; simp at hl; rcases hl with rfl | rfl <;> rfl))))
  obtain ⟨V40, hV40⟩ : ∃ V, V30.alloc (.cells #[c0, c1, c2, c3, c4, c5, c6, c7, c8, c9, c10, c11, c12, c13, c14, c15, c16, c17, c18, .int .u8 fr, g0, g1, g2, g3, g4, g5, g6, g7, g8, g9, g10, g11, g12, g13, g14, g15, g16, g17, g18, .int .u8 src] 41) = V := ⟨_, rfl⟩
  obtain ⟨b50, hb50⟩ : ∃ b, V30.heap.size = b := ⟨_, rfl⟩
  have d40 : Below w.heap.size w V40 := by rw [← hV40]; exact d30.alloc d30.size _
  have SL : V40.rangeAt b50 0 #[c0, c1, c2, c3, c4, c5, c6, c7, c8, c9, c10, c11, c12, c13, c14, c15, c16, c17, c18, .int .u8 fr, g0, g1, g2, g3, g4, g5, g6, g7, g8, g9, g10, g11, g12, g13, g14, g15, g16, g17, g18, .int .u8 src].toList := by rw [← hV40, ← hb50]; exact range_new V30 _ 41
  have zS : b50 < V40.heap.size := by rw [← hV40, ← hb50]; simp
  have kS : w.heap.size ≤ b50 := by rw [← hb50]; exact d30.size
  have f0_40 : V40.cell? ⟨n0, 0, none⟩ = some (.int .u8 P) := by rw [← hV40]; simp [go_sem, f0_30, zf_30]
  have f1_40 : V40.cell? ⟨n0, 1, none⟩ = some (.int .u32 S) := by rw [← hV40]; simp [go_sem, f1_30, zf_30]
  have f2_40 : V40.cell? ⟨n0, 2, none⟩ = some (.int .u32 E) := by rw [← hV40]; simp [go_sem, f2_30, zf_30]
  have f3_40 : V40.cell? ⟨n0, 3, none⟩ = some (.int .u16 sp) := by rw [← hV40]; simp [go_sem, f3_30, zf_30]
  have f4_40 : V40.cell? ⟨n0, 4, none⟩ = some (.int .u16 dp) := by rw [← hV40]; simp [go_sem, f4_30, zf_30]
  have f5_40 : V40.cell? ⟨n0, 5, none⟩ = some (.int .u8 q0) := by rw [← hV40]; simp [go_sem, f5_30, zf_30]
  have y0_40 : V40.cell? ⟨b14, 0, none⟩ = some (.int .u8 P) := by rw [← hV40]; simp [go_sem, y0_30, zy_30]
  have y1_40 : V40.cell? ⟨b14, 1, none⟩ = some (.int .u32 E) := by rw [← hV40]; simp [go_sem, y1_30, zy_30]
  have y2_40 : V40.cell? ⟨b14, 2, none⟩ = some (.int .u32 S) := by rw [← hV40]; simp [go_sem, y2_30, zy_30]
  have y3_40 : V40.cell? ⟨b14, 3, none⟩ = some (.int .u16 dp) := by rw [← hV40]; simp [go_sem, y3_30, zy_30]
  have y4_40 : V40.cell? ⟨b14, 4, none⟩ = some (.int .u16 sp) := by rw [← hV40]; simp [go_sem, y4_30, zy_30]
  have y5_40 : V40.cell? ⟨b14, 5, none⟩ = some (.int .u8 (1 - q0)) := by rw [← hV40]; simp [go_sem, y5_30, zy_30]
  have zf_40 : n0 < V40.heap.size := by rw [← hV40]; simp; omega
  have zy_40 : b14 < V40.heap.size := by rw [← hV40]; simp; omega
  have s1 : V40.rangeAt b50 0 (#[c0, c1, c2, c3, c4, c5, c6, c7, c8, c9, c10, c11, c12, c13, c14, c15, c16, c17, c18, .int .u8 fr] : Array Value).toList := range_part (l := []) (m := [c0, c1, c2, c3, c4, c5, c6, c7, c8, c9, c10, c11, c12, c13, c14, c15, c16, c17, c18, .int .u8 fr]) (r := [g0, g1, g2, g3, g4, g5, g6, g7, g8, g9, g10, g11, g12, g13, g14, g15, g16, g17, g18, .int .u8 src]) SL
  have s2 : V40.rangeAt b50 20 (#[g0, g1, g2, g3, g4, g5, g6, g7, g8, g9, g10, g11, g12, g13, g14, g15, g16, g17, g18, .int .u8 src] : Array Value).toList := range_part (l := [c0, c1, c2, c3, c4, c5, c6, c7, c8, c9, c10, c11, c12, c13, c14, c15, c16, c17, c18, .int .u8 fr]) (m := [g0, g1, g2, g3, g4, g5, g6, g7, g8, g9, g10, g11, g12, g13, g14, g15, g16, g17, g18, .int .u8 src]) (r := []) SL
  have k40 : w.heap.size ≤ V40.heap.size := d40.size
  have nfS : n0 < b50 := by rw [← hb50]; exact zf_30
  have nyS : b14 < b50 := by rw [← hb50]; exact zy_30
  rw [hV40, hb50]
  have hA1 := HA1.out
  have hA2 := HA2.out
  clear hV40 SL d30 G_30 R30 zf_30 zy_30 HIE hie hz hs f0_30 f1_30 f2_30 f3_30 f4_30 f5_30 y0_30 y1_30 y2_30 y3_30 y4_30 y5_30 G_21 zG_21 zf_21 zy_21 f0_21 f1_21 f2_21 f3_21 f4_21 f5_21 y0_21 y1_21 y2_21 y3_21 y4_21 y5_21 d21 k21
  refine wp_loop_rounds 3 ?_
  rw [rounds_succ]
  go_wp2_with (first | (refine wpList_load_wide 41 (.tmp 54) rfl (by rfl) b50 0 rfl (#[c0, c1, c2, c3, c4, c5, c6, c7, c8, c9, c10, c11, c12, c13, c14, c15, c16, c17, c18, .int .u8 fr] : Array Value) _ Tryd.underlying41 rfl (by rw [info41]; rfl) s1 ?_) | (refine wpList_store_wide 41 (.tmp 19) (.tmp 55) rfl rfl V40.heap.size 0 (#[c0, c1, c2, c3, c4, c5, c6, c7, c8, c9, c10, c11, c12, c13, c14, c15, c16, c17, c18, .int .u8 fr] : Array Value) rfl rfl w.heap.size w (by rw [info41]; rfl) (one20 (Ho1.out) fr) ?_ k40 ?_ ?_; (· (repeat' (first | with_reducible exact d40 | refine Below.setCell ?_ (by first | omega | (simp; done) | (simp; omega)) _ | refine Below.alloc ?_ (by first | omega | (simp; done) | (simp; omega)) _))); (· (repeat (first | (refine there_new _ _ _ _ _ ?_ rfl; first | rfl | (simp; done)) | refine World.there_alloc ?_ _))); intro V41 d41 zV41 RV41 kV41 tV41 cV41; have f0_41 : V41.cell? ⟨n0, 0, none⟩ = some (.int .u8 P) := (cV41 n0 0 (by omega)).trans (by simp [go_sem, f0_40, zf_40]); have f1_41 : V41.cell? ⟨n0, 1, none⟩ = some (.int .u32 S) := (cV41 n0 1 (by omega)).trans (by simp [go_sem, f1_40, zf_40]); have f2_41 : V41.cell? ⟨n0, 2, none⟩ = some (.int .u32 E) := (cV41 n0 2 (by omega)).trans (by simp [go_sem, f2_40, zf_40]); have f3_41 : V41.cell? ⟨n0, 3, none⟩ = some (.int .u16 sp) := (cV41 n0 3 (by omega)).trans (by simp [go_sem, f3_40, zf_40]); have f4_41 : V41.cell? ⟨n0, 4, none⟩ = some (.int .u16 dp) := (cV41 n0 4 (by omega)).trans (by simp [go_sem, f4_40, zf_40]); have f5_41 : V41.cell? ⟨n0, 5, none⟩ = some (.int .u8 q0) := (cV41 n0 5 (by omega)).trans (by simp [go_sem, f5_40, zf_40]); have y0_41 : V41.cell? ⟨b14, 0, none⟩ = some (.int .u8 P) := (cV41 b14 0 (by omega)).trans (by simp [go_sem, y0_40, zy_40]); have y1_41 : V41.cell? ⟨b14, 1, none⟩ = some (.int .u32 E) := (cV41 b14 1 (by omega)).trans (by simp [go_sem, y1_40, zy_40]); have y2_41 : V41.cell? ⟨b14, 2, none⟩ = some (.int .u32 S) := (cV41 b14 2 (by omega)).trans (by simp [go_sem, y2_40, zy_40]); have y3_41 : V41.cell? ⟨b14, 3, none⟩ = some (.int .u16 dp) := (cV41 b14 3 (by omega)).trans (by simp [go_sem, y3_40, zy_40]); have y4_41 : V41.cell? ⟨b14, 4, none⟩ = some (.int .u16 sp) := (cV41 b14 4 (by omega)).trans (by simp [go_sem, y4_40, zy_40]); have y5_41 : V41.cell? ⟨b14, 5, none⟩ = some (.int .u8 (1 - q0)) := (cV41 b14 5 (by omega)).trans (by simp [go_sem, y5_40, zy_40]); have zf_41 : n0 < V41.heap.size := (by rw [zV41]; simp; omega); have zy_41 : b14 < V41.heap.size := (by rw [zV41]; simp; omega); have zq_41 : V40.heap.size < V41.heap.size := (by rw [zV41]; simp); have zC_41 := zq_41; have C_41 : V41.rangeAt V40.heap.size 0 #[c0, c1, c2, c3, c4, c5, c6, c7, c8, c9, c10, c11, c12, c13, c14, c15, c16, c17, c18].toList := range_part (l := []) (m := [c0, c1, c2, c3, c4, c5, c6, c7, c8, c9, c10, c11, c12, c13, c14, c15, c16, c17, c18]) (r := [.int .u8 fr]) RV41; have q19_41 : V41.cell? ⟨V40.heap.size, 19, none⟩ = some (.int .u8 fr) := (by have := RV41 19 (.int .u8 fr) rfl; rwa [Nat.zero_add] at this); have s2_41 : V41.rangeAt b50 20 (#[g0, g1, g2, g3, g4, g5, g6, g7, g8, g9, g10, g11, g12, g13, g14, g15, g16, g17, g18, .int .u8 src] : Array Value).toList := kV41 b50 20 _ (by omega) (World.rangeAt_alloc s2 _); have zs2_41 : b50 < V41.heap.size := (by rw [zV41]; simp; omega); clear cV41 kV41 tV41 zV41) | (refine wpList_load_wide 29 (.tmp 58) rfl (by rfl) V40.heap.size 0 rfl #[c0, c1, c2, c3, c4, c5, c6, c7, c8, c9, c10, c11, c12, c13, c14, c15, c16, c17, c18] _ Tryd.underlying29 rfl (by rw [info29]; rfl) C_41 ?_))
  have k41 : w.heap.size ≤ V41.heap.size := d41.size
  clear f0_40 f1_40 f2_40 f3_40 f4_40 f5_40 y0_40 y1_40 y2_40 y3_40 y4_40 y5_40 zf_40 zy_40 d40 k40
  refine (H1.out _ (HT.out.below (by (repeat' (first | with_reducible exact d41 | refine Below.setCell ?_ (by first | omega | (simp; done) | (simp; omega)) _ | refine Below.alloc ?_ (by first | omega | (simp; done) | (simp; omega)) _))))).mono ?_
  rintro e w42 ⟨rfl, hb⟩
  have b42 : Below V41.heap.size V41 w42 := bthen (by (repeat' (first | exact Below.refl _ _ | refine Below.setCell ?_ (by first | omega | (simp; done) | (simp; omega)) _ | refine Below.alloc ?_ (by first | omega | (simp; done) | (simp; omega)) _))) hb
  have d42 : Below w.heap.size w w42 := bthen d41 b42
  have k42 : w.heap.size ≤ w42.heap.size := d42.size
  have C_42 : w42.rangeAt (V40.heap.size) 0 (#[c0, c1, c2, c3, c4, c5, c6, c7, c8, c9, c10, c11, c12, c13, c14, c15, c16, c17, c18]).toList := range_below b42 (by omega) C_41
  have zC_42 : V40.heap.size < w42.heap.size := Nat.lt_of_lt_of_le zC_41 b42.size
  have s2_42 : w42.rangeAt (b50) 20 ((#[g0, g1, g2, g3, g4, g5, g6, g7, g8, g9, g10, g11, g12, g13, g14, g15, g16, g17, g18, .int .u8 src] : Array Value)).toList := range_below b42 (by omega) s2_41
  have zs2_42 : b50 < w42.heap.size := Nat.lt_of_lt_of_le zs2_41 b42.size
  have f0_42 : w42.cell? ⟨n0, 0, none⟩ = some (.int .u8 P) := (b42.cell (p := ⟨n0, 0, none⟩) (by show n0 < V41.heap.size; omega)).trans f0_41
  have f1_42 : w42.cell? ⟨n0, 1, none⟩ = some (.int .u32 S) := (b42.cell (p := ⟨n0, 1, none⟩) (by show n0 < V41.heap.size; omega)).trans f1_41
  have f2_42 : w42.cell? ⟨n0, 2, none⟩ = some (.int .u32 E) := (b42.cell (p := ⟨n0, 2, none⟩) (by show n0 < V41.heap.size; omega)).trans f2_41
  have f3_42 : w42.cell? ⟨n0, 3, none⟩ = some (.int .u16 sp) := (b42.cell (p := ⟨n0, 3, none⟩) (by show n0 < V41.heap.size; omega)).trans f3_41
  have f4_42 : w42.cell? ⟨n0, 4, none⟩ = some (.int .u16 dp) := (b42.cell (p := ⟨n0, 4, none⟩) (by show n0 < V41.heap.size; omega)).trans f4_41
  have f5_42 : w42.cell? ⟨n0, 5, none⟩ = some (.int .u8 q0) := (b42.cell (p := ⟨n0, 5, none⟩) (by show n0 < V41.heap.size; omega)).trans f5_41
  have zf_42 : n0 < w42.heap.size := Nat.lt_of_lt_of_le zf_41 b42.size
  have y0_42 : w42.cell? ⟨b14, 0, none⟩ = some (.int .u8 P) := (b42.cell (p := ⟨b14, 0, none⟩) (by show b14 < V41.heap.size; omega)).trans y0_41
  have y1_42 : w42.cell? ⟨b14, 1, none⟩ = some (.int .u32 E) := (b42.cell (p := ⟨b14, 1, none⟩) (by show b14 < V41.heap.size; omega)).trans y1_41
  have y2_42 : w42.cell? ⟨b14, 2, none⟩ = some (.int .u32 S) := (b42.cell (p := ⟨b14, 2, none⟩) (by show b14 < V41.heap.size; omega)).trans y2_41
  have y3_42 : w42.cell? ⟨b14, 3, none⟩ = some (.int .u16 dp) := (b42.cell (p := ⟨b14, 3, none⟩) (by show b14 < V41.heap.size; omega)).trans y3_41
  have y4_42 : w42.cell? ⟨b14, 4, none⟩ = some (.int .u16 sp) := (b42.cell (p := ⟨b14, 4, none⟩) (by show b14 < V41.heap.size; omega)).trans y4_41
  have y5_42 : w42.cell? ⟨b14, 5, none⟩ = some (.int .u8 (1 - q0)) := (b42.cell (p := ⟨b14, 5, none⟩) (by show b14 < V41.heap.size; omega)).trans y5_41
  have zy_42 : b14 < w42.heap.size := Nat.lt_of_lt_of_le zy_41 b42.size
  have q19_42 : w42.cell? ⟨V40.heap.size, 19, none⟩ = some (.int .u8 fr) := (b42.cell (p := ⟨V40.heap.size, 19, none⟩) (by show V40.heap.size < V41.heap.size; omega)).trans q19_41
  have zq_42 : V40.heap.size < w42.heap.size := Nat.lt_of_lt_of_le zq_41 b42.size
  clear hb b42 d41 k41 C_41 zC_41 s2_41 zs2_41 f0_41 f1_41 f2_41 f3_41 f4_41 f5_41 zf_41 y0_41 y1_41 y2_41 y3_41 y4_41 y5_41 zy_41 q19_41 zq_41
  go_wp2_with (refine wpList_load_wide 29 (.tmp 67) rfl (by rfl) V40.heap.size 0 rfl #[c0, c1, c2, c3, c4, c5, c6, c7, c8, c9, c10, c11, c12, c13, c14, c15, c16, c17, c18] _ Tryd.underlying29 rfl (by rw [info29]; rfl) C_42 ?_)
  refine (H2.out _ (HT.out.below (by (repeat' (first | with_reducible exact d42 | refine Below.setCell ?_ (by first | omega | (simp; done) | (simp; omega)) _ | refine Below.alloc ?_ (by first | omega | (simp; done) | (simp; omega)) _))))).mono ?_
  rintro e w43 ⟨rfl, hb⟩
  have b43 : Below w42.heap.size w42 w43 := bthen (by (repeat' (first | exact Below.refl _ _ | refine Below.setCell ?_ (by first | omega | (simp; done) | (simp; omega)) _ | refine Below.alloc ?_ (by first | omega | (simp; done) | (simp; omega)) _))) hb
  have d43 : Below w.heap.size w w43 := bthen d42 b43
  have k43 : w.heap.size ≤ w43.heap.size := d43.size
  have C_43 : w43.rangeAt (V40.heap.size) 0 (#[c0, c1, c2, c3, c4, c5, c6, c7, c8, c9, c10, c11, c12, c13, c14, c15, c16, c17, c18]).toList := range_below b43 (by omega) C_42
  have zC_43 : V40.heap.size < w43.heap.size := Nat.lt_of_lt_of_le zC_42 b43.size
  have s2_43 : w43.rangeAt (b50) 20 ((#[g0, g1, g2, g3, g4, g5, g6, g7, g8, g9, g10, g11, g12, g13, g14, g15, g16, g17, g18, .int .u8 src] : Array Value)).toList := range_below b43 (by omega) s2_42
  have zs2_43 : b50 < w43.heap.size := Nat.lt_of_lt_of_le zs2_42 b43.size
  have f0_43 : w43.cell? ⟨n0, 0, none⟩ = some (.int .u8 P) := (b43.cell (p := ⟨n0, 0, none⟩) (by show n0 < w42.heap.size; omega)).trans f0_42
  have f1_43 : w43.cell? ⟨n0, 1, none⟩ = some (.int .u32 S) := (b43.cell (p := ⟨n0, 1, none⟩) (by show n0 < w42.heap.size; omega)).trans f1_42
  have f2_43 : w43.cell? ⟨n0, 2, none⟩ = some (.int .u32 E) := (b43.cell (p := ⟨n0, 2, none⟩) (by show n0 < w42.heap.size; omega)).trans f2_42
  have f3_43 : w43.cell? ⟨n0, 3, none⟩ = some (.int .u16 sp) := (b43.cell (p := ⟨n0, 3, none⟩) (by show n0 < w42.heap.size; omega)).trans f3_42
  have f4_43 : w43.cell? ⟨n0, 4, none⟩ = some (.int .u16 dp) := (b43.cell (p := ⟨n0, 4, none⟩) (by show n0 < w42.heap.size; omega)).trans f4_42
  have f5_43 : w43.cell? ⟨n0, 5, none⟩ = some (.int .u8 q0) := (b43.cell (p := ⟨n0, 5, none⟩) (by show n0 < w42.heap.size; omega)).trans f5_42
  have zf_43 : n0 < w43.heap.size := Nat.lt_of_lt_of_le zf_42 b43.size
  have y0_43 : w43.cell? ⟨b14, 0, none⟩ = some (.int .u8 P) := (b43.cell (p := ⟨b14, 0, none⟩) (by show b14 < w42.heap.size; omega)).trans y0_42
  have y1_43 : w43.cell? ⟨b14, 1, none⟩ = some (.int .u32 E) := (b43.cell (p := ⟨b14, 1, none⟩) (by show b14 < w42.heap.size; omega)).trans y1_42
  have y2_43 : w43.cell? ⟨b14, 2, none⟩ = some (.int .u32 S) := (b43.cell (p := ⟨b14, 2, none⟩) (by show b14 < w42.heap.size; omega)).trans y2_42
  have y3_43 : w43.cell? ⟨b14, 3, none⟩ = some (.int .u16 dp) := (b43.cell (p := ⟨b14, 3, none⟩) (by show b14 < w42.heap.size; omega)).trans y3_42
  have y4_43 : w43.cell? ⟨b14, 4, none⟩ = some (.int .u16 sp) := (b43.cell (p := ⟨b14, 4, none⟩) (by show b14 < w42.heap.size; omega)).trans y4_42
  have y5_43 : w43.cell? ⟨b14, 5, none⟩ = some (.int .u8 (1 - q0)) := (b43.cell (p := ⟨b14, 5, none⟩) (by show b14 < w42.heap.size; omega)).trans y5_42
  have zy_43 : b14 < w43.heap.size := Nat.lt_of_lt_of_le zy_42 b43.size
  have q19_43 : w43.cell? ⟨V40.heap.size, 19, none⟩ = some (.int .u8 fr) := (b43.cell (p := ⟨V40.heap.size, 19, none⟩) (by show V40.heap.size < w42.heap.size; omega)).trans q19_42
  have zq_43 : V40.heap.size < w43.heap.size := Nat.lt_of_lt_of_le zq_42 b43.size
  clear hb b43 d42 k42 C_42 zC_42 s2_42 zs2_42 f0_42 f1_42 f2_42 f3_42 f4_42 f5_42 zf_42 y0_42 y1_42 y2_42 y3_42 y4_42 y5_42 zy_42 q19_42 zq_42
  clear q19_43 zq_43 C_43 zC_43
  by_cases hP1 : P = 1
  · have gP : (P == 1) = true := by simpa using hP1
    have HP1 := Lib.hid hP1
    clear hP1
    have h := hA1.1 HP1.out
    clear hA1
    cases u1
    · clear h
      go_wp2_with fail
      rw [rounds_succ]
      go_wp2_with (first | (refine wpList_load_wide 41 (.tmp 54) rfl (by rfl) b50 20 rfl (#[g0, g1, g2, g3, g4, g5, g6, g7, g8, g9, g10, g11, g12, g13, g14, g15, g16, g17, g18, .int .u8 src] : Array Value) _ Tryd.underlying41 rfl (by rw [info41]; rfl) s2_43 ?_) | (refine wpList_store_wide 41 (.tmp 19) (.tmp 55) rfl rfl w43.heap.size 0 (#[g0, g1, g2, g3, g4, g5, g6, g7, g8, g9, g10, g11, g12, g13, g14, g15, g16, g17, g18, .int .u8 src] : Array Value) rfl rfl w.heap.size w (by rw [info41]; rfl) (one20 (Ho2.out) src) ?_ k43 ?_ ?_; (· (repeat' (first | with_reducible exact d43 | refine Below.setCell ?_ (by first | omega | (simp; done) | (simp; omega)) _ | refine Below.alloc ?_ (by first | omega | (simp; done) | (simp; omega)) _))); (· (repeat (first | (refine there_new _ _ _ _ _ ?_ rfl; first | rfl | (simp; done)) | refine World.there_alloc ?_ _))); intro V44 d44 zV44 RV44 kV44 tV44 cV44; have f0_44 : V44.cell? ⟨n0, 0, none⟩ = some (.int .u8 P) := (cV44 n0 0 (by omega)).trans (by simp [go_sem, f0_43, zf_43]); have f1_44 : V44.cell? ⟨n0, 1, none⟩ = some (.int .u32 S) := (cV44 n0 1 (by omega)).trans (by simp [go_sem, f1_43, zf_43]); have f2_44 : V44.cell? ⟨n0, 2, none⟩ = some (.int .u32 E) := (cV44 n0 2 (by omega)).trans (by simp [go_sem, f2_43, zf_43]); have f3_44 : V44.cell? ⟨n0, 3, none⟩ = some (.int .u16 sp) := (cV44 n0 3 (by omega)).trans (by simp [go_sem, f3_43, zf_43]); have f4_44 : V44.cell? ⟨n0, 4, none⟩ = some (.int .u16 dp) := (cV44 n0 4 (by omega)).trans (by simp [go_sem, f4_43, zf_43]); have f5_44 : V44.cell? ⟨n0, 5, none⟩ = some (.int .u8 q0) := (cV44 n0 5 (by omega)).trans (by simp [go_sem, f5_43, zf_43]); have y0_44 : V44.cell? ⟨b14, 0, none⟩ = some (.int .u8 P) := (cV44 b14 0 (by omega)).trans (by simp [go_sem, y0_43, zy_43]); have y1_44 : V44.cell? ⟨b14, 1, none⟩ = some (.int .u32 E) := (cV44 b14 1 (by omega)).trans (by simp [go_sem, y1_43, zy_43]); have y2_44 : V44.cell? ⟨b14, 2, none⟩ = some (.int .u32 S) := (cV44 b14 2 (by omega)).trans (by simp [go_sem, y2_43, zy_43]); have y3_44 : V44.cell? ⟨b14, 3, none⟩ = some (.int .u16 dp) := (cV44 b14 3 (by omega)).trans (by simp [go_sem, y3_43, zy_43]); have y4_44 : V44.cell? ⟨b14, 4, none⟩ = some (.int .u16 sp) := (cV44 b14 4 (by omega)).trans (by simp [go_sem, y4_43, zy_43]); have y5_44 : V44.cell? ⟨b14, 5, none⟩ = some (.int .u8 (1 - q0)) := (cV44 b14 5 (by omega)).trans (by simp [go_sem, y5_43, zy_43]); have zf_44 : n0 < V44.heap.size := (by rw [zV44]; simp; omega); have zy_44 : b14 < V44.heap.size := (by rw [zV44]; simp; omega); have zq_44 : w43.heap.size < V44.heap.size := (by rw [zV44]; simp); have zC_44 := zq_44; have C_44 : V44.rangeAt w43.heap.size 0 #[g0, g1, g2, g3, g4, g5, g6, g7, g8, g9, g10, g11, g12, g13, g14, g15, g16, g17, g18].toList := range_part (l := []) (m := [g0, g1, g2, g3, g4, g5, g6, g7, g8, g9, g10, g11, g12, g13, g14, g15, g16, g17, g18]) (r := [.int .u8 src]) RV44; have q19_44 : V44.cell? ⟨w43.heap.size, 19, none⟩ = some (.int .u8 src) := (by have := RV44 19 (.int .u8 src) rfl; rwa [Nat.zero_add] at this); clear cV44 kV44 tV44 zV44) | (refine wpList_load_wide 29 (.tmp 58) rfl (by rfl) w43.heap.size 0 rfl #[g0, g1, g2, g3, g4, g5, g6, g7, g8, g9, g10, g11, g12, g13, g14, g15, g16, g17, g18] _ Tryd.underlying29 rfl (by rw [info29]; rfl) C_44 ?_))
      have k44 : w.heap.size ≤ V44.heap.size := d44.size
      clear f0_43 f1_43 f2_43 f3_43 f4_43 f5_43 y0_43 y1_43 y2_43 y3_43 y4_43 y5_43 zf_43 zy_43 d43 k43
      refine (H3.out _ (HT.out.below (by (repeat' (first | with_reducible exact d44 | refine Below.setCell ?_ (by first | omega | (simp; done) | (simp; omega)) _ | refine Below.alloc ?_ (by first | omega | (simp; done) | (simp; omega)) _))))).mono ?_
      rintro e w45 ⟨rfl, hb⟩
      have b45 : Below V44.heap.size V44 w45 := bthen (by (repeat' (first | exact Below.refl _ _ | refine Below.setCell ?_ (by first | omega | (simp; done) | (simp; omega)) _ | refine Below.alloc ?_ (by first | omega | (simp; done) | (simp; omega)) _))) hb
      have d45 : Below w.heap.size w w45 := bthen d44 b45
      have k45 : w.heap.size ≤ w45.heap.size := d45.size
      have C_45 : w45.rangeAt (w43.heap.size) 0 (#[g0, g1, g2, g3, g4, g5, g6, g7, g8, g9, g10, g11, g12, g13, g14, g15, g16, g17, g18]).toList := range_below b45 (by omega) C_44
      have zC_45 : w43.heap.size < w45.heap.size := Nat.lt_of_lt_of_le zC_44 b45.size
      have f0_45 : w45.cell? ⟨n0, 0, none⟩ = some (.int .u8 P) := (b45.cell (p := ⟨n0, 0, none⟩) (by show n0 < V44.heap.size; omega)).trans f0_44
      have f1_45 : w45.cell? ⟨n0, 1, none⟩ = some (.int .u32 S) := (b45.cell (p := ⟨n0, 1, none⟩) (by show n0 < V44.heap.size; omega)).trans f1_44
      have f2_45 : w45.cell? ⟨n0, 2, none⟩ = some (.int .u32 E) := (b45.cell (p := ⟨n0, 2, none⟩) (by show n0 < V44.heap.size; omega)).trans f2_44
      have f3_45 : w45.cell? ⟨n0, 3, none⟩ = some (.int .u16 sp) := (b45.cell (p := ⟨n0, 3, none⟩) (by show n0 < V44.heap.size; omega)).trans f3_44
      have f4_45 : w45.cell? ⟨n0, 4, none⟩ = some (.int .u16 dp) := (b45.cell (p := ⟨n0, 4, none⟩) (by show n0 < V44.heap.size; omega)).trans f4_44
      have f5_45 : w45.cell? ⟨n0, 5, none⟩ = some (.int .u8 q0) := (b45.cell (p := ⟨n0, 5, none⟩) (by show n0 < V44.heap.size; omega)).trans f5_44
      have zf_45 : n0 < w45.heap.size := Nat.lt_of_lt_of_le zf_44 b45.size
      have y0_45 : w45.cell? ⟨b14, 0, none⟩ = some (.int .u8 P) := (b45.cell (p := ⟨b14, 0, none⟩) (by show b14 < V44.heap.size; omega)).trans y0_44
      have y1_45 : w45.cell? ⟨b14, 1, none⟩ = some (.int .u32 E) := (b45.cell (p := ⟨b14, 1, none⟩) (by show b14 < V44.heap.size; omega)).trans y1_44
      have y2_45 : w45.cell? ⟨b14, 2, none⟩ = some (.int .u32 S) := (b45.cell (p := ⟨b14, 2, none⟩) (by show b14 < V44.heap.size; omega)).trans y2_44
      have y3_45 : w45.cell? ⟨b14, 3, none⟩ = some (.int .u16 dp) := (b45.cell (p := ⟨b14, 3, none⟩) (by show b14 < V44.heap.size; omega)).trans y3_44
      have y4_45 : w45.cell? ⟨b14, 4, none⟩ = some (.int .u16 sp) := (b45.cell (p := ⟨b14, 4, none⟩) (by show b14 < V44.heap.size; omega)).trans y4_44
      have y5_45 : w45.cell? ⟨b14, 5, none⟩ = some (.int .u8 (1 - q0)) := (b45.cell (p := ⟨b14, 5, none⟩) (by show b14 < V44.heap.size; omega)).trans y5_44
      have zy_45 : b14 < w45.heap.size := Nat.lt_of_lt_of_le zy_44 b45.size
      have q19_45 : w45.cell? ⟨w43.heap.size, 19, none⟩ = some (.int .u8 src) := (b45.cell (p := ⟨w43.heap.size, 19, none⟩) (by show w43.heap.size < V44.heap.size; omega)).trans q19_44
      have zq_45 : w43.heap.size < w45.heap.size := Nat.lt_of_lt_of_le zq_44 b45.size
      clear hb b45 d44 k44 C_44 zC_44 f0_44 f1_44 f2_44 f3_44 f4_44 f5_44 zf_44 y0_44 y1_44 y2_44 y3_44 y4_44 y5_44 zy_44 q19_44 zq_44
      go_wp2_with (refine wpList_load_wide 29 (.tmp 67) rfl (by rfl) w43.heap.size 0 rfl #[g0, g1, g2, g3, g4, g5, g6, g7, g8, g9, g10, g11, g12, g13, g14, g15, g16, g17, g18] _ Tryd.underlying29 rfl (by rw [info29]; rfl) C_45 ?_)
      refine (H4.out _ (HT.out.below (by (repeat' (first | with_reducible exact d45 | refine Below.setCell ?_ (by first | omega | (simp; done) | (simp; omega)) _ | refine Below.alloc ?_ (by first | omega | (simp; done) | (simp; omega)) _))))).mono ?_
      rintro e w46 ⟨rfl, hb⟩
      have b46 : Below w45.heap.size w45 w46 := bthen (by (repeat' (first | exact Below.refl _ _ | refine Below.setCell ?_ (by first | omega | (simp; done) | (simp; omega)) _ | refine Below.alloc ?_ (by first | omega | (simp; done) | (simp; omega)) _))) hb
      have d46 : Below w.heap.size w w46 := bthen d45 b46
      have k46 : w.heap.size ≤ w46.heap.size := d46.size
      have C_46 : w46.rangeAt (w43.heap.size) 0 (#[g0, g1, g2, g3, g4, g5, g6, g7, g8, g9, g10, g11, g12, g13, g14, g15, g16, g17, g18]).toList := range_below b46 (by omega) C_45
      have zC_46 : w43.heap.size < w46.heap.size := Nat.lt_of_lt_of_le zC_45 b46.size
      have f0_46 : w46.cell? ⟨n0, 0, none⟩ = some (.int .u8 P) := (b46.cell (p := ⟨n0, 0, none⟩) (by show n0 < w45.heap.size; omega)).trans f0_45
      have f1_46 : w46.cell? ⟨n0, 1, none⟩ = some (.int .u32 S) := (b46.cell (p := ⟨n0, 1, none⟩) (by show n0 < w45.heap.size; omega)).trans f1_45
      have f2_46 : w46.cell? ⟨n0, 2, none⟩ = some (.int .u32 E) := (b46.cell (p := ⟨n0, 2, none⟩) (by show n0 < w45.heap.size; omega)).trans f2_45
      have f3_46 : w46.cell? ⟨n0, 3, none⟩ = some (.int .u16 sp) := (b46.cell (p := ⟨n0, 3, none⟩) (by show n0 < w45.heap.size; omega)).trans f3_45
      have f4_46 : w46.cell? ⟨n0, 4, none⟩ = some (.int .u16 dp) := (b46.cell (p := ⟨n0, 4, none⟩) (by show n0 < w45.heap.size; omega)).trans f4_45
      have f5_46 : w46.cell? ⟨n0, 5, none⟩ = some (.int .u8 q0) := (b46.cell (p := ⟨n0, 5, none⟩) (by show n0 < w45.heap.size; omega)).trans f5_45
      have zf_46 : n0 < w46.heap.size := Nat.lt_of_lt_of_le zf_45 b46.size
      have y0_46 : w46.cell? ⟨b14, 0, none⟩ = some (.int .u8 P) := (b46.cell (p := ⟨b14, 0, none⟩) (by show b14 < w45.heap.size; omega)).trans y0_45
      have y1_46 : w46.cell? ⟨b14, 1, none⟩ = some (.int .u32 E) := (b46.cell (p := ⟨b14, 1, none⟩) (by show b14 < w45.heap.size; omega)).trans y1_45
      have y2_46 : w46.cell? ⟨b14, 2, none⟩ = some (.int .u32 S) := (b46.cell (p := ⟨b14, 2, none⟩) (by show b14 < w45.heap.size; omega)).trans y2_45
      have y3_46 : w46.cell? ⟨b14, 3, none⟩ = some (.int .u16 dp) := (b46.cell (p := ⟨b14, 3, none⟩) (by show b14 < w45.heap.size; omega)).trans y3_45
      have y4_46 : w46.cell? ⟨b14, 4, none⟩ = some (.int .u16 sp) := (b46.cell (p := ⟨b14, 4, none⟩) (by show b14 < w45.heap.size; omega)).trans y4_45
      have y5_46 : w46.cell? ⟨b14, 5, none⟩ = some (.int .u8 (1 - q0)) := (b46.cell (p := ⟨b14, 5, none⟩) (by show b14 < w45.heap.size; omega)).trans y5_45
      have zy_46 : b14 < w46.heap.size := Nat.lt_of_lt_of_le zy_45 b46.size
      have q19_46 : w46.cell? ⟨w43.heap.size, 19, none⟩ = some (.int .u8 src) := (b46.cell (p := ⟨w43.heap.size, 19, none⟩) (by show w43.heap.size < w45.heap.size; omega)).trans q19_45
      have zq_46 : w43.heap.size < w46.heap.size := Nat.lt_of_lt_of_le zq_45 b46.size
      clear hb b46 d45 k45 C_45 zC_45 f0_45 f1_45 f2_45 f3_45 f4_45 f5_45 zf_45 y0_45 y1_45 y2_45 y3_45 y4_45 y5_45 zy_45 q19_45 zq_45
      clear q19_46 zq_46 C_46 zC_46
      have h := hA2.1 HP1.out
      clear hA2
      cases u2
      · clear h
        go_wp2_with fail
        rw [rounds_succ]
        go_wp2_with fail
        go_ret
        exact ⟨rfl, d46⟩
      · cases v2
        · clear h
          go_wp2_with fail
          rw [rounds_succ]
          go_wp2_with fail
          go_ret
          exact ⟨rfl, d46⟩
        · exact absurd ⟨rfl, rfl⟩ h
    · cases v1
      · clear h
        go_wp2_with fail
        rw [rounds_succ]
        go_wp2_with (first | (refine wpList_load_wide 41 (.tmp 54) rfl (by rfl) b50 20 rfl (#[g0, g1, g2, g3, g4, g5, g6, g7, g8, g9, g10, g11, g12, g13, g14, g15, g16, g17, g18, .int .u8 src] : Array Value) _ Tryd.underlying41 rfl (by rw [info41]; rfl) s2_43 ?_) | (refine wpList_store_wide 41 (.tmp 19) (.tmp 55) rfl rfl w43.heap.size 0 (#[g0, g1, g2, g3, g4, g5, g6, g7, g8, g9, g10, g11, g12, g13, g14, g15, g16, g17, g18, .int .u8 src] : Array Value) rfl rfl w.heap.size w (by rw [info41]; rfl) (one20 (Ho2.out) src) ?_ k43 ?_ ?_; (· (repeat' (first | with_reducible exact d43 | refine Below.setCell ?_ (by first | omega | (simp; done) | (simp; omega)) _ | refine Below.alloc ?_ (by first | omega | (simp; done) | (simp; omega)) _))); (· (repeat (first | (refine there_new _ _ _ _ _ ?_ rfl; first | rfl | (simp; done)) | refine World.there_alloc ?_ _))); intro V44 d44 zV44 RV44 kV44 tV44 cV44; have f0_44 : V44.cell? ⟨n0, 0, none⟩ = some (.int .u8 P) := (cV44 n0 0 (by omega)).trans (by simp [go_sem, f0_43, zf_43]); have f1_44 : V44.cell? ⟨n0, 1, none⟩ = some (.int .u32 S) := (cV44 n0 1 (by omega)).trans (by simp [go_sem, f1_43, zf_43]); have f2_44 : V44.cell? ⟨n0, 2, none⟩ = some (.int .u32 E) := (cV44 n0 2 (by omega)).trans (by simp [go_sem, f2_43, zf_43]); have f3_44 : V44.cell? ⟨n0, 3, none⟩ = some (.int .u16 sp) := (cV44 n0 3 (by omega)).trans (by simp [go_sem, f3_43, zf_43]); have f4_44 : V44.cell? ⟨n0, 4, none⟩ = some (.int .u16 dp) := (cV44 n0 4 (by omega)).trans (by simp [go_sem, f4_43, zf_43]); have f5_44 : V44.cell? ⟨n0, 5, none⟩ = some (.int .u8 q0) := (cV44 n0 5 (by omega)).trans (by simp [go_sem, f5_43, zf_43]); have y0_44 : V44.cell? ⟨b14, 0, none⟩ = some (.int .u8 P) := (cV44 b14 0 (by omega)).trans (by simp [go_sem, y0_43, zy_43]); have y1_44 : V44.cell? ⟨b14, 1, none⟩ = some (.int .u32 E) := (cV44 b14 1 (by omega)).trans (by simp [go_sem, y1_43, zy_43]); have y2_44 : V44.cell? ⟨b14, 2, none⟩ = some (.int .u32 S) := (cV44 b14 2 (by omega)).trans (by simp [go_sem, y2_43, zy_43]); have y3_44 : V44.cell? ⟨b14, 3, none⟩ = some (.int .u16 dp) := (cV44 b14 3 (by omega)).trans (by simp [go_sem, y3_43, zy_43]); have y4_44 : V44.cell? ⟨b14, 4, none⟩ = some (.int .u16 sp) := (cV44 b14 4 (by omega)).trans (by simp [go_sem, y4_43, zy_43]); have y5_44 : V44.cell? ⟨b14, 5, none⟩ = some (.int .u8 (1 - q0)) := (cV44 b14 5 (by omega)).trans (by simp [go_sem, y5_43, zy_43]); have zf_44 : n0 < V44.heap.size := (by rw [zV44]; simp; omega); have zy_44 : b14 < V44.heap.size := (by rw [zV44]; simp; omega); have zq_44 : w43.heap.size < V44.heap.size := (by rw [zV44]; simp); have zC_44 := zq_44; have C_44 : V44.rangeAt w43.heap.size 0 #[g0, g1, g2, g3, g4, g5, g6, g7, g8, g9, g10, g11, g12, g13, g14, g15, g16, g17, g18].toList := range_part (l := []) (m := [g0, g1, g2, g3, g4, g5, g6, g7, g8, g9, g10, g11, g12, g13, g14, g15, g16, g17, g18]) (r := [.int .u8 src]) RV44; have q19_44 : V44.cell? ⟨w43.heap.size, 19, none⟩ = some (.int .u8 src) := (by have := RV44 19 (.int .u8 src) rfl; rwa [Nat.zero_add] at this); clear cV44 kV44 tV44 zV44) | (refine wpList_load_wide 29 (.tmp 58) rfl (by rfl) w43.heap.size 0 rfl #[g0, g1, g2, g3, g4, g5, g6, g7, g8, g9, g10, g11, g12, g13, g14, g15, g16, g17, g18] _ Tryd.underlying29 rfl (by rw [info29]; rfl) C_44 ?_))
        have k44 : w.heap.size ≤ V44.heap.size := d44.size
        clear f0_43 f1_43 f2_43 f3_43 f4_43 f5_43 y0_43 y1_43 y2_43 y3_43 y4_43 y5_43 zf_43 zy_43 d43 k43
        refine (H3.out _ (HT.out.below (by (repeat' (first | with_reducible exact d44 | refine Below.setCell ?_ (by first | omega | (simp; done) | (simp; omega)) _ | refine Below.alloc ?_ (by first | omega | (simp; done) | (simp; omega)) _))))).mono ?_
        rintro e w45 ⟨rfl, hb⟩
        have b45 : Below V44.heap.size V44 w45 := bthen (by (repeat' (first | exact Below.refl _ _ | refine Below.setCell ?_ (by first | omega | (simp; done) | (simp; omega)) _ | refine Below.alloc ?_ (by first | omega | (simp; done) | (simp; omega)) _))) hb
        have d45 : Below w.heap.size w w45 := bthen d44 b45
        have k45 : w.heap.size ≤ w45.heap.size := d45.size
        have C_45 : w45.rangeAt (w43.heap.size) 0 (#[g0, g1, g2, g3, g4, g5, g6, g7, g8, g9, g10, g11, g12, g13, g14, g15, g16, g17, g18]).toList := range_below b45 (by omega) C_44
        have zC_45 : w43.heap.size < w45.heap.size := Nat.lt_of_lt_of_le zC_44 b45.size
        have f0_45 : w45.cell? ⟨n0, 0, none⟩ = some (.int .u8 P) := (b45.cell (p := ⟨n0, 0, none⟩) (by show n0 < V44.heap.size; omega)).trans f0_44
        have f1_45 : w45.cell? ⟨n0, 1, none⟩ = some (.int .u32 S) := (b45.cell (p := ⟨n0, 1, none⟩) (by show n0 < V44.heap.size; omega)).trans f1_44
        have f2_45 : w45.cell? ⟨n0, 2, none⟩ = some (.int .u32 E) := (b45.cell (p := ⟨n0, 2, none⟩) (by show n0 < V44.heap.size; omega)).trans f2_44
        have f3_45 : w45.cell? ⟨n0, 3, none⟩ = some (.int .u16 sp) := (b45.cell (p := ⟨n0, 3, none⟩) (by show n0 < V44.heap.size; omega)).trans f3_44
        have f4_45 : w45.cell? ⟨n0, 4, none⟩ = some (.int .u16 dp) := (b45.cell (p := ⟨n0, 4, none⟩) (by show n0 < V44.heap.size; omega)).trans f4_44
        have f5_45 : w45.cell? ⟨n0, 5, none⟩ = some (.int .u8 q0) := (b45.cell (p := ⟨n0, 5, none⟩) (by show n0 < V44.heap.size; omega)).trans f5_44
        have zf_45 : n0 < w45.heap.size := Nat.lt_of_lt_of_le zf_44 b45.size
        have y0_45 : w45.cell? ⟨b14, 0, none⟩ = some (.int .u8 P) := (b45.cell (p := ⟨b14, 0, none⟩) (by show b14 < V44.heap.size; omega)).trans y0_44
        have y1_45 : w45.cell? ⟨b14, 1, none⟩ = some (.int .u32 E) := (b45.cell (p := ⟨b14, 1, none⟩) (by show b14 < V44.heap.size; omega)).trans y1_44
        have y2_45 : w45.cell? ⟨b14, 2, none⟩ = some (.int .u32 S) := (b45.cell (p := ⟨b14, 2, none⟩) (by show b14 < V44.heap.size; omega)).trans y2_44
        have y3_45 : w45.cell? ⟨b14, 3, none⟩ = some (.int .u16 dp) := (b45.cell (p := ⟨b14, 3, none⟩) (by show b14 < V44.heap.size; omega)).trans y3_44
        have y4_45 : w45.cell? ⟨b14, 4, none⟩ = some (.int .u16 sp) := (b45.cell (p := ⟨b14, 4, none⟩) (by show b14 < V44.heap.size; omega)).trans y4_44
        have y5_45 : w45.cell? ⟨b14, 5, none⟩ = some (.int .u8 (1 - q0)) := (b45.cell (p := ⟨b14, 5, none⟩) (by show b14 < V44.heap.size; omega)).trans y5_44
        have zy_45 : b14 < w45.heap.size := Nat.lt_of_lt_of_le zy_44 b45.size
        have q19_45 : w45.cell? ⟨w43.heap.size, 19, none⟩ = some (.int .u8 src) := (b45.cell (p := ⟨w43.heap.size, 19, none⟩) (by show w43.heap.size < V44.heap.size; omega)).trans q19_44
        have zq_45 : w43.heap.size < w45.heap.size := Nat.lt_of_lt_of_le zq_44 b45.size
        clear hb b45 d44 k44 C_44 zC_44 f0_44 f1_44 f2_44 f3_44 f4_44 f5_44 zf_44 y0_44 y1_44 y2_44 y3_44 y4_44 y5_44 zy_44 q19_44 zq_44
        go_wp2_with (refine wpList_load_wide 29 (.tmp 67) rfl (by rfl) w43.heap.size 0 rfl #[g0, g1, g2, g3, g4, g5, g6, g7, g8, g9, g10, g11, g12, g13, g14, g15, g16, g17, g18] _ Tryd.underlying29 rfl (by rw [info29]; rfl) C_45 ?_)
        refine (H4.out _ (HT.out.below (by (repeat' (first | with_reducible exact d45 | refine Below.setCell ?_ (by first | omega | (simp; done) | (simp; omega)) _ | refine Below.alloc ?_ (by first | omega | (simp; done) | (simp; omega)) _))))).mono ?_
        rintro e w46 ⟨rfl, hb⟩
        have b46 : Below w45.heap.size w45 w46 := bthen (by (repeat' (first | exact Below.refl _ _ | refine Below.setCell ?_ (by first | omega | (simp; done) | (simp; omega)) _ | refine Below.alloc ?_ (by first | omega | (simp; done) | (simp; omega)) _))) hb
        have d46 : Below w.heap.size w w46 := bthen d45 b46
        have k46 : w.heap.size ≤ w46.heap.size := d46.size
        have C_46 : w46.rangeAt (w43.heap.size) 0 (#[g0, g1, g2, g3, g4, g5, g6, g7, g8, g9, g10, g11, g12, g13, g14, g15, g16, g17, g18]).toList := range_below b46 (by omega) C_45
        have zC_46 : w43.heap.size < w46.heap.size := Nat.lt_of_lt_of_le zC_45 b46.size
        have f0_46 : w46.cell? ⟨n0, 0, none⟩ = some (.int .u8 P) := (b46.cell (p := ⟨n0, 0, none⟩) (by show n0 < w45.heap.size; omega)).trans f0_45
        have f1_46 : w46.cell? ⟨n0, 1, none⟩ = some (.int .u32 S) := (b46.cell (p := ⟨n0, 1, none⟩) (by show n0 < w45.heap.size; omega)).trans f1_45
        have f2_46 : w46.cell? ⟨n0, 2, none⟩ = some (.int .u32 E) := (b46.cell (p := ⟨n0, 2, none⟩) (by show n0 < w45.heap.size; omega)).trans f2_45
        have f3_46 : w46.cell? ⟨n0, 3, none⟩ = some (.int .u16 sp) := (b46.cell (p := ⟨n0, 3, none⟩) (by show n0 < w45.heap.size; omega)).trans f3_45
        have f4_46 : w46.cell? ⟨n0, 4, none⟩ = some (.int .u16 dp) := (b46.cell (p := ⟨n0, 4, none⟩) (by show n0 < w45.heap.size; omega)).trans f4_45
        have f5_46 : w46.cell? ⟨n0, 5, none⟩ = some (.int .u8 q0) := (b46.cell (p := ⟨n0, 5, none⟩) (by show n0 < w45.heap.size; omega)).trans f5_45
        have zf_46 : n0 < w46.heap.size := Nat.lt_of_lt_of_le zf_45 b46.size
        have y0_46 : w46.cell? ⟨b14, 0, none⟩ = some (.int .u8 P) := (b46.cell (p := ⟨b14, 0, none⟩) (by show b14 < w45.heap.size; omega)).trans y0_45
        have y1_46 : w46.cell? ⟨b14, 1, none⟩ = some (.int .u32 E) := (b46.cell (p := ⟨b14, 1, none⟩) (by show b14 < w45.heap.size; omega)).trans y1_45
        have y2_46 : w46.cell? ⟨b14, 2, none⟩ = some (.int .u32 S) := (b46.cell (p := ⟨b14, 2, none⟩) (by show b14 < w45.heap.size; omega)).trans y2_45
        have y3_46 : w46.cell? ⟨b14, 3, none⟩ = some (.int .u16 dp) := (b46.cell (p := ⟨b14, 3, none⟩) (by show b14 < w45.heap.size; omega)).trans y3_45
        have y4_46 : w46.cell? ⟨b14, 4, none⟩ = some (.int .u16 sp) := (b46.cell (p := ⟨b14, 4, none⟩) (by show b14 < w45.heap.size; omega)).trans y4_45
        have y5_46 : w46.cell? ⟨b14, 5, none⟩ = some (.int .u8 (1 - q0)) := (b46.cell (p := ⟨b14, 5, none⟩) (by show b14 < w45.heap.size; omega)).trans y5_45
        have zy_46 : b14 < w46.heap.size := Nat.lt_of_lt_of_le zy_45 b46.size
        have q19_46 : w46.cell? ⟨w43.heap.size, 19, none⟩ = some (.int .u8 src) := (b46.cell (p := ⟨w43.heap.size, 19, none⟩) (by show w43.heap.size < w45.heap.size; omega)).trans q19_45
        have zq_46 : w43.heap.size < w46.heap.size := Nat.lt_of_lt_of_le zq_45 b46.size
        clear hb b46 d45 k45 C_45 zC_45 f0_45 f1_45 f2_45 f3_45 f4_45 f5_45 zf_45 y0_45 y1_45 y2_45 y3_45 y4_45 y5_45 zy_45 q19_45 zq_45
        clear q19_46 zq_46 C_46 zC_46
        have h := hA2.1 HP1.out
        clear hA2
        cases u2
        · clear h
          go_wp2_with fail
          rw [rounds_succ]
          go_wp2_with fail
          go_ret
          exact ⟨rfl, d46⟩
        · cases v2
          · clear h
            go_wp2_with fail
            rw [rounds_succ]
            go_wp2_with fail
            go_ret
            exact ⟨rfl, d46⟩
          · exact absurd ⟨rfl, rfl⟩ h
      · exact absurd ⟨rfl, rfl⟩ h
  · have gP : (P == 1) = false := by simpa using hP1
    have HP1 := Lib.hid hP1
    clear hP1
    obtain ⟨h1, h2⟩ := hA1.2 HP1.out
    clear hA1
    dsimp only at h1 h2
    subst h1
    cases u1
    · clear h2
      go_wp2_with fail
      rw [rounds_succ]
      go_wp2_with (first | (refine wpList_load_wide 41 (.tmp 54) rfl (by rfl) b50 20 rfl (#[g0, g1, g2, g3, g4, g5, g6, g7, g8, g9, g10, g11, g12, g13, g14, g15, g16, g17, g18, .int .u8 src] : Array Value) _ Tryd.underlying41 rfl (by rw [info41]; rfl) s2_43 ?_) | (refine wpList_store_wide 41 (.tmp 19) (.tmp 55) rfl rfl w43.heap.size 0 (#[g0, g1, g2, g3, g4, g5, g6, g7, g8, g9, g10, g11, g12, g13, g14, g15, g16, g17, g18, .int .u8 src] : Array Value) rfl rfl w.heap.size w (by rw [info41]; rfl) (one20 (Ho2.out) src) ?_ k43 ?_ ?_; (· (repeat' (first | with_reducible exact d43 | refine Below.setCell ?_ (by first | omega | (simp; done) | (simp; omega)) _ | refine Below.alloc ?_ (by first | omega | (simp; done) | (simp; omega)) _))); (· (repeat (first | (refine there_new _ _ _ _ _ ?_ rfl; first | rfl | (simp; done)) | refine World.there_alloc ?_ _))); intro V44 d44 zV44 RV44 kV44 tV44 cV44; have f0_44 : V44.cell? ⟨n0, 0, none⟩ = some (.int .u8 P) := (cV44 n0 0 (by omega)).trans (by simp [go_sem, f0_43, zf_43]); have f1_44 : V44.cell? ⟨n0, 1, none⟩ = some (.int .u32 S) := (cV44 n0 1 (by omega)).trans (by simp [go_sem, f1_43, zf_43]); have f2_44 : V44.cell? ⟨n0, 2, none⟩ = some (.int .u32 E) := (cV44 n0 2 (by omega)).trans (by simp [go_sem, f2_43, zf_43]); have f3_44 : V44.cell? ⟨n0, 3, none⟩ = some (.int .u16 sp) := (cV44 n0 3 (by omega)).trans (by simp [go_sem, f3_43, zf_43]); have f4_44 : V44.cell? ⟨n0, 4, none⟩ = some (.int .u16 dp) := (cV44 n0 4 (by omega)).trans (by simp [go_sem, f4_43, zf_43]); have f5_44 : V44.cell? ⟨n0, 5, none⟩ = some (.int .u8 q0) := (cV44 n0 5 (by omega)).trans (by simp [go_sem, f5_43, zf_43]); have y0_44 : V44.cell? ⟨b14, 0, none⟩ = some (.int .u8 P) := (cV44 b14 0 (by omega)).trans (by simp [go_sem, y0_43, zy_43]); have y1_44 : V44.cell? ⟨b14, 1, none⟩ = some (.int .u32 E) := (cV44 b14 1 (by omega)).trans (by simp [go_sem, y1_43, zy_43]); have y2_44 : V44.cell? ⟨b14, 2, none⟩ = some (.int .u32 S) := (cV44 b14 2 (by omega)).trans (by simp [go_sem, y2_43, zy_43]); have y3_44 : V44.cell? ⟨b14, 3, none⟩ = some (.int .u16 dp) := (cV44 b14 3 (by omega)).trans (by simp [go_sem, y3_43, zy_43]); have y4_44 : V44.cell? ⟨b14, 4, none⟩ = some (.int .u16 sp) := (cV44 b14 4 (by omega)).trans (by simp [go_sem, y4_43, zy_43]); have y5_44 : V44.cell? ⟨b14, 5, none⟩ = some (.int .u8 (1 - q0)) := (cV44 b14 5 (by omega)).trans (by simp [go_sem, y5_43, zy_43]); have zf_44 : n0 < V44.heap.size := (by rw [zV44]; simp; omega); have zy_44 : b14 < V44.heap.size := (by rw [zV44]; simp; omega); have zq_44 : w43.heap.size < V44.heap.size := (by rw [zV44]; simp); have zC_44 := zq_44; have C_44 : V44.rangeAt w43.heap.size 0 #[g0, g1, g2, g3, g4, g5, g6, g7, g8, g9, g10, g11, g12, g13, g14, g15, g16, g17, g18].toList := range_part (l := []) (m := [g0, g1, g2, g3, g4, g5, g6, g7, g8, g9, g10, g11, g12, g13, g14, g15, g16, g17, g18]) (r := [.int .u8 src]) RV44; have q19_44 : V44.cell? ⟨w43.heap.size, 19, none⟩ = some (.int .u8 src) := (by have := RV44 19 (.int .u8 src) rfl; rwa [Nat.zero_add] at this); clear cV44 kV44 tV44 zV44) | (refine wpList_load_wide 29 (.tmp 58) rfl (by rfl) w43.heap.size 0 rfl #[g0, g1, g2, g3, g4, g5, g6, g7, g8, g9, g10, g11, g12, g13, g14, g15, g16, g17, g18] _ Tryd.underlying29 rfl (by rw [info29]; rfl) C_44 ?_))
      have k44 : w.heap.size ≤ V44.heap.size := d44.size
      clear f0_43 f1_43 f2_43 f3_43 f4_43 f5_43 y0_43 y1_43 y2_43 y3_43 y4_43 y5_43 zf_43 zy_43 d43 k43
      refine (H3.out _ (HT.out.below (by (repeat' (first | with_reducible exact d44 | refine Below.setCell ?_ (by first | omega | (simp; done) | (simp; omega)) _ | refine Below.alloc ?_ (by first | omega | (simp; done) | (simp; omega)) _))))).mono ?_
      rintro e w45 ⟨rfl, hb⟩
      have b45 : Below V44.heap.size V44 w45 := bthen (by (repeat' (first | exact Below.refl _ _ | refine Below.setCell ?_ (by first | omega | (simp; done) | (simp; omega)) _ | refine Below.alloc ?_ (by first | omega | (simp; done) | (simp; omega)) _))) hb
      have d45 : Below w.heap.size w w45 := bthen d44 b45
      have k45 : w.heap.size ≤ w45.heap.size := d45.size
      have C_45 : w45.rangeAt (w43.heap.size) 0 (#[g0, g1, g2, g3, g4, g5, g6, g7, g8, g9, g10, g11, g12, g13, g14, g15, g16, g17, g18]).toList := range_below b45 (by omega) C_44
      have zC_45 : w43.heap.size < w45.heap.size := Nat.lt_of_lt_of_le zC_44 b45.size
      have f0_45 : w45.cell? ⟨n0, 0, none⟩ = some (.int .u8 P) := (b45.cell (p := ⟨n0, 0, none⟩) (by show n0 < V44.heap.size; omega)).trans f0_44
      have f1_45 : w45.cell? ⟨n0, 1, none⟩ = some (.int .u32 S) := (b45.cell (p := ⟨n0, 1, none⟩) (by show n0 < V44.heap.size; omega)).trans f1_44
      have f2_45 : w45.cell? ⟨n0, 2, none⟩ = some (.int .u32 E) := (b45.cell (p := ⟨n0, 2, none⟩) (by show n0 < V44.heap.size; omega)).trans f2_44
      have f3_45 : w45.cell? ⟨n0, 3, none⟩ = some (.int .u16 sp) := (b45.cell (p := ⟨n0, 3, none⟩) (by show n0 < V44.heap.size; omega)).trans f3_44
      have f4_45 : w45.cell? ⟨n0, 4, none⟩ = some (.int .u16 dp) := (b45.cell (p := ⟨n0, 4, none⟩) (by show n0 < V44.heap.size; omega)).trans f4_44
      have f5_45 : w45.cell? ⟨n0, 5, none⟩ = some (.int .u8 q0) := (b45.cell (p := ⟨n0, 5, none⟩) (by show n0 < V44.heap.size; omega)).trans f5_44
      have zf_45 : n0 < w45.heap.size := Nat.lt_of_lt_of_le zf_44 b45.size
      have y0_45 : w45.cell? ⟨b14, 0, none⟩ = some (.int .u8 P) := (b45.cell (p := ⟨b14, 0, none⟩) (by show b14 < V44.heap.size; omega)).trans y0_44
      have y1_45 : w45.cell? ⟨b14, 1, none⟩ = some (.int .u32 E) := (b45.cell (p := ⟨b14, 1, none⟩) (by show b14 < V44.heap.size; omega)).trans y1_44
      have y2_45 : w45.cell? ⟨b14, 2, none⟩ = some (.int .u32 S) := (b45.cell (p := ⟨b14, 2, none⟩) (by show b14 < V44.heap.size; omega)).trans y2_44
      have y3_45 : w45.cell? ⟨b14, 3, none⟩ = some (.int .u16 dp) := (b45.cell (p := ⟨b14, 3, none⟩) (by show b14 < V44.heap.size; omega)).trans y3_44
      have y4_45 : w45.cell? ⟨b14, 4, none⟩ = some (.int .u16 sp) := (b45.cell (p := ⟨b14, 4, none⟩) (by show b14 < V44.heap.size; omega)).trans y4_44
      have y5_45 : w45.cell? ⟨b14, 5, none⟩ = some (.int .u8 (1 - q0)) := (b45.cell (p := ⟨b14, 5, none⟩) (by show b14 < V44.heap.size; omega)).trans y5_44
      have zy_45 : b14 < w45.heap.size := Nat.lt_of_lt_of_le zy_44 b45.size
      have q19_45 : w45.cell? ⟨w43.heap.size, 19, none⟩ = some (.int .u8 src) := (b45.cell (p := ⟨w43.heap.size, 19, none⟩) (by show w43.heap.size < V44.heap.size; omega)).trans q19_44
      have zq_45 : w43.heap.size < w45.heap.size := Nat.lt_of_lt_of_le zq_44 b45.size
      clear hb b45 d44 k44 C_44 zC_44 f0_44 f1_44 f2_44 f3_44 f4_44 f5_44 zf_44 y0_44 y1_44 y2_44 y3_44 y4_44 y5_44 zy_44 q19_44 zq_44
      go_wp2_with (refine wpList_load_wide 29 (.tmp 67) rfl (by rfl) w43.heap.size 0 rfl #[g0, g1, g2, g3, g4, g5, g6, g7, g8, g9, g10, g11, g12, g13, g14, g15, g16, g17, g18] _ Tryd.underlying29 rfl (by rw [info29]; rfl) C_45 ?_)
      refine (H4.out _ (HT.out.below (by (repeat' (first | with_reducible exact d45 | refine Below.setCell ?_ (by first | omega | (simp; done) | (simp; omega)) _ | refine Below.alloc ?_ (by first | omega | (simp; done) | (simp; omega)) _))))).mono ?_
      rintro e w46 ⟨rfl, hb⟩
      have b46 : Below w45.heap.size w45 w46 := bthen (by (repeat' (first | exact Below.refl _ _ | refine Below.setCell ?_ (by first | omega | (simp; done) | (simp; omega)) _ | refine Below.alloc ?_ (by first | omega | (simp; done) | (simp; omega)) _))) hb
      have d46 : Below w.heap.size w w46 := bthen d45 b46
      have k46 : w.heap.size ≤ w46.heap.size := d46.size
      have C_46 : w46.rangeAt (w43.heap.size) 0 (#[g0, g1, g2, g3, g4, g5, g6, g7, g8, g9, g10, g11, g12, g13, g14, g15, g16, g17, g18]).toList := range_below b46 (by omega) C_45
      have zC_46 : w43.heap.size < w46.heap.size := Nat.lt_of_lt_of_le zC_45 b46.size
      have f0_46 : w46.cell? ⟨n0, 0, none⟩ = some (.int .u8 P) := (b46.cell (p := ⟨n0, 0, none⟩) (by show n0 < w45.heap.size; omega)).trans f0_45
      have f1_46 : w46.cell? ⟨n0, 1, none⟩ = some (.int .u32 S) := (b46.cell (p := ⟨n0, 1, none⟩) (by show n0 < w45.heap.size; omega)).trans f1_45
      have f2_46 : w46.cell? ⟨n0, 2, none⟩ = some (.int .u32 E) := (b46.cell (p := ⟨n0, 2, none⟩) (by show n0 < w45.heap.size; omega)).trans f2_45
      have f3_46 : w46.cell? ⟨n0, 3, none⟩ = some (.int .u16 sp) := (b46.cell (p := ⟨n0, 3, none⟩) (by show n0 < w45.heap.size; omega)).trans f3_45
      have f4_46 : w46.cell? ⟨n0, 4, none⟩ = some (.int .u16 dp) := (b46.cell (p := ⟨n0, 4, none⟩) (by show n0 < w45.heap.size; omega)).trans f4_45
      have f5_46 : w46.cell? ⟨n0, 5, none⟩ = some (.int .u8 q0) := (b46.cell (p := ⟨n0, 5, none⟩) (by show n0 < w45.heap.size; omega)).trans f5_45
      have zf_46 : n0 < w46.heap.size := Nat.lt_of_lt_of_le zf_45 b46.size
      have y0_46 : w46.cell? ⟨b14, 0, none⟩ = some (.int .u8 P) := (b46.cell (p := ⟨b14, 0, none⟩) (by show b14 < w45.heap.size; omega)).trans y0_45
      have y1_46 : w46.cell? ⟨b14, 1, none⟩ = some (.int .u32 E) := (b46.cell (p := ⟨b14, 1, none⟩) (by show b14 < w45.heap.size; omega)).trans y1_45
      have y2_46 : w46.cell? ⟨b14, 2, none⟩ = some (.int .u32 S) := (b46.cell (p := ⟨b14, 2, none⟩) (by show b14 < w45.heap.size; omega)).trans y2_45
      have y3_46 : w46.cell? ⟨b14, 3, none⟩ = some (.int .u16 dp) := (b46.cell (p := ⟨b14, 3, none⟩) (by show b14 < w45.heap.size; omega)).trans y3_45
      have y4_46 : w46.cell? ⟨b14, 4, none⟩ = some (.int .u16 sp) := (b46.cell (p := ⟨b14, 4, none⟩) (by show b14 < w45.heap.size; omega)).trans y4_45
      have y5_46 : w46.cell? ⟨b14, 5, none⟩ = some (.int .u8 (1 - q0)) := (b46.cell (p := ⟨b14, 5, none⟩) (by show b14 < w45.heap.size; omega)).trans y5_45
      have zy_46 : b14 < w46.heap.size := Nat.lt_of_lt_of_le zy_45 b46.size
      have q19_46 : w46.cell? ⟨w43.heap.size, 19, none⟩ = some (.int .u8 src) := (b46.cell (p := ⟨w43.heap.size, 19, none⟩) (by show w43.heap.size < w45.heap.size; omega)).trans q19_45
      have zq_46 : w43.heap.size < w46.heap.size := Nat.lt_of_lt_of_le zq_45 b46.size
      clear hb b46 d45 k45 C_45 zC_45 f0_45 f1_45 f2_45 f3_45 f4_45 f5_45 zf_45 y0_45 y1_45 y2_45 y3_45 y4_45 y5_45 zy_45 q19_45 zq_45
      clear q19_46 zq_46 C_46 zC_46
      obtain ⟨h1, h2⟩ := hA2.2 HP1.out
      clear hA2
      dsimp only at h1 h2
      subst h1
      cases u2
      · clear h2
        go_wp2_with fail
        rw [rounds_succ]
        go_wp2_with fail
        go_ret
        exact ⟨rfl, d46⟩
      · have e := h2 rfl
        clear h2
        have e' : (x2 != 1 - y2) = false := by simp [e]
        obtain ⟨hy0, hy1⟩ := HY2.out
        clear e
        go_wp2_with fail
        rw [rounds_succ]
        go_wp2_with fail
        go_ret
        exact ⟨rfl, d46⟩
    · have e := h2 rfl
      clear h2
      have e' : (x1 != 1 - y1) = false := by simp [e]
      obtain ⟨hy0, hy1⟩ := HY1.out
      clear e
      go_wp2_with fail
      rw [rounds_succ]
      go_wp2_with (first | (refine wpList_load_wide 41 (.tmp 54) rfl (by rfl) b50 20 rfl (#[g0, g1, g2, g3, g4, g5, g6, g7, g8, g9, g10, g11, g12, g13, g14, g15, g16, g17, g18, .int .u8 src] : Array Value) _ Tryd.underlying41 rfl (by rw [info41]; rfl) s2_43 ?_) | (refine wpList_store_wide 41 (.tmp 19) (.tmp 55) rfl rfl w43.heap.size 0 (#[g0, g1, g2, g3, g4, g5, g6, g7, g8, g9, g10, g11, g12, g13, g14, g15, g16, g17, g18, .int .u8 src] : Array Value) rfl rfl w.heap.size w (by rw [info41]; rfl) (one20 (Ho2.out) src) ?_ k43 ?_ ?_; (· (repeat' (first | with_reducible exact d43 | refine Below.setCell ?_ (by first | omega | (simp; done) | (simp; omega)) _ | refine Below.alloc ?_ (by first | omega | (simp; done) | (simp; omega)) _))); (· (repeat (first | (refine there_new _ _ _ _ _ ?_ rfl; first | rfl | (simp; done)) | refine World.there_alloc ?_ _))); intro V44 d44 zV44 RV44 kV44 tV44 cV44; have f0_44 : V44.cell? ⟨n0, 0, none⟩ = some (.int .u8 P) := (cV44 n0 0 (by omega)).trans (by simp [go_sem, f0_43, zf_43]); have f1_44 : V44.cell? ⟨n0, 1, none⟩ = some (.int .u32 S) := (cV44 n0 1 (by omega)).trans (by simp [go_sem, f1_43, zf_43]); have f2_44 : V44.cell? ⟨n0, 2, none⟩ = some (.int .u32 E) := (cV44 n0 2 (by omega)).trans (by simp [go_sem, f2_43, zf_43]); have f3_44 : V44.cell? ⟨n0, 3, none⟩ = some (.int .u16 sp) := (cV44 n0 3 (by omega)).trans (by simp [go_sem, f3_43, zf_43]); have f4_44 : V44.cell? ⟨n0, 4, none⟩ = some (.int .u16 dp) := (cV44 n0 4 (by omega)).trans (by simp [go_sem, f4_43, zf_43]); have f5_44 : V44.cell? ⟨n0, 5, none⟩ = some (.int .u8 q0) := (cV44 n0 5 (by omega)).trans (by simp [go_sem, f5_43, zf_43]); have y0_44 : V44.cell? ⟨b14, 0, none⟩ = some (.int .u8 P) := (cV44 b14 0 (by omega)).trans (by simp [go_sem, y0_43, zy_43]); have y1_44 : V44.cell? ⟨b14, 1, none⟩ = some (.int .u32 E) := (cV44 b14 1 (by omega)).trans (by simp [go_sem, y1_43, zy_43]); have y2_44 : V44.cell? ⟨b14, 2, none⟩ = some (.int .u32 S) := (cV44 b14 2 (by omega)).trans (by simp [go_sem, y2_43, zy_43]); have y3_44 : V44.cell? ⟨b14, 3, none⟩ = some (.int .u16 dp) := (cV44 b14 3 (by omega)).trans (by simp [go_sem, y3_43, zy_43]); have y4_44 : V44.cell? ⟨b14, 4, none⟩ = some (.int .u16 sp) := (cV44 b14 4 (by omega)).trans (by simp [go_sem, y4_43, zy_43]); have y5_44 : V44.cell? ⟨b14, 5, none⟩ = some (.int .u8 (1 - q0)) := (cV44 b14 5 (by omega)).trans (by simp [go_sem, y5_43, zy_43]); have zf_44 : n0 < V44.heap.size := (by rw [zV44]; simp; omega); have zy_44 : b14 < V44.heap.size := (by rw [zV44]; simp; omega); have zq_44 : w43.heap.size < V44.heap.size := (by rw [zV44]; simp); have zC_44 := zq_44; have C_44 : V44.rangeAt w43.heap.size 0 #[g0, g1, g2, g3, g4, g5, g6, g7, g8, g9, g10, g11, g12, g13, g14, g15, g16, g17, g18].toList := range_part (l := []) (m := [g0, g1, g2, g3, g4, g5, g6, g7, g8, g9, g10, g11, g12, g13, g14, g15, g16, g17, g18]) (r := [.int .u8 src]) RV44; have q19_44 : V44.cell? ⟨w43.heap.size, 19, none⟩ = some (.int .u8 src) := (by have := RV44 19 (.int .u8 src) rfl; rwa [Nat.zero_add] at this); clear cV44 kV44 tV44 zV44) | (refine wpList_load_wide 29 (.tmp 58) rfl (by rfl) w43.heap.size 0 rfl #[g0, g1, g2, g3, g4, g5, g6, g7, g8, g9, g10, g11, g12, g13, g14, g15, g16, g17, g18] _ Tryd.underlying29 rfl (by rw [info29]; rfl) C_44 ?_))
      have k44 : w.heap.size ≤ V44.heap.size := d44.size
      clear f0_43 f1_43 f2_43 f3_43 f4_43 f5_43 y0_43 y1_43 y2_43 y3_43 y4_43 y5_43 zf_43 zy_43 d43 k43
      refine (H3.out _ (HT.out.below (by (repeat' (first | with_reducible exact d44 | refine Below.setCell ?_ (by first | omega | (simp; done) | (simp; omega)) _ | refine Below.alloc ?_ (by first | omega | (simp; done) | (simp; omega)) _))))).mono ?_
      rintro e w45 ⟨rfl, hb⟩
      have b45 : Below V44.heap.size V44 w45 := bthen (by (repeat' (first | exact Below.refl _ _ | refine Below.setCell ?_ (by first | omega | (simp; done) | (simp; omega)) _ | refine Below.alloc ?_ (by first | omega | (simp; done) | (simp; omega)) _))) hb
      have d45 : Below w.heap.size w w45 := bthen d44 b45
      have k45 : w.heap.size ≤ w45.heap.size := d45.size
      have C_45 : w45.rangeAt (w43.heap.size) 0 (#[g0, g1, g2, g3, g4, g5, g6, g7, g8, g9, g10, g11, g12, g13, g14, g15, g16, g17, g18]).toList := range_below b45 (by omega) C_44
      have zC_45 : w43.heap.size < w45.heap.size := Nat.lt_of_lt_of_le zC_44 b45.size
      have f0_45 : w45.cell? ⟨n0, 0, none⟩ = some (.int .u8 P) := (b45.cell (p := ⟨n0, 0, none⟩) (by show n0 < V44.heap.size; omega)).trans f0_44
      have f1_45 : w45.cell? ⟨n0, 1, none⟩ = some (.int .u32 S) := (b45.cell (p := ⟨n0, 1, none⟩) (by show n0 < V44.heap.size; omega)).trans f1_44
      have f2_45 : w45.cell? ⟨n0, 2, none⟩ = some (.int .u32 E) := (b45.cell (p := ⟨n0, 2, none⟩) (by show n0 < V44.heap.size; omega)).trans f2_44
      have f3_45 : w45.cell? ⟨n0, 3, none⟩ = some (.int .u16 sp) := (b45.cell (p := ⟨n0, 3, none⟩) (by show n0 < V44.heap.size; omega)).trans f3_44
      have f4_45 : w45.cell? ⟨n0, 4, none⟩ = some (.int .u16 dp) := (b45.cell (p := ⟨n0, 4, none⟩) (by show n0 < V44.heap.size; omega)).trans f4_44
      have f5_45 : w45.cell? ⟨n0, 5, none⟩ = some (.int .u8 q0) := (b45.cell (p := ⟨n0, 5, none⟩) (by show n0 < V44.heap.size; omega)).trans f5_44
      have zf_45 : n0 < w45.heap.size := Nat.lt_of_lt_of_le zf_44 b45.size
      have y0_45 : w45.cell? ⟨b14, 0, none⟩ = some (.int .u8 P) := (b45.cell (p := ⟨b14, 0, none⟩) (by show b14 < V44.heap.size; omega)).trans y0_44
      have y1_45 : w45.cell? ⟨b14, 1, none⟩ = some (.int .u32 E) := (b45.cell (p := ⟨b14, 1, none⟩) (by show b14 < V44.heap.size; omega)).trans y1_44
      have y2_45 : w45.cell? ⟨b14, 2, none⟩ = some (.int .u32 S) := (b45.cell (p := ⟨b14, 2, none⟩) (by show b14 < V44.heap.size; omega)).trans y2_44
      have y3_45 : w45.cell? ⟨b14, 3, none⟩ = some (.int .u16 dp) := (b45.cell (p := ⟨b14, 3, none⟩) (by show b14 < V44.heap.size; omega)).trans y3_44
      have y4_45 : w45.cell? ⟨b14, 4, none⟩ = some (.int .u16 sp) := (b45.cell (p := ⟨b14, 4, none⟩) (by show b14 < V44.heap.size; omega)).trans y4_44
      have y5_45 : w45.cell? ⟨b14, 5, none⟩ = some (.int .u8 (1 - q0)) := (b45.cell (p := ⟨b14, 5, none⟩) (by show b14 < V44.heap.size; omega)).trans y5_44
      have zy_45 : b14 < w45.heap.size := Nat.lt_of_lt_of_le zy_44 b45.size
      have q19_45 : w45.cell? ⟨w43.heap.size, 19, none⟩ = some (.int .u8 src) := (b45.cell (p := ⟨w43.heap.size, 19, none⟩) (by show w43.heap.size < V44.heap.size; omega)).trans q19_44
      have zq_45 : w43.heap.size < w45.heap.size := Nat.lt_of_lt_of_le zq_44 b45.size
      clear hb b45 d44 k44 C_44 zC_44 f0_44 f1_44 f2_44 f3_44 f4_44 f5_44 zf_44 y0_44 y1_44 y2_44 y3_44 y4_44 y5_44 zy_44 q19_44 zq_44
      go_wp2_with (refine wpList_load_wide 29 (.tmp 67) rfl (by rfl) w43.heap.size 0 rfl #[g0, g1, g2, g3, g4, g5, g6, g7, g8, g9, g10, g11, g12, g13, g14, g15, g16, g17, g18] _ Tryd.underlying29 rfl (by rw [info29]; rfl) C_45 ?_)
      refine (H4.out _ (HT.out.below (by (repeat' (first | with_reducible exact d45 | refine Below.setCell ?_ (by first | omega | (simp; done) | (simp; omega)) _ | refine Below.alloc ?_ (by first | omega | (simp; done) | (simp; omega)) _))))).mono ?_
      rintro e w46 ⟨rfl, hb⟩
      have b46 : Below w45.heap.size w45 w46 := bthen (by (repeat' (first | exact Below.refl _ _ | refine Below.setCell ?_ (by first | omega | (simp; done) | (simp; omega)) _ | refine Below.alloc ?_ (by first | omega | (simp; done) | (simp; omega)) _))) hb
      have d46 : Below w.heap.size w w46 := bthen d45 b46
      have k46 : w.heap.size ≤ w46.heap.size := d46.size
      have C_46 : w46.rangeAt (w43.heap.size) 0 (#[g0, g1, g2, g3, g4, g5, g6, g7, g8, g9, g10, g11, g12, g13, g14, g15, g16, g17, g18]).toList := range_below b46 (by omega) C_45
      have zC_46 : w43.heap.size < w46.heap.size := Nat.lt_of_lt_of_le zC_45 b46.size
      have f0_46 : w46.cell? ⟨n0, 0, none⟩ = some (.int .u8 P) := (b46.cell (p := ⟨n0, 0, none⟩) (by show n0 < w45.heap.size; omega)).trans f0_45
      have f1_46 : w46.cell? ⟨n0, 1, none⟩ = some (.int .u32 S) := (b46.cell (p := ⟨n0, 1, none⟩) (by show n0 < w45.heap.size; omega)).trans f1_45
      have f2_46 : w46.cell? ⟨n0, 2, none⟩ = some (.int .u32 E) := (b46.cell (p := ⟨n0, 2, none⟩) (by show n0 < w45.heap.size; omega)).trans f2_45
      have f3_46 : w46.cell? ⟨n0, 3, none⟩ = some (.int .u16 sp) := (b46.cell (p := ⟨n0, 3, none⟩) (by show n0 < w45.heap.size; omega)).trans f3_45
      have f4_46 : w46.cell? ⟨n0, 4, none⟩ = some (.int .u16 dp) := (b46.cell (p := ⟨n0, 4, none⟩) (by show n0 < w45.heap.size; omega)).trans f4_45
      have f5_46 : w46.cell? ⟨n0, 5, none⟩ = some (.int .u8 q0) := (b46.cell (p := ⟨n0, 5, none⟩) (by show n0 < w45.heap.size; omega)).trans f5_45
      have zf_46 : n0 < w46.heap.size := Nat.lt_of_lt_of_le zf_45 b46.size
      have y0_46 : w46.cell? ⟨b14, 0, none⟩ = some (.int .u8 P) := (b46.cell (p := ⟨b14, 0, none⟩) (by show b14 < w45.heap.size; omega)).trans y0_45
      have y1_46 : w46.cell? ⟨b14, 1, none⟩ = some (.int .u32 E) := (b46.cell (p := ⟨b14, 1, none⟩) (by show b14 < w45.heap.size; omega)).trans y1_45
      have y2_46 : w46.cell? ⟨b14, 2, none⟩ = some (.int .u32 S) := (b46.cell (p := ⟨b14, 2, none⟩) (by show b14 < w45.heap.size; omega)).trans y2_45
      have y3_46 : w46.cell? ⟨b14, 3, none⟩ = some (.int .u16 dp) := (b46.cell (p := ⟨b14, 3, none⟩) (by show b14 < w45.heap.size; omega)).trans y3_45
      have y4_46 : w46.cell? ⟨b14, 4, none⟩ = some (.int .u16 sp) := (b46.cell (p := ⟨b14, 4, none⟩) (by show b14 < w45.heap.size; omega)).trans y4_45
      have y5_46 : w46.cell? ⟨b14, 5, none⟩ = some (.int .u8 (1 - q0)) := (b46.cell (p := ⟨b14, 5, none⟩) (by show b14 < w45.heap.size; omega)).trans y5_45
      have zy_46 : b14 < w46.heap.size := Nat.lt_of_lt_of_le zy_45 b46.size
      have q19_46 : w46.cell? ⟨w43.heap.size, 19, none⟩ = some (.int .u8 src) := (b46.cell (p := ⟨w43.heap.size, 19, none⟩) (by show w43.heap.size < w45.heap.size; omega)).trans q19_45
      have zq_46 : w43.heap.size < w46.heap.size := Nat.lt_of_lt_of_le zq_45 b46.size
      clear hb b46 d45 k45 C_45 zC_45 f0_45 f1_45 f2_45 f3_45 f4_45 f5_45 zf_45 y0_45 y1_45 y2_45 y3_45 y4_45 y5_45 zy_45 q19_45 zq_45
      clear q19_46 zq_46 C_46 zC_46
      obtain ⟨h1, h2⟩ := hA2.2 HP1.out
      clear hA2
      dsimp only at h1 h2
      subst h1
      cases u2
      · clear h2
        go_wp2_with fail
        rw [rounds_succ]
        go_wp2_with fail
        go_ret
        exact ⟨rfl, d46⟩
      · have e := h2 rfl
        clear h2
        have e' : (x2 != 1 - y2) = false := by simp [e]
        obtain ⟨hy0, hy1⟩ := HY2.out
        clear e
        go_wp2_with fail
        rw [rounds_succ]
        go_wp2_with fail
        go_ret
        exact ⟨rfl, d46⟩

end Go.Proofs.YtapeminpgojeaaaDoor

/-
  The contract of package opts' Write. Conditions: the options lie.
-/
import Derived.Test.YtjfnnclbfaakkaaWSpec
import Derived.Test.YtjfnnclbfaakkaaPre
import Derived.Deep.DeepCutAuto
import Derived.Laws.AppendOwnNone
import Derived.Maps.AppendAt
namespace Go.Proofs.Ytjfnnclbfaakkaa
open Go.RowKit
set_option linter.unusedVariables false
set_option linter.unusedSimpArgs false

theorem wf_step {out : List Int} {seen : List Op1} {tw : Bool} {o : Op1} {r : List Op1} (h : rightS o = true) : wf out seen tw (o :: r) = wf (if 40 < out.length then out else out ++ bytesO o) (seen ++ [o]) (tw || (decide (0 < grp o.1) && decide (0 < num seen (grp o.1)))) r := by
  rw [wf, if_neg (by rw [h]; decide)]
theorem wf_no {out : List Int} {seen : List Op1} {tw : Bool} {o : Op1} {r : List Op1} (h : rightS o = false) : wf out seen tw (o :: r) = (2, []) := by rw [wf, if_pos h]
theorem lt_maxLen' {n : Nat} (h : n ≤ 2 ^ 41) : n ≤ maxLen := by
  unfold maxLen
  omega
/-- One round's first half: its own variable, the counts. -/
structure WrJ (w : World) (l : List Op1) (wr X : World) (k : Nat) (v : Value) (out : List Int) (tw : Bool) (M : Array Value) (ob : Nat) (o : Op1) (A1 : Option Addr) (n1 : Nat) : Prop where
  below : Below w.heap.size w X
  row : X.ownsRow (w.heap.size + 1) 5 1 v out.length (out.map (Value.int .u8))
  met : X.heap[w.heap.size]? = some (.cells M 70 (0, 0))
  obj : X.heap[ob]? = some (.cells #[.int .u8 o.1, .slice A1 o.2.length n1] 36 (0, 0))
  obig : w.heap.size < ob
  lt : ∀ g, v.ownBlock = some g → g ≠ ob
theorem WrJ.grow {w X Y wr : World} {l : List Op1} {k : Nat} {v : Value} {out : List Int} {tw : Bool} {M : Array Value} {ob : Nat} {o : Op1} {A1 : Option Addr} {n1 : Nat} (h : WrJ w l wr X k v out tw M ob o A1 n1) (hb : Below X.heap.size X Y) : WrJ w l wr Y k v out tw M ob o A1 n1 :=
  ⟨h.below.trans (hb.mono h.below.size), own_below h.row hb, blk_below hb h.met, blk_below hb h.obj, h.obig, h.lt⟩
theorem WrJ.mets {w X wr : World} {l : List Op1} {k : Nat} {v : Value} {out : List Int} {tw tw' : Bool} {M : Array Value} {ob : Nat} {o : Op1} {A1 : Option Addr} {n1 : Nat} (h : WrJ w l wr X k v out tw M ob o A1 n1) (j : Nat) (u : Value) : WrJ w l wr (X.setCell ⟨w.heap.size, j, none⟩ u) k v out tw' (M.setIfInBounds j u) ob o A1 n1 := by
  have hne : ∀ g, g ≠ w.heap.size → (X.setCell ⟨w.heap.size, j, none⟩ u).heap[g]? = X.heap[g]? := fun g hg => Below.heap_setCell _ _ _ _ (by show g ≠ w.heap.size; exact hg)
  exact ⟨h.below.setCell (p := ⟨w.heap.size, j, none⟩) (Nat.le_refl _) _, own_of_block h.row fun g hg _ _ => hne g (by omega), blk_set h.met j u, (hne _ (by have := h.obig; omega)).trans h.obj, h.obig, h.lt⟩

def sliceLen : Value → Nat
  | .slice _ n _ => n
  | _ => 0
theorem pad_step {d : List Int} (h : ¬ d.length % 4 = 0) : padS (d ++ [0]) = padS d := by
  unfold padS
  rw [List.append_assoc, List.length_append, List.length_singleton]
  obtain ⟨m, hm⟩ : ∃ m, d.length = m := ⟨_, rfl⟩
  rw [hm] at h ⊢
  have : (4 - m % 4) % 4 = (4 - (m + 1) % 4) % 4 + 1 := by omega
  rw [this, List.replicate_succ]
  rfl
theorem pad_done {d : List Int} (h : d.length % 4 = 0) : padS d = d := by
  unfold padS
  rw [h]
  simp
/-- What the done operations of the drawn append have left. -/
structure Wp (base : Nat) (v : Value) (out : List Int) (ln : Int) (d : List Int) (w1 : World) (val : Nat → Value) (D : Nat → Prop) (g : Nat → Value) (w' : World) : Prop where
  frame : Below 0 w1 w'
  keep : ∀ b, v.ownBlock ≠ some b → b < w1.heap.size → w'.heap[b]? = w1.heap[b]?
  e : ∀ i, i ≠ 6 → i ≠ 7 → i ≠ 10 → D i → g i = val i
  o7 : D 7 → D 6
  o10 : D 10 → D 7
  r0 : ¬ D 7 → w'.ownsRow base 5 1 v out.length (out.map (Value.int .u8))
  m6 : D 6 → ∃ b, g 6 = .slice (some ⟨b, 0, none⟩) 1 1 ∧ w1.heap.size ≤ b ∧ (¬ D 7 → w'.heap[b]? = some (.cells #[.int .u8 ln] 5 (0, 0)))
  m7 : D 7 → ¬ D 10 → w'.ownsRow base 5 1 (g 7) (out.length + 1) (out.map (Value.int .u8) ++ [.int .u8 ln]) ∧ ((g 7).ownBlock = v.ownBlock ∨ ∀ b, (g 7).ownBlock = some b → w1.heap.size ≤ b)
  m10 : D 10 → w'.ownsRow base 5 1 (g 10) (out.length + 1 + d.length) (out.map (Value.int .u8) ++ [.int .u8 ln] ++ d.map (Value.int .u8))
theorem Wp.zero {base : Nat} {v : Value} {out : List Int} {ln : Int} {d : List Int} {w1 : World} {val : Nat → Value} (g : Nat → Value) (hr : w1.ownsRow base 5 1 v out.length (out.map (Value.int .u8))) : Wp base v out ln d w1 val (fun _ => False) g w1.drew :=
  ⟨(Below.refl 0 _).drew, fun b _ _ => rfl, fun _ _ _ _ h => h.elim, fun h => h.elim, fun h => h.elim, fun _ => own_below hr ((Below.refl _ _).drew), fun h => h.elim, fun h => h.elim, fun h => h.elim⟩
theorem Wp.pure {base : Nat} {v : Value} {out : List Int} {ln : Int} {d : List Int} {w1 w' : World} {val : Nat → Value} {D : Nat → Prop} {g : Nat → Value} (h : Wp base v out ln d w1 val D g w') (i : Nat) (h6 : i ≠ 6) (h7 : i ≠ 7) (h10 : i ≠ 10) (x : Value) (hx : x = val i) : Wp base v out ln d w1 val (fun j => D j ∨ j = i) (fun j => if j = i then x else g j) w' := by
  have d6 : (D 6 ∨ 6 = i) → D 6 := fun h => h.resolve_right (fun e => h6 e.symm)
  have d7 : (D 7 ∨ 7 = i) → D 7 := fun h => h.resolve_right (fun e => h7 e.symm)
  have d10 : (D 10 ∨ 10 = i) → D 10 := fun h => h.resolve_right (fun e => h10 e.symm)
  have g6 : (if 6 = i then x else g 6) = g 6 := if_neg (fun e => h6 e.symm)
  have g7 : (if 7 = i then x else g 7) = g 7 := if_neg (fun e => h7 e.symm)
  have g10 : (if 10 = i then x else g 10) = g 10 := if_neg (fun e => h10 e.symm)
  refine ⟨h.frame, h.keep, fun j a1 a2 a3 hj => ?_, fun hd => .inl (h.o7 (d7 hd)), fun hd => .inl (h.o10 (d10 hd)), fun hd => h.r0 (fun h => hd (.inl h)), fun hd => ?_, fun hd hn => ?_, fun hd => ?_⟩
  · show (if j = i then x else g j) = val j
    by_cases hji : j = i
    · rw [if_pos hji, hx, hji]
    · rw [if_neg hji]
      exact h.e j a1 a2 a3 (hj.resolve_right hji)
  · obtain ⟨b, e1, e2, e3⟩ := h.m6 (d6 hd)
    exact ⟨b, g6.trans e1, e2, fun hn => e3 (fun h => hn (.inl h))⟩
  · show w'.ownsRow base 5 1 (if 7 = i then x else g 7) _ _ ∧ _
    rw [g7]
    exact h.m7 (d7 hd) (fun h => hn (.inl h))
  · show w'.ownsRow base 5 1 (if 10 = i then x else g 10) _ _
    rw [g10]
    exact h.m10 (d10 hd)
theorem Wp.built {base : Nat} {v : Value} {out : List Int} {ln : Int} {d : List Int} {w1 w' : World} {val : Nat → Value} {D : Nat → Prop} {g : Nat → Value} (h : Wp base v out ln d w1 val D g w') (hn : ¬ D 6) : Wp base v out ln d w1 val (fun j => D j ∨ j = 6) (fun j => if j = 6 then .slice (some ⟨w'.heap.size, 0, none⟩) 1 1 else g j) (w'.alloc (.cells #[.int .u8 ln] 5)) := by
  have n7 : ¬ D 7 := fun h7 => hn (h.o7 h7)
  have n10 : ¬ D 10 := fun h10 => n7 (h.o10 h10)
  have hb : Below w'.heap.size w' (w'.alloc (.cells #[.int .u8 ln] 5)) := (Below.refl _ _).alloc (Nat.le_refl _) _
  refine ⟨h.frame.trans (hb.mono (Nat.zero_le _)), fun b hv hlt => (hb.block b (Nat.lt_of_lt_of_le hlt h.frame.size)).trans (h.keep b hv hlt), fun j a1 a2 a3 hj => ?_, fun hd => .inr rfl, fun hd => absurd (hd.resolve_right (by decide)) n10, fun hd => own_below (h.r0 n7) hb, fun _ => ⟨_, rfl, h.frame.size, fun _ => heap_alloc_last _ _⟩, fun hd => absurd (hd.resolve_right (by decide)) n7, fun hd => absurd (hd.resolve_right (by decide)) n10⟩
  show (if j = 6 then _ else g j) = val j
  rw [if_neg a1]
  exact h.e j a1 a2 a3 (hj.resolve_right a1)
theorem Wp.app1 {base : Nat} {v : Value} {out : List Int} {ln : Int} {d : List Int} {w1 w' w'' : World} {val : Nat → Value} {D : Nat → Prop} {g : Nat → Value} (h : Wp base v out ln d w1 val D g w') (hn : ¬ D 7) (h6 : D 6) {v' : Value} (hg : w'.grownBy w'' v.ownBlock)
    (hr : w''.ownsRow base 5 1 v' (out.length + 1) (out.map (Value.int .u8) ++ [.int .u8 ln])) (hv : v'.ownBlock = v.ownBlock ∨ v'.ownBlock = some w'.heap.size) : Wp base v out ln d w1 val (fun j => D j ∨ j = 7) (fun j => if j = 7 then v' else g j) w'' := by
  have n10 : ¬ D 10 := fun h10 => hn (h.o10 h10)
  refine ⟨h.frame.trans ((Below.refl 0 w').grown hg (Nat.zero_le _) (fun _ _ => Nat.zero_le _)), fun b hb hlt => (hg.block b (Nat.lt_of_lt_of_le hlt h.frame.size) (fun e => hb e.symm)).trans (h.keep b hb hlt), fun j a1 a2 a3 hj => ?_, fun _ => .inl h6, fun hd => absurd (hd.resolve_right (by decide)) n10, fun hd => absurd (.inr rfl) hd, fun _ => ?_, fun _ _ => ⟨hr, ?_⟩, fun hd => absurd (hd.resolve_right (by decide)) n10⟩
  · show (if j = 7 then _ else g j) = val j
    rw [if_neg a2]
    exact h.e j a1 a2 a3 (hj.resolve_right a2)
  · obtain ⟨b, e1, e2, _⟩ := h.m6 h6
    exact ⟨b, e1, e2, fun hd => absurd (.inr rfl) hd⟩
  · show v'.ownBlock = v.ownBlock ∨ ∀ b, v'.ownBlock = some b → w1.heap.size ≤ b
    rcases hv with hv | hv
    · exact .inl hv
    · exact .inr fun b hb => by
        rw [hv] at hb
        cases hb
        exact h.frame.size
theorem Wp.app2 {base : Nat} {v : Value} {out : List Int} {ln : Int} {d : List Int} {w1 w' w'' : World} {val : Nat → Value} {D : Nat → Prop} {g : Nat → Value} (h : Wp base v out ln d w1 val D g w') (hn : ¬ D 10) (h7 : D 7) {v' : Value} (hg : w'.grownBy w'' (g 7).ownBlock)
    (hr : w''.ownsRow base 5 1 v' (out.length + 1 + d.length) (out.map (Value.int .u8) ++ [.int .u8 ln] ++ d.map (Value.int .u8))) : Wp base v out ln d w1 val (fun j => D j ∨ j = 10) (fun j => if j = 10 then v' else g j) w'' := by
  have hk : ∀ b, v.ownBlock ≠ some b → b < w1.heap.size → some b ≠ (g 7).ownBlock := fun b hb hlt e => by
    rcases (h.m7 h7 hn).2 with h1 | h1
    · exact hb (h1.symm.trans e.symm)
    · have := h1 b e.symm
      omega
  refine ⟨h.frame.trans ((Below.refl 0 w').grown hg (Nat.zero_le _) (fun _ _ => Nat.zero_le _)), fun b hb hlt => (hg.block b (Nat.lt_of_lt_of_le hlt h.frame.size) (hk b hb hlt)).trans (h.keep b hb hlt), fun j a1 a2 a3 hj => ?_, fun _ => .inl (h.o7 h7), fun _ => .inl h7, fun hd => absurd (.inl h7) hd, fun _ => ?_, fun _ hd => absurd (.inr rfl) hd, fun _ => hr⟩
  · show (if j = 10 then _ else g j) = val j
    rw [if_neg a3]
    exact h.e j a1 a2 a3 (hj.resolve_right a3)
  · obtain ⟨b, e1, e2, e3⟩ := h.m6 (h.o7 h7)
    exact ⟨b, e1, e2, fun hd => absurd (.inl h7) hd⟩
theorem Wp.below {base n : Nat} {v : Value} {out : List Int} {ln : Int} {d : List Int} {w1 w' : World} {val : Nat → Value} {D : Nat → Prop} {g : Nat → Value} (h : Wp base v out ln d w1 val D g w') (hv : ∀ b, v.ownBlock = some b → n ≤ b) (hn : n ≤ w1.heap.size) : Below n w1 w' :=
  ⟨h.frame.os, h.frame.tape, h.frame.output, h.frame.size, fun b hb => h.keep b (fun e => by have := hv b e; omega) (by omega)⟩
theorem WrJ.mk' {w X Z wr : World} {l : List Op1} {k : Nat} {v v' : Value} {out out' : List Int} {tw : Bool} {M : Array Value} {ob g3 : Nat} {o : Op1} {A1 : Option Addr} {n1 n' : Nat} {xs : List Value} (h : WrJ w l wr X k v out tw M ob o A1 n1) (hk : Keep (fun b => ¬ b = g3) X Z) (h3 : w.heap.size + 1 ≤ g3) (hr : Z.ownsRow (w.heap.size + 1) 5 1 v' n' xs) (hn : n' = out'.length) (hx : xs = out'.map (Value.int .u8)) :
    Below w.heap.size w Z ∧ Z.ownsRow (w.heap.size + 1) 5 1 v' out'.length (out'.map (Value.int .u8)) ∧ Z.heap[w.heap.size]? = some (.cells M 70 (0, 0)) := by
  subst hn hx
  exact ⟨h.below.trans (hk.below (fun b hb => by omega) h.below.size), hr, blk_keep hk (by omega) h.met⟩
theorem WrJ.app {w X Y Z wr : World} {l : List Op1} {k : Nat} {v v' : Value} {out : List Int} {tw : Bool} {M : Array Value} {ob : Nat} {o : Op1} {A1 : Option Addr} {n1 : Nat} (h : WrJ w l wr X k v out tw M ob o A1 n1) (hb : Below X.heap.size X Y) (hg : Y.grownBy Z v.ownBlock) (out' : List Int) {n' : Nat} {xs : List Value} (hr : Z.ownsRow (w.heap.size + 1) 5 1 v' n' xs) (hn : n' = out'.length) (hx : xs = out'.map (Value.int .u8)) : WrJ w l wr Z k v' out' tw M ob o A1 n1 := by
  subst hn hx
  have h1 := h.grow hb
  have hrow := fun g e => (h1.row.lt g e).1
  have hobj : Z.heap[ob]? = some (.cells #[.int .u8 o.1, .slice A1 o.2.length n1] 36 (0, 0)) := (hg.block _ (blk_lt h1.obj) (fun e => h.lt ob e.symm rfl)).trans h1.obj
  refine ⟨h1.below.grown hg h1.below.size (fun g e => by have := hrow g e; omega), hr, (hg.block _ (blk_lt h1.met) (fun e => by have := hrow _ e.symm; omega)).trans h1.met, hobj, h.obig, fun g e hgo => ?_⟩
  subst hgo
  obtain ⟨_, (⟨rfl, _⟩ | ⟨g', cap, cur, rfl, _, h2, _⟩)⟩ := hr
  · cases e
  · cases e
    rw [hobj] at h2
    cases h2
set_option maxRecDepth 100000 in
set_option maxHeartbeats 8000000 in
theorem write_any (l : List Op1) (A : Option Addr) (c : Nat) (w : World) (hl : Ops w A l) (hn : l.length ≤ 2 ^ 40) (hlb : ∀ o ∈ l, o.2.length ≤ 2 ^ 40) :
    Calls Try.prog 16 #[.slice A l.length c] w fun e w' => ∃ v, e = .returned (.tuple #[v, .int .i64 (writeS l).1]) ∧ w'.ownsRow w.heap.size 5 1 v (writeS l).2.length ((writeS l).2.map (Value.int .u8)) ∧ Below w.heap.size w w' := by
  obtain ⟨n, hN⟩ : ∃ n, l.length = n := ⟨_, rfl⟩
  rw [hN]
  have HN := Lib.hid hN
  have HL := Lib.hid hl
  have HLB := Lib.hid hlb
  obtain ⟨RES, hRES⟩ : ∃ r, writeS l = r := ⟨_, rfl⟩
  rw [hRES]
  have HRES := Lib.hid hRES
  rw [hN] at hn
  clear hN hl hlb hRES
  obtain ⟨i0, hi, hz0, hz1, hz2⟩ := info_parts info5b
  have Hi := Lib.hid hi
  have Hz0 := Lib.hid hz0
  have Hz1 := Lib.hid hz1
  have Hz2 := Lib.hid hz2
  clear hi hz0 hz1 hz2
  go_enter Try.func16, Try.ntmps16
  go_wp2_with fail
  go_loopw [4, 6, 12] (fun v4 v6 i wr => ∃ (k : Nat) (out : List Int) (tw : Bool) (M : Array Value), k ≤ n ∧ v6 = .bool tw ∧ i = .int .i64 k ∧ WrI w l wr k v4 out tw M) (fun _ _ i _ => n - (intOf i).toNat)
  case atStart => exact ⟨0, [], false, _, by omega, rfl, rfl, ⟨(Below.refl _ _).alloc (Nat.le_refl _) _, World.ownsRow_nil _ _ _ _, heap_alloc_last _ _, Mets.nil, by simp [writeS], by simp⟩⟩
  case round =>
    obtain ⟨k, out, tw, M, hk, rfl, rfl, hI⟩ := hrel
    obtain ⟨Av, cv, rfl⟩ := own_form hI.row
    by_cases hkl : k < n
    · obtain ⟨b, o, rfl, hbl⟩ := (HL.out.below hI.below).pos (by rw [HN.out]; omega)
      obtain ⟨⟨kd, d⟩, hx⟩ : ∃ x, l[k]? = some x := ⟨l[k]'(by rw [HN.out]; omega), List.getElem?_eq_getElem _⟩
      obtain ⟨A1, n1, x0, x1, hc1, hc1m, by1, hk0, hk1, hnil⟩ := HL.out.at hx
      simp only at x0 x1 hc1 by1 hk0 hk1
      replace x0 := kc hI.below x0
      replace x1 := kc hI.below x1
      have hbl := cell_lt x0
      replace hbl : b < wr.heap.size := hbl
      have t1 : decide ((k : Int) < n) = true := by simp; omega
      have hpos : (k : Int) < n := by omega
      have HI := Lib.hid hI
      have HX := Lib.hid hx
      have HBw := Lib.hid by1
      have Hnil := Lib.hid hnil
      have hdl : d.length ≤ 2 ^ 40 := HLB.out _ (List.mem_of_getElem? hx)
      have HDL := Lib.hid hdl
      clear hI hx by1 hnil hdl
      go_upto_region 7 with fail
      obtain ⟨X0, hX0⟩ : ∃ X0, wr.alloc (Obj.cells #[Value.int IntKind.u8 kd, Value.slice A1 d.length n1] 36) = X0 := ⟨_, rfl⟩
      have hJ0 : WrJ w l wr X0 k (.slice Av out.length cv) out tw M wr.heap.size (kd, d) A1 n1 := by
        rw [← hX0]
        have hb : Below wr.heap.size wr (wr.alloc (Obj.cells #[Value.int IntKind.u8 kd, Value.slice A1 d.length n1] 36)) := (Below.refl _ _).alloc (Nat.le_refl _) _
        exact ⟨HI.out.below.trans (hb.mono HI.out.below.size), own_below HI.out.row hb, blk_below hb HI.out.met, heap_alloc_last _ _, blk_lt HI.out.met, fun g hg => Nat.ne_of_lt (HI.out.row.lt g hg).2⟩
      have hbX0 : Below wr.heap.size wr X0 := by rw [← hX0]; exact (Below.refl _ _).alloc (Nat.le_refl _) _
      rw [hX0]
      clear hX0 x0 x1
      obtain ⟨ob, hob⟩ : ∃ ob, wr.heap.size = ob := ⟨_, rfl⟩
      rw [hob] at hJ0 ⊢
      have o0 := blk_cell hJ0.obj 0
      have o1 := blk_cell hJ0.obj 1
      simp at o0 o1
      have hob0 := blk_lt hJ0.obj
      have HJ0 := Lib.hid hJ0
      clear hJ0 hbX0 hbl
      obtain ⟨rq, hrq⟩ : ∃ r, rightS (kd, d) = r := ⟨_, rfl⟩
      have Hrq := Lib.hid hrq
      clear hrq
      go_wp2_with fail
      refine (right_any kd d A1 n1 _ ⟨hk0, hk1⟩ (HBw.out.below HJ0.out.below) (by have := HDL.out; omega)).mono ?_
      rintro e X1 ⟨rfl, hb1⟩
      rw [Hrq.out]
      have HJ1 := Lib.hid (HJ0.out.grow hb1)
      replace o0 := kc hb1 o0
      replace o1 := kc hb1 o1
      have hob1 := cell_lt o0
      replace hob1 : ob < X1.heap.size := hob1
      clear hb1 hob0 HJ0
      cases rq
      · go_wp2_with fail
        have hres : RES = (2, []) := by
          rw [← HRES.out, HI.out.eq]
          have hdrop : l.drop k = (kd, d) :: l.drop (k + 1) := by
            have := HX.out
            rw [List.drop_eq_getElem_cons (by rw [HN.out]; omega)]
            rw [List.getElem?_eq_getElem (by rw [HN.out]; omega)] at this
            rw [Option.some.inj this]
          rw [hdrop]
          exact wf_no Hrq.out
        subst hres
        refine bodyPost_ret (v := .tuple #[.slice none 0 0, .int .i64 2]) (by simp [results, Try.results16, go_sem]) rfl ?_
        exact ⟨_, rfl, World.ownsRow_nil _ _ _ _, HJ1.out.below⟩
      have hdrop : l.drop k = (kd, d) :: l.drop (k + 1) := by
        have := HX.out
        rw [List.drop_eq_getElem_cons (by rw [HN.out]; omega)]
        rw [List.getElem?_eq_getElem (by rw [HN.out]; omega)] at this
        rw [Option.some.inj this]
      have htake : l.take (k + 1) = l.take k ++ [(kd, d)] := by rw [List.take_add_one, HX.out]; rfl
      have heq : writeS l = wf (if 40 < out.length then out else out ++ bytesO (kd, d)) (l.take (k + 1)) (tw || (decide (0 < grp kd) && decide (0 < num (l.take k) (grp kd)))) (l.drop (k + 1)) := by
        rw [HI.out.eq, hdrop, htake]
        exact wf_step Hrq.out
      have HEQ := Lib.hid heq
      have HT := Lib.hid htake
      clear hdrop heq htake
      go_wp2_with fail
      refine (group_any kd _).mono ?_
      rintro e V' ⟨rfl, hVV⟩
      rw [hVV]
      clear hVV
      obtain ⟨gv, hgv⟩ : ∃ gv, grp kd = gv := ⟨_, rfl⟩
      rw [hgv]
      have Hgv := Lib.hid hgv
      clear hgv
      go_upto_if 23 with fail
      go_cut [6] (fun v6 wx => v6 = .bool (tw || (decide (0 < grp kd) && decide (0 < num (l.take k) (grp kd)))) ∧ ∃ M1, WrJ w l wr wx k (.slice Av out.length cv) out tw M1 ob (kd, d) A1 n1 ∧ Mets (l.take (k + 1)) M1)
      case first =>
        rcases grp_cases kd with hg | hg | hg | hg
        · have hgv := Hgv.out
          rw [hg] at hgv
          subst hgv
          have Hg := Lib.hid hg
          clear hg
          go_wp2_with fail
          go_meet
          exact ⟨by rw [Hg.out]; simp, M, HJ1.out, by rw [HT.out]; exact HI.out.mets.push0 (kd, d) Hg.out⟩
        · have hgv := Hgv.out
          rw [hg] at hgv
          subst hgv
          have Hg := Lib.hid hg
          clear hg
          obtain ⟨m, hm⟩ : ∃ m : Nat, num (l.take k) 1 = m := ⟨(num (l.take k) 1).toNat, by have := num_nonneg (l.take k) 1; omega⟩
          have hmle : (m : Int) ≤ k := by
            have := num_le (l.take k) 1
            rw [hm, List.length_take] at this
            omega
          have hmb : m ≤ 2 ^ 40 := by omega
          have mc : X1.cell? ⟨w.heap.size, 1, none⟩ = some (.int .i64 m) := by rw [← hm]; exact (blk_cell HJ1.out.met 1).trans (HI.out.mets.get 1 (by decide) (by decide))
          have hbm := blk_lt HJ1.out.met
          have fm := blk_free HJ1.out.met 1
          have mc' : (X1.setCell ⟨w.heap.size, 1, none⟩ (.int .i64 ((m : Int) + 1))).cell? ⟨w.heap.size, 1, none⟩ = some (.int .i64 ((m : Int) + 1)) := by simp [go_sem, mc]
          have hw1 : IntKind.i64.wrap ((m : Int) + 1) = (m : Int) + 1 := IntWalk.i64_in _ (by omega)
          have hs : Mets (l.take (k + 1)) (M.setIfInBounds 1 (.int .i64 ((m : Int) + 1))) := by
            rw [HT.out, ← hm]
            exact HI.out.mets.push (kd, d) (g := 1) Hg.out (by decide)
          have HS := Lib.hid hs
          have hq : decide (1 < (m : Int) + 1) = decide (0 < m) := decide_eq_decide.2 (by omega)
          clear hs hmle
          have HM := Lib.hid hm
          clear hm
          cases tw
          · go_wp2_with fail
            go_meet
            exact ⟨by rw [Hg.out, HM.out]; simp, _, HJ1.out.mets 1 _, HS.out⟩
          · go_wp2_with fail
            go_meet
            exact ⟨by rw [Hg.out, HM.out]; simp, _, HJ1.out.mets 1 _, HS.out⟩
        · have hgv := Hgv.out
          rw [hg] at hgv
          subst hgv
          have Hg := Lib.hid hg
          clear hg
          obtain ⟨m, hm⟩ : ∃ m : Nat, num (l.take k) 2 = m := ⟨(num (l.take k) 2).toNat, by have := num_nonneg (l.take k) 2; omega⟩
          have hmle : (m : Int) ≤ k := by
            have := num_le (l.take k) 2
            rw [hm, List.length_take] at this
            omega
          have hmb : m ≤ 2 ^ 40 := by omega
          have mc : X1.cell? ⟨w.heap.size, 2, none⟩ = some (.int .i64 m) := by rw [← hm]; exact (blk_cell HJ1.out.met 2).trans (HI.out.mets.get 2 (by decide) (by decide))
          have hbm := blk_lt HJ1.out.met
          have fm := blk_free HJ1.out.met 2
          have mc' : (X1.setCell ⟨w.heap.size, 2, none⟩ (.int .i64 ((m : Int) + 1))).cell? ⟨w.heap.size, 2, none⟩ = some (.int .i64 ((m : Int) + 1)) := by simp [go_sem, mc]
          have hw1 : IntKind.i64.wrap ((m : Int) + 1) = (m : Int) + 1 := IntWalk.i64_in _ (by omega)
          have hs : Mets (l.take (k + 1)) (M.setIfInBounds 2 (.int .i64 ((m : Int) + 1))) := by
            rw [HT.out, ← hm]
            exact HI.out.mets.push (kd, d) (g := 2) Hg.out (by decide)
          have HS := Lib.hid hs
          have hq : decide (1 < (m : Int) + 1) = decide (0 < m) := decide_eq_decide.2 (by omega)
          clear hs hmle
          have HM := Lib.hid hm
          clear hm
          cases tw
          · go_wp2_with fail
            go_meet
            exact ⟨by rw [Hg.out, HM.out]; simp, _, HJ1.out.mets 2 _, HS.out⟩
          · go_wp2_with fail
            go_meet
            exact ⟨by rw [Hg.out, HM.out]; simp, _, HJ1.out.mets 2 _, HS.out⟩
        · have hgv := Hgv.out
          rw [hg] at hgv
          subst hgv
          have Hg := Lib.hid hg
          clear hg
          obtain ⟨m, hm⟩ : ∃ m : Nat, num (l.take k) 3 = m := ⟨(num (l.take k) 3).toNat, by have := num_nonneg (l.take k) 3; omega⟩
          have hmle : (m : Int) ≤ k := by
            have := num_le (l.take k) 3
            rw [hm, List.length_take] at this
            omega
          have hmb : m ≤ 2 ^ 40 := by omega
          have mc : X1.cell? ⟨w.heap.size, 3, none⟩ = some (.int .i64 m) := by rw [← hm]; exact (blk_cell HJ1.out.met 3).trans (HI.out.mets.get 3 (by decide) (by decide))
          have hbm := blk_lt HJ1.out.met
          have fm := blk_free HJ1.out.met 3
          have mc' : (X1.setCell ⟨w.heap.size, 3, none⟩ (.int .i64 ((m : Int) + 1))).cell? ⟨w.heap.size, 3, none⟩ = some (.int .i64 ((m : Int) + 1)) := by simp [go_sem, mc]
          have hw1 : IntKind.i64.wrap ((m : Int) + 1) = (m : Int) + 1 := IntWalk.i64_in _ (by omega)
          have hs : Mets (l.take (k + 1)) (M.setIfInBounds 3 (.int .i64 ((m : Int) + 1))) := by
            rw [HT.out, ← hm]
            exact HI.out.mets.push (kd, d) (g := 3) Hg.out (by decide)
          have HS := Lib.hid hs
          have hq : decide (1 < (m : Int) + 1) = decide (0 < m) := decide_eq_decide.2 (by omega)
          clear hs hmle
          have HM := Lib.hid hm
          clear hm
          cases tw
          · go_wp2_with fail
            go_meet
            exact ⟨by rw [Hg.out, HM.out]; simp, _, HJ1.out.mets 3 _, HS.out⟩
          · go_wp2_with fail
            go_meet
            exact ⟨by rw [Hg.out, HM.out]; simp, _, HJ1.out.mets 3 _, HS.out⟩
      obtain ⟨rfl, M1, hJ2, hM1⟩ := hcut
      obtain ⟨X2, hX2⟩ : ∃ X, X = wc := ⟨_, rfl⟩
      subst hX2
      clear HJ1 o0 o1 hob1 t1
      have o0 := blk_cell hJ2.obj 0
      have o1 := blk_cell hJ2.obj 1
      simp at o0 o1
      have hob2 := blk_lt hJ2.obj
      have HJ2 := Lib.hid hJ2
      have HM1 := Lib.hid hM1
      clear hJ2 hM1
      have hlen := HI.out.len
      obtain ⟨tw', htw'⟩ : ∃ t, (tw || (decide (0 < grp kd) && decide (0 < num (l.take k) (grp kd)))) = t := ⟨_, rfl⟩
      have HEQ2 := Lib.hid (htw' ▸ HEQ.out)
      rw [htw']
      clear htw'
      obtain ⟨no, hno⟩ : ∃ no, out.length = no := ⟨_, rfl⟩
      have HNO := Lib.hid hno
      rw [hno] at hlen ⊢
      clear hno
      by_cases h40 : 40 < no
      · have d40 : decide ((40 : Int) < no) = true := by simp; omega
        go_wp2_with fail
        go_roundw
        case rel => exact ⟨k + 1, out, tw', M1, by omega, rfl, by go_num, ⟨HJ2.out.below, by have := HJ2.out.row; rw [HNO.out] at this ⊢; exact this, HJ2.out.met, HM1.out, by have := HEQ2.out; rw [HNO.out, if_pos h40] at this; exact this, by rw [HNO.out]; exact hlen⟩⟩
        case measure => simp [intOf]; omega
      have d40 : decide ((40 : Int) < no) = false := by simp; omega
      have row2 := HJ2.out.row
      rw [HNO.out] at row2
      have R2 := Lib.hid row2
      have hbX : w.heap.size + 1 ≤ X2.heap.size := by have := HJ2.out.obig; omega
      have HbX := Lib.hid hbX
      clear row2
      by_cases hkd : kd = 1
      · have e1 : (kd != 1) = false := by simp [hkd]
        have hbo : bytesO (kd, d) = [kd] := by simp [bytesO, hkd]
        clear hkd
        go_upto_region 14 with fail
        go_wp2_with (at_builtin; refine wpList_append_own _ rfl _ _ 22 rfl (w.heap.size + 1) 5 i0 (.int .u8 0) 1 1 Try.underlying22 Hi.out Hz0.out Hz1.out Hz2.out rfl (by decide) _ _ _ rfl (R2.out.alloc _) ⟨X2.heap.size, 0, none⟩ 1 1 [.int .u8 kd] rfl rfl (cell_one_new _ _ _) (by simp [Value.oneCell']) (lt_maxLen' (by omega)) (by omega) (by simp; omega) ?_; intro v3 w3 hown3 hgrow3 hnil3; obtain ⟨g3, cap3, rfl⟩ := ownsRow_succ hown3; have hJ3 := WrJ.app HJ2.out ((Below.refl _ _).alloc (Nat.le_refl _) _) (by rw [HNO.out]; exact hgrow3) (out ++ [kd]) hown3 (by simp [HNO.out]) (by simp); have p0 := blk_cell hJ3.obj 0; have p1 := blk_cell hJ3.obj 1; simp at p0 p1; have hob3 := blk_lt hJ3.obj; have HJ3 := Lib.hid hJ3; have H3 := Lib.hid hown3; clear hJ3 hown3 hgrow3 hnil3)
        exact ⟨⟨k + 1, out ++ [kd], tw', M1, by omega, rfl, by go_num, ⟨HJ3.out.below, by have := HJ3.out.row; rw [List.length_append, HNO.out] at this ⊢; exact this, HJ3.out.met, HM1.out, by have := HEQ2.out; rw [HNO.out, if_neg h40, hbo] at this; exact this, by rw [List.length_append, HNO.out]; simp; omega⟩⟩, by simp [intOf]; omega⟩
      have e1 : (kd != 1) = true := by simp [hkd]
      go_upto_region 14 with fail
      go_wp2_with (at_builtin; refine wpList_append_own _ rfl _ _ 22 rfl (w.heap.size + 1) 5 i0 (.int .u8 0) 1 1 Try.underlying22 Hi.out Hz0.out Hz1.out Hz2.out rfl (by decide) _ _ _ rfl (R2.out.alloc _) ⟨X2.heap.size, 0, none⟩ 1 1 [.int .u8 kd] rfl rfl (cell_one_new _ _ _) (by simp [Value.oneCell']) (lt_maxLen' (by omega)) (by omega) (by simp; omega) ?_; intro v3 w3 hown3 hgrow3 hnil3; obtain ⟨g3, cap3, rfl⟩ := ownsRow_succ hown3; have hJ3 := WrJ.app HJ2.out ((Below.refl _ _).alloc (Nat.le_refl _) _) (by rw [HNO.out]; exact hgrow3) (out ++ [kd]) hown3 (by simp [HNO.out]) (by simp); have p0 := blk_cell hJ3.obj 0; have p1 := blk_cell hJ3.obj 1; simp at p0 p1; have hob3 := blk_lt hJ3.obj; have HJ3 := Lib.hid hJ3; have H3 := Lib.hid hown3; clear hJ3 hown3 hgrow3 hnil3)
      have HBD := Lib.hid (fun (X : World) (hX : Below w.heap.size w3 X) => HBw.out.below (HJ3.out.below.trans hX))
      have HV3 := Lib.hid (fun b e => (H3.out.lt b e).1)
      have hz3 : w.heap.size + 1 ≤ w3.heap.size := by have := HJ3.out.obig; omega
      have hd38 : d.length ≤ 38 := right_len (o := (kd, d)) Hrq.out
      have row3 : w3.ownsRow (w.heap.size + 1) 5 1 (.slice (some ⟨g3, 0, none⟩) (no + 1) cap3) (out ++ [kd]).length ((out ++ [kd]).map (Value.int .u8)) := by
        have := HJ3.out.row
        rw [List.length_append, HNO.out] at this ⊢
        exact this
      have hlo : (out ++ [kd]).length = no + 1 := by simp [HNO.out]
      have Hlo := Lib.hid hlo
      have R3 := Lib.hid row3
      clear row3 hlo
      · skip
        refine wp_region_steps 11 [[], [], [1], [2], [3], [4], [5], [0, 6], [], [8], [7, 9]] (fun D a w' => ∃ g : Nat → Value, a = ⟨#[.slice (some ⟨b, o, none⟩) n c, undef, u2, u3, .slice (some ⟨g3, 0, none⟩) (no + 1) cap3, .pointer (some ⟨w.heap.size, 0, none⟩), .bool tw', undef, .pointer (some ⟨ob, 0, none⟩), .int .i64 gv, .slice (some ⟨b, o, none⟩) n c, .int .i64 n, .int .i64 k, u13, u14, u15, u16, u17, u18, u19, u20, u21, u22, u23, u24, u25, u26, u27, u28, u29, u30, u31, u32, u33, u34, u35, .slice Av no cv, .int .i64 no, .bool false, .slice Av no cv, .pointer (some ⟨ob, 0, none⟩), .int .u8 kd, .slice (some ⟨X2.heap.size, 0, none⟩) 1 1, .slice (some ⟨g3, 0, none⟩) (no + 1) cap3, .pointer (some ⟨ob, 0, none⟩), .int .u8 kd, .bool true, g 0, g 1, g 2, g 3, g 4, g 5, g 6, g 7, g 8, g 9, g 10, u58, undef, undef, undef, undef, undef, undef, undef, undef, undef, undef, undef, undef], []⟩ ∧ Wp (w.heap.size + 1) (.slice (some ⟨g3, 0, none⟩) (no + 1) cap3) (out ++ [kd]) ((d.length : Int) + 2) d w3 (fun i => ([.slice (some ⟨g3, 0, none⟩) (no + 1) cap3, .pointer (some ⟨ob, 1, none⟩), .slice A1 d.length n1, .int .i64 d.length, .int .i64 ((d.length : Int) + 2), .int .u8 ((d.length : Int) + 2), undef, undef, .pointer (some ⟨ob, 1, none⟩), .slice A1 d.length n1, undef] : List Value).getD i undef) D g w') (by kernel_rfl) (by kernel_rfl) ⟨fun i => if i = 0 then u47 else if i = 1 then u48 else if i = 2 then u49 else if i = 3 then u50 else if i = 4 then u51 else if i = 5 then u52 else if i = 6 then u53 else if i = 7 then u54 else if i = 8 then u55 else if i = 9 then u56 else if i = 10 then u57 else undef, rfl, Wp.zero _ R3.out⟩ ?_ ?_
        · simp only [List.take_succ_cons, List.take_zero]
          refine ⟨?_, ?_, ?_, ?_, ?_, ?_, ?_, ?_, ?_, ?_, ?_, trivial⟩
          · intro D a w' hn hp hI
            obtain ⟨g, rfl, hR⟩ := hI
            clear hn hp
            go_wp2_with fail
            exact ⟨fun ix => if ix = 0 then .slice (some ⟨g3, 0, none⟩) (no + 1) cap3 else g ix, by rfl, hR.pure 0 (by decide) (by decide) (by decide) _ rfl⟩
          · intro D a w' hn hp hI
            obtain ⟨g, rfl, hR⟩ := hI
            clear hn hp
            go_wp2_with fail
            exact ⟨fun ix => if ix = 1 then .pointer (some ⟨ob, 1, none⟩) else g ix, by rfl, hR.pure 1 (by decide) (by decide) (by decide) _ rfl⟩
          · intro D a w' hn hp hI
            obtain ⟨g, rfl, hR⟩ := hI
            have e1 : g 1 = .pointer (some ⟨ob, 1, none⟩) := hR.e 1 (by decide) (by decide) (by decide) hp.1
            rw [e1]
            have cc := (World.cell?_of_block (a := ⟨ob, 1, none⟩) (hR.keep ob (fun e => HJ3.out.lt ob e rfl) hob3)).trans p1
            clear hn hp
            go_wp2_with fail
            exact ⟨fun ix => if ix = 2 then .slice A1 d.length n1 else g ix, by simp [e1], hR.pure 2 (by decide) (by decide) (by decide) _ rfl⟩
          · intro D a w' hn hp hI
            obtain ⟨g, rfl, hR⟩ := hI
            have e2 : g 2 = .slice A1 d.length n1 := hR.e 2 (by decide) (by decide) (by decide) hp.1
            rw [e2]
            clear hn hp
            go_wp2_with fail
            exact ⟨fun ix => if ix = 3 then .int .i64 d.length else g ix, by simp [e2], hR.pure 3 (by decide) (by decide) (by decide) _ rfl⟩
          · intro D a w' hn hp hI
            obtain ⟨g, rfl, hR⟩ := hI
            have e3 : g 3 = .int .i64 d.length := hR.e 3 (by decide) (by decide) (by decide) hp.1
            rw [e3]
            have hw4 : IntKind.i64.wrap ((d.length : Int) + 2) = ((d.length : Int) + 2) := IntWalk.i64_in _ (by omega)
            clear hn hp
            go_wp2_with fail
            exact ⟨fun ix => if ix = 4 then .int .i64 ((d.length : Int) + 2) else g ix, by simp [e3], hR.pure 4 (by decide) (by decide) (by decide) _ rfl⟩
          · intro D a w' hn hp hI
            obtain ⟨g, rfl, hR⟩ := hI
            have e4 : g 4 = .int .i64 ((d.length : Int) + 2) := hR.e 4 (by decide) (by decide) (by decide) hp.1
            rw [e4]
            have hw5 : IntKind.u8.wrap ((d.length : Int) + 2) = ((d.length : Int) + 2) := IntWalk.u8_in _ (by omega)
            clear hn hp
            go_wp2_with fail
            exact ⟨fun ix => if ix = 5 then .int .u8 ((d.length : Int) + 2) else g ix, by simp [e4], hR.pure 5 (by decide) (by decide) (by decide) _ rfl⟩
          · intro D a w' hn hp hI
            obtain ⟨g, rfl, hR⟩ := hI
            have e5 : g 5 = .int .u8 ((d.length : Int) + 2) := hR.e 5 (by decide) (by decide) (by decide) hp.1
            rw [e5]
            clear hp
            go_wp2_with fail
            exact ⟨fun ix => if ix = 6 then .slice (some ⟨w'.heap.size, 0, none⟩) 1 1 else g ix, by simp [e5], hR.built hn⟩
          · intro D a w' hn hp hI
            obtain ⟨g, rfl, hR⟩ := hI
            have e0 : g 0 = .slice (some ⟨g3, 0, none⟩) (no + 1) cap3 := hR.e 0 (by decide) (by decide) (by decide) hp.1
            rw [e0]
            obtain ⟨bb, em, hbb, hbk⟩ := hR.m6 hp.2.1
            rw [em]
            have hr0 := hR.r0 hn
            have hcell := hbk hn
            have h6 := hp.2.1
            have hsz := Nat.le_trans hz3 hR.frame.size
            have HRR := Lib.hid hR
            clear hp hR
            go_wp2_with (at_builtin; refine wpList_append_own_at _ rfl _ _ 22 rfl (w.heap.size + 1) 5 i0 (.int .u8 0) 1 1 Try.underlying22 Hi.out Hz0.out Hz1.out Hz2.out rfl (by decide) _ _ _ rfl hr0 ⟨bb, 0, none⟩ 1 1 [.int .u8 ((d.length : Int) + 2)] rfl rfl (World.news_of_block hcell) (by simp [Value.oneCell']) (lt_maxLen' (by have := Hlo.out; omega)) (by have := Hlo.out; omega) hsz ?_; intro v7 w7 hown7 hgrow7 hnil7 hvb7)
            exact ⟨fun ix => if ix = 7 then v7 else g ix, by simp [e0, em], HRR.out.app1 hn h6 hgrow7 hown7 hvb7⟩
          · intro D a w' hn hp hI
            obtain ⟨g, rfl, hR⟩ := hI
            clear hn hp
            go_wp2_with fail
            exact ⟨fun ix => if ix = 8 then .pointer (some ⟨ob, 1, none⟩) else g ix, by rfl, hR.pure 8 (by decide) (by decide) (by decide) _ rfl⟩
          · intro D a w' hn hp hI
            obtain ⟨g, rfl, hR⟩ := hI
            have e8 : g 8 = .pointer (some ⟨ob, 1, none⟩) := hR.e 8 (by decide) (by decide) (by decide) hp.1
            rw [e8]
            have cc := (World.cell?_of_block (a := ⟨ob, 1, none⟩) (hR.keep ob (fun e => HJ3.out.lt ob e rfl) hob3)).trans p1
            clear hn hp
            go_wp2_with fail
            exact ⟨fun ix => if ix = 9 then .slice A1 d.length n1 else g ix, by simp [e8], hR.pure 9 (by decide) (by decide) (by decide) _ rfl⟩
          · intro D a w' hn hp hI
            obtain ⟨g, rfl, hR⟩ := hI
            have hrow := (hR.m7 hp.1 hn).1
            obtain ⟨g7, cap7, e7⟩ := ownsRow_succ hrow
            rw [e7] at hrow
            rw [e7]
            have e9 : g 9 = .slice A1 d.length n1 := hR.e 9 (by decide) (by decide) (by decide) hp.2.1
            rw [e9]
            have h7 := hp.1
            have hsz := Nat.le_trans hz3 hR.frame.size
            have hbd := HBD.out _ (hR.below (fun b e => Nat.le_of_succ_le (HV3.out b e)) (by omega))
            have HRR := Lib.hid hR
            have HBD' := Lib.hid hbd
            clear hp hR hbd
            cases A1 with
            | none =>
              have hn1 := Hnil.out rfl
              subst hn1
              have hd0 : d = [] := by
                cases d with
                | nil => rfl
                | cons x r => obtain ⟨b, o, e, _⟩ := HBD'.out.mem (by simp); cases e
              subst hd0
              go_wp2_with (at_builtin; refine wpList_append_own_none rfl _ _ 22 rfl (w.heap.size + 1) 5 i0 1 Try.underlying22 Hi.out _ _ _ rfl hrow rfl ?_)
              exact ⟨fun ix => if ix = 10 then .slice (some ⟨g7, 0, none⟩) ((out ++ [kd]).length + 1) cap7 else g ix, by simp [e7, e9], HRR.out.app2 hn h7 ⟨rfl, rfl, rfl, Nat.le_refl _, fun _ _ _ => rfl⟩ (by simpa using hrow)⟩
            | some ad =>
              have hnews : ∀ j u, (d.map (Value.int .u8))[j]? = some u → w'.cell? (ad.add j) = some u := by
                intro j u hu
                obtain ⟨b, o, e, _⟩ := HBD'.out.mem (by rintro rfl; simp at hu)
                cases e
                exact HBD'.out.news j u hu
              have Hnews := Lib.hid hnews
              clear hnews
              go_wp2_with (at_builtin; refine wpList_append_own _ rfl _ _ 22 rfl (w.heap.size + 1) 5 i0 (.int .u8 0) 1 1 Try.underlying22 Hi.out Hz0.out Hz1.out Hz2.out rfl (by decide) _ _ _ rfl hrow ad d.length n1 (d.map (Value.int .u8)) rfl (by simp) Hnews.out (by simp [Value.oneCell']) (lt_maxLen' (by have := Hlo.out; omega)) (by have := Hlo.out; omega) hsz ?_; intro v8 w8 hown8 hgrow8 hnil8)
              exact ⟨fun ix => if ix = 10 then v8 else g ix, by simp [e7, e9], HRR.out.app2 hn h7 (by rw [e7]; exact hgrow8) hown8⟩
        intro D a' w' hD hI
        obtain ⟨g16, rfl, hR⟩ := hI
        have hm := hR.m10 (hD 10 (by decide))
        have HK := Lib.hid (show Keep (fun b => ¬ b = g3) w3 w' from ⟨hR.frame, fun b hb hlt => hR.keep b (fun e => hb (by cases e; rfl)) hlt⟩)
        have HMM := Lib.hid hm
        simp only [List.drop_succ_cons, List.drop_zero]
        clear hD hR hm
        have HJJ := Lib.hid (WrJ.mk' HJ3.out HK.out (HV3.out g3 rfl) (out' := out ++ bytesO (kd, d)) HMM.out (by simp [bytesO, hkd]; omega) (by simp [bytesO, hkd]))
        go_wp2_with fail
        obtain ⟨j1, j2, j3⟩ := HJJ.out
        exact ⟨⟨k + 1, out ++ bytesO (kd, d), tw', M1, by omega, rfl, by go_num, ⟨j1, j2, j3, HM1.out, by have := HEQ2.out; rw [HNO.out, if_neg h40] at this; exact this, by rw [List.length_append, HNO.out]; have := bytesO_len (o := (kd, d)) Hrq.out; omega⟩⟩, by simp [intOf]; omega⟩
    · obtain rfl : k = n := by omega
      have t1 : decide ((k : Int) < k) = false := by simp
      have hres : RES = wf out l tw [] := by
        rw [← HRES.out, hI.eq, List.drop_of_length_le (by rw [HN.out]; exact Nat.le_refl _), List.take_of_length_le (by rw [HN.out]; exact Nat.le_refl _)]
      have hlen := hI.len
      have HI := Lib.hid hI
      obtain ⟨no, hno⟩ : ∃ no, out.length = no := ⟨_, rfl⟩
      have HNO := Lib.hid hno
      have HR := Lib.hid hres
      rw [hno] at hlen ⊢
      clear hI hres hno
      cases tw with
      | true =>
        go_wp2_with fail
        refine bodyPost_ret (v := .tuple #[.slice none 0 0, .int .i64 63]) (by simp [results, Try.results16, go_sem]) rfl ?_
        have hres : RES = (63, []) := by rw [HR.out, wf]; rfl
        rw [hres]
        exact ⟨_, rfl, World.ownsRow_nil _ _ _ _, HI.out.below⟩
      | false =>
        by_cases h40 : 40 < no
        · have d40 : decide ((40 : Int) < no) = true := by simp; omega
          go_wp2_with fail
          refine bodyPost_ret (v := .tuple #[.slice none 0 0, .int .i64 3]) (by simp [results, Try.results16, go_sem]) rfl ?_
          have hres : RES = (3, []) := by rw [HR.out, wf, if_neg (by decide), if_pos (by rw [HNO.out]; exact h40)]
          rw [hres]
          exact ⟨_, rfl, World.ownsRow_nil _ _ _ _, HI.out.below⟩
        have d40 : decide ((40 : Int) < no) = false := by simp; omega
        have hres : RES = (0, padS out) := by rw [HR.out, wf, if_neg (by decide), if_neg (by rw [HNO.out]; exact h40)]
        subst hres
        go_wp2_with fail
        go_loopw [4] (fun v4 wx => ∃ cur : List Int, wx.ownsRow (w.heap.size + 1) 5 1 v4 cur.length (cur.map (Value.int .u8)) ∧ padS cur = padS out ∧ (cur.length ≤ 40 ∨ cur.length % 4 ≠ 0 ∧ cur.length ≤ 43 ∨ cur.length = 44) ∧ w.heap.size + 1 ≤ wx.heap.size ∧ Below w.heap.size w wx) (fun v4 _ => (4 - sliceLen v4 % 4) % 4)
        case atStart => exact ⟨out, HNO.out ▸ HI.out.row, rfl, by have := HNO.out; omega, blk_lt HI.out.met, HI.out.below⟩
        case round =>
          obtain ⟨cur, hrow, hpad, hc100, hsz, hbw⟩ := hrel
          obtain ⟨A4, c4, rfl⟩ := own_form hrow
          obtain ⟨m, hm⟩ : ∃ m, cur.length = m := ⟨_, rfl⟩
          rw [hm] at hrow hc100 ⊢
          have HMm := Lib.hid hm
          have HP := Lib.hid hpad
          have HB := Lib.hid hbw
          have HRow := Lib.hid hrow
          clear hm hpad hrow hbw
          have htm : (m : Int).tmod 4 = (m : Int) % 4 := Int.tmod_eq_emod_of_nonneg (by omega)
          by_cases hm4 : m % 4 = 0
          · have t4 : decide ((0 : Int) < (m : Int) % 4) = false := by simp; omega
            have hm4' : (m : Int) % 4 = 0 := by omega
            go_wp2_with fail
            refine bodyPost_ret (v := .tuple #[.slice A4 m c4, .int .i64 0]) (by simp [results, Try.results16, go_sem]) rfl ?_
            have hp : padS out = cur := by rw [← HP.out]; exact pad_done (by rw [HMm.out]; exact hm4)
            rw [hp, HMm.out]
            exact ⟨_, rfl, own_base HRow.out (by omega), HB.out⟩
          · have t4 : decide ((0 : Int) < (m : Int) % 4) = true := by simp; omega
            have hm4' : (0 : Int) < (m : Int) % 4 := by omega
            go_wp2_with (at_builtin; refine wpList_append_own _ rfl _ _ 22 rfl (w.heap.size + 1) 5 i0 (.int .u8 0) 1 1 Try.underlying22 Hi.out Hz0.out Hz1.out Hz2.out rfl (by decide) _ _ _ rfl (HRow.out.alloc _) ⟨wr.heap.size, 0, none⟩ 1 1 [.int .u8 0] rfl rfl (cell_one_new _ _ _) (by simp [Value.oneCell']) (lt_maxLen' (by omega)) (by omega) (by simp; omega) ?_; intro v3 w3 hown3 hgrow3 hnil3; obtain ⟨g3, cap3, rfl⟩ := ownsRow_succ hown3)
            have hb3 : Below w.heap.size w w3 := (HB.out.trans (((Below.refl _ _).alloc (Nat.le_refl _) _).mono HB.out.size)).grown hgrow3 (Nat.le_trans HB.out.size (by simp)) (fun g e => by have := (HRow.out.lt g e).1; omega)
            exact ⟨⟨cur ++ [0], by rw [List.length_append, HMm.out, List.map_append]; exact hown3, by rw [pad_step (by rw [HMm.out]; exact hm4)]; exact HP.out, by have := HMm.out; have h8 := HP.out; simp; omega, Nat.le_trans hsz (by have := hgrow3.size; simp at this; omega), hb3⟩, by simp [sliceLen]; omega⟩

end Go.Proofs.Ytjfnnclbfaakkaa

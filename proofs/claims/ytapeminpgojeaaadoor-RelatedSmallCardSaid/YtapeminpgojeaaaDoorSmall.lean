/-
  The walk of RelatedSmall: a closed statement: the example with each number replaced by others.
-/
import Derived.Test.YtapeminpgojeaaaDoorSmallP
import Derived.Test.YtapeminpgojeaaaDoorInv
import Derived.Test.YtapeminpgojeaaaDoorTurned
import Derived.Deep.DeepCutAuto
namespace Go.Proofs.YtapeminpgojeaaaDoor
open Go.RowKit
set_option linter.unusedVariables false
set_option linter.unusedSimpArgs false

structure SmR (w1 : World) (bx : Nat) (D : Nat → Prop) (v5 v6 v20 v21 : Value) (w' : World) : Prop where
  b : Below w1.heap.size w1 w'
  e0 : D 0 → v20 = .agg #[.int .u8 6, .int .u32 167772161, .int .u32 134744072, .int .u16 40000, .int .u16 80, .int .u8 0]
  e1 : D 1 → v21 = .agg (gF 167772161 5 3 6 167772161 134744072 40000 80 1 151587081)
  m2 : D 2 → Made w1.heap.size 6 v5 w'
  m3 : D 3 → Made w1.heap.size 19 v6 w'
  n2_3 : D 2 → D 3 → v5 ≠ v6
  r4 : D 4 → ∃ b, v5 = .pointer (some ⟨b, 0, none⟩) ∧ b < w'.heap.size ∧ w'.rangeAt b 0 [.int .u8 6, .int .u32 167772161, .int .u32 134744072, .int .u16 40000, .int .u16 80, .int .u8 0]
  o4 : D 4 → D 2
theorem SmR.s0 {w1 : World} {bx : Nat} {D : Nat → Prop} {v5 v6 v20 v21 : Value} {w' w'' : World} (h : SmR w1 bx D v5 v6 v20 v21 w') (hb : Below w'.heap.size w' w'') : SmR w1 bx (fun j => D j ∨ j = 0) v5 v6 (.agg #[.int .u8 6, .int .u32 167772161, .int .u32 134744072, .int .u16 40000, .int .u16 80, .int .u8 0]) v21 w'' :=
  ⟨bthen h.b hb, fun _ => rfl, or_keep h.e1 (by decide), or_keep (fun hd => (h.m2 hd).below hb) (by decide), or_keep (fun hd => (h.m3 hd).below hb) (by decide), or_keep2 h.n2_3 (by decide) (by decide), or_keep (fun hd => by obtain ⟨b, e, hl, hr⟩ := h.r4 hd; exact ⟨b, e, Nat.lt_of_lt_of_le hl hb.size, rangeAt_below hb hl hr⟩) (by decide), fun hd => .inl (h.o4 (hd.resolve_right (by decide)))⟩
theorem SmR.s1 {w1 : World} {bx : Nat} {D : Nat → Prop} {v5 v6 v20 v21 : Value} {w' w'' : World} (h : SmR w1 bx D v5 v6 v20 v21 w') (hb : Below w'.heap.size w' w'') : SmR w1 bx (fun j => D j ∨ j = 1) v5 v6 v20 (.agg (gF 167772161 5 3 6 167772161 134744072 40000 80 1 151587081)) w'' :=
  ⟨bthen h.b hb, or_keep h.e0 (by decide), fun _ => rfl, or_keep (fun hd => (h.m2 hd).below hb) (by decide), or_keep (fun hd => (h.m3 hd).below hb) (by decide), or_keep2 h.n2_3 (by decide) (by decide), or_keep (fun hd => by obtain ⟨b, e, hl, hr⟩ := h.r4 hd; exact ⟨b, e, Nat.lt_of_lt_of_le hl hb.size, rangeAt_below hb hl hr⟩) (by decide), fun hd => .inl (h.o4 (hd.resolve_right (by decide)))⟩
theorem SmR.s2 {w1 : World} {bx : Nat} {D : Nat → Prop} {v5 v6 v20 v21 : Value} {w' w'' : World} (h : SmR w1 bx D v5 v6 v20 v21 w') (hb : Below w'.heap.size w' w'') (hm : Made w1.heap.size 6 (.pointer (some ⟨w'.heap.size, 0, none⟩)) w'') (hn : ¬ D 2) : SmR w1 bx (fun j => D j ∨ j = 2) ((.pointer (some ⟨w'.heap.size, 0, none⟩))) v6 v20 v21 w'' :=
  ⟨bthen h.b hb, or_keep h.e0 (by decide), or_keep h.e1 (by decide), fun _ => hm, or_keep (fun hd => (h.m3 hd).below hb) (by decide), fun _ hd => ((h.m3 (hd.resolve_right (by decide))).ne).symm, fun hd => absurd (h.o4 (hd.resolve_right (by decide))) hn, fun _ => .inr rfl⟩
theorem SmR.s3 {w1 : World} {bx : Nat} {D : Nat → Prop} {v5 v6 v20 v21 : Value} {w' w'' : World} (h : SmR w1 bx D v5 v6 v20 v21 w') (hb : Below w'.heap.size w' w'') (hm : Made w1.heap.size 19 (.pointer (some ⟨w'.heap.size, 0, none⟩)) w'') : SmR w1 bx (fun j => D j ∨ j = 3) v5 ((.pointer (some ⟨w'.heap.size, 0, none⟩))) v20 v21 w'' :=
  ⟨bthen h.b hb, or_keep h.e0 (by decide), or_keep h.e1 (by decide), or_keep (fun hd => (h.m2 hd).below hb) (by decide), fun _ => hm, fun hd _ => (h.m2 (hd.resolve_right (by decide))).ne, or_keep (fun hd => by obtain ⟨b, e, hl, hr⟩ := h.r4 hd; exact ⟨b, e, Nat.lt_of_lt_of_le hl hb.size, rangeAt_below hb hl hr⟩) (by decide), fun hd => .inl (h.o4 (hd.resolve_right (by decide)))⟩
theorem SmR.s4 {w1 : World} {bx : Nat} {D : Nat → Prop} {v5 v6 v20 v21 : Value} {w' w'' : World} (h : SmR w1 bx D v5 v6 v20 v21 w') (hm : D 2) (hB : Below w1.heap.size w1 w'') (hth : ∀ b o n, w'.there b o n → w''.there b o n) (hr : ∃ b, v5 = .pointer (some ⟨b, 0, none⟩) ∧ b < w''.heap.size ∧ w''.rangeAt b 0 [.int .u8 6, .int .u32 167772161, .int .u32 134744072, .int .u16 40000, .int .u16 80, .int .u8 0]) : SmR w1 bx (fun j => D j ∨ j = 4) v5 v6 v20 v21 w'' :=
  ⟨hB, or_keep h.e0 (by decide), or_keep h.e1 (by decide), or_keep (fun hd => by obtain ⟨b, e, hl, ht⟩ := h.m2 hd; exact ⟨b, e, hl, hth _ _ _ ht⟩) (by decide), or_keep (fun hd => by obtain ⟨b, e, hl, ht⟩ := h.m3 hd; exact ⟨b, e, hl, hth _ _ _ ht⟩) (by decide), or_keep2 h.n2_3 (by decide) (by decide), fun _ => hr, fun _ => .inl hm⟩
theorem SmR.zero (w1 : World) (bx : Nat) (v5 v6 v20 v21 : Value) : SmR w1 bx (fun _ => False) v5 v6 v20 v21 w1.drew :=
  ⟨(Below.refl _ _).drew, fun h => h.elim, fun h => h.elim, fun h => h.elim, fun h => h.elim, fun h => h.elim, fun h => h.elim, fun h => h.elim⟩
/-- What the done operations of a region have left: operation i the value val i, in g i. -/
structure Iv (w1 : World) (val : Nat → Value) (D : Nat → Prop) (g : Nat → Value) (w' : World) : Prop where
  b : Below w1.heap.size w1 w'
  e : ∀ i, D i → g i = val i
theorem Iv.step {w1 w' w'' : World} {val g : Nat → Value} {D : Nat → Prop} (h : Iv w1 val D g w') (i : Nat) (x : Value) (hx : x = val i) (hb : Below w'.heap.size w' w'') : Iv w1 val (fun j => D j ∨ j = i) (fun j => if j = i then x else g j) w'' :=
  ⟨bthen h.b hb, fun j hj => by
    show (if j = i then x else g j) = val j
    by_cases hji : j = i
    · rw [if_pos hji, hx, hji]
    · rw [if_neg hji]
      exact h.e j (hj.resolve_right hji)⟩
theorem Iv.zero (w1 : World) (val g : Nat → Value) : Iv w1 val (fun _ => False) g w1.drew := ⟨(Below.refl _ _).drew, fun _ h => h.elim⟩
def sq14 (ng : Nat) (k0 k1 k2 k3 k4 : Int) : List Value := [.pointer (some ⟨ng, 13, none⟩), .agg #[.int .u8 k0, .int .u32 k1, .int .u32 k2, .int .u16 k3, .int .u16 k4], .agg #[.int .u8 k0, .int .u32 k2, .int .u32 k1, .int .u16 k4, .int .u16 k3], .pointer (some ⟨ng, 13, none⟩), .pointer (some ⟨ng, 15, none⟩), .int .u32 k2]
def sq27 (g k cap' mx j : Nat) (p s d sp dp q dst kind tj k0 k1 k2 k3 k4 kv : Int) : List Value := [.agg #[.int .u8 p, .int .u32 s, .int .u32 d, .int .u16 sp, .int .u16 dp, .int .u8 q], .agg (gF dst kind tj k0 k1 k2 k3 k4 kv 151587081), .int .u8 (j : Int), .bool true, .bool false, .bool false, (.slice (some ⟨g, 0, none⟩) (k + 1) cap'), (.slice (some ⟨g, 0, none⟩) (k + 1) cap'), .int .i64 ((k : Int) + 1), .int .i64 ((k : Int) + 1 - 20), .int .i64 (mx : Int), .slice (some ⟨g, mx * 6, none⟩) (k + 1 - mx) (cap' - mx), .agg (gF dst kind tj k0 k1 k2 k3 k4 kv 151587081), .int .u8 (j : Int), .bool true, .bool false]
structure SmH (w1 : World) (p s d sp dp q dst kind ty k0 k1 k2 k3 k4 kv : Int) (D : Nat → Prop) (v11 v12 v114 v115 : Value) (w' : World) : Prop where
  b : Below w1.heap.size w1 w'
  e0 : D 0 → v114 = .agg (gF dst kind ty k0 k1 k2 k3 k4 kv 151587081)
  e1 : D 1 → v115 = .agg #[.int .u8 p, .int .u32 s, .int .u32 d, .int .u16 sp, .int .u16 dp, .int .u8 q]
  m2 : D 2 → Made w1.heap.size 19 v11 w'
  m3 : D 3 → Made w1.heap.size 6 v12 w'
  n2_3 : D 2 → D 3 → v11 ≠ v12
  r4 : D 4 → ∃ b, v11 = .pointer (some ⟨b, 0, none⟩) ∧ b < w'.heap.size ∧ w'.rangeAt b 0 (gF dst kind ty k0 k1 k2 k3 k4 kv 151587081).toList
  o4 : D 4 → D 2
theorem SmH.s0 {w1 : World} {p s d sp dp q dst kind ty k0 k1 k2 k3 k4 kv : Int} {D : Nat → Prop} {v11 v12 v114 v115 : Value} {w' w'' : World} (h : SmH w1 p s d sp dp q dst kind ty k0 k1 k2 k3 k4 kv D v11 v12 v114 v115 w') (hb : Below w'.heap.size w' w'') : SmH w1 p s d sp dp q dst kind ty k0 k1 k2 k3 k4 kv (fun j => D j ∨ j = 0) v11 v12 (.agg (gF dst kind ty k0 k1 k2 k3 k4 kv 151587081)) v115 w'' :=
  ⟨bthen h.b hb, fun _ => rfl, or_keep h.e1 (by decide), or_keep (fun hd => (h.m2 hd).below hb) (by decide), or_keep (fun hd => (h.m3 hd).below hb) (by decide), or_keep2 h.n2_3 (by decide) (by decide), or_keep (fun hd => by obtain ⟨b, e, hl, hr⟩ := h.r4 hd; exact ⟨b, e, Nat.lt_of_lt_of_le hl hb.size, rangeAt_below hb hl hr⟩) (by decide), fun hd => .inl (h.o4 (hd.resolve_right (by decide)))⟩
theorem SmH.s1 {w1 : World} {p s d sp dp q dst kind ty k0 k1 k2 k3 k4 kv : Int} {D : Nat → Prop} {v11 v12 v114 v115 : Value} {w' w'' : World} (h : SmH w1 p s d sp dp q dst kind ty k0 k1 k2 k3 k4 kv D v11 v12 v114 v115 w') (hb : Below w'.heap.size w' w'') : SmH w1 p s d sp dp q dst kind ty k0 k1 k2 k3 k4 kv (fun j => D j ∨ j = 1) v11 v12 v114 (.agg #[.int .u8 p, .int .u32 s, .int .u32 d, .int .u16 sp, .int .u16 dp, .int .u8 q]) w'' :=
  ⟨bthen h.b hb, or_keep h.e0 (by decide), fun _ => rfl, or_keep (fun hd => (h.m2 hd).below hb) (by decide), or_keep (fun hd => (h.m3 hd).below hb) (by decide), or_keep2 h.n2_3 (by decide) (by decide), or_keep (fun hd => by obtain ⟨b, e, hl, hr⟩ := h.r4 hd; exact ⟨b, e, Nat.lt_of_lt_of_le hl hb.size, rangeAt_below hb hl hr⟩) (by decide), fun hd => .inl (h.o4 (hd.resolve_right (by decide)))⟩
theorem SmH.s2 {w1 : World} {p s d sp dp q dst kind ty k0 k1 k2 k3 k4 kv : Int} {D : Nat → Prop} {v11 v12 v114 v115 : Value} {w' w'' : World} (h : SmH w1 p s d sp dp q dst kind ty k0 k1 k2 k3 k4 kv D v11 v12 v114 v115 w') (hb : Below w'.heap.size w' w'') (hm : Made w1.heap.size 19 (.pointer (some ⟨w'.heap.size, 0, none⟩)) w'') (hn : ¬ D 2) : SmH w1 p s d sp dp q dst kind ty k0 k1 k2 k3 k4 kv (fun j => D j ∨ j = 2) ((.pointer (some ⟨w'.heap.size, 0, none⟩))) v12 v114 v115 w'' :=
  ⟨bthen h.b hb, or_keep h.e0 (by decide), or_keep h.e1 (by decide), fun _ => hm, or_keep (fun hd => (h.m3 hd).below hb) (by decide), fun _ hd => ((h.m3 (hd.resolve_right (by decide))).ne).symm, fun hd => absurd (h.o4 (hd.resolve_right (by decide))) hn, fun _ => .inr rfl⟩
theorem SmH.s3 {w1 : World} {p s d sp dp q dst kind ty k0 k1 k2 k3 k4 kv : Int} {D : Nat → Prop} {v11 v12 v114 v115 : Value} {w' w'' : World} (h : SmH w1 p s d sp dp q dst kind ty k0 k1 k2 k3 k4 kv D v11 v12 v114 v115 w') (hb : Below w'.heap.size w' w'') (hm : Made w1.heap.size 6 (.pointer (some ⟨w'.heap.size, 0, none⟩)) w'') : SmH w1 p s d sp dp q dst kind ty k0 k1 k2 k3 k4 kv (fun j => D j ∨ j = 3) v11 ((.pointer (some ⟨w'.heap.size, 0, none⟩))) v114 v115 w'' :=
  ⟨bthen h.b hb, or_keep h.e0 (by decide), or_keep h.e1 (by decide), or_keep (fun hd => (h.m2 hd).below hb) (by decide), fun _ => hm, fun hd _ => (h.m2 (hd.resolve_right (by decide))).ne, or_keep (fun hd => by obtain ⟨b, e, hl, hr⟩ := h.r4 hd; exact ⟨b, e, Nat.lt_of_lt_of_le hl hb.size, rangeAt_below hb hl hr⟩) (by decide), fun hd => .inl (h.o4 (hd.resolve_right (by decide)))⟩
theorem SmH.s4 {w1 : World} {p s d sp dp q dst kind ty k0 k1 k2 k3 k4 kv : Int} {D : Nat → Prop} {v11 v12 v114 v115 : Value} {w' w'' : World} (h : SmH w1 p s d sp dp q dst kind ty k0 k1 k2 k3 k4 kv D v11 v12 v114 v115 w') (hm : D 2) (hB : Below w1.heap.size w1 w'') (hth : ∀ b o n, w'.there b o n → w''.there b o n) (hr : ∃ b, v11 = .pointer (some ⟨b, 0, none⟩) ∧ b < w''.heap.size ∧ w''.rangeAt b 0 (gF dst kind ty k0 k1 k2 k3 k4 kv 151587081).toList) : SmH w1 p s d sp dp q dst kind ty k0 k1 k2 k3 k4 kv (fun j => D j ∨ j = 4) v11 v12 v114 v115 w'' :=
  ⟨hB, or_keep h.e0 (by decide), or_keep h.e1 (by decide), or_keep (fun hd => by obtain ⟨b, e, hl, ht⟩ := h.m2 hd; exact ⟨b, e, hl, hth _ _ _ ht⟩) (by decide), or_keep (fun hd => by obtain ⟨b, e, hl, ht⟩ := h.m3 hd; exact ⟨b, e, hl, hth _ _ _ ht⟩) (by decide), or_keep2 h.n2_3 (by decide) (by decide), fun _ => hr, fun _ => .inl hm⟩
theorem SmH.zero (w1 : World) (p s d sp dp q dst kind ty k0 k1 k2 k3 k4 kv : Int) (v11 v12 v114 v115 : Value) : SmH w1 p s d sp dp q dst kind ty k0 k1 k2 k3 k4 kv (fun _ => False) v11 v12 v114 v115 w1.drew :=
  ⟨(Below.refl _ _).drew, fun h => h.elim, fun h => h.elim, fun h => h.elim, fun h => h.elim, fun h => h.elim, fun h => h.elim, fun h => h.elim⟩

theorem hsF : (Tryd.prog.info? 29).map (·.size) = some (gF 167772161 5 3 6 167772161 134744072 40000 80 1 151587081).size := hi_gF _ _ _ _ _ _ _ _ _ _
set_option maxRecDepth 100000 in
set_option maxHeartbeats 32000000 in
theorem relatedSmall_walk (w : World) (hT : Tabs w) : Calls Tryd.prog 8 #[] w fun e w' => e = .returned (.bool true) ∧ Below w.heap.size w w' := by
  have HT := Lib.hid hT
  clear hT
  obtain ⟨i0, hi, hz0, hz1, hz2⟩ := info_parts info27b
  have Hi := Lib.hid hi
  have Hz0 := Lib.hid hz0
  have Hz1 := Lib.hid hz1
  have Hz2 := Lib.hid hz2
  clear hi hz0 hz1 hz2
  go_enter Tryd.func8, Tryd.ntmps8
  go_wp2_with fail
  refine (example_any _).mono ?_
  rintro e w0 ⟨rfl, hb⟩
  have hFE : FE = (gF 167772161 5 3 6 167772161 134744072 40000 80 1 151587081) := rfl
  rw [hFE]
  have d0 : Below w.heap.size w w0 := hb
  have k0 := d0.size
  clear hb hFE
  go_wp2_with (refine wpList_store_wide 29 (.tmp 2) (.tmp 16) rfl rfl (w0.heap.size + 1) 0 (gF 167772161 5 3 6 167772161 134744072 40000 80 1 151587081) rfl rfl w.heap.size w (hi_gF _ _ _ _ _ _ _ _ _ _) (ho_gF _ _ _ _ _ _ _ _ _ _) ?_ (by omega) ?_ ?_; (· (repeat' (first | with_reducible exact d0 | refine Below.setCell ?_ (by first | omega | (simp; done) | (simp; omega)) _ | refine Below.alloc ?_ (by first | omega | (simp; done) | (simp; omega)) _))); (· (repeat (first | (refine there_new _ _ _ _ _ ?_ rfl; first | rfl | (simp; done)) | refine World.there_alloc ?_ _ | refine there_set ?_))); intro V d1 hzV RF kV tV hcV; have RX : V.rangeAt w0.heap.size 0 [.int .u8 6, .int .u32 167772161, .int .u32 134744072, .int .u16 40000, .int .u16 80, .int .u8 0] := (by intro j v hv; rw [Nat.zero_add]; refine (hcV w0.heap.size j (by omega)).trans ?_; match j, hv with | 0, hv => simpa [go_sem] using hv | 1, hv => simpa [go_sem] using hv | 2, hv => simpa [go_sem] using hv | 3, hv => simpa [go_sem] using hv | 4, hv => simpa [go_sem] using hv | 5, hv => simpa [go_sem] using hv | n + 6, hv => simp at hv); have zF : w0.heap.size + 1 < V.heap.size := (by rw [hzV]; simp); clear hcV kV tV hzV)
  obtain ⟨bx, hbx⟩ : ∃ n, w0.heap.size = n := ⟨_, rfl⟩
  rw [hbx] at RF RX zF
  rw [hbx]
  clear d0 k0 hbx
  have HRX := Lib.hid RX
  have HRF := Lib.hid RF
  clear RX RF
  have k1 := d1.size
  go_loopw [3, 17] (fun v i wr => ∃ (k : Nat) (l : List Fl), k ≤ 252 ∧ i = .int .i64 k ∧ l.length = k ∧ (∀ z ∈ l, Fk z) ∧ Below V.heap.size V wr ∧ wr.ownsRow V.heap.size 27 6 v l.length (l.map Fl.cells).flatten) (fun _ i _ => 252 - (intOf i).toNat)
  case atStart => exact ⟨0, [], Nat.zero_le _, rfl, rfl, by simp, Below.refl _ _, rfl, .inl ⟨rfl, rfl⟩⟩
  case round =>
    obtain ⟨k, l, hk, rfl, hl, hlk, hb, hown⟩ := hrel
    by_cases hkl : k < 252
    · have hkd : decide ((k : Int) < 252) = true := by simp; omega
      have hk0 : (k : Int) < 252 := by omega
      have rx := range_below hb (by omega) HRX.out
      have rf := range_below hb (by omega) HRF.out
      have hws := hb.size
      have x0 := rcell' (j := 0) rx rfl
      have x1 := rcell' (j := 1) rx rfl
      have x2 := rcell' (j := 2) rx rfl
      have x3 := rcell' (j := 3) rx rfl
      have x4 := rcell' (j := 4) rx rfl
      have x5 := rcell' (j := 5) rx rfl
      have HO := Lib.hid hown
      have HLK := Lib.hid hlk
      have HL := Lib.hid hl
      clear hown hlk hl rx
      generalize wr = V0 at *
      go_wp2_with fail
      refine wp_region_steps 5 [[], [], [], [], [0, 2]] (fun D a w' => ∃ v5 v6 v20 v21 : Value, a = ⟨#[u0, .pointer (some ⟨bx, 0, none⟩), .pointer (some ⟨bx + 1, 0, none⟩), u3, .int .i64 ↑k, v5, v6, u7, u8, u9, u10, u11, u12, .tuple #[.agg #[.int .u8 6, .int .u32 167772161, .int .u32 134744072, .int .u16 40000, .int .u16 80, .int .u8 0], .agg (gF 167772161 5 3 6 167772161 134744072 40000 80 1 151587081)], .tuple #[.agg #[.int .u8 6, .int .u32 167772161, .int .u32 134744072, .int .u16 40000, .int .u16 80, .int .u8 0], .agg (gF 167772161 5 3 6 167772161 134744072 40000 80 1 151587081)], .agg #[.int .u8 6, .int .u32 167772161, .int .u32 134744072, .int .u16 40000, .int .u16 80, .int .u8 0], .agg (gF 167772161 5 3 6 167772161 134744072 40000 80 1 151587081), .int .i64 ↑k, .bool true, .int .i64 ↑k, v20, v21, u22, u23, u24, u25, u26, u27, u28, u29, u30, u31, u32, u33, u34, u35, u36, u37, u38, u39, u40, u41, u42, u43, u44, u45, u46, u47, u48, u49, u50, u51, u52, u53, u54, u55, u56, u57, u58, u59, u60, u61, u62, u63, u64, u65, u66, u67, u68, u69, u70, u71, u72, u73, u74, u75, u76, u77, u78, u79, u80, u81, u82, u83, u84, u85, u86, u87, u88, u89, u90, u91, u92, u93, u94, u95, u96, u97, u98, u99, u100, u101, u102, u103, u104, u105, u106, u107, u108, u109, u110, u111, u112, u113, u114, u115, u116, u117, u118, u119, u120, u121, u122, u123, u124, u125, u126, u127, u128, u129, u130, u131, u132, u133, u134, u135, u136, u137, u138, u139, u140, u141, u142, u143, u144, u145, u146, u147, u148, u149, u150, u151, u152, u153, u154, u155, u156, u157, u158, u159, u160, u161, u162, u163, u164, u165, u166, u167, u168, u169, u170, u171, u172, u173, u174, u175, u176, u177, u178, u179, u180, u181, u182, u183, u184, u185, undef, undef, undef, undef, undef], []⟩ ∧ SmR V0 bx D v5 v6 v20 v21 w') (by kernel_rfl) (by kernel_rfl) ⟨u5, u6, u20, u21, rfl, SmR.zero V0 bx (u5) (u6) (u20) (u21)⟩ ?_ ?_
      · simp only [List.take_succ_cons, List.take_zero]
        refine ⟨?_, ?_, ?_, ?_, ?_, trivial⟩
        · intro D a w' hn hp hI
          obtain ⟨v5, v6, v20, v21, rfl, hR⟩ := hI
          have c0 := kc hR.b x0
          have c1 := kc hR.b x1
          have c2 := kc hR.b x2
          have c3 := kc hR.b x3
          have c4 := kc hR.b x4
          have c5 := kc hR.b x5
          clear hn hp
          go_wp2_with fail
          exact ⟨_, _, _, _, rfl, hR.s0 (Below.refl _ _)⟩
        · intro D a w' hn hp hI
          obtain ⟨v5, v6, v20, v21, rfl, hR⟩ := hI
          have rr := range_below hR.b (by omega) rf
          clear hn hp
          go_wp2_with (refine wpList_load_wide 29 _ rfl (by rfl) _ _ rfl (gF 167772161 5 3 6 167772161 134744072 40000 80 1 151587081) _ Tryd.underlying29 rfl (hi_gF _ _ _ _ _ _ _ _ _ _) rr ?_)
          exact ⟨_, _, _, _, rfl, hR.s1 (Below.refl _ _)⟩
        · intro D a w' hn hp hI
          obtain ⟨v5, v6, v20, v21, rfl, hR⟩ := hI
          clear hp
          go_wp2_with fail
          exact ⟨_, _, _, _, rfl, hR.s2 ((Below.refl _ _).alloc (Nat.le_refl _) _) ⟨_, rfl, hR.b.size, there_new _ _ _ _ _ rfl rfl⟩ hn⟩
        · intro D a w' hn hp hI
          obtain ⟨v5, v6, v20, v21, rfl, hR⟩ := hI
          clear hn hp
          go_wp2_with fail
          exact ⟨_, _, _, _, rfl, hR.s3 ((Below.refl _ _).alloc (Nat.le_refl _) _) ⟨_, rfl, hR.b.size, there_new _ _ _ _ _ rfl (by rfl)⟩⟩
        · intro D a w' hn hp hI
          obtain ⟨v5, v6, v20, v21, rfl, hR⟩ := hI
          obtain rfl := hR.e0 hp.1
          have hm := hp.2.1
          obtain ⟨b5, rfl, l5, t5⟩ := hR.m2 hm
          refine wpList_store_wide 27 (.tmp 5) (.tmp 20) rfl rfl b5 0 #[.int .u8 6, .int .u32 167772161, .int .u32 134744072, .int .u16 40000, .int .u16 80, .int .u8 0] rfl rfl V0.heap.size V0 (by rw [info27]; rfl) (by simp [Value.oneCell']) hR.b l5 t5 ?_
          intro W1 dW zW RW kW tW cW
          have lt5 : b5 < W1.heap.size := by rw [zW]; exact there_lt t5
          go_wp2_with fail
          exact ⟨_, _, _, _, rfl, hR.s4 hm dW tW ⟨b5, rfl, lt5, RW⟩⟩
      intro D a w' hD hI
      obtain ⟨v5, v6, v20, v21, rfl, hR⟩ := hI
      obtain rfl := hR.e0 (hD 0 (by decide))
      obtain rfl := hR.e1 (hD 1 (by decide))
      obtain ⟨ny, rfl, ly, ty⟩ := hR.m2 (hD 2 (by decide))
      obtain ⟨ny', hny, _, ry⟩ := hR.r4 (hD 4 (by decide))
      have hne := hR.n2_3 (hD 2 (by decide)) (hD 3 (by decide))
      obtain ⟨ng, rfl, lg, tg⟩ := hR.m3 (hD 3 (by decide))
      obtain rfl : ny = ny' := by injection hny with h; injection h with h; injection h
      have hyg : ny ≠ ng := fun e => hne (by rw [e])
      have hRb := hR.b
      clear hD hR hne hny x0 x1 x2 x3 x4 x5 rf
      simp only [List.drop_succ_cons, List.drop_zero]
      refine wpList_store_wide 29 (.tmp 6) (.tmp 21) rfl rfl ng 0 (gF 167772161 5 3 6 167772161 134744072 40000 80 1 151587081) rfl rfl V0.heap.size V0 (hi_gF _ _ _ _ _ _ _ _ _ _) (ho_gF _ _ _ _ _ _ _ _ _ _) hRb lg tg ?_
      intro X dX zX RG kX tX cX
      have hS : St V ny ng u3 l 6 167772161 134744072 40000 80 0 167772161 5 3 6 167772161 134744072 40000 80 1 X := ⟨bthen hb dX, ⟨kX _ _ _ hyg ry, tX _ _ _ ty, by decide, by decide⟩, ⟨RG, tX _ _ _ tg, ⟨by decide, by decide, by decide, by decide, by decide, by decide, by decide, by decide, by decide⟩⟩, by omega, by omega, hyg, own_below HO.out dX, fun k hk => by have := (HO.out.lt k hk).2; exact ⟨by omega, by omega⟩, HLK.out⟩
      clear zX RG kX tX cX dX hRb ry ty tg HO hb hws
      obtain ⟨r, hr⟩ : ∃ r : Nat, k % 4 = r := ⟨_, rfl⟩
      have r1 : (k : Int).tmod 4 = (r : Int) := by rw [Int.tmod_eq_emod_of_nonneg (by omega)]; omega
      have r2 : (k : Int) % 4 = (r : Int) := by omega
      have r3 : (r : Int) < 4 := by omega
      have r4 : (0 : Int) ≤ (r : Int) := by omega
      obtain ⟨pr, hpr0, hpr⟩ : ∃ pr : Int, (0 ≤ pr ∧ pr ≤ 255) ∧ (X.alloc (.cells #[.int .u8 6, .int .u8 17, .int .u8 1, .int .u8 50] 5)).cell? ⟨X.heap.size, r, none⟩ = some (.int .u8 pr) := by
        have : r = 0 ∨ r = 1 ∨ r = 2 ∨ r = 3 := by omega
        rcases this with rfl | rfl | rfl | rfl
        · exact ⟨6, by decide, by simp [go_sem]⟩
        · exact ⟨17, by decide, by simp [go_sem]⟩
        · exact ⟨1, by decide, by simp [go_sem]⟩
        · exact ⟨50, by decide, by simp [go_sem]⟩
      clear hr
      go_upto_region 8 with fail
      have bA := (Below.refl X.heap.size X).alloc (Nat.le_refl _) (.cells #[.int .u8 6, .int .u8 17, .int .u8 1, .int .u8 50] 5)
      have hS2 := hS.below bA
      generalize World.alloc X (.cells #[.int .u8 6, .int .u8 17, .int .u8 1, .int .u8 50] 5) = X2 at *
      clear bA hpr r1 r2 r3 r4 hS
      have y0 : X2.cell? ⟨ny, 0, none⟩ = some (.int .u8 6) := rcell' hS2.y.r rfl
      have fy0 : X2.frozen? ⟨ny, 0, none⟩ = false := tfree hS2.y.t 0 (by decide)
      have y1 : X2.cell? ⟨ny, 1, none⟩ = some (.int .u32 167772161) := rcell' hS2.y.r rfl
      have fy1 : X2.frozen? ⟨ny, 1, none⟩ = false := tfree hS2.y.t 1 (by decide)
      have y2 : X2.cell? ⟨ny, 2, none⟩ = some (.int .u32 134744072) := rcell' hS2.y.r rfl
      have fy2 : X2.frozen? ⟨ny, 2, none⟩ = false := tfree hS2.y.t 2 (by decide)
      have y3 : X2.cell? ⟨ny, 3, none⟩ = some (.int .u16 40000) := rcell' hS2.y.r rfl
      have fy3 : X2.frozen? ⟨ny, 3, none⟩ = false := tfree hS2.y.t 3 (by decide)
      have y4 : X2.cell? ⟨ny, 4, none⟩ = some (.int .u16 80) := rcell' hS2.y.r rfl
      have fy4 : X2.frozen? ⟨ny, 4, none⟩ = false := tfree hS2.y.t 4 (by decide)
      have y5 : X2.cell? ⟨ny, 5, none⟩ = some (.int .u8 0) := rcell' hS2.y.r rfl
      have fy5 : X2.frozen? ⟨ny, 5, none⟩ = false := tfree hS2.y.t 5 (by decide)
      have g2 : X2.cell? ⟨ng, 2, none⟩ = some (.int .u32 167772161) := rcell' hS2.g.r rfl
      have fg2 : X2.frozen? ⟨ng, 2, none⟩ = false := tfree hS2.g.t 2 (by decide)
      have g5 : X2.cell? ⟨ng, 5, none⟩ = some (.int .u8 5) := rcell' hS2.g.r rfl
      have fg5 : X2.frozen? ⟨ng, 5, none⟩ = false := tfree hS2.g.t 5 (by decide)
      have g7 : X2.cell? ⟨ng, 7, none⟩ = some (.int .u8 3) := rcell' hS2.g.r rfl
      have fg7 : X2.frozen? ⟨ng, 7, none⟩ = false := tfree hS2.g.t 7 (by decide)
      have g13 : X2.cell? ⟨ng, 13, none⟩ = some (.int .u8 6) := rcell' hS2.g.r rfl
      have fg13 : X2.frozen? ⟨ng, 13, none⟩ = false := tfree hS2.g.t 13 (by decide)
      have g14 : X2.cell? ⟨ng, 14, none⟩ = some (.int .u32 167772161) := rcell' hS2.g.r rfl
      have fg14 : X2.frozen? ⟨ng, 14, none⟩ = false := tfree hS2.g.t 14 (by decide)
      have g15 : X2.cell? ⟨ng, 15, none⟩ = some (.int .u32 134744072) := rcell' hS2.g.r rfl
      have fg15 : X2.frozen? ⟨ng, 15, none⟩ = false := tfree hS2.g.t 15 (by decide)
      have g16 : X2.cell? ⟨ng, 16, none⟩ = some (.int .u16 40000) := rcell' hS2.g.r rfl
      have fg16 : X2.frozen? ⟨ng, 16, none⟩ = false := tfree hS2.g.t 16 (by decide)
      have g17 : X2.cell? ⟨ng, 17, none⟩ = some (.int .u16 80) := rcell' hS2.g.r rfl
      have fg17 : X2.frozen? ⟨ng, 17, none⟩ = false := tfree hS2.g.t 17 (by decide)
      have g18 : X2.cell? ⟨ng, 18, none⟩ = some (.int .u8 1) := rcell' hS2.g.r rfl
      have fg18 : X2.frozen? ⟨ng, 18, none⟩ = false := tfree hS2.g.t 18 (by decide)
      have ly := hS2.y.lt
      have lg := hS2.g.lt
      have hyg' := hyg.symm
      obtain ⟨m4, hm4⟩ : ∃ m : Nat, k / 4 = m := ⟨_, rfl⟩
      obtain ⟨q9, hq9⟩ : ∃ m : Nat, m4 % 3 = m := ⟨_, rfl⟩
      obtain ⟨m36, hm36⟩ : ∃ m : Nat, k / 36 = m := ⟨_, rfl⟩
      obtain ⟨r5, hr5⟩ : ∃ m : Nat, k % 5 = m := ⟨_, rfl⟩
      have a1 : (k : Int).tdiv 4 = (m4 : Int) := by rw [Int.tdiv_eq_ediv_of_nonneg (by omega)]; omega
      have a2 : (k : Int) / 4 = (m4 : Int) := by omega
      have a3 : (m4 : Int).tmod 3 = (q9 : Int) := by rw [Int.tmod_eq_emod_of_nonneg (by omega)]; omega
      have a4 : (m4 : Int) % 3 = (q9 : Int) := by omega
      have a5 : (k : Int).tdiv 36 = (m36 : Int) := by rw [Int.tdiv_eq_ediv_of_nonneg (by omega)]; omega
      have a6 : (k : Int) / 36 = (m36 : Int) := by omega
      have a7 : (k : Int).tmod 5 = (r5 : Int) := by rw [Int.tmod_eq_emod_of_nonneg (by omega)]; omega
      have a8 : (k : Int) % 5 = (r5 : Int) := by omega
      have q9a : (0 : Int) ≤ q9 ∧ (q9 : Int) ≤ 255 := by omega
      have m36a : (0 : Int) ≤ m36 ∧ (m36 : Int) ≤ 255 := by omega
      have a9 : IntKind.u8.wrap (q9 : Int) = (q9 : Int) := by unfold IntKind.wrap; simp [IntKind.bits, IntKind.signed]; omega
      have a10 : IntKind.u8.wrap (m36 : Int) = (m36 : Int) := by unfold IntKind.wrap; simp [IntKind.bits, IntKind.signed]; omega
      obtain ⟨b5, hb5⟩ : ∃ b, ((r5 : Int) == 0) = b := ⟨_, rfl⟩
      have hS3 := (((hS2.y0 pr hpr0).g13 pr hpr0).y5 q9 q9a).g18 m36 m36a
      clear hm4 hq9 hm36 hr5
      go_upto_if 44 with fail
      clear a1 a2 a3 a4 a5 a6 a7 a8 a9 a10 hb5 hS2
      clear y0 fy0 y1 fy1 y2 fy2 y3 fy3 y4 fy4 y5 fy5 g2 fg2 g5 fg5 g7 fg7 g13 fg13 g14 fg14 g15 fg15 g16 fg16 g17 fg17 g18 fg18 ly lg
      generalize ((((X2.setCell ⟨ny, 0, none⟩ (.int .u8 pr)).setCell ⟨ng, 13, none⟩ (.int .u8 pr)).setCell ⟨ny, 5, none⟩ (.int .u8 (q9 : Int))).setCell ⟨ng, 18, none⟩ (.int .u8 (m36 : Int))) = X3 at hS3 ⊢
      have y0 : X3.cell? ⟨ny, 0, none⟩ = some (.int .u8 pr) := rcell' hS3.y.r rfl
      have fy0 : X3.frozen? ⟨ny, 0, none⟩ = false := tfree hS3.y.t 0 (by decide)
      have y1 : X3.cell? ⟨ny, 1, none⟩ = some (.int .u32 167772161) := rcell' hS3.y.r rfl
      have fy1 : X3.frozen? ⟨ny, 1, none⟩ = false := tfree hS3.y.t 1 (by decide)
      have y2 : X3.cell? ⟨ny, 2, none⟩ = some (.int .u32 134744072) := rcell' hS3.y.r rfl
      have fy2 : X3.frozen? ⟨ny, 2, none⟩ = false := tfree hS3.y.t 2 (by decide)
      have y3 : X3.cell? ⟨ny, 3, none⟩ = some (.int .u16 40000) := rcell' hS3.y.r rfl
      have fy3 : X3.frozen? ⟨ny, 3, none⟩ = false := tfree hS3.y.t 3 (by decide)
      have y4 : X3.cell? ⟨ny, 4, none⟩ = some (.int .u16 80) := rcell' hS3.y.r rfl
      have fy4 : X3.frozen? ⟨ny, 4, none⟩ = false := tfree hS3.y.t 4 (by decide)
      have y5 : X3.cell? ⟨ny, 5, none⟩ = some (.int .u8 q9) := rcell' hS3.y.r rfl
      have fy5 : X3.frozen? ⟨ny, 5, none⟩ = false := tfree hS3.y.t 5 (by decide)
      have g2 : X3.cell? ⟨ng, 2, none⟩ = some (.int .u32 167772161) := rcell' hS3.g.r rfl
      have fg2 : X3.frozen? ⟨ng, 2, none⟩ = false := tfree hS3.g.t 2 (by decide)
      have g5 : X3.cell? ⟨ng, 5, none⟩ = some (.int .u8 5) := rcell' hS3.g.r rfl
      have fg5 : X3.frozen? ⟨ng, 5, none⟩ = false := tfree hS3.g.t 5 (by decide)
      have g7 : X3.cell? ⟨ng, 7, none⟩ = some (.int .u8 3) := rcell' hS3.g.r rfl
      have fg7 : X3.frozen? ⟨ng, 7, none⟩ = false := tfree hS3.g.t 7 (by decide)
      have g13 : X3.cell? ⟨ng, 13, none⟩ = some (.int .u8 pr) := rcell' hS3.g.r rfl
      have fg13 : X3.frozen? ⟨ng, 13, none⟩ = false := tfree hS3.g.t 13 (by decide)
      have g14 : X3.cell? ⟨ng, 14, none⟩ = some (.int .u32 167772161) := rcell' hS3.g.r rfl
      have fg14 : X3.frozen? ⟨ng, 14, none⟩ = false := tfree hS3.g.t 14 (by decide)
      have g15 : X3.cell? ⟨ng, 15, none⟩ = some (.int .u32 134744072) := rcell' hS3.g.r rfl
      have fg15 : X3.frozen? ⟨ng, 15, none⟩ = false := tfree hS3.g.t 15 (by decide)
      have g16 : X3.cell? ⟨ng, 16, none⟩ = some (.int .u16 40000) := rcell' hS3.g.r rfl
      have fg16 : X3.frozen? ⟨ng, 16, none⟩ = false := tfree hS3.g.t 16 (by decide)
      have g17 : X3.cell? ⟨ng, 17, none⟩ = some (.int .u16 80) := rcell' hS3.g.r rfl
      have fg17 : X3.frozen? ⟨ng, 17, none⟩ = false := tfree hS3.g.t 17 (by decide)
      have g18 : X3.cell? ⟨ng, 18, none⟩ = some (.int .u8 m36) := rcell' hS3.g.r rfl
      have fg18 : X3.frozen? ⟨ng, 18, none⟩ = false := tfree hS3.g.t 18 (by decide)
      have ly := hS3.y.lt
      have lg := hS3.g.lt
      go_cut [] (fun wx => ∃ p s d sp dp q dst kind ty k0 k1 k2 k3 k4 kv : Int, St V ny ng u3 l p s d sp dp q dst kind ty k0 k1 k2 k3 k4 kv wx)
      case first =>
        cases b5
        · go_wp2_with fail
          go_meet
          exact ⟨_, _, _, _, _, _, _, _, _, _, _, _, _, _, _, hS3⟩
        · go_wp2_with fail
          refine (turn_below _ _ _ _ _ _).mono ?_
          rintro e w5 ⟨rfl, hb5⟩
          have h := hS3.below hb5
          clear y0 fy0 y1 fy1 y2 fy2 y3 fy3 y4 fy4 y5 fy5 g2 fg2 g5 fg5 g7 fg7 g13 fg13 g14 fg14 g15 fg15 g16 fg16 g17 fg17 g18 fg18 ly lg
          have y0 : w5.cell? ⟨ny, 0, none⟩ = some (.int .u8 pr) := rcell' h.y.r rfl
          have fy0 : w5.frozen? ⟨ny, 0, none⟩ = false := tfree h.y.t 0 (by decide)
          have y1 : w5.cell? ⟨ny, 1, none⟩ = some (.int .u32 167772161) := rcell' h.y.r rfl
          have fy1 : w5.frozen? ⟨ny, 1, none⟩ = false := tfree h.y.t 1 (by decide)
          have y2 : w5.cell? ⟨ny, 2, none⟩ = some (.int .u32 134744072) := rcell' h.y.r rfl
          have fy2 : w5.frozen? ⟨ny, 2, none⟩ = false := tfree h.y.t 2 (by decide)
          have y3 : w5.cell? ⟨ny, 3, none⟩ = some (.int .u16 40000) := rcell' h.y.r rfl
          have fy3 : w5.frozen? ⟨ny, 3, none⟩ = false := tfree h.y.t 3 (by decide)
          have y4 : w5.cell? ⟨ny, 4, none⟩ = some (.int .u16 80) := rcell' h.y.r rfl
          have fy4 : w5.frozen? ⟨ny, 4, none⟩ = false := tfree h.y.t 4 (by decide)
          have y5 : w5.cell? ⟨ny, 5, none⟩ = some (.int .u8 q9) := rcell' h.y.r rfl
          have fy5 : w5.frozen? ⟨ny, 5, none⟩ = false := tfree h.y.t 5 (by decide)
          have g2 : w5.cell? ⟨ng, 2, none⟩ = some (.int .u32 167772161) := rcell' h.g.r rfl
          have fg2 : w5.frozen? ⟨ng, 2, none⟩ = false := tfree h.g.t 2 (by decide)
          have g5 : w5.cell? ⟨ng, 5, none⟩ = some (.int .u8 5) := rcell' h.g.r rfl
          have fg5 : w5.frozen? ⟨ng, 5, none⟩ = false := tfree h.g.t 5 (by decide)
          have g7 : w5.cell? ⟨ng, 7, none⟩ = some (.int .u8 3) := rcell' h.g.r rfl
          have fg7 : w5.frozen? ⟨ng, 7, none⟩ = false := tfree h.g.t 7 (by decide)
          have g13 : w5.cell? ⟨ng, 13, none⟩ = some (.int .u8 pr) := rcell' h.g.r rfl
          have fg13 : w5.frozen? ⟨ng, 13, none⟩ = false := tfree h.g.t 13 (by decide)
          have g14 : w5.cell? ⟨ng, 14, none⟩ = some (.int .u32 167772161) := rcell' h.g.r rfl
          have fg14 : w5.frozen? ⟨ng, 14, none⟩ = false := tfree h.g.t 14 (by decide)
          have g15 : w5.cell? ⟨ng, 15, none⟩ = some (.int .u32 134744072) := rcell' h.g.r rfl
          have fg15 : w5.frozen? ⟨ng, 15, none⟩ = false := tfree h.g.t 15 (by decide)
          have g16 : w5.cell? ⟨ng, 16, none⟩ = some (.int .u16 40000) := rcell' h.g.r rfl
          have fg16 : w5.frozen? ⟨ng, 16, none⟩ = false := tfree h.g.t 16 (by decide)
          have g17 : w5.cell? ⟨ng, 17, none⟩ = some (.int .u16 80) := rcell' h.g.r rfl
          have fg17 : w5.frozen? ⟨ng, 17, none⟩ = false := tfree h.g.t 17 (by decide)
          have g18 : w5.cell? ⟨ng, 18, none⟩ = some (.int .u8 m36) := rcell' h.g.r rfl
          have fg18 : w5.frozen? ⟨ng, 18, none⟩ = false := tfree h.g.t 18 (by decide)
          have ly := h.y.lt
          have lg := h.g.lt
          clear hS3 hb5
          go_wp2_with fail
          go_meet
          exact ⟨_, _, _, _, _, _, _, _, _, _, _, _, _, _, _, ((((h.y0 pr hpr0).y1 134744072).y2 167772161).y3 80).y4 40000⟩
      case rest =>
        clear y0 fy0 y1 fy1 y2 fy2 y3 fy3 y4 fy4 y5 fy5 g2 fg2 g5 fg5 g7 fg7 g13 fg13 g14 fg14 g15 fg15 g16 fg16 g17 fg17 g18 fg18 ly lg
        clear hS3
        obtain ⟨p, s, d, sp, dp, q, dst, kind, ty, k0, k1, k2, k3, k4, kv, hS⟩ := hcut
        generalize wc = X4 at *
        obtain ⟨r7, hr7⟩ : ∃ m : Nat, k % 7 = m := ⟨_, rfl⟩
        have a7 : (k : Int).tmod 7 = (r7 : Int) := by rw [Int.tmod_eq_emod_of_nonneg (by omega)]; omega
        have a8 : (k : Int) % 7 = (r7 : Int) := by omega
        obtain ⟨b7, hb7⟩ : ∃ b, ((r7 : Int) == 0) = b := ⟨_, rfl⟩
        clear hr7
        go_upto_if 51 with fail
        clear a7 a8 hb7
        go_cut [] (fun wx => ∃ p s d sp dp q dst kind ty k0 k1 k2 k3 k4 kv : Int, St V ny ng u3 l p s d sp dp q dst kind ty k0 k1 k2 k3 k4 kv wx)
        case first =>
          cases b7
          · go_wp2_with fail
            go_meet
            exact ⟨_, _, _, _, _, _, _, _, _, _, _, _, _, _, _, hS⟩
          · go_wp2_with fail
            refine wp_region_steps 6 [[], [0], [1], [], [3], [4]] (fun D a w' => ∃ gq : Nat → Value, a = ⟨#[u0, .pointer (some ⟨bx, 0, none⟩), .pointer (some ⟨bx + 1, 0, none⟩), u3, .int .i64 ↑k, .pointer (some ⟨ny, 0, none⟩), .pointer (some ⟨ng, 0, none⟩), .int .u8 pr, u8, u9, u10, u11, u12, .tuple #[.agg #[.int .u8 6, .int .u32 167772161, .int .u32 134744072, .int .u16 40000, .int .u16 80, .int .u8 0], .agg (gF 167772161 5 3 6 167772161 134744072 40000 80 1 151587081)], .tuple #[.agg #[.int .u8 6, .int .u32 167772161, .int .u32 134744072, .int .u16 40000, .int .u16 80, .int .u8 0], .agg (gF 167772161 5 3 6 167772161 134744072 40000 80 1 151587081)], .agg #[.int .u8 6, .int .u32 167772161, .int .u32 134744072, .int .u16 40000, .int .u16 80, .int .u8 0], .agg (gF 167772161 5 3 6 167772161 134744072 40000 80 1 151587081), .int .i64 ↑k, u18, u19, u20, u21, u22, u23, u24, u25, u26, u27, u28, u29, u30, u31, u32, u33, u34, u35, u36, u37, u38, u39, u40, u41, u42, u43, u44, u45, u46, u47, u48, .int .i64 ↑k, .int .i64 ↑r7, .bool true, gq 0, gq 1, gq 2, gq 3, gq 4, gq 5, u58, u59, u60, u61, u62, u63, u64, u65, u66, u67, u68, u69, u70, u71, u72, u73, u74, u75, u76, u77, u78, u79, u80, u81, u82, u83, u84, u85, u86, u87, u88, u89, u90, u91, u92, u93, u94, u95, u96, u97, u98, u99, u100, u101, u102, u103, u104, u105, u106, u107, u108, u109, u110, u111, u112, u113, u114, u115, u116, u117, u118, u119, u120, u121, u122, u123, u124, u125, u126, u127, u128, u129, u130, u131, u132, u133, u134, u135, u136, u137, u138, u139, u140, u141, u142, u143, u144, u145, u146, u147, u148, u149, u150, u151, u152, u153, u154, u155, u156, u157, u158, u159, u160, u161, u162, u163, u164, u165, u166, u167, u168, u169, u170, u171, u172, u173, u174, u175, u176, u177, u178, u179, u180, u181, u182, u183, u184, u185, undef, undef, undef, undef, undef], []⟩ ∧ Iv X4 (fun i => (sq14 ng k0 k1 k2 k3 k4).getD i undef) D gq w') (by kernel_rfl) (by kernel_rfl) ⟨fun i => if i = 0 then u52 else if i = 1 then u53 else if i = 2 then u54 else if i = 3 then u55 else if i = 4 then u56 else if i = 5 then u57 else undef, rfl, Iv.zero X4 _ _⟩ ?_ ?_
            · simp only [List.take_succ_cons, List.take_zero]
              refine ⟨?_, ?_, ?_, ?_, ?_, ?_, trivial⟩
              · intro D a w' hn hp hI
                obtain ⟨gq, rfl, hR⟩ := hI
                clear hn hp
                go_wp2_with fail
                exact ⟨fun ix => if ix = 0 then .pointer (some ⟨ng, 13, none⟩) else gq ix, by rfl, hR.step 0 _ rfl (Below.refl _ _)⟩
              · intro D a w' hn hp hI
                obtain ⟨gq, rfl, hR⟩ := hI
                have e0 : gq 0 = .pointer (some ⟨ng, 13, none⟩) := hR.e 0 hp.1
                rw [e0]
                have g13 : w'.cell? ⟨ng, 13, none⟩ = some (.int .u8 k0) := rcell' (hS.below hR.b).g.r rfl
                have g14 : w'.cell? ⟨ng, 14, none⟩ = some (.int .u32 k1) := rcell' (hS.below hR.b).g.r rfl
                have g15 : w'.cell? ⟨ng, 15, none⟩ = some (.int .u32 k2) := rcell' (hS.below hR.b).g.r rfl
                have g16 : w'.cell? ⟨ng, 16, none⟩ = some (.int .u16 k3) := rcell' (hS.below hR.b).g.r rfl
                have g17 : w'.cell? ⟨ng, 17, none⟩ = some (.int .u16 k4) := rcell' (hS.below hR.b).g.r rfl
                clear hn hp
                go_wp2_with fail
                exact ⟨fun ix => if ix = 1 then .agg #[.int .u8 k0, .int .u32 k1, .int .u32 k2, .int .u16 k3, .int .u16 k4] else gq ix, by simp [e0], hR.step 1 _ rfl (Below.refl _ _)⟩
              · intro D a w' hn hp hI
                obtain ⟨gq, rfl, hR⟩ := hI
                have e1 : gq 1 = .agg #[.int .u8 k0, .int .u32 k1, .int .u32 k2, .int .u16 k3, .int .u16 k4] := hR.e 1 hp.1
                rw [e1]
                clear hn hp
                go_wp2_with fail
                refine (turn_below _ _ _ _ _ _).mono ?_
                rintro e w'' ⟨rfl, hb⟩
                go_wp2_with fail
                exact ⟨fun ix => if ix = 2 then .agg #[.int .u8 k0, .int .u32 k2, .int .u32 k1, .int .u16 k4, .int .u16 k3] else gq ix, by simp [e1], hR.step 2 _ rfl hb⟩
              · intro D a w' hn hp hI
                obtain ⟨gq, rfl, hR⟩ := hI
                clear hn hp
                go_wp2_with fail
                exact ⟨fun ix => if ix = 3 then .pointer (some ⟨ng, 13, none⟩) else gq ix, by rfl, hR.step 3 _ rfl (Below.refl _ _)⟩
              · intro D a w' hn hp hI
                obtain ⟨gq, rfl, hR⟩ := hI
                have e3 : gq 3 = .pointer (some ⟨ng, 13, none⟩) := hR.e 3 hp.1
                rw [e3]
                clear hn hp
                go_wp2_with fail
                exact ⟨fun ix => if ix = 4 then .pointer (some ⟨ng, 15, none⟩) else gq ix, by simp [e3], hR.step 4 _ rfl (Below.refl _ _)⟩
              · intro D a w' hn hp hI
                obtain ⟨gq, rfl, hR⟩ := hI
                have e4 : gq 4 = .pointer (some ⟨ng, 15, none⟩) := hR.e 4 hp.1
                rw [e4]
                have g15 : w'.cell? ⟨ng, 15, none⟩ = some (.int .u32 k2) := rcell' (hS.below hR.b).g.r rfl
                clear hn hp
                go_wp2_with fail
                exact ⟨fun ix => if ix = 5 then .int .u32 k2 else gq ix, by simp [e4], hR.step 5 _ rfl (Below.refl _ _)⟩
            intro D a w' hD hI
            obtain ⟨g14q, rfl, hR⟩ := hI
            have e0 : g14q 0 = .pointer (some ⟨ng, 13, none⟩) := hR.e 0 (hD 0 (by decide))
            have e1 : g14q 1 = .agg #[.int .u8 k0, .int .u32 k1, .int .u32 k2, .int .u16 k3, .int .u16 k4] := hR.e 1 (hD 1 (by decide))
            have e2 : g14q 2 = .agg #[.int .u8 k0, .int .u32 k2, .int .u32 k1, .int .u16 k4, .int .u16 k3] := hR.e 2 (hD 2 (by decide))
            have e3 : g14q 3 = .pointer (some ⟨ng, 13, none⟩) := hR.e 3 (hD 3 (by decide))
            have e4 : g14q 4 = .pointer (some ⟨ng, 15, none⟩) := hR.e 4 (hD 4 (by decide))
            have e5 : g14q 5 = .int .u32 k2 := hR.e 5 (hD 5 (by decide))
            rw [e0, e1, e2, e3, e4, e5]
            have h := hS.below hR.b
            clear hD hR hS e0 e1 e2 e3 e4 e5
            simp only [List.drop_succ_cons, List.drop_zero]
            have y0 : w'.cell? ⟨ny, 0, none⟩ = some (.int .u8 p) := rcell' h.y.r rfl
            have fy0 : w'.frozen? ⟨ny, 0, none⟩ = false := tfree h.y.t 0 (by decide)
            have y1 : w'.cell? ⟨ny, 1, none⟩ = some (.int .u32 s) := rcell' h.y.r rfl
            have fy1 : w'.frozen? ⟨ny, 1, none⟩ = false := tfree h.y.t 1 (by decide)
            have y2 : w'.cell? ⟨ny, 2, none⟩ = some (.int .u32 d) := rcell' h.y.r rfl
            have fy2 : w'.frozen? ⟨ny, 2, none⟩ = false := tfree h.y.t 2 (by decide)
            have y3 : w'.cell? ⟨ny, 3, none⟩ = some (.int .u16 sp) := rcell' h.y.r rfl
            have fy3 : w'.frozen? ⟨ny, 3, none⟩ = false := tfree h.y.t 3 (by decide)
            have y4 : w'.cell? ⟨ny, 4, none⟩ = some (.int .u16 dp) := rcell' h.y.r rfl
            have fy4 : w'.frozen? ⟨ny, 4, none⟩ = false := tfree h.y.t 4 (by decide)
            have y5 : w'.cell? ⟨ny, 5, none⟩ = some (.int .u8 q) := rcell' h.y.r rfl
            have fy5 : w'.frozen? ⟨ny, 5, none⟩ = false := tfree h.y.t 5 (by decide)
            have g2 : w'.cell? ⟨ng, 2, none⟩ = some (.int .u32 dst) := rcell' h.g.r rfl
            have fg2 : w'.frozen? ⟨ng, 2, none⟩ = false := tfree h.g.t 2 (by decide)
            have g5 : w'.cell? ⟨ng, 5, none⟩ = some (.int .u8 kind) := rcell' h.g.r rfl
            have fg5 : w'.frozen? ⟨ng, 5, none⟩ = false := tfree h.g.t 5 (by decide)
            have g7 : w'.cell? ⟨ng, 7, none⟩ = some (.int .u8 ty) := rcell' h.g.r rfl
            have fg7 : w'.frozen? ⟨ng, 7, none⟩ = false := tfree h.g.t 7 (by decide)
            have g13 : w'.cell? ⟨ng, 13, none⟩ = some (.int .u8 k0) := rcell' h.g.r rfl
            have fg13 : w'.frozen? ⟨ng, 13, none⟩ = false := tfree h.g.t 13 (by decide)
            have g14 : w'.cell? ⟨ng, 14, none⟩ = some (.int .u32 k1) := rcell' h.g.r rfl
            have fg14 : w'.frozen? ⟨ng, 14, none⟩ = false := tfree h.g.t 14 (by decide)
            have g15 : w'.cell? ⟨ng, 15, none⟩ = some (.int .u32 k2) := rcell' h.g.r rfl
            have fg15 : w'.frozen? ⟨ng, 15, none⟩ = false := tfree h.g.t 15 (by decide)
            have g16 : w'.cell? ⟨ng, 16, none⟩ = some (.int .u16 k3) := rcell' h.g.r rfl
            have fg16 : w'.frozen? ⟨ng, 16, none⟩ = false := tfree h.g.t 16 (by decide)
            have g17 : w'.cell? ⟨ng, 17, none⟩ = some (.int .u16 k4) := rcell' h.g.r rfl
            have fg17 : w'.frozen? ⟨ng, 17, none⟩ = false := tfree h.g.t 17 (by decide)
            have g18 : w'.cell? ⟨ng, 18, none⟩ = some (.int .u8 kv) := rcell' h.g.r rfl
            have fg18 : w'.frozen? ⟨ng, 18, none⟩ = false := tfree h.g.t 18 (by decide)
            have ly := h.y.lt
            have lg := h.g.lt
            go_wp2_with fail
            go_meet
            exact ⟨_, _, _, _, _, _, _, _, _, _, _, _, _, _, _, (((((h.g13 k0 h.g.f.hk0).g14 k2 h.g.f.hk2).g15 k1 h.g.f.hk1).g16 k4 h.g.f.hk4).g17 k3 h.g.f.hk3).g2 k2 h.g.f.hk2⟩
        case rest =>
          obtain ⟨pa, sa, da, spa, dpa, qa, dst, kind, ty, k0, k1, k2, k3, k4, kv, hS⟩ := hcut
          generalize wc = X5 at *
          have y0 : X5.cell? ⟨ny, 0, none⟩ = some (.int .u8 pa) := rcell' hS.y.r rfl
          have fy0 : X5.frozen? ⟨ny, 0, none⟩ = false := tfree hS.y.t 0 (by decide)
          have y1 : X5.cell? ⟨ny, 1, none⟩ = some (.int .u32 sa) := rcell' hS.y.r rfl
          have fy1 : X5.frozen? ⟨ny, 1, none⟩ = false := tfree hS.y.t 1 (by decide)
          have y2 : X5.cell? ⟨ny, 2, none⟩ = some (.int .u32 da) := rcell' hS.y.r rfl
          have fy2 : X5.frozen? ⟨ny, 2, none⟩ = false := tfree hS.y.t 2 (by decide)
          have y3 : X5.cell? ⟨ny, 3, none⟩ = some (.int .u16 spa) := rcell' hS.y.r rfl
          have fy3 : X5.frozen? ⟨ny, 3, none⟩ = false := tfree hS.y.t 3 (by decide)
          have y4 : X5.cell? ⟨ny, 4, none⟩ = some (.int .u16 dpa) := rcell' hS.y.r rfl
          have fy4 : X5.frozen? ⟨ny, 4, none⟩ = false := tfree hS.y.t 4 (by decide)
          have y5 : X5.cell? ⟨ny, 5, none⟩ = some (.int .u8 qa) := rcell' hS.y.r rfl
          have fy5 : X5.frozen? ⟨ny, 5, none⟩ = false := tfree hS.y.t 5 (by decide)
          have g2 : X5.cell? ⟨ng, 2, none⟩ = some (.int .u32 dst) := rcell' hS.g.r rfl
          have fg2 : X5.frozen? ⟨ng, 2, none⟩ = false := tfree hS.g.t 2 (by decide)
          have g5 : X5.cell? ⟨ng, 5, none⟩ = some (.int .u8 kind) := rcell' hS.g.r rfl
          have fg5 : X5.frozen? ⟨ng, 5, none⟩ = false := tfree hS.g.t 5 (by decide)
          have g7 : X5.cell? ⟨ng, 7, none⟩ = some (.int .u8 ty) := rcell' hS.g.r rfl
          have fg7 : X5.frozen? ⟨ng, 7, none⟩ = false := tfree hS.g.t 7 (by decide)
          have g13 : X5.cell? ⟨ng, 13, none⟩ = some (.int .u8 k0) := rcell' hS.g.r rfl
          have fg13 : X5.frozen? ⟨ng, 13, none⟩ = false := tfree hS.g.t 13 (by decide)
          have g14 : X5.cell? ⟨ng, 14, none⟩ = some (.int .u32 k1) := rcell' hS.g.r rfl
          have fg14 : X5.frozen? ⟨ng, 14, none⟩ = false := tfree hS.g.t 14 (by decide)
          have g15 : X5.cell? ⟨ng, 15, none⟩ = some (.int .u32 k2) := rcell' hS.g.r rfl
          have fg15 : X5.frozen? ⟨ng, 15, none⟩ = false := tfree hS.g.t 15 (by decide)
          have g16 : X5.cell? ⟨ng, 16, none⟩ = some (.int .u16 k3) := rcell' hS.g.r rfl
          have fg16 : X5.frozen? ⟨ng, 16, none⟩ = false := tfree hS.g.t 16 (by decide)
          have g17 : X5.cell? ⟨ng, 17, none⟩ = some (.int .u16 k4) := rcell' hS.g.r rfl
          have fg17 : X5.frozen? ⟨ng, 17, none⟩ = false := tfree hS.g.t 17 (by decide)
          have g18 : X5.cell? ⟨ng, 18, none⟩ = some (.int .u8 kv) := rcell' hS.g.r rfl
          have fg18 : X5.frozen? ⟨ng, 18, none⟩ = false := tfree hS.g.t 18 (by decide)
          have ly := hS.y.lt
          have lg := hS.g.lt
          have bA := (Below.refl X5.heap.size X5).alloc (Nat.le_refl _) (.cells (Fl.arr ⟨pa, sa, da, spa, dpa, qa⟩) 27)
          go_wp2_with (first | (refine wpList_buildWide rfl 47 27 1 6 #[(0, .tmp 62)] rfl [(Fl.cells ⟨pa, sa, da, spa, dpa, qa⟩)] X5.heap.size rfl (some 63) rfl i0 _ Tryd.underlying47 Hi.out Hz0.out Hz1.out (by decide) (by decide) rfl (by decide) ?_ ?_ ?_; (· rfl); (· (intro l hl; simp at hl; subst hl; rfl))) | (at_builtin; refine wpList_append_lies _ rfl (.tmp 61) (.tmp 63) 47 rfl V.heap.size 27 i0 _ 6 20 Tryd.underlying47 Hi.out Hz0.out Hz1.out Hz2.out rfl (by decide) _ l.length _ rfl (hS.below bA).own ⟨X5.heap.size, 0, none⟩ 1 1 (Fl.cells ⟨pa, sa, da, spa, dpa, qa⟩) rfl rfl (fun jj uu hu => by rw [Go.WideShapes.add_plain]; exact range_new' _ (Fl.arr ⟨pa, sa, da, spa, dpa, qa⟩) 27 X5.heap.size rfl jj uu hu) (fl_one1 _) (by decide) (by have hlen := HL.out; unfold maxLen; omega) (by have hlen := HL.out; omega) (hS.below bA).b.size _ rfl ?_; intro g cap' w9 hown9 hgrow hat9 hlt9))
          obtain ⟨m, hm⟩ : ∃ m, l.length + 1 = m := ⟨_, rfl⟩
          rw [hm] at hown9
          rw [hm]
          have hS9 := (hS.below bA).append (x := ⟨pa, sa, da, spa, dpa, qa⟩) ⟨hS.y.hp, hS.y.hq.1⟩ hm hown9 hgrow hat9
          obtain ⟨l1, hl1⟩ : ∃ l1, l ++ [(⟨pa, sa, da, spa, dpa, qa⟩ : Fl)] = l1 := ⟨_, rfl⟩
          have hm1 : l1.length = m := by rw [← hl1, ← hm]; simp
          have hmk : m = k + 1 := by have hlen := HL.out; omega
          rw [hl1] at hS9
          subst hmk
          clear hown9 hgrow hat9 hlt9 hS bA hl1 hm
          clear y0 fy0 y1 fy1 y2 fy2 y3 fy3 y4 fy4 y5 fy5 g2 fg2 g5 fg5 g7 fg7 g13 fg13 g14 fg14 g15 fg15 g16 fg16 g17 fg17 g18 fg18 ly lg
          have hS8 : ∃ p s d sp dp q dst kind ty k0 k1 k2 k3 k4 kv : Int, St V ny ng (.slice (some ⟨g, 0, none⟩) (k + 1) cap') l1 p s d sp dp q dst kind ty k0 k1 k2 k3 k4 kv w9 := ⟨_, _, _, _, _, _, _, _, _, _, _, _, _, _, _, hS9⟩
          clear hS9
          go_loopw [65] (fun i W => ∃ j : Nat, j ≤ 3 ∧ i = .int .u8 j ∧ ∃ p s d sp dp q dst kind ty k0 k1 k2 k3 k4 kv : Int, St V ny ng (.slice (some ⟨g, 0, none⟩) (k + 1) cap') l1 p s d sp dp q dst kind ty k0 k1 k2 k3 k4 kv W) (fun i _ => 3 - (intOf i).toNat)
          case atStart => exact ⟨0, by omega, rfl, hS8⟩
          case round =>
            obtain ⟨j, hj, rfl, hS8⟩ := hrel
            by_cases hjl : j < 3
            · have hjd : decide ((j : Int) < 3) = true := by simp; omega
              have hj0 : (0 : Int) ≤ j ∧ (j : Int) ≤ 255 := by omega
              go_wp2_with fail
              generalize wr = W0 at *
              go_loopw [68] (fun i W => ∃ c : Nat, c ≤ 19 ∧ i = .int .u8 c ∧ ∃ p s d sp dp q dst kind ty k0 k1 k2 k3 k4 kv : Int, St V ny ng (.slice (some ⟨g, 0, none⟩) (k + 1) cap') l1 p s d sp dp q dst kind ty k0 k1 k2 k3 k4 kv W) (fun i _ => 19 - (intOf i).toNat)
              case atStart => exact ⟨0, by omega, rfl, hS8⟩
              case round =>
                clear hS8
                obtain ⟨c, hc, rfl, hS8⟩ := hrel
                by_cases hcl : c < 19
                · have hcd : decide ((c : Int) < 19) = true := by simp; omega
                  have hc0 : (0 : Int) ≤ c ∧ (c : Int) ≤ 255 := by omega
                  have hc1 : (0 : Int) ≤ 255 - (c : Int) ∧ 255 - (c : Int) ≤ 255 := by omega
                  have hc2 : IntKind.u8.wrap (255 - (c : Int)) = 255 - (c : Int) := by unfold IntKind.wrap; simp [IntKind.bits, IntKind.signed]; omega
                  have hc3 : (c : Int) ≤ 18 := by omega
                  obtain ⟨p, s, d, sp, dp, q, dst, kind, ty, k0, k1, k2, k3, k4, kv, hS⟩ := hS8
                  have y0 : wr.cell? ⟨ny, 0, none⟩ = some (.int .u8 p) := rcell' hS.y.r rfl
                  have fy0 : wr.frozen? ⟨ny, 0, none⟩ = false := tfree hS.y.t 0 (by decide)
                  have y1 : wr.cell? ⟨ny, 1, none⟩ = some (.int .u32 s) := rcell' hS.y.r rfl
                  have fy1 : wr.frozen? ⟨ny, 1, none⟩ = false := tfree hS.y.t 1 (by decide)
                  have y2 : wr.cell? ⟨ny, 2, none⟩ = some (.int .u32 d) := rcell' hS.y.r rfl
                  have fy2 : wr.frozen? ⟨ny, 2, none⟩ = false := tfree hS.y.t 2 (by decide)
                  have y3 : wr.cell? ⟨ny, 3, none⟩ = some (.int .u16 sp) := rcell' hS.y.r rfl
                  have fy3 : wr.frozen? ⟨ny, 3, none⟩ = false := tfree hS.y.t 3 (by decide)
                  have y4 : wr.cell? ⟨ny, 4, none⟩ = some (.int .u16 dp) := rcell' hS.y.r rfl
                  have fy4 : wr.frozen? ⟨ny, 4, none⟩ = false := tfree hS.y.t 4 (by decide)
                  have y5 : wr.cell? ⟨ny, 5, none⟩ = some (.int .u8 q) := rcell' hS.y.r rfl
                  have fy5 : wr.frozen? ⟨ny, 5, none⟩ = false := tfree hS.y.t 5 (by decide)
                  have g2 : wr.cell? ⟨ng, 2, none⟩ = some (.int .u32 dst) := rcell' hS.g.r rfl
                  have fg2 : wr.frozen? ⟨ng, 2, none⟩ = false := tfree hS.g.t 2 (by decide)
                  have g5 : wr.cell? ⟨ng, 5, none⟩ = some (.int .u8 kind) := rcell' hS.g.r rfl
                  have fg5 : wr.frozen? ⟨ng, 5, none⟩ = false := tfree hS.g.t 5 (by decide)
                  have g7 : wr.cell? ⟨ng, 7, none⟩ = some (.int .u8 ty) := rcell' hS.g.r rfl
                  have fg7 : wr.frozen? ⟨ng, 7, none⟩ = false := tfree hS.g.t 7 (by decide)
                  have g13 : wr.cell? ⟨ng, 13, none⟩ = some (.int .u8 k0) := rcell' hS.g.r rfl
                  have fg13 : wr.frozen? ⟨ng, 13, none⟩ = false := tfree hS.g.t 13 (by decide)
                  have g14 : wr.cell? ⟨ng, 14, none⟩ = some (.int .u32 k1) := rcell' hS.g.r rfl
                  have fg14 : wr.frozen? ⟨ng, 14, none⟩ = false := tfree hS.g.t 14 (by decide)
                  have g15 : wr.cell? ⟨ng, 15, none⟩ = some (.int .u32 k2) := rcell' hS.g.r rfl
                  have fg15 : wr.frozen? ⟨ng, 15, none⟩ = false := tfree hS.g.t 15 (by decide)
                  have g16 : wr.cell? ⟨ng, 16, none⟩ = some (.int .u16 k3) := rcell' hS.g.r rfl
                  have fg16 : wr.frozen? ⟨ng, 16, none⟩ = false := tfree hS.g.t 16 (by decide)
                  have g17 : wr.cell? ⟨ng, 17, none⟩ = some (.int .u16 k4) := rcell' hS.g.r rfl
                  have fg17 : wr.frozen? ⟨ng, 17, none⟩ = false := tfree hS.g.t 17 (by decide)
                  have g18 : wr.cell? ⟨ng, 18, none⟩ = some (.int .u8 kv) := rcell' hS.g.r rfl
                  have fg18 : wr.frozen? ⟨ng, 18, none⟩ = false := tfree hS.g.t 18 (by decide)
                  have ly := hS.y.lt
                  have lg := hS.g.lt
                  have hne := hS.ne
                  have hne' := hS.ne.symm
                  have hS1 := hS.g7 c hc0
                  go_wp2_with (refine wpList_load_wide 29 _ rfl (by rfl) _ _ rfl (gF dst kind (c : Int) k0 k1 k2 k3 k4 kv 151587081) _ Tryd.underlying29 rfl (hi_gF _ _ _ _ _ _ _ _ _ _) ?_ ?_; · (repeat (first | with_reducible exact hS1.g.r | refine World.rangeAt_alloc ?_ _)))
                  refine (tells_any (gF dst kind (c : Int) k0 k1 k2 k3 k4 kv 151587081) p s d sp dp q dst kind (c : Int) k0 k1 k2 k3 k4 kv (j : Int) (c : Int) _ (hS1.g.f.fa _) (HT.out.below (bthen d1 hS1.b)) hS1.y.hp hS1.y.hq hj0 hc0).mono ?_
                  rintro e w5 ⟨rfl, hb5⟩
                  have hS2 := hS1.below hb5
                  clear y0 fy0 y1 fy1 y2 fy2 y3 fy3 y4 fy4 y5 fy5 g2 fg2 g5 fg5 g7 fg7 g13 fg13 g14 fg14 g15 fg15 g16 fg16 g17 fg17 g18 fg18 ly lg
                  clear hS hS1 hb5
                  have y0 : w5.cell? ⟨ny, 0, none⟩ = some (.int .u8 p) := rcell' hS2.y.r rfl
                  have y1 : w5.cell? ⟨ny, 1, none⟩ = some (.int .u32 s) := rcell' hS2.y.r rfl
                  have y2 : w5.cell? ⟨ny, 2, none⟩ = some (.int .u32 d) := rcell' hS2.y.r rfl
                  have y3 : w5.cell? ⟨ny, 3, none⟩ = some (.int .u16 sp) := rcell' hS2.y.r rfl
                  have y4 : w5.cell? ⟨ny, 4, none⟩ = some (.int .u16 dp) := rcell' hS2.y.r rfl
                  have y5 : w5.cell? ⟨ny, 5, none⟩ = some (.int .u8 q) := rcell' hS2.y.r rfl
                  have g2 : w5.cell? ⟨ng, 2, none⟩ = some (.int .u32 dst) := rcell' hS2.g.r rfl
                  have g5 : w5.cell? ⟨ng, 5, none⟩ = some (.int .u8 kind) := rcell' hS2.g.r rfl
                  have g7 : w5.cell? ⟨ng, 7, none⟩ = some (.int .u8 (c : Int)) := rcell' hS2.g.r rfl
                  have g13 : w5.cell? ⟨ng, 13, none⟩ = some (.int .u8 k0) := rcell' hS2.g.r rfl
                  have g14 : w5.cell? ⟨ng, 14, none⟩ = some (.int .u32 k1) := rcell' hS2.g.r rfl
                  have g15 : w5.cell? ⟨ng, 15, none⟩ = some (.int .u32 k2) := rcell' hS2.g.r rfl
                  have g16 : w5.cell? ⟨ng, 16, none⟩ = some (.int .u16 k3) := rcell' hS2.g.r rfl
                  have g17 : w5.cell? ⟨ng, 17, none⟩ = some (.int .u16 k4) := rcell' hS2.g.r rfl
                  have g18 : w5.cell? ⟨ng, 18, none⟩ = some (.int .u8 kv) := rcell' hS2.g.r rfl
                  have ly := hS2.y.lt
                  have lg := hS2.g.lt
                  go_wp2_with (refine wpList_load_wide 29 _ rfl (by rfl) _ _ rfl (gF dst kind (c : Int) k0 k1 k2 k3 k4 kv 151587081) _ Tryd.underlying29 rfl (hi_gF _ _ _ _ _ _ _ _ _ _) ?_ ?_; · (repeat (first | with_reducible exact hS2.g.r | refine World.rangeAt_alloc ?_ _)))
                  refine (tells_any (gF dst kind (c : Int) k0 k1 k2 k3 k4 kv 151587081) p s d sp dp q dst kind (c : Int) k0 k1 k2 k3 k4 kv (j : Int) (255 - (c : Int)) _ (hS2.g.f.fa _) (HT.out.below (bthen d1 hS2.b)) hS2.y.hp hS2.y.hq hj0 hc1).mono ?_
                  rintro e w6 ⟨rfl, hb6⟩
                  have hS3 := hS2.below hb6
                  go_wp2_with fail
                  go_roundw
                  case rel => exact ⟨c + 1, by omega, congrArg (Value.int .u8) (by omega : (c : Int) + 1 = ((c + 1 : Nat) : Int)), ⟨_, _, _, _, _, _, _, _, _, _, _, _, _, _, _, hS3⟩⟩
                  case measure => simp [intOf]; omega
                · obtain rfl : c = 19 := by omega
                  rw [show ((19 : Nat) : Int) = 19 from rfl]
                  have hcd : decide ((19 : Int) < 19) = false := by decide
                  obtain ⟨p, s, d, sp, dp, q, dst, kind, ty, k0, k1, k2, k3, k4, kv, hS⟩ := hS8
                  generalize wr = W1 at *
                  have y0 : W1.cell? ⟨ny, 0, none⟩ = some (.int .u8 p) := rcell' hS.y.r rfl
                  have fy0 : W1.frozen? ⟨ny, 0, none⟩ = false := tfree hS.y.t 0 (by decide)
                  have y1 : W1.cell? ⟨ny, 1, none⟩ = some (.int .u32 s) := rcell' hS.y.r rfl
                  have fy1 : W1.frozen? ⟨ny, 1, none⟩ = false := tfree hS.y.t 1 (by decide)
                  have y2 : W1.cell? ⟨ny, 2, none⟩ = some (.int .u32 d) := rcell' hS.y.r rfl
                  have fy2 : W1.frozen? ⟨ny, 2, none⟩ = false := tfree hS.y.t 2 (by decide)
                  have y3 : W1.cell? ⟨ny, 3, none⟩ = some (.int .u16 sp) := rcell' hS.y.r rfl
                  have fy3 : W1.frozen? ⟨ny, 3, none⟩ = false := tfree hS.y.t 3 (by decide)
                  have y4 : W1.cell? ⟨ny, 4, none⟩ = some (.int .u16 dp) := rcell' hS.y.r rfl
                  have fy4 : W1.frozen? ⟨ny, 4, none⟩ = false := tfree hS.y.t 4 (by decide)
                  have y5 : W1.cell? ⟨ny, 5, none⟩ = some (.int .u8 q) := rcell' hS.y.r rfl
                  have fy5 : W1.frozen? ⟨ny, 5, none⟩ = false := tfree hS.y.t 5 (by decide)
                  have g2 : W1.cell? ⟨ng, 2, none⟩ = some (.int .u32 dst) := rcell' hS.g.r rfl
                  have fg2 : W1.frozen? ⟨ng, 2, none⟩ = false := tfree hS.g.t 2 (by decide)
                  have g5 : W1.cell? ⟨ng, 5, none⟩ = some (.int .u8 kind) := rcell' hS.g.r rfl
                  have fg5 : W1.frozen? ⟨ng, 5, none⟩ = false := tfree hS.g.t 5 (by decide)
                  have g7 : W1.cell? ⟨ng, 7, none⟩ = some (.int .u8 ty) := rcell' hS.g.r rfl
                  have fg7 : W1.frozen? ⟨ng, 7, none⟩ = false := tfree hS.g.t 7 (by decide)
                  have g13 : W1.cell? ⟨ng, 13, none⟩ = some (.int .u8 k0) := rcell' hS.g.r rfl
                  have fg13 : W1.frozen? ⟨ng, 13, none⟩ = false := tfree hS.g.t 13 (by decide)
                  have g14 : W1.cell? ⟨ng, 14, none⟩ = some (.int .u32 k1) := rcell' hS.g.r rfl
                  have fg14 : W1.frozen? ⟨ng, 14, none⟩ = false := tfree hS.g.t 14 (by decide)
                  have g15 : W1.cell? ⟨ng, 15, none⟩ = some (.int .u32 k2) := rcell' hS.g.r rfl
                  have fg15 : W1.frozen? ⟨ng, 15, none⟩ = false := tfree hS.g.t 15 (by decide)
                  have g16 : W1.cell? ⟨ng, 16, none⟩ = some (.int .u16 k3) := rcell' hS.g.r rfl
                  have fg16 : W1.frozen? ⟨ng, 16, none⟩ = false := tfree hS.g.t 16 (by decide)
                  have g17 : W1.cell? ⟨ng, 17, none⟩ = some (.int .u16 k4) := rcell' hS.g.r rfl
                  have fg17 : W1.frozen? ⟨ng, 17, none⟩ = false := tfree hS.g.t 17 (by decide)
                  have g18 : W1.cell? ⟨ng, 18, none⟩ = some (.int .u8 kv) := rcell' hS.g.r rfl
                  have fg18 : W1.frozen? ⟨ng, 18, none⟩ = false := tfree hS.g.t 18 (by decide)
                  have ly := hS.y.lt
                  have lg := hS.g.lt
                  obtain ⟨tj, htj0, htj⟩ : ∃ tj : Int, (0 ≤ tj ∧ tj ≤ 255) ∧ (W1.alloc (.cells #[.int .u8 3, .int .u8 11, .int .u8 12] 5)).cell? ⟨W1.heap.size, j, none⟩ = some (.int .u8 tj) := by
                    have : j = 0 ∨ j = 1 ∨ j = 2 := by omega
                    rcases this with rfl | rfl | rfl
                    · exact ⟨3, by decide, by simp [go_sem]⟩
                    · exact ⟨11, by decide, by simp [go_sem]⟩
                    · exact ⟨12, by decide, by simp [go_sem]⟩
                  have hj3 : (j : Int) < 3 := by omega
                  have hne := hS.ne
                  have hne' := hS.ne.symm
                  have hS2 := (hS.g7 tj htj0).below ((Below.refl _ (W1.setCell ⟨ng, 7, none⟩ (.int .u8 tj))).alloc (Nat.le_refl _) (.cells #[.int .u8 3, .int .u8 11, .int .u8 12] 5))
                  go_upto_region 27 with fail
                  generalize (W1.setCell ⟨ng, 7, none⟩ (.int .u8 tj)).alloc (.cells #[.int .u8 3, .int .u8 11, .int .u8 12] 5) = X6 at hS2 ⊢
                  clear y0 fy0 y1 fy1 y2 fy2 y3 fy3 y4 fy4 y5 fy5 g2 fg2 g5 fg5 g7 fg7 g13 fg13 g14 fg14 g15 fg15 g16 fg16 g17 fg17 g18 fg18 ly lg
                  clear hS htj hj3 hne hne'
                  obtain ⟨mx, hmx⟩ : ∃ mx, k + 1 - 20 = mx := ⟨_, rfl⟩
                  have HMX : Hid ((if (0 : Int) < (k : Int) + 1 - 20 then (k : Int) + 1 - 20 else 0) = (mx : Int)) := by show _ = _; split <;> omega
                  have hmk : mx < k + 1 := by omega
                  have hcp := own_cap hS2.own
                  have hlm := hm1
                  rw [hm1] at hcp
                  clear hmx
                  refine wp_region_steps 16 [[], [], [], [0, 1, 2], [3], [4], [5], [5], [5, 7], [5, 8], [5, 9], [5, 6, 10], [5], [5], [5, 11, 12, 13], [5, 14]] (fun D a w' => ∃ gq : Nat → Value, a = ⟨#[u0, .pointer (some ⟨bx, 0, none⟩), .pointer (some ⟨bx + 1, 0, none⟩), .slice (some ⟨g, 0, none⟩) (k + 1) cap', .int .i64 ↑k, .pointer (some ⟨ny, 0, none⟩), .pointer (some ⟨ng, 0, none⟩), .int .u8 pr, .int .u8 ↑j, u9, u10, u11, u12, .tuple #[.agg #[.int .u8 6, .int .u32 167772161, .int .u32 134744072, .int .u16 40000, .int .u16 80, .int .u8 0], .agg (gF 167772161 5 3 6 167772161 134744072 40000 80 1 151587081)], .tuple #[.agg #[.int .u8 6, .int .u32 167772161, .int .u32 134744072, .int .u16 40000, .int .u16 80, .int .u8 0], .agg (gF 167772161 5 3 6 167772161 134744072 40000 80 1 151587081)], .agg #[.int .u8 6, .int .u32 167772161, .int .u32 134744072, .int .u16 40000, .int .u16 80, .int .u8 0], .agg (gF 167772161 5 3 6 167772161 134744072 40000 80 1 151587081), .int .i64 ↑k, u18, u19, u20, u21, u22, u23, u24, u25, u26, u27, u28, u29, u30, u31, u32, u33, u34, u35, u36, u37, u38, u39, u40, u41, u42, u43, u44, u45, u46, u47, u48, u49, u50, u51, u52, u53, u54, u55, u56, u57, u58, u59, u60, u3, .agg #[.int .u8 pa, .int .u32 sa, .int .u32 da, .int .u16 spa, .int .u16 dpa, .int .u8 qa], .slice (some ⟨X5.heap.size, 0, none⟩) 1 1, .slice (some ⟨g, 0, none⟩) (k + 1) cap', .int .u8 ↑j, .bool true, .int .u8 ↑j, .int .u8 19, .bool false, u70, u71, u72, u73, u74, u75, u76, u77, u78, u79, u80, u81, u82, u83, u84, u85, u86, u87, u88, .slice (some ⟨W1.heap.size, 0, none⟩) 3 3, .int .u8 ↑j, .pointer (some ⟨W1.heap.size, j, none⟩), .int .u8 tj, .pointer (some ⟨ng, 7, none⟩), gq 0, gq 1, gq 2, gq 3, gq 4, gq 5, gq 6, gq 7, gq 8, gq 9, gq 10, gq 11, gq 12, gq 13, gq 14, gq 15, u110, u111, u112, u113, u114, u115, u116, u117, u118, u119, u120, u121, u122, u123, u124, u125, u126, u127, u128, u129, u130, u131, u132, u133, u134, u135, u136, u137, u138, u139, u140, u141, u142, u143, u144, u145, u146, u147, u148, u149, u150, u151, u152, u153, u154, u155, u156, u157, u158, u159, u160, u161, u162, u163, u164, u165, u166, u167, u168, u169, u170, u171, u172, u173, u174, u175, u176, u177, u178, u179, u180, u181, u182, u183, u184, u185, undef, undef, undef, undef, undef], []⟩ ∧ Iv X6 (fun i => (sq27 g k cap' mx j p s d sp dp q dst kind tj k0 k1 k2 k3 k4 kv).getD i undef) D gq w') (by kernel_rfl) (by kernel_rfl) ⟨fun i => if i = 0 then u94 else if i = 1 then u95 else if i = 2 then u96 else if i = 3 then u97 else if i = 4 then u98 else if i = 5 then u99 else if i = 6 then u100 else if i = 7 then u101 else if i = 8 then u102 else if i = 9 then u103 else if i = 10 then u104 else if i = 11 then u105 else if i = 12 then u106 else if i = 13 then u107 else if i = 14 then u108 else if i = 15 then u109 else undef, rfl, Iv.zero X6 _ _⟩ ?_ ?_
                  · simp only [List.take_succ_cons, List.take_zero]
                    refine ⟨?_, ?_, ?_, ?_, ?_, ?_, ?_, ?_, ?_, ?_, ?_, ?_, ?_, ?_, ?_, ?_, trivial⟩
                    · intro D a w' hn hp hI
                      obtain ⟨gq, rfl, hR⟩ := hI
                      have hw := hS2.below hR.b
                      have y0 : w'.cell? ⟨ny, 0, none⟩ = some (.int .u8 p) := rcell' hw.y.r rfl
                      have y1 : w'.cell? ⟨ny, 1, none⟩ = some (.int .u32 s) := rcell' hw.y.r rfl
                      have y2 : w'.cell? ⟨ny, 2, none⟩ = some (.int .u32 d) := rcell' hw.y.r rfl
                      have y3 : w'.cell? ⟨ny, 3, none⟩ = some (.int .u16 sp) := rcell' hw.y.r rfl
                      have y4 : w'.cell? ⟨ny, 4, none⟩ = some (.int .u16 dp) := rcell' hw.y.r rfl
                      have y5 : w'.cell? ⟨ny, 5, none⟩ = some (.int .u8 q) := rcell' hw.y.r rfl
                      clear hn hp
                      clear hw
                      go_wp2_with fail
                      exact ⟨fun ix => if ix = 0 then .agg #[.int .u8 p, .int .u32 s, .int .u32 d, .int .u16 sp, .int .u16 dp, .int .u8 q] else gq ix, by rfl, hR.step 0 _ rfl (Below.refl _ _)⟩
                    · intro D a w' hn hp hI
                      obtain ⟨gq, rfl, hR⟩ := hI
                      have hw := hS2.below hR.b
                      clear hn hp
                      go_wp2_with (refine wpList_load_wide 29 _ rfl (by rfl) _ _ rfl (gF dst kind tj k0 k1 k2 k3 k4 kv 151587081) _ Tryd.underlying29 rfl (hi_gF _ _ _ _ _ _ _ _ _ _) hw.g.r ?_)
                      exact ⟨fun ix => if ix = 1 then .agg (gF dst kind tj k0 k1 k2 k3 k4 kv 151587081) else gq ix, by rfl, hR.step 1 _ rfl (Below.refl _ _)⟩
                    · intro D a w' hn hp hI
                      obtain ⟨gq, rfl, hR⟩ := hI
                      clear hn hp
                      go_wp2_with fail
                      exact ⟨fun ix => if ix = 2 then .int .u8 (j : Int) else gq ix, by rfl, hR.step 2 _ rfl (Below.refl _ _)⟩
                    · intro D a w' hn hp hI
                      obtain ⟨gq, rfl, hR⟩ := hI
                      have e0 : gq 0 = .agg #[.int .u8 p, .int .u32 s, .int .u32 d, .int .u16 sp, .int .u16 dp, .int .u8 q] := hR.e 0 hp.1
                      have e1 : gq 1 = .agg (gF dst kind tj k0 k1 k2 k3 k4 kv 151587081) := hR.e 1 hp.2.1
                      have e2 : gq 2 = .int .u8 (j : Int) := hR.e 2 hp.2.2.1
                      rw [e0, e1, e2]
                      have hw := hS2.below hR.b
                      clear hn hp
                      go_wp2_with fail
                      refine (tells_any (gF dst kind tj k0 k1 k2 k3 k4 kv 151587081) p s d sp dp q dst kind tj k0 k1 k2 k3 k4 kv (j : Int) 0 _ (hw.g.f.fa _) (HT.out.below (bthen d1 hw.b)) hw.y.hp hw.y.hq hj0 (by decide)).mono ?_
                      rintro e w'' ⟨rfl, hb⟩
                      clear hw
                      go_wp2_with fail
                      exact ⟨fun ix => if ix = 3 then .bool true else gq ix, by simp [e0, e1, e2], hR.step 3 _ rfl hb⟩
                    · intro D a w' hn hp hI
                      obtain ⟨gq, rfl, hR⟩ := hI
                      have e3 : gq 3 = .bool true := hR.e 3 hp.1
                      rw [e3]
                      clear hn hp
                      go_wp2_with fail
                      exact ⟨fun ix => if ix = 4 then .bool false else gq ix, by simp [e3], hR.step 4 _ rfl (Below.refl _ _)⟩
                    · intro D a w' hn hp hI
                      obtain ⟨gq, rfl, hR⟩ := hI
                      have e4 : gq 4 = .bool false := hR.e 4 hp.1
                      rw [e4]
                      clear hn hp
                      go_wp2_with fail
                      exact ⟨fun ix => if ix = 5 then .bool false else gq ix, by simp [e4], hR.step 5 _ rfl (Below.refl _ _)⟩
                    · intro D a w' hn hp hI
                      obtain ⟨gq, rfl, hR⟩ := hI
                      have e5 : gq 5 = .bool false := hR.e 5 hp.1
                      rw [e5]
                      clear hn hp
                      go_wp2_with fail
                      exact ⟨fun ix => if ix = 6 then (.slice (some ⟨g, 0, none⟩) (k + 1) cap') else gq ix, by simp [e5], hR.step 6 _ rfl (Below.refl _ _)⟩
                    · intro D a w' hn hp hI
                      obtain ⟨gq, rfl, hR⟩ := hI
                      have e5 : gq 5 = .bool false := hR.e 5 hp.1
                      rw [e5]
                      clear hn hp
                      go_wp2_with fail
                      exact ⟨fun ix => if ix = 7 then (.slice (some ⟨g, 0, none⟩) (k + 1) cap') else gq ix, by simp [e5], hR.step 7 _ rfl (Below.refl _ _)⟩
                    · intro D a w' hn hp hI
                      obtain ⟨gq, rfl, hR⟩ := hI
                      have e5 : gq 5 = .bool false := hR.e 5 hp.1
                      have e7 : gq 7 = (.slice (some ⟨g, 0, none⟩) (k + 1) cap') := hR.e 7 hp.2.1
                      rw [e5, e7]
                      clear hn hp
                      go_wp2_with fail
                      exact ⟨fun ix => if ix = 8 then .int .i64 ((k : Int) + 1) else gq ix, by simp [e5, e7], hR.step 8 _ rfl (Below.refl _ _)⟩
                    · intro D a w' hn hp hI
                      obtain ⟨gq, rfl, hR⟩ := hI
                      have e5 : gq 5 = .bool false := hR.e 5 hp.1
                      have e8 : gq 8 = .int .i64 ((k : Int) + 1) := hR.e 8 hp.2.1
                      rw [e5, e8]
                      clear hn hp
                      go_wp2_with fail
                      exact ⟨fun ix => if ix = 9 then .int .i64 ((k : Int) + 1 - 20) else gq ix, by simp [e5, e8], hR.step 9 _ rfl (Below.refl _ _)⟩
                    · intro D a w' hn hp hI
                      obtain ⟨gq, rfl, hR⟩ := hI
                      have e5 : gq 5 = .bool false := hR.e 5 hp.1
                      have e9 : gq 9 = .int .i64 ((k : Int) + 1 - 20) := hR.e 9 hp.2.1
                      rw [e5, e9]
                      clear hn hp
                      have h1 := HMX.out
                      have h3 := hR.step 10 (.int .i64 (mx : Int)) rfl (Below.refl _ _)
                      by_cases h : (0 : Int) < (k : Int) + 1 - 20
                      · rw [if_pos h] at h1
                        rw [← h1] at h3
                        clear h1
                        go_wp2_with fail
                        exact ⟨fun ix => if ix = 10 then .int .i64 ((k : Int) + 1 - 20) else gq ix, by simp [e5, e9], h3⟩
                      · rw [if_neg h] at h1
                        rw [← h1] at h3
                        clear h1
                        go_wp2_with fail
                        exact ⟨fun ix => if ix = 10 then .int .i64 0 else gq ix, by simp [e5, e9], h3⟩
                    · intro D a w' hn hp hI
                      obtain ⟨gq, rfl, hR⟩ := hI
                      have e5 : gq 5 = .bool false := hR.e 5 hp.1
                      have e6 : gq 6 = (.slice (some ⟨g, 0, none⟩) (k + 1) cap') := hR.e 6 hp.2.1
                      have e10 : gq 10 = .int .i64 (mx : Int) := hR.e 10 hp.2.2.1
                      rw [e5, e6, e10]
                      have h2 : (mx : Int) ≤ (k : Int) + 1 := by omega
                      have h3 : (0 : Int) ≤ (mx : Int) := by omega
                      have h4 := hcp.1
                      have h5 : mx ≠ cap' := by omega
                      have h6 : (mx : Int) < (cap' : Int) := by omega
                      have h7 : cap' - mx ≠ 0 := by omega
                      have h8 : mx < cap' := by omega
                      have h9 : cap' ≠ mx := by omega
                      clear hn hp
                      go_wp2_with fail
                      exact ⟨fun ix => if ix = 11 then .slice (some ⟨g, mx * 6, none⟩) (k + 1 - mx) (cap' - mx) else gq ix, by simp [e5, e6, e10], hR.step 11 _ rfl (Below.refl _ _)⟩
                    · intro D a w' hn hp hI
                      obtain ⟨gq, rfl, hR⟩ := hI
                      have e5 : gq 5 = .bool false := hR.e 5 hp.1
                      rw [e5]
                      have hw := hS2.below hR.b
                      clear hn hp
                      go_wp2_with (refine wpList_load_wide 29 _ rfl (by rfl) _ _ rfl (gF dst kind tj k0 k1 k2 k3 k4 kv 151587081) _ Tryd.underlying29 rfl (hi_gF _ _ _ _ _ _ _ _ _ _) hw.g.r ?_)
                      exact ⟨fun ix => if ix = 12 then .agg (gF dst kind tj k0 k1 k2 k3 k4 kv 151587081) else gq ix, by simp [e5], hR.step 12 _ rfl (Below.refl _ _)⟩
                    · intro D a w' hn hp hI
                      obtain ⟨gq, rfl, hR⟩ := hI
                      have e5 : gq 5 = .bool false := hR.e 5 hp.1
                      rw [e5]
                      clear hn hp
                      go_wp2_with fail
                      exact ⟨fun ix => if ix = 13 then .int .u8 (j : Int) else gq ix, by simp [e5], hR.step 13 _ rfl (Below.refl _ _)⟩
                    · intro D a w' hn hp hI
                      obtain ⟨gq, rfl, hR⟩ := hI
                      have e5 : gq 5 = .bool false := hR.e 5 hp.1
                      have e11 : gq 11 = .slice (some ⟨g, mx * 6, none⟩) (k + 1 - mx) (cap' - mx) := hR.e 11 hp.2.1
                      have e12 : gq 12 = .agg (gF dst kind tj k0 k1 k2 k3 k4 kv 151587081) := hR.e 12 hp.2.2.1
                      have e13 : gq 13 = .int .u8 (j : Int) := hR.e 13 hp.2.2.2.1
                      rw [e5, e11, e12, e13]
                      have hw := hS2.below hR.b
                      have hrd := (own_rd hw.own hm1).drop mx
                      have hfd := finds_any (gF dst kind tj k0 k1 k2 k3 k4 kv 151587081) (l1.drop mx) (some ⟨g, 0 + mx * 6, none⟩) (cap' - mx) dst kind tj k0 k1 k2 k3 k4 kv (j : Int) w' (hw.g.f.fa _) (HT.out.below (bthen d1 hw.b)) hj0.1 (by rw [List.map_drop]; exact hrd) (by rw [List.length_drop, hm1]; omega) (fun e => by cases e) (fun x hx => hw.fk x (List.mem_of_mem_drop hx))
                      rw [List.length_drop, hm1, Nat.zero_add] at hfd
                      clear hrd hw
                      clear hn hp
                      go_wp2_with fail
                      refine hfd.mono ?_
                      rintro e w'' ⟨rfl, hb⟩
                      clear hfd
                      go_wp2_with fail
                      exact ⟨fun ix => if ix = 14 then .bool true else gq ix, by simp [e5, e11, e12, e13], hR.step 14 _ rfl hb⟩
                    · intro D a w' hn hp hI
                      obtain ⟨gq, rfl, hR⟩ := hI
                      have e5 : gq 5 = .bool false := hR.e 5 hp.1
                      have e14 : gq 14 = .bool true := hR.e 14 hp.2.1
                      rw [e5, e14]
                      clear hn hp
                      go_wp2_with fail
                      exact ⟨fun ix => if ix = 15 then .bool false else gq ix, by simp [e5, e14], hR.step 15 _ rfl (Below.refl _ _)⟩
                  intro D a w' hD hI
                  obtain ⟨g27, rfl, hR⟩ := hI
                  have e5 : g27 5 = .bool false := hR.e 5 (hD 5 (by decide))
                  have e15 : g27 15 = .bool false := hR.e 15 (hD 15 (by decide))
                  rw [e5, e15]
                  have hS8 : ∃ p s d sp dp q dst kind ty k0 k1 k2 k3 k4 kv : Int, St V ny ng (.slice (some ⟨g, 0, none⟩) (k + 1) cap') l1 p s d sp dp q dst kind ty k0 k1 k2 k3 k4 kv w' := ⟨_, _, _, _, _, _, _, _, _, _, _, _, _, _, _, hS2.below hR.b⟩
                  clear hD hR hS2 e5 e15
                  simp only [List.drop_succ_cons, List.drop_zero]
                  go_wp2_with fail
                  generalize w' = W2 at *
                  go_loopw [111] (fun i W => ∃ c : Nat, c ≤ 8 ∧ i = .int .i64 c ∧ ∃ p s d sp dp q dst kind ty k0 k1 k2 k3 k4 kv : Int, St V ny ng (.slice (some ⟨g, 0, none⟩) (k + 1) cap') l1 p s d sp dp q dst kind ty k0 k1 k2 k3 k4 kv W) (fun i _ => 8 - (intOf i).toNat)
                  case atStart => exact ⟨0, by omega, rfl, hS8⟩
                  case round =>
                    clear hS8
                    obtain ⟨c, hc, rfl, hS8⟩ := hrel
                    by_cases hcl : c < 8
                    · have hcd : decide ((c : Int) < 8) = true := by simp; omega
                      obtain ⟨py, sy, dy, spy, dpy, qy, dsty, kindy, tyy, k0y, k1y, k2y, k3y, k4y, kvy, hS⟩ := hS8
                      generalize wr = W3 at *
                      go_wp2_with fail
                      refine wp_region_steps 5 [[], [], [], [], [0, 2]] (fun D a w' => ∃ v11 v12 v114 v115 : Value, a = ⟨#[u0, .pointer (some ⟨bx, 0, none⟩), .pointer (some ⟨bx + 1, 0, none⟩), .slice (some ⟨g, 0, none⟩) (k + 1) cap', .int .i64 ↑k, .pointer (some ⟨ny, 0, none⟩), .pointer (some ⟨ng, 0, none⟩), .int .u8 pr, .int .u8 ↑j, u9, .int .i64 ↑c, v11, v12, .tuple #[.agg #[.int .u8 6, .int .u32 167772161, .int .u32 134744072, .int .u16 40000, .int .u16 80, .int .u8 0], .agg (gF 167772161 5 3 6 167772161 134744072 40000 80 1 151587081)], .tuple #[.agg #[.int .u8 6, .int .u32 167772161, .int .u32 134744072, .int .u16 40000, .int .u16 80, .int .u8 0], .agg (gF 167772161 5 3 6 167772161 134744072 40000 80 1 151587081)], .agg #[.int .u8 6, .int .u32 167772161, .int .u32 134744072, .int .u16 40000, .int .u16 80, .int .u8 0], .agg (gF 167772161 5 3 6 167772161 134744072 40000 80 1 151587081), .int .i64 ↑k, u18, u19, u20, u21, u22, u23, u24, u25, u26, u27, u28, u29, u30, u31, u32, u33, u34, u35, u36, u37, u38, u39, u40, u41, u42, u43, u44, u45, u46, u47, u48, u49, u50, u51, u52, u53, u54, u55, u56, u57, u58, u59, u60, u3, .agg #[.int .u8 pa, .int .u32 sa, .int .u32 da, .int .u16 spa, .int .u16 dpa, .int .u8 qa], .slice (some ⟨X5.heap.size, 0, none⟩) 1 1, .slice (some ⟨g, 0, none⟩) (k + 1) cap', .int .u8 ↑j, .bool true, .int .u8 ↑j, .int .u8 19, .bool false, u70, u71, u72, u73, u74, u75, u76, u77, u78, u79, u80, u81, u82, u83, u84, u85, u86, u87, u88, .slice (some ⟨W1.heap.size, 0, none⟩) 3 3, .int .u8 ↑j, .pointer (some ⟨W1.heap.size, j, none⟩), .int .u8 tj, .pointer (some ⟨ng, 7, none⟩), g27 0, g27 1, g27 2, g27 3, g27 4, .bool false, g27 6, g27 7, g27 8, g27 9, g27 10, g27 11, g27 12, g27 13, g27 14, .bool false, .bool false, .int .i64 ↑c, .bool true, .int .i64 ↑c, v114, v115, u116, u117, u118, u119, u120, u121, u122, u123, u124, u125, u126, u127, u128, u129, u130, u131, u132, u133, u134, u135, u136, u137, u138, u139, u140, u141, u142, u143, u144, u145, u146, u147, u148, u149, u150, u151, u152, u153, u154, u155, u156, u157, u158, u159, u160, u161, u162, u163, u164, u165, u166, u167, u168, u169, u170, u171, u172, u173, u174, u175, u176, u177, u178, u179, u180, u181, u182, u183, u184, u185, undef, undef, undef, undef, undef], []⟩ ∧ SmH W3 py sy dy spy dpy qy dsty kindy tyy k0y k1y k2y k3y k4y kvy D v11 v12 v114 v115 w') (by kernel_rfl) (by kernel_rfl) ⟨u11, u12, u114, u115, rfl, SmH.zero W3 py sy dy spy dpy qy dsty kindy tyy k0y k1y k2y k3y k4y kvy (u11) (u12) (u114) (u115)⟩ ?_ ?_
                      · simp only [List.take_succ_cons, List.take_zero]
                        refine ⟨?_, ?_, ?_, ?_, ?_, trivial⟩
                        · intro D a w' hn hp hI
                          obtain ⟨v11, v12, v114, v115, rfl, hR⟩ := hI
                          have hw := hS.below hR.b
                          clear hn hp
                          go_wp2_with (refine wpList_load_wide 29 _ rfl (by rfl) _ _ rfl (gF dsty kindy tyy k0y k1y k2y k3y k4y kvy 151587081) _ Tryd.underlying29 rfl (hi_gF _ _ _ _ _ _ _ _ _ _) hw.g.r ?_)
                          exact ⟨_, _, _, _, rfl, hR.s0 (Below.refl _ _)⟩
                        · intro D a w' hn hp hI
                          obtain ⟨v11, v12, v114, v115, rfl, hR⟩ := hI
                          have hw := hS.below hR.b
                          have y0 : w'.cell? ⟨ny, 0, none⟩ = some (.int .u8 py) := rcell' hw.y.r rfl
                          have y1 : w'.cell? ⟨ny, 1, none⟩ = some (.int .u32 sy) := rcell' hw.y.r rfl
                          have y2 : w'.cell? ⟨ny, 2, none⟩ = some (.int .u32 dy) := rcell' hw.y.r rfl
                          have y3 : w'.cell? ⟨ny, 3, none⟩ = some (.int .u16 spy) := rcell' hw.y.r rfl
                          have y4 : w'.cell? ⟨ny, 4, none⟩ = some (.int .u16 dpy) := rcell' hw.y.r rfl
                          have y5 : w'.cell? ⟨ny, 5, none⟩ = some (.int .u8 qy) := rcell' hw.y.r rfl
                          clear hn hp
                          clear hw
                          go_wp2_with fail
                          exact ⟨_, _, _, _, rfl, hR.s1 (Below.refl _ _)⟩
                        · intro D a w' hn hp hI
                          obtain ⟨v11, v12, v114, v115, rfl, hR⟩ := hI
                          clear hp
                          go_wp2_with fail
                          exact ⟨_, _, _, _, rfl, hR.s2 ((Below.refl _ _).alloc (Nat.le_refl _) _) ⟨_, rfl, hR.b.size, there_new _ _ _ _ _ rfl (by rfl)⟩ hn⟩
                        · intro D a w' hn hp hI
                          obtain ⟨v11, v12, v114, v115, rfl, hR⟩ := hI
                          clear hn hp
                          go_wp2_with fail
                          exact ⟨_, _, _, _, rfl, hR.s3 ((Below.refl _ _).alloc (Nat.le_refl _) _) ⟨_, rfl, hR.b.size, there_new _ _ _ _ _ rfl rfl⟩⟩
                        · intro D a w' hn hp hI
                          obtain ⟨v11, v12, v114, v115, rfl, hR⟩ := hI
                          obtain rfl := hR.e0 hp.1
                          have hm := hp.2.1
                          obtain ⟨b5, rfl, l5, t5⟩ := hR.m2 hm
                          refine wpList_store_wide 29 (.tmp 11) (.tmp 114) rfl rfl b5 0 (gF dsty kindy tyy k0y k1y k2y k3y k4y kvy 151587081) rfl rfl W3.heap.size W3 (hi_gF _ _ _ _ _ _ _ _ _ _) (ho_gF _ _ _ _ _ _ _ _ _ _) hR.b l5 t5 ?_
                          intro W1 dW zW RW kW tW cW
                          have lt5 : b5 < W1.heap.size := by rw [zW]; exact there_lt t5
                          go_wp2_with fail
                          exact ⟨_, _, _, _, rfl, hR.s4 hm dW tW ⟨b5, rfl, lt5, RW⟩⟩
                      intro D a w' hD hI
                      obtain ⟨v11, v12, v114, v115, rfl, hR⟩ := hI
                      obtain rfl := hR.e0 (hD 0 (by decide))
                      obtain rfl := hR.e1 (hD 1 (by decide))
                      obtain ⟨nh, rfl, lh, th⟩ := hR.m2 (hD 2 (by decide))
                      obtain ⟨nh', hnh, _, rh⟩ := hR.r4 (hD 4 (by decide))
                      have hne := hR.n2_3 (hD 2 (by decide)) (hD 3 (by decide))
                      obtain ⟨nz, rfl, lz, tz⟩ := hR.m3 (hD 3 (by decide))
                      obtain rfl : nh = nh' := by injection hnh with h; injection h with h; injection h
                      have hhz : nh ≠ nz := fun e => hne (by rw [e])
                      have hRb := hR.b
                      clear hD hR hne hnh
                      simp only [List.drop_succ_cons, List.drop_zero]
                      refine wpList_store_wide 27 (.tmp 12) (.tmp 115) rfl rfl nz 0 #[.int .u8 py, .int .u32 sy, .int .u32 dy, .int .u16 spy, .int .u16 dpy, .int .u8 qy] rfl rfl W3.heap.size W3 (by rw [info27]; rfl) (by simp [Value.oneCell']) hRb lz tz ?_
                      intro X dX zX RZ kX tX cX
                      have hZ : Yl X nz py sy dy spy dpy qy := ⟨RZ, tX _ _ _ tz, hS.y.hp, hS.y.hq⟩
                      have hH : Gl X nh dsty kindy tyy k0y k1y k2y k3y k4y kvy := ⟨kX _ _ _ hhz rh, tX _ _ _ th, hS.g.f⟩
                      have hzh := hhz.symm
                      clear zX RZ kX tX cX hRb tz th rh
                      go_upto_region 33 with fail
                      have hcc : c = 0 ∨ c = 1 ∨ c = 2 ∨ c = 3 ∨ c = 4 ∨ c = 5 ∨ c = 6 ∨ c = 7 := by omega
                      clear hcl hc hcd
                      rcases hcc with hce | hce | hce | hce | hce | hce | hce | hce
                      · have hci : (c : Int) = 0 := by omega
                        rw [hci]
                        clear hci
                        have y0 : X.cell? ⟨nz, 0, none⟩ = some (.int .u8 py) := rcell' hZ.r rfl
                        have fy0 : X.frozen? ⟨nz, 0, none⟩ = false := tfree hZ.t 0 (by decide)
                        have y1 : X.cell? ⟨nz, 1, none⟩ = some (.int .u32 sy) := rcell' hZ.r rfl
                        have fy1 : X.frozen? ⟨nz, 1, none⟩ = false := tfree hZ.t 1 (by decide)
                        have y2 : X.cell? ⟨nz, 2, none⟩ = some (.int .u32 dy) := rcell' hZ.r rfl
                        have fy2 : X.frozen? ⟨nz, 2, none⟩ = false := tfree hZ.t 2 (by decide)
                        have y3 : X.cell? ⟨nz, 3, none⟩ = some (.int .u16 spy) := rcell' hZ.r rfl
                        have fy3 : X.frozen? ⟨nz, 3, none⟩ = false := tfree hZ.t 3 (by decide)
                        have y4 : X.cell? ⟨nz, 4, none⟩ = some (.int .u16 dpy) := rcell' hZ.r rfl
                        have fy4 : X.frozen? ⟨nz, 4, none⟩ = false := tfree hZ.t 4 (by decide)
                        have y5 : X.cell? ⟨nz, 5, none⟩ = some (.int .u8 qy) := rcell' hZ.r rfl
                        have fy5 : X.frozen? ⟨nz, 5, none⟩ = false := tfree hZ.t 5 (by decide)
                        have g2 : X.cell? ⟨nh, 2, none⟩ = some (.int .u32 dsty) := rcell' hH.r rfl
                        have fg2 : X.frozen? ⟨nh, 2, none⟩ = false := tfree hH.t 2 (by decide)
                        have g5 : X.cell? ⟨nh, 5, none⟩ = some (.int .u8 kindy) := rcell' hH.r rfl
                        have fg5 : X.frozen? ⟨nh, 5, none⟩ = false := tfree hH.t 5 (by decide)
                        have g7 : X.cell? ⟨nh, 7, none⟩ = some (.int .u8 tyy) := rcell' hH.r rfl
                        have fg7 : X.frozen? ⟨nh, 7, none⟩ = false := tfree hH.t 7 (by decide)
                        have g13 : X.cell? ⟨nh, 13, none⟩ = some (.int .u8 k0y) := rcell' hH.r rfl
                        have fg13 : X.frozen? ⟨nh, 13, none⟩ = false := tfree hH.t 13 (by decide)
                        have g14 : X.cell? ⟨nh, 14, none⟩ = some (.int .u32 k1y) := rcell' hH.r rfl
                        have fg14 : X.frozen? ⟨nh, 14, none⟩ = false := tfree hH.t 14 (by decide)
                        have g15 : X.cell? ⟨nh, 15, none⟩ = some (.int .u32 k2y) := rcell' hH.r rfl
                        have fg15 : X.frozen? ⟨nh, 15, none⟩ = false := tfree hH.t 15 (by decide)
                        have g16 : X.cell? ⟨nh, 16, none⟩ = some (.int .u16 k3y) := rcell' hH.r rfl
                        have fg16 : X.frozen? ⟨nh, 16, none⟩ = false := tfree hH.t 16 (by decide)
                        have g17 : X.cell? ⟨nh, 17, none⟩ = some (.int .u16 k4y) := rcell' hH.r rfl
                        have fg17 : X.frozen? ⟨nh, 17, none⟩ = false := tfree hH.t 17 (by decide)
                        have g18 : X.cell? ⟨nh, 18, none⟩ = some (.int .u8 kvy) := rcell' hH.r rfl
                        have fg18 : X.frozen? ⟨nh, 18, none⟩ = false := tfree hH.t 18 (by decide)
                        have ly := hZ.lt
                        have lg := hH.lt
                        obtain ⟨r8, hr8⟩ : ∃ m : Nat, k % 8 = m := ⟨_, rfl⟩
                        have a7 : (k : Int).tmod 8 = (r8 : Int) := by rw [Int.tmod_eq_emod_of_nonneg (by omega)]; omega
                        have a8 : (k : Int) % 8 = (r8 : Int) := by omega
                        have a9 : (0 : Int) ≤ r8 ∧ (r8 : Int) ≤ 255 := by omega
                        have a10 : IntKind.u8.wrap (r8 : Int) = (r8 : Int) := by unfold IntKind.wrap; simp [IntKind.bits, IntKind.signed]; omega
                        clear hr8
                        have hZ1 : Yl (X.setCell ⟨nh, 5, none⟩ (.int .u8 ((r8 : Int)))) nz py sy dy spy dpy qy := (hZ.other (b' := nh) (j := 5) (v := .int .u8 ((r8 : Int))) hzh)
                        have hH1 : Gl (X.setCell ⟨nh, 5, none⟩ (.int .u8 ((r8 : Int)))) nh dsty ((r8 : Int)) tyy k0y k1y k2y k3y k4y kvy := (hH.set5 ((r8 : Int)) a9)
                        have hS1 := hS.below (W' := (X.setCell ⟨nh, 5, none⟩ (.int .u8 ((r8 : Int))))) (by (repeat' (first | with_reducible exact dX | refine Below.setCell ?_ (by first | omega | (simp; done) | (simp; omega)) _)))
                        go_wp2_with (refine wpList_load_wide 29 _ rfl (by rfl) _ _ rfl (gF dsty ((r8 : Int)) tyy k0y k1y k2y k3y k4y kvy 151587081) _ Tryd.underlying29 rfl (hi_gF _ _ _ _ _ _ _ _ _ _) hH1.r ?_)
                        refine (tells_any (gF dsty ((r8 : Int)) tyy k0y k1y k2y k3y k4y kvy 151587081) py sy dy spy dpy qy dsty ((r8 : Int)) tyy k0y k1y k2y k3y k4y kvy (j : Int) 0 _ (hH1.f.fa _) (HT.out.below (bthen d1 hS1.b)) hZ1.hp hZ1.hq hj0 (by decide)).mono ?_
                        rintro e w9 ⟨rfl, hb9⟩
                        have hS9 := hS1.below hb9
                        clear y0 fy0 y1 fy1 y2 fy2 y3 fy3 y4 fy4 y5 fy5 g2 fg2 g5 fg5 g7 fg7 g13 fg13 g14 fg14 g15 fg15 g16 fg16 g17 fg17 g18 fg18 ly lg
                        clear hZ hH hZ1 hH1 hS1 hb9 dX
                        go_wp2_with fail
                        go_roundw
                        case rel => exact ⟨1, by omega, (by first | rfl | go_num | simp), ⟨_, _, _, _, _, _, _, _, _, _, _, _, _, _, _, hS9⟩⟩
                        case measure => simp [intOf, hce]
                      · have hci : (c : Int) = 1 := by omega
                        rw [hci]
                        clear hci
                        have y0 : X.cell? ⟨nz, 0, none⟩ = some (.int .u8 py) := rcell' hZ.r rfl
                        have fy0 : X.frozen? ⟨nz, 0, none⟩ = false := tfree hZ.t 0 (by decide)
                        have y1 : X.cell? ⟨nz, 1, none⟩ = some (.int .u32 sy) := rcell' hZ.r rfl
                        have fy1 : X.frozen? ⟨nz, 1, none⟩ = false := tfree hZ.t 1 (by decide)
                        have y2 : X.cell? ⟨nz, 2, none⟩ = some (.int .u32 dy) := rcell' hZ.r rfl
                        have fy2 : X.frozen? ⟨nz, 2, none⟩ = false := tfree hZ.t 2 (by decide)
                        have y3 : X.cell? ⟨nz, 3, none⟩ = some (.int .u16 spy) := rcell' hZ.r rfl
                        have fy3 : X.frozen? ⟨nz, 3, none⟩ = false := tfree hZ.t 3 (by decide)
                        have y4 : X.cell? ⟨nz, 4, none⟩ = some (.int .u16 dpy) := rcell' hZ.r rfl
                        have fy4 : X.frozen? ⟨nz, 4, none⟩ = false := tfree hZ.t 4 (by decide)
                        have y5 : X.cell? ⟨nz, 5, none⟩ = some (.int .u8 qy) := rcell' hZ.r rfl
                        have fy5 : X.frozen? ⟨nz, 5, none⟩ = false := tfree hZ.t 5 (by decide)
                        have g2 : X.cell? ⟨nh, 2, none⟩ = some (.int .u32 dsty) := rcell' hH.r rfl
                        have fg2 : X.frozen? ⟨nh, 2, none⟩ = false := tfree hH.t 2 (by decide)
                        have g5 : X.cell? ⟨nh, 5, none⟩ = some (.int .u8 kindy) := rcell' hH.r rfl
                        have fg5 : X.frozen? ⟨nh, 5, none⟩ = false := tfree hH.t 5 (by decide)
                        have g7 : X.cell? ⟨nh, 7, none⟩ = some (.int .u8 tyy) := rcell' hH.r rfl
                        have fg7 : X.frozen? ⟨nh, 7, none⟩ = false := tfree hH.t 7 (by decide)
                        have g13 : X.cell? ⟨nh, 13, none⟩ = some (.int .u8 k0y) := rcell' hH.r rfl
                        have fg13 : X.frozen? ⟨nh, 13, none⟩ = false := tfree hH.t 13 (by decide)
                        have g14 : X.cell? ⟨nh, 14, none⟩ = some (.int .u32 k1y) := rcell' hH.r rfl
                        have fg14 : X.frozen? ⟨nh, 14, none⟩ = false := tfree hH.t 14 (by decide)
                        have g15 : X.cell? ⟨nh, 15, none⟩ = some (.int .u32 k2y) := rcell' hH.r rfl
                        have fg15 : X.frozen? ⟨nh, 15, none⟩ = false := tfree hH.t 15 (by decide)
                        have g16 : X.cell? ⟨nh, 16, none⟩ = some (.int .u16 k3y) := rcell' hH.r rfl
                        have fg16 : X.frozen? ⟨nh, 16, none⟩ = false := tfree hH.t 16 (by decide)
                        have g17 : X.cell? ⟨nh, 17, none⟩ = some (.int .u16 k4y) := rcell' hH.r rfl
                        have fg17 : X.frozen? ⟨nh, 17, none⟩ = false := tfree hH.t 17 (by decide)
                        have g18 : X.cell? ⟨nh, 18, none⟩ = some (.int .u8 kvy) := rcell' hH.r rfl
                        have fg18 : X.frozen? ⟨nh, 18, none⟩ = false := tfree hH.t 18 (by decide)
                        have ly := hZ.lt
                        have lg := hH.lt
                        obtain ⟨bd0, bd1⟩ := hH.f.hdst
                        have hZ1 : Yl (X.setCell ⟨nh, 2, none⟩ (.int .u32 ((dsty + 1) % 4294967296))) nz py sy dy spy dpy qy := (hZ.other (b' := nh) (j := 2) (v := .int .u32 ((dsty + 1) % 4294967296)) hzh)
                        have hH1 : Gl (X.setCell ⟨nh, 2, none⟩ (.int .u32 ((dsty + 1) % 4294967296))) nh ((dsty + 1) % 4294967296) kindy tyy k0y k1y k2y k3y k4y kvy := (hH.set2 ((dsty + 1) % 4294967296) (by omega))
                        have hS1 := hS.below (W' := (X.setCell ⟨nh, 2, none⟩ (.int .u32 ((dsty + 1) % 4294967296)))) (by (repeat' (first | with_reducible exact dX | refine Below.setCell ?_ (by first | omega | (simp; done) | (simp; omega)) _)))
                        go_wp2_with (refine wpList_load_wide 29 _ rfl (by rfl) _ _ rfl (gF ((dsty + 1) % 4294967296) kindy tyy k0y k1y k2y k3y k4y kvy 151587081) _ Tryd.underlying29 rfl (hi_gF _ _ _ _ _ _ _ _ _ _) hH1.r ?_)
                        refine (tells_any (gF ((dsty + 1) % 4294967296) kindy tyy k0y k1y k2y k3y k4y kvy 151587081) py sy dy spy dpy qy ((dsty + 1) % 4294967296) kindy tyy k0y k1y k2y k3y k4y kvy (j : Int) 1 _ (hH1.f.fa _) (HT.out.below (bthen d1 hS1.b)) hZ1.hp hZ1.hq hj0 (by decide)).mono ?_
                        rintro e w9 ⟨rfl, hb9⟩
                        have hS9 := hS1.below hb9
                        clear y0 fy0 y1 fy1 y2 fy2 y3 fy3 y4 fy4 y5 fy5 g2 fg2 g5 fg5 g7 fg7 g13 fg13 g14 fg14 g15 fg15 g16 fg16 g17 fg17 g18 fg18 ly lg
                        clear hZ hH hZ1 hH1 hS1 hb9 dX
                        go_wp2_with fail
                        go_roundw
                        case rel => exact ⟨2, by omega, (by first | rfl | go_num | simp), ⟨_, _, _, _, _, _, _, _, _, _, _, _, _, _, _, hS9⟩⟩
                        case measure => simp [intOf, hce]
                      · have hci : (c : Int) = 2 := by omega
                        rw [hci]
                        clear hci
                        have y0 : X.cell? ⟨nz, 0, none⟩ = some (.int .u8 py) := rcell' hZ.r rfl
                        have fy0 : X.frozen? ⟨nz, 0, none⟩ = false := tfree hZ.t 0 (by decide)
                        have y1 : X.cell? ⟨nz, 1, none⟩ = some (.int .u32 sy) := rcell' hZ.r rfl
                        have fy1 : X.frozen? ⟨nz, 1, none⟩ = false := tfree hZ.t 1 (by decide)
                        have y2 : X.cell? ⟨nz, 2, none⟩ = some (.int .u32 dy) := rcell' hZ.r rfl
                        have fy2 : X.frozen? ⟨nz, 2, none⟩ = false := tfree hZ.t 2 (by decide)
                        have y3 : X.cell? ⟨nz, 3, none⟩ = some (.int .u16 spy) := rcell' hZ.r rfl
                        have fy3 : X.frozen? ⟨nz, 3, none⟩ = false := tfree hZ.t 3 (by decide)
                        have y4 : X.cell? ⟨nz, 4, none⟩ = some (.int .u16 dpy) := rcell' hZ.r rfl
                        have fy4 : X.frozen? ⟨nz, 4, none⟩ = false := tfree hZ.t 4 (by decide)
                        have y5 : X.cell? ⟨nz, 5, none⟩ = some (.int .u8 qy) := rcell' hZ.r rfl
                        have fy5 : X.frozen? ⟨nz, 5, none⟩ = false := tfree hZ.t 5 (by decide)
                        have g2 : X.cell? ⟨nh, 2, none⟩ = some (.int .u32 dsty) := rcell' hH.r rfl
                        have fg2 : X.frozen? ⟨nh, 2, none⟩ = false := tfree hH.t 2 (by decide)
                        have g5 : X.cell? ⟨nh, 5, none⟩ = some (.int .u8 kindy) := rcell' hH.r rfl
                        have fg5 : X.frozen? ⟨nh, 5, none⟩ = false := tfree hH.t 5 (by decide)
                        have g7 : X.cell? ⟨nh, 7, none⟩ = some (.int .u8 tyy) := rcell' hH.r rfl
                        have fg7 : X.frozen? ⟨nh, 7, none⟩ = false := tfree hH.t 7 (by decide)
                        have g13 : X.cell? ⟨nh, 13, none⟩ = some (.int .u8 k0y) := rcell' hH.r rfl
                        have fg13 : X.frozen? ⟨nh, 13, none⟩ = false := tfree hH.t 13 (by decide)
                        have g14 : X.cell? ⟨nh, 14, none⟩ = some (.int .u32 k1y) := rcell' hH.r rfl
                        have fg14 : X.frozen? ⟨nh, 14, none⟩ = false := tfree hH.t 14 (by decide)
                        have g15 : X.cell? ⟨nh, 15, none⟩ = some (.int .u32 k2y) := rcell' hH.r rfl
                        have fg15 : X.frozen? ⟨nh, 15, none⟩ = false := tfree hH.t 15 (by decide)
                        have g16 : X.cell? ⟨nh, 16, none⟩ = some (.int .u16 k3y) := rcell' hH.r rfl
                        have fg16 : X.frozen? ⟨nh, 16, none⟩ = false := tfree hH.t 16 (by decide)
                        have g17 : X.cell? ⟨nh, 17, none⟩ = some (.int .u16 k4y) := rcell' hH.r rfl
                        have fg17 : X.frozen? ⟨nh, 17, none⟩ = false := tfree hH.t 17 (by decide)
                        have g18 : X.cell? ⟨nh, 18, none⟩ = some (.int .u8 kvy) := rcell' hH.r rfl
                        have fg18 : X.frozen? ⟨nh, 18, none⟩ = false := tfree hH.t 18 (by decide)
                        have ly := hZ.lt
                        have lg := hH.lt
                        obtain ⟨bd0, bd1⟩ := hH.f.hk1
                        have hZ1 : Yl (X.setCell ⟨nh, 14, none⟩ (.int .u32 ((k1y + 1) % 4294967296))) nz py sy dy spy dpy qy := (hZ.other (b' := nh) (j := 14) (v := .int .u32 ((k1y + 1) % 4294967296)) hzh)
                        have hH1 : Gl (X.setCell ⟨nh, 14, none⟩ (.int .u32 ((k1y + 1) % 4294967296))) nh dsty kindy tyy k0y ((k1y + 1) % 4294967296) k2y k3y k4y kvy := (hH.set14 ((k1y + 1) % 4294967296) (by omega))
                        have hS1 := hS.below (W' := (X.setCell ⟨nh, 14, none⟩ (.int .u32 ((k1y + 1) % 4294967296)))) (by (repeat' (first | with_reducible exact dX | refine Below.setCell ?_ (by first | omega | (simp; done) | (simp; omega)) _)))
                        go_wp2_with (refine wpList_load_wide 29 _ rfl (by rfl) _ _ rfl (gF dsty kindy tyy k0y ((k1y + 1) % 4294967296) k2y k3y k4y kvy 151587081) _ Tryd.underlying29 rfl (hi_gF _ _ _ _ _ _ _ _ _ _) hH1.r ?_)
                        refine (tells_any (gF dsty kindy tyy k0y ((k1y + 1) % 4294967296) k2y k3y k4y kvy 151587081) py sy dy spy dpy qy dsty kindy tyy k0y ((k1y + 1) % 4294967296) k2y k3y k4y kvy (j : Int) 2 _ (hH1.f.fa _) (HT.out.below (bthen d1 hS1.b)) hZ1.hp hZ1.hq hj0 (by decide)).mono ?_
                        rintro e w9 ⟨rfl, hb9⟩
                        have hS9 := hS1.below hb9
                        clear y0 fy0 y1 fy1 y2 fy2 y3 fy3 y4 fy4 y5 fy5 g2 fg2 g5 fg5 g7 fg7 g13 fg13 g14 fg14 g15 fg15 g16 fg16 g17 fg17 g18 fg18 ly lg
                        clear hZ hH hZ1 hH1 hS1 hb9 dX
                        go_wp2_with fail
                        go_roundw
                        case rel => exact ⟨3, by omega, (by first | rfl | go_num | simp), ⟨_, _, _, _, _, _, _, _, _, _, _, _, _, _, _, hS9⟩⟩
                        case measure => simp [intOf, hce]
                      · have hci : (c : Int) = 3 := by omega
                        rw [hci]
                        clear hci
                        have y0 : X.cell? ⟨nz, 0, none⟩ = some (.int .u8 py) := rcell' hZ.r rfl
                        have fy0 : X.frozen? ⟨nz, 0, none⟩ = false := tfree hZ.t 0 (by decide)
                        have y1 : X.cell? ⟨nz, 1, none⟩ = some (.int .u32 sy) := rcell' hZ.r rfl
                        have fy1 : X.frozen? ⟨nz, 1, none⟩ = false := tfree hZ.t 1 (by decide)
                        have y2 : X.cell? ⟨nz, 2, none⟩ = some (.int .u32 dy) := rcell' hZ.r rfl
                        have fy2 : X.frozen? ⟨nz, 2, none⟩ = false := tfree hZ.t 2 (by decide)
                        have y3 : X.cell? ⟨nz, 3, none⟩ = some (.int .u16 spy) := rcell' hZ.r rfl
                        have fy3 : X.frozen? ⟨nz, 3, none⟩ = false := tfree hZ.t 3 (by decide)
                        have y4 : X.cell? ⟨nz, 4, none⟩ = some (.int .u16 dpy) := rcell' hZ.r rfl
                        have fy4 : X.frozen? ⟨nz, 4, none⟩ = false := tfree hZ.t 4 (by decide)
                        have y5 : X.cell? ⟨nz, 5, none⟩ = some (.int .u8 qy) := rcell' hZ.r rfl
                        have fy5 : X.frozen? ⟨nz, 5, none⟩ = false := tfree hZ.t 5 (by decide)
                        have g2 : X.cell? ⟨nh, 2, none⟩ = some (.int .u32 dsty) := rcell' hH.r rfl
                        have fg2 : X.frozen? ⟨nh, 2, none⟩ = false := tfree hH.t 2 (by decide)
                        have g5 : X.cell? ⟨nh, 5, none⟩ = some (.int .u8 kindy) := rcell' hH.r rfl
                        have fg5 : X.frozen? ⟨nh, 5, none⟩ = false := tfree hH.t 5 (by decide)
                        have g7 : X.cell? ⟨nh, 7, none⟩ = some (.int .u8 tyy) := rcell' hH.r rfl
                        have fg7 : X.frozen? ⟨nh, 7, none⟩ = false := tfree hH.t 7 (by decide)
                        have g13 : X.cell? ⟨nh, 13, none⟩ = some (.int .u8 k0y) := rcell' hH.r rfl
                        have fg13 : X.frozen? ⟨nh, 13, none⟩ = false := tfree hH.t 13 (by decide)
                        have g14 : X.cell? ⟨nh, 14, none⟩ = some (.int .u32 k1y) := rcell' hH.r rfl
                        have fg14 : X.frozen? ⟨nh, 14, none⟩ = false := tfree hH.t 14 (by decide)
                        have g15 : X.cell? ⟨nh, 15, none⟩ = some (.int .u32 k2y) := rcell' hH.r rfl
                        have fg15 : X.frozen? ⟨nh, 15, none⟩ = false := tfree hH.t 15 (by decide)
                        have g16 : X.cell? ⟨nh, 16, none⟩ = some (.int .u16 k3y) := rcell' hH.r rfl
                        have fg16 : X.frozen? ⟨nh, 16, none⟩ = false := tfree hH.t 16 (by decide)
                        have g17 : X.cell? ⟨nh, 17, none⟩ = some (.int .u16 k4y) := rcell' hH.r rfl
                        have fg17 : X.frozen? ⟨nh, 17, none⟩ = false := tfree hH.t 17 (by decide)
                        have g18 : X.cell? ⟨nh, 18, none⟩ = some (.int .u8 kvy) := rcell' hH.r rfl
                        have fg18 : X.frozen? ⟨nh, 18, none⟩ = false := tfree hH.t 18 (by decide)
                        have ly := hZ.lt
                        have lg := hH.lt
                        obtain ⟨bd0, bd1⟩ := hH.f.hk4
                        have n3 : IntKind.u16.wrap (k4y + 1) = (k4y + 1) % 65536 := rfl
                        have hbw : 0 ≤ IntKind.u16.wrap (k4y + 1) ∧ IntKind.u16.wrap (k4y + 1) ≤ 65535 := by rw [n3]; omega
                        clear n3
                        have hZ1 : Yl (X.setCell ⟨nh, 17, none⟩ (.int .u16 (IntKind.u16.wrap (k4y + 1)))) nz py sy dy spy dpy qy := (hZ.other (b' := nh) (j := 17) (v := .int .u16 (IntKind.u16.wrap (k4y + 1))) hzh)
                        have hH1 : Gl (X.setCell ⟨nh, 17, none⟩ (.int .u16 (IntKind.u16.wrap (k4y + 1)))) nh dsty kindy tyy k0y k1y k2y k3y (IntKind.u16.wrap (k4y + 1)) kvy := (hH.set17 (IntKind.u16.wrap (k4y + 1)) hbw)
                        have hS1 := hS.below (W' := (X.setCell ⟨nh, 17, none⟩ (.int .u16 (IntKind.u16.wrap (k4y + 1))))) (by (repeat' (first | with_reducible exact dX | refine Below.setCell ?_ (by first | omega | (simp; done) | (simp; omega)) _)))
                        go_wp2_with (refine wpList_load_wide 29 _ rfl (by rfl) _ _ rfl (gF dsty kindy tyy k0y k1y k2y k3y (IntKind.u16.wrap (k4y + 1)) kvy 151587081) _ Tryd.underlying29 rfl (hi_gF _ _ _ _ _ _ _ _ _ _) hH1.r ?_)
                        refine (tells_any (gF dsty kindy tyy k0y k1y k2y k3y (IntKind.u16.wrap (k4y + 1)) kvy 151587081) py sy dy spy dpy qy dsty kindy tyy k0y k1y k2y k3y (IntKind.u16.wrap (k4y + 1)) kvy (j : Int) 3 _ (hH1.f.fa _) (HT.out.below (bthen d1 hS1.b)) hZ1.hp hZ1.hq hj0 (by decide)).mono ?_
                        rintro e w9 ⟨rfl, hb9⟩
                        have hS9 := hS1.below hb9
                        clear y0 fy0 y1 fy1 y2 fy2 y3 fy3 y4 fy4 y5 fy5 g2 fg2 g5 fg5 g7 fg7 g13 fg13 g14 fg14 g15 fg15 g16 fg16 g17 fg17 g18 fg18 ly lg
                        clear hZ hH hZ1 hH1 hS1 hb9 dX
                        go_wp2_with fail
                        go_roundw
                        case rel => exact ⟨4, by omega, (by first | rfl | go_num | simp), ⟨_, _, _, _, _, _, _, _, _, _, _, _, _, _, _, hS9⟩⟩
                        case measure => simp [intOf, hce]
                      · have hci : (c : Int) = 4 := by omega
                        rw [hci]
                        clear hci
                        have y0 : X.cell? ⟨nz, 0, none⟩ = some (.int .u8 py) := rcell' hZ.r rfl
                        have fy0 : X.frozen? ⟨nz, 0, none⟩ = false := tfree hZ.t 0 (by decide)
                        have y1 : X.cell? ⟨nz, 1, none⟩ = some (.int .u32 sy) := rcell' hZ.r rfl
                        have fy1 : X.frozen? ⟨nz, 1, none⟩ = false := tfree hZ.t 1 (by decide)
                        have y2 : X.cell? ⟨nz, 2, none⟩ = some (.int .u32 dy) := rcell' hZ.r rfl
                        have fy2 : X.frozen? ⟨nz, 2, none⟩ = false := tfree hZ.t 2 (by decide)
                        have y3 : X.cell? ⟨nz, 3, none⟩ = some (.int .u16 spy) := rcell' hZ.r rfl
                        have fy3 : X.frozen? ⟨nz, 3, none⟩ = false := tfree hZ.t 3 (by decide)
                        have y4 : X.cell? ⟨nz, 4, none⟩ = some (.int .u16 dpy) := rcell' hZ.r rfl
                        have fy4 : X.frozen? ⟨nz, 4, none⟩ = false := tfree hZ.t 4 (by decide)
                        have y5 : X.cell? ⟨nz, 5, none⟩ = some (.int .u8 qy) := rcell' hZ.r rfl
                        have fy5 : X.frozen? ⟨nz, 5, none⟩ = false := tfree hZ.t 5 (by decide)
                        have g2 : X.cell? ⟨nh, 2, none⟩ = some (.int .u32 dsty) := rcell' hH.r rfl
                        have fg2 : X.frozen? ⟨nh, 2, none⟩ = false := tfree hH.t 2 (by decide)
                        have g5 : X.cell? ⟨nh, 5, none⟩ = some (.int .u8 kindy) := rcell' hH.r rfl
                        have fg5 : X.frozen? ⟨nh, 5, none⟩ = false := tfree hH.t 5 (by decide)
                        have g7 : X.cell? ⟨nh, 7, none⟩ = some (.int .u8 tyy) := rcell' hH.r rfl
                        have fg7 : X.frozen? ⟨nh, 7, none⟩ = false := tfree hH.t 7 (by decide)
                        have g13 : X.cell? ⟨nh, 13, none⟩ = some (.int .u8 k0y) := rcell' hH.r rfl
                        have fg13 : X.frozen? ⟨nh, 13, none⟩ = false := tfree hH.t 13 (by decide)
                        have g14 : X.cell? ⟨nh, 14, none⟩ = some (.int .u32 k1y) := rcell' hH.r rfl
                        have fg14 : X.frozen? ⟨nh, 14, none⟩ = false := tfree hH.t 14 (by decide)
                        have g15 : X.cell? ⟨nh, 15, none⟩ = some (.int .u32 k2y) := rcell' hH.r rfl
                        have fg15 : X.frozen? ⟨nh, 15, none⟩ = false := tfree hH.t 15 (by decide)
                        have g16 : X.cell? ⟨nh, 16, none⟩ = some (.int .u16 k3y) := rcell' hH.r rfl
                        have fg16 : X.frozen? ⟨nh, 16, none⟩ = false := tfree hH.t 16 (by decide)
                        have g17 : X.cell? ⟨nh, 17, none⟩ = some (.int .u16 k4y) := rcell' hH.r rfl
                        have fg17 : X.frozen? ⟨nh, 17, none⟩ = false := tfree hH.t 17 (by decide)
                        have g18 : X.cell? ⟨nh, 18, none⟩ = some (.int .u8 kvy) := rcell' hH.r rfl
                        have fg18 : X.frozen? ⟨nh, 18, none⟩ = false := tfree hH.t 18 (by decide)
                        have ly := hZ.lt
                        have lg := hH.lt
                        have hZ1 : Yl (X.setCell ⟨nz, 3, none⟩ (.int .u16 (IntKind.u16.wrap (spy - 1)))) nz py sy dy (IntKind.u16.wrap (spy - 1)) dpy qy := (hZ.set3 (IntKind.u16.wrap (spy - 1)))
                        have hH1 : Gl (X.setCell ⟨nz, 3, none⟩ (.int .u16 (IntKind.u16.wrap (spy - 1)))) nh dsty kindy tyy k0y k1y k2y k3y k4y kvy := (hH.other (b' := nz) (j := 3) (v := .int .u16 (IntKind.u16.wrap (spy - 1))) hhz)
                        have hS1 := hS.below (W' := (X.setCell ⟨nz, 3, none⟩ (.int .u16 (IntKind.u16.wrap (spy - 1))))) (by (repeat' (first | with_reducible exact dX | refine Below.setCell ?_ (by first | omega | (simp; done) | (simp; omega)) _)))
                        go_wp2_with (refine wpList_load_wide 29 _ rfl (by rfl) _ _ rfl (gF dsty kindy tyy k0y k1y k2y k3y k4y kvy 151587081) _ Tryd.underlying29 rfl (hi_gF _ _ _ _ _ _ _ _ _ _) hH1.r ?_)
                        refine (tells_any (gF dsty kindy tyy k0y k1y k2y k3y k4y kvy 151587081) py sy dy (IntKind.u16.wrap (spy - 1)) dpy qy dsty kindy tyy k0y k1y k2y k3y k4y kvy (j : Int) 4 _ (hH1.f.fa _) (HT.out.below (bthen d1 hS1.b)) hZ1.hp hZ1.hq hj0 (by decide)).mono ?_
                        rintro e w9 ⟨rfl, hb9⟩
                        have hS9 := hS1.below hb9
                        clear y0 fy0 y1 fy1 y2 fy2 y3 fy3 y4 fy4 y5 fy5 g2 fg2 g5 fg5 g7 fg7 g13 fg13 g14 fg14 g15 fg15 g16 fg16 g17 fg17 g18 fg18 ly lg
                        clear hZ hH hZ1 hH1 hS1 hb9 dX
                        go_wp2_with fail
                        go_roundw
                        case rel => exact ⟨5, by omega, (by first | rfl | go_num | simp), ⟨_, _, _, _, _, _, _, _, _, _, _, _, _, _, _, hS9⟩⟩
                        case measure => simp [intOf, hce]
                      · have hci : (c : Int) = 5 := by omega
                        rw [hci]
                        clear hci
                        have y0 : X.cell? ⟨nz, 0, none⟩ = some (.int .u8 py) := rcell' hZ.r rfl
                        have fy0 : X.frozen? ⟨nz, 0, none⟩ = false := tfree hZ.t 0 (by decide)
                        have y1 : X.cell? ⟨nz, 1, none⟩ = some (.int .u32 sy) := rcell' hZ.r rfl
                        have fy1 : X.frozen? ⟨nz, 1, none⟩ = false := tfree hZ.t 1 (by decide)
                        have y2 : X.cell? ⟨nz, 2, none⟩ = some (.int .u32 dy) := rcell' hZ.r rfl
                        have fy2 : X.frozen? ⟨nz, 2, none⟩ = false := tfree hZ.t 2 (by decide)
                        have y3 : X.cell? ⟨nz, 3, none⟩ = some (.int .u16 spy) := rcell' hZ.r rfl
                        have fy3 : X.frozen? ⟨nz, 3, none⟩ = false := tfree hZ.t 3 (by decide)
                        have y4 : X.cell? ⟨nz, 4, none⟩ = some (.int .u16 dpy) := rcell' hZ.r rfl
                        have fy4 : X.frozen? ⟨nz, 4, none⟩ = false := tfree hZ.t 4 (by decide)
                        have y5 : X.cell? ⟨nz, 5, none⟩ = some (.int .u8 qy) := rcell' hZ.r rfl
                        have fy5 : X.frozen? ⟨nz, 5, none⟩ = false := tfree hZ.t 5 (by decide)
                        have g2 : X.cell? ⟨nh, 2, none⟩ = some (.int .u32 dsty) := rcell' hH.r rfl
                        have fg2 : X.frozen? ⟨nh, 2, none⟩ = false := tfree hH.t 2 (by decide)
                        have g5 : X.cell? ⟨nh, 5, none⟩ = some (.int .u8 kindy) := rcell' hH.r rfl
                        have fg5 : X.frozen? ⟨nh, 5, none⟩ = false := tfree hH.t 5 (by decide)
                        have g7 : X.cell? ⟨nh, 7, none⟩ = some (.int .u8 tyy) := rcell' hH.r rfl
                        have fg7 : X.frozen? ⟨nh, 7, none⟩ = false := tfree hH.t 7 (by decide)
                        have g13 : X.cell? ⟨nh, 13, none⟩ = some (.int .u8 k0y) := rcell' hH.r rfl
                        have fg13 : X.frozen? ⟨nh, 13, none⟩ = false := tfree hH.t 13 (by decide)
                        have g14 : X.cell? ⟨nh, 14, none⟩ = some (.int .u32 k1y) := rcell' hH.r rfl
                        have fg14 : X.frozen? ⟨nh, 14, none⟩ = false := tfree hH.t 14 (by decide)
                        have g15 : X.cell? ⟨nh, 15, none⟩ = some (.int .u32 k2y) := rcell' hH.r rfl
                        have fg15 : X.frozen? ⟨nh, 15, none⟩ = false := tfree hH.t 15 (by decide)
                        have g16 : X.cell? ⟨nh, 16, none⟩ = some (.int .u16 k3y) := rcell' hH.r rfl
                        have fg16 : X.frozen? ⟨nh, 16, none⟩ = false := tfree hH.t 16 (by decide)
                        have g17 : X.cell? ⟨nh, 17, none⟩ = some (.int .u16 k4y) := rcell' hH.r rfl
                        have fg17 : X.frozen? ⟨nh, 17, none⟩ = false := tfree hH.t 17 (by decide)
                        have g18 : X.cell? ⟨nh, 18, none⟩ = some (.int .u8 kvy) := rcell' hH.r rfl
                        have fg18 : X.frozen? ⟨nh, 18, none⟩ = false := tfree hH.t 18 (by decide)
                        have ly := hZ.lt
                        have lg := hH.lt
                        have hZ1 : Yl (X.setCell ⟨nz, 2, none⟩ (.int .u32 (sy))) nz py sy (sy) spy dpy qy := (hZ.set2 (sy))
                        have hH1 : Gl (X.setCell ⟨nz, 2, none⟩ (.int .u32 (sy))) nh dsty kindy tyy k0y k1y k2y k3y k4y kvy := (hH.other (b' := nz) (j := 2) (v := .int .u32 (sy)) hhz)
                        have hS1 := hS.below (W' := (X.setCell ⟨nz, 2, none⟩ (.int .u32 (sy)))) (by (repeat' (first | with_reducible exact dX | refine Below.setCell ?_ (by first | omega | (simp; done) | (simp; omega)) _)))
                        go_wp2_with (refine wpList_load_wide 29 _ rfl (by rfl) _ _ rfl (gF dsty kindy tyy k0y k1y k2y k3y k4y kvy 151587081) _ Tryd.underlying29 rfl (hi_gF _ _ _ _ _ _ _ _ _ _) hH1.r ?_)
                        refine (tells_any (gF dsty kindy tyy k0y k1y k2y k3y k4y kvy 151587081) py sy (sy) spy dpy qy dsty kindy tyy k0y k1y k2y k3y k4y kvy (j : Int) 5 _ (hH1.f.fa _) (HT.out.below (bthen d1 hS1.b)) hZ1.hp hZ1.hq hj0 (by decide)).mono ?_
                        rintro e w9 ⟨rfl, hb9⟩
                        have hS9 := hS1.below hb9
                        clear y0 fy0 y1 fy1 y2 fy2 y3 fy3 y4 fy4 y5 fy5 g2 fg2 g5 fg5 g7 fg7 g13 fg13 g14 fg14 g15 fg15 g16 fg16 g17 fg17 g18 fg18 ly lg
                        clear hZ hH hZ1 hH1 hS1 hb9 dX
                        go_wp2_with fail
                        go_roundw
                        case rel => exact ⟨6, by omega, (by first | rfl | go_num | simp), ⟨_, _, _, _, _, _, _, _, _, _, _, _, _, _, _, hS9⟩⟩
                        case measure => simp [intOf, hce]
                      · have hci : (c : Int) = 6 := by omega
                        rw [hci]
                        clear hci
                        have y0 : X.cell? ⟨nz, 0, none⟩ = some (.int .u8 py) := rcell' hZ.r rfl
                        have fy0 : X.frozen? ⟨nz, 0, none⟩ = false := tfree hZ.t 0 (by decide)
                        have y1 : X.cell? ⟨nz, 1, none⟩ = some (.int .u32 sy) := rcell' hZ.r rfl
                        have fy1 : X.frozen? ⟨nz, 1, none⟩ = false := tfree hZ.t 1 (by decide)
                        have y2 : X.cell? ⟨nz, 2, none⟩ = some (.int .u32 dy) := rcell' hZ.r rfl
                        have fy2 : X.frozen? ⟨nz, 2, none⟩ = false := tfree hZ.t 2 (by decide)
                        have y3 : X.cell? ⟨nz, 3, none⟩ = some (.int .u16 spy) := rcell' hZ.r rfl
                        have fy3 : X.frozen? ⟨nz, 3, none⟩ = false := tfree hZ.t 3 (by decide)
                        have y4 : X.cell? ⟨nz, 4, none⟩ = some (.int .u16 dpy) := rcell' hZ.r rfl
                        have fy4 : X.frozen? ⟨nz, 4, none⟩ = false := tfree hZ.t 4 (by decide)
                        have y5 : X.cell? ⟨nz, 5, none⟩ = some (.int .u8 qy) := rcell' hZ.r rfl
                        have fy5 : X.frozen? ⟨nz, 5, none⟩ = false := tfree hZ.t 5 (by decide)
                        have g2 : X.cell? ⟨nh, 2, none⟩ = some (.int .u32 dsty) := rcell' hH.r rfl
                        have fg2 : X.frozen? ⟨nh, 2, none⟩ = false := tfree hH.t 2 (by decide)
                        have g5 : X.cell? ⟨nh, 5, none⟩ = some (.int .u8 kindy) := rcell' hH.r rfl
                        have fg5 : X.frozen? ⟨nh, 5, none⟩ = false := tfree hH.t 5 (by decide)
                        have g7 : X.cell? ⟨nh, 7, none⟩ = some (.int .u8 tyy) := rcell' hH.r rfl
                        have fg7 : X.frozen? ⟨nh, 7, none⟩ = false := tfree hH.t 7 (by decide)
                        have g13 : X.cell? ⟨nh, 13, none⟩ = some (.int .u8 k0y) := rcell' hH.r rfl
                        have fg13 : X.frozen? ⟨nh, 13, none⟩ = false := tfree hH.t 13 (by decide)
                        have g14 : X.cell? ⟨nh, 14, none⟩ = some (.int .u32 k1y) := rcell' hH.r rfl
                        have fg14 : X.frozen? ⟨nh, 14, none⟩ = false := tfree hH.t 14 (by decide)
                        have g15 : X.cell? ⟨nh, 15, none⟩ = some (.int .u32 k2y) := rcell' hH.r rfl
                        have fg15 : X.frozen? ⟨nh, 15, none⟩ = false := tfree hH.t 15 (by decide)
                        have g16 : X.cell? ⟨nh, 16, none⟩ = some (.int .u16 k3y) := rcell' hH.r rfl
                        have fg16 : X.frozen? ⟨nh, 16, none⟩ = false := tfree hH.t 16 (by decide)
                        have g17 : X.cell? ⟨nh, 17, none⟩ = some (.int .u16 k4y) := rcell' hH.r rfl
                        have fg17 : X.frozen? ⟨nh, 17, none⟩ = false := tfree hH.t 17 (by decide)
                        have g18 : X.cell? ⟨nh, 18, none⟩ = some (.int .u8 kvy) := rcell' hH.r rfl
                        have fg18 : X.frozen? ⟨nh, 18, none⟩ = false := tfree hH.t 18 (by decide)
                        have ly := hZ.lt
                        have lg := hH.lt
                        have hZ1 : Yl (((((((((((X.setCell ⟨nz, 0, none⟩ (.int .u8 (pr))).setCell ⟨nz, 1, none⟩ (.int .u32 (5))).setCell ⟨nz, 2, none⟩ (.int .u32 (5))).setCell ⟨nz, 3, none⟩ (.int .u16 (7))).setCell ⟨nz, 4, none⟩ (.int .u16 (7))).setCell ⟨nh, 13, none⟩ (.int .u8 (pr))).setCell ⟨nh, 14, none⟩ (.int .u32 (5))).setCell ⟨nh, 15, none⟩ (.int .u32 (5))).setCell ⟨nh, 16, none⟩ (.int .u16 (7))).setCell ⟨nh, 17, none⟩ (.int .u16 (7))).setCell ⟨nh, 2, none⟩ (.int .u32 (5))) nz (pr) (5) (5) (7) (7) qy := (((((((((((hZ.set0 (pr) hpr0).set1 (5)).set2 (5)).set3 (7)).set4 (7)).other (b' := nh) (j := 13) (v := .int .u8 (pr)) hzh).other (b' := nh) (j := 14) (v := .int .u32 (5)) hzh).other (b' := nh) (j := 15) (v := .int .u32 (5)) hzh).other (b' := nh) (j := 16) (v := .int .u16 (7)) hzh).other (b' := nh) (j := 17) (v := .int .u16 (7)) hzh).other (b' := nh) (j := 2) (v := .int .u32 (5)) hzh)
                        have hH1 : Gl (((((((((((X.setCell ⟨nz, 0, none⟩ (.int .u8 (pr))).setCell ⟨nz, 1, none⟩ (.int .u32 (5))).setCell ⟨nz, 2, none⟩ (.int .u32 (5))).setCell ⟨nz, 3, none⟩ (.int .u16 (7))).setCell ⟨nz, 4, none⟩ (.int .u16 (7))).setCell ⟨nh, 13, none⟩ (.int .u8 (pr))).setCell ⟨nh, 14, none⟩ (.int .u32 (5))).setCell ⟨nh, 15, none⟩ (.int .u32 (5))).setCell ⟨nh, 16, none⟩ (.int .u16 (7))).setCell ⟨nh, 17, none⟩ (.int .u16 (7))).setCell ⟨nh, 2, none⟩ (.int .u32 (5))) nh (5) kindy tyy (pr) (5) (5) (7) (7) kvy := (((((((((((hH.other (b' := nz) (j := 0) (v := .int .u8 (pr)) hhz).other (b' := nz) (j := 1) (v := .int .u32 (5)) hhz).other (b' := nz) (j := 2) (v := .int .u32 (5)) hhz).other (b' := nz) (j := 3) (v := .int .u16 (7)) hhz).other (b' := nz) (j := 4) (v := .int .u16 (7)) hhz).set13 (pr) hpr0).set14 (5) (by decide)).set15 (5) (by decide)).set16 (7) (by decide)).set17 (7) (by decide)).set2 (5) (by decide))
                        have hS1 := hS.below (W' := (((((((((((X.setCell ⟨nz, 0, none⟩ (.int .u8 (pr))).setCell ⟨nz, 1, none⟩ (.int .u32 (5))).setCell ⟨nz, 2, none⟩ (.int .u32 (5))).setCell ⟨nz, 3, none⟩ (.int .u16 (7))).setCell ⟨nz, 4, none⟩ (.int .u16 (7))).setCell ⟨nh, 13, none⟩ (.int .u8 (pr))).setCell ⟨nh, 14, none⟩ (.int .u32 (5))).setCell ⟨nh, 15, none⟩ (.int .u32 (5))).setCell ⟨nh, 16, none⟩ (.int .u16 (7))).setCell ⟨nh, 17, none⟩ (.int .u16 (7))).setCell ⟨nh, 2, none⟩ (.int .u32 (5)))) (by (repeat' (first | with_reducible exact dX | refine Below.setCell ?_ (by first | omega | (simp; done) | (simp; omega)) _)))
                        go_upto_region 50 with fail
                        clear y0 fy0 y1 fy1 y2 fy2 y3 fy3 y4 fy4 y5 fy5 g2 fg2 g5 fg5 g7 fg7 g13 fg13 g14 fg14 g15 fg15 g16 fg16 g17 fg17 g18 fg18 ly lg
                        generalize (((((((((((X.setCell ⟨nz, 0, none⟩ (.int .u8 (pr))).setCell ⟨nz, 1, none⟩ (.int .u32 (5))).setCell ⟨nz, 2, none⟩ (.int .u32 (5))).setCell ⟨nz, 3, none⟩ (.int .u16 (7))).setCell ⟨nz, 4, none⟩ (.int .u16 (7))).setCell ⟨nh, 13, none⟩ (.int .u8 (pr))).setCell ⟨nh, 14, none⟩ (.int .u32 (5))).setCell ⟨nh, 15, none⟩ (.int .u32 (5))).setCell ⟨nh, 16, none⟩ (.int .u16 (7))).setCell ⟨nh, 17, none⟩ (.int .u16 (7))).setCell ⟨nh, 2, none⟩ (.int .u32 (5))) = X7 at hZ1 hH1 hS1 ⊢
                        have y0 : X7.cell? ⟨nz, 0, none⟩ = some (.int .u8 (pr)) := rcell' hZ1.r rfl
                        have y1 : X7.cell? ⟨nz, 1, none⟩ = some (.int .u32 (5)) := rcell' hZ1.r rfl
                        have y2 : X7.cell? ⟨nz, 2, none⟩ = some (.int .u32 (5)) := rcell' hZ1.r rfl
                        have y3 : X7.cell? ⟨nz, 3, none⟩ = some (.int .u16 (7)) := rcell' hZ1.r rfl
                        have y4 : X7.cell? ⟨nz, 4, none⟩ = some (.int .u16 (7)) := rcell' hZ1.r rfl
                        have y5 : X7.cell? ⟨nz, 5, none⟩ = some (.int .u8 qy) := rcell' hZ1.r rfl
                        have g2 : X7.cell? ⟨nh, 2, none⟩ = some (.int .u32 (5)) := rcell' hH1.r rfl
                        have g5 : X7.cell? ⟨nh, 5, none⟩ = some (.int .u8 kindy) := rcell' hH1.r rfl
                        have g7 : X7.cell? ⟨nh, 7, none⟩ = some (.int .u8 tyy) := rcell' hH1.r rfl
                        have g13 : X7.cell? ⟨nh, 13, none⟩ = some (.int .u8 (pr)) := rcell' hH1.r rfl
                        have g14 : X7.cell? ⟨nh, 14, none⟩ = some (.int .u32 (5)) := rcell' hH1.r rfl
                        have g15 : X7.cell? ⟨nh, 15, none⟩ = some (.int .u32 (5)) := rcell' hH1.r rfl
                        have g16 : X7.cell? ⟨nh, 16, none⟩ = some (.int .u16 (7)) := rcell' hH1.r rfl
                        have g17 : X7.cell? ⟨nh, 17, none⟩ = some (.int .u16 (7)) := rcell' hH1.r rfl
                        have g18 : X7.cell? ⟨nh, 18, none⟩ = some (.int .u8 kvy) := rcell' hH1.r rfl
                        have ly := hZ1.lt
                        have lg := hH1.lt
                        go_wp2_with (refine wpList_load_wide 29 _ rfl (by rfl) _ _ rfl (gF (5) kindy tyy (pr) (5) (5) (7) (7) kvy 151587081) _ Tryd.underlying29 rfl (hi_gF _ _ _ _ _ _ _ _ _ _) hH1.r ?_)
                        refine (tells_any (gF (5) kindy tyy (pr) (5) (5) (7) (7) kvy 151587081) (pr) (5) (5) (7) (7) qy (5) kindy tyy (pr) (5) (5) (7) (7) kvy (j : Int) 6 _ (hH1.f.fa _) (HT.out.below (bthen d1 hS1.b)) hZ1.hp hZ1.hq hj0 (by decide)).mono ?_
                        rintro e w9 ⟨rfl, hb9⟩
                        have hS9 := hS1.below hb9
                        clear hZ hH hZ1 hH1 hS1 hb9 dX
                        go_wp2_with fail
                        go_roundw
                        case rel => exact ⟨7, by omega, (by first | rfl | go_num | simp), ⟨_, _, _, _, _, _, _, _, _, _, _, _, _, _, _, hS9⟩⟩
                        case measure => simp [intOf, hce]
                      · have hci : (c : Int) = 7 := by omega
                        rw [hci]
                        clear hci
                        have y0 : X.cell? ⟨nz, 0, none⟩ = some (.int .u8 py) := rcell' hZ.r rfl
                        have fy0 : X.frozen? ⟨nz, 0, none⟩ = false := tfree hZ.t 0 (by decide)
                        have y1 : X.cell? ⟨nz, 1, none⟩ = some (.int .u32 sy) := rcell' hZ.r rfl
                        have fy1 : X.frozen? ⟨nz, 1, none⟩ = false := tfree hZ.t 1 (by decide)
                        have y2 : X.cell? ⟨nz, 2, none⟩ = some (.int .u32 dy) := rcell' hZ.r rfl
                        have fy2 : X.frozen? ⟨nz, 2, none⟩ = false := tfree hZ.t 2 (by decide)
                        have y3 : X.cell? ⟨nz, 3, none⟩ = some (.int .u16 spy) := rcell' hZ.r rfl
                        have fy3 : X.frozen? ⟨nz, 3, none⟩ = false := tfree hZ.t 3 (by decide)
                        have y4 : X.cell? ⟨nz, 4, none⟩ = some (.int .u16 dpy) := rcell' hZ.r rfl
                        have fy4 : X.frozen? ⟨nz, 4, none⟩ = false := tfree hZ.t 4 (by decide)
                        have y5 : X.cell? ⟨nz, 5, none⟩ = some (.int .u8 qy) := rcell' hZ.r rfl
                        have fy5 : X.frozen? ⟨nz, 5, none⟩ = false := tfree hZ.t 5 (by decide)
                        have g2 : X.cell? ⟨nh, 2, none⟩ = some (.int .u32 dsty) := rcell' hH.r rfl
                        have fg2 : X.frozen? ⟨nh, 2, none⟩ = false := tfree hH.t 2 (by decide)
                        have g5 : X.cell? ⟨nh, 5, none⟩ = some (.int .u8 kindy) := rcell' hH.r rfl
                        have fg5 : X.frozen? ⟨nh, 5, none⟩ = false := tfree hH.t 5 (by decide)
                        have g7 : X.cell? ⟨nh, 7, none⟩ = some (.int .u8 tyy) := rcell' hH.r rfl
                        have fg7 : X.frozen? ⟨nh, 7, none⟩ = false := tfree hH.t 7 (by decide)
                        have g13 : X.cell? ⟨nh, 13, none⟩ = some (.int .u8 k0y) := rcell' hH.r rfl
                        have fg13 : X.frozen? ⟨nh, 13, none⟩ = false := tfree hH.t 13 (by decide)
                        have g14 : X.cell? ⟨nh, 14, none⟩ = some (.int .u32 k1y) := rcell' hH.r rfl
                        have fg14 : X.frozen? ⟨nh, 14, none⟩ = false := tfree hH.t 14 (by decide)
                        have g15 : X.cell? ⟨nh, 15, none⟩ = some (.int .u32 k2y) := rcell' hH.r rfl
                        have fg15 : X.frozen? ⟨nh, 15, none⟩ = false := tfree hH.t 15 (by decide)
                        have g16 : X.cell? ⟨nh, 16, none⟩ = some (.int .u16 k3y) := rcell' hH.r rfl
                        have fg16 : X.frozen? ⟨nh, 16, none⟩ = false := tfree hH.t 16 (by decide)
                        have g17 : X.cell? ⟨nh, 17, none⟩ = some (.int .u16 k4y) := rcell' hH.r rfl
                        have fg17 : X.frozen? ⟨nh, 17, none⟩ = false := tfree hH.t 17 (by decide)
                        have g18 : X.cell? ⟨nh, 18, none⟩ = some (.int .u8 kvy) := rcell' hH.r rfl
                        have fg18 : X.frozen? ⟨nh, 18, none⟩ = false := tfree hH.t 18 (by decide)
                        have ly := hZ.lt
                        have lg := hH.lt
                        have hZ1 : Yl ((X.setCell ⟨nh, 13, none⟩ (.int .u8 (0))).setCell ⟨nz, 0, none⟩ (.int .u8 (0))) nz (0) sy dy spy dpy qy := ((hZ.other (b' := nh) (j := 13) (v := .int .u8 (0)) hzh).set0 (0) (by decide))
                        have hH1 : Gl ((X.setCell ⟨nh, 13, none⟩ (.int .u8 (0))).setCell ⟨nz, 0, none⟩ (.int .u8 (0))) nh dsty kindy tyy (0) k1y k2y k3y k4y kvy := ((hH.set13 (0) (by decide)).other (b' := nz) (j := 0) (v := .int .u8 (0)) hhz)
                        have hS1 := hS.below (W' := ((X.setCell ⟨nh, 13, none⟩ (.int .u8 (0))).setCell ⟨nz, 0, none⟩ (.int .u8 (0)))) (by (repeat' (first | with_reducible exact dX | refine Below.setCell ?_ (by first | omega | (simp; done) | (simp; omega)) _)))
                        go_wp2_with (refine wpList_load_wide 29 _ rfl (by rfl) _ _ rfl (gF dsty kindy tyy (0) k1y k2y k3y k4y kvy 151587081) _ Tryd.underlying29 rfl (hi_gF _ _ _ _ _ _ _ _ _ _) hH1.r ?_)
                        refine (tells_any (gF dsty kindy tyy (0) k1y k2y k3y k4y kvy 151587081) (0) sy dy spy dpy qy dsty kindy tyy (0) k1y k2y k3y k4y kvy (j : Int) 7 _ (hH1.f.fa _) (HT.out.below (bthen d1 hS1.b)) hZ1.hp hZ1.hq hj0 (by decide)).mono ?_
                        rintro e w9 ⟨rfl, hb9⟩
                        have hS9 := hS1.below hb9
                        clear y0 fy0 y1 fy1 y2 fy2 y3 fy3 y4 fy4 y5 fy5 g2 fg2 g5 fg5 g7 fg7 g13 fg13 g14 fg14 g15 fg15 g16 fg16 g17 fg17 g18 fg18 ly lg
                        clear hZ hH hZ1 hH1 hS1 hb9 dX
                        go_wp2_with fail
                        go_roundw
                        case rel => exact ⟨8, by omega, (by first | rfl | go_num | simp), ⟨_, _, _, _, _, _, _, _, _, _, _, _, _, _, _, hS9⟩⟩
                        case measure => simp [intOf, hce]
                    · obtain rfl : c = 8 := by omega
                      have hcd : decide (((8 : Nat) : Int) < 8) = false := by decide
                      go_wp2_with fail
                      go_roundw
                      case rel => exact ⟨j + 1, by omega, congrArg (Value.int .u8) (by omega : (j : Int) + 1 = ((j + 1 : Nat) : Int)), hS8⟩
                      case measure => simp [intOf]; omega
            · obtain rfl : j = 3 := by omega
              have hjd : decide (((3 : Nat) : Int) < 3) = false := by decide
              obtain ⟨p, s, d, sp, dp, q, dst, kind, ty, k0, k1, k2, k3, k4, kv, hS⟩ := hS8
              go_wp2_with fail
              go_roundw
              case rel => exact ⟨k + 1, l1, by omega, congrArg (Value.int .i64) (by omega : (k : Int) + 1 = ((k + 1 : Nat) : Int)), hm1, hS.fk, hS.b, hS.own⟩
              case measure => simp [intOf]; omega
    · obtain rfl : k = 252 := by omega
      have rf := range_below hb (by omega) HRF.out
      have hkd : decide (((252 : Nat) : Int) < 252) = false := by decide
      clear hown
      generalize wr = V0 at *
      go_wp2_with (refine wpList_load_wide 29 _ rfl (by rfl) _ _ rfl (gF 167772161 5 3 6 167772161 134744072 40000 80 1 151587081) _ Tryd.underlying29 rfl (hi_gF _ _ _ _ _ _ _ _ _ _) rf ?_)
      have hfe : Fa (gF 167772161 5 3 6 167772161 134744072 40000 80 1 151587081) 167772161 5 3 6 167772161 134744072 40000 80 1 := fa_gF 167772161 5 3 6 167772161 134744072 40000 80 1 151587081 (by decide) (by decide) (by decide) (by decide) (by decide) (by decide) (by decide) (by decide) (by decide)
      refine (finds_any (gF 167772161 5 3 6 167772161 134744072 40000 80 1 151587081) [] none 0 167772161 5 3 6 167772161 134744072 40000 80 1 1 _ hfe (HT.out.below (bthen d1 hb)) (by decide) ⟨fun cs h => by simp at h, fun h => absurd rfl h⟩ (Nat.le_refl 0) (fun _ => ⟨rfl, rfl⟩) (fun x hx => by simp at hx)).mono ?_
      rintro e w1 ⟨rfl, hb1⟩
      go_wp2_with fail
      refine (awake_any _ (HT.out.below (bthen (bthen d1 hb) hb1))).mono ?_
      rintro e w2 ⟨rfl, hb2⟩
      go_wp2_with fail
      go_ret
      exact ⟨rfl, bthen (bthen (bthen d1 hb) hb1) hb2⟩

end Go.Proofs.YtapeminpgojeaaaDoor

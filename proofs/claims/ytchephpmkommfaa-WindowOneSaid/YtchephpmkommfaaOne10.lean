/-
  The walk of WindowOne, in parts: One10.
-/
import Derived.Test.YtchephpmkommfaaOne
namespace Go.Proofs.Ytchephpmkommfaa
open Go.RowKit
set_option linter.unusedVariables false
set_option linter.unusedSimpArgs false

structure On1000 (w1 : World) (w : World) (X : Nat) (n k z n' kk win : Int) (D : Nat → Prop) (v8 v9 v35 v36 v37 v38 v39 v40 : Value) (w' : World) : Prop where
  b : Below w1.heap.size w1 w'
  e0 : D 0 → v35 = .int .u8 1
  e1 : D 1 → v36 = .pointer (some ⟨w.heap.size, 5, none⟩)
  e2 : D 2 → v37 = .agg #[.bool false, .bool false, .int .u32 n, .int .u32 k, .int .i64 z]
  e3 : D 3 → v38 = .int .u8 1
  e4 : D 4 → v39 = .pointer (some ⟨X, 5, none⟩)
  e5 : D 5 → v40 = .agg #[.bool true, .bool false, .int .u32 n', .int .u32 k, .int .i64 win]
  m6 : D 6 → Made w1.heap.size 5 v8 w'
  m7 : D 7 → Made w1.heap.size 5 v9 w'
  n6_7 : D 6 → D 7 → v8 ≠ v9
  r8 : D 8 → ∃ b, v8 = .pointer (some ⟨b, 0, none⟩) ∧ b < w'.heap.size ∧ w'.rangeAt b 0 #[.bool false, .bool false, .int .u32 n, .int .u32 k, .int .i64 z].toList
  o8 : D 8 → D 6
theorem On1000.s0 {w1 : World} {w : World} {X : Nat} {n k z n' kk win : Int} {D : Nat → Prop} {v8 v9 v35 v36 v37 v38 v39 v40 : Value} {w' w'' : World} (h : On1000 w1 w X n k z n' kk win D v8 v9 v35 v36 v37 v38 v39 v40 w') (hb : Below w'.heap.size w' w'') : On1000 w1 w X n k z n' kk win (fun j => D j ∨ j = 0) v8 v9 (.int .u8 1) v36 v37 v38 v39 v40 w'' :=
  ⟨bthen h.b hb, fun _ => rfl, or_keep h.e1 (by decide), or_keep h.e2 (by decide), or_keep h.e3 (by decide), or_keep h.e4 (by decide), or_keep h.e5 (by decide), or_keep (fun hd => (h.m6 hd).below hb) (by decide), or_keep (fun hd => (h.m7 hd).below hb) (by decide), or_keep2 h.n6_7 (by decide) (by decide), or_keep (fun hd => by obtain ⟨b, e, hl, hr⟩ := h.r8 hd; exact ⟨b, e, Nat.lt_of_lt_of_le hl hb.size, rangeAt_below hb hl hr⟩) (by decide), fun hd => .inl (h.o8 (hd.resolve_right (by decide)))⟩
theorem On1000.s1 {w1 : World} {w : World} {X : Nat} {n k z n' kk win : Int} {D : Nat → Prop} {v8 v9 v35 v36 v37 v38 v39 v40 : Value} {w' w'' : World} (h : On1000 w1 w X n k z n' kk win D v8 v9 v35 v36 v37 v38 v39 v40 w') (hb : Below w'.heap.size w' w'') : On1000 w1 w X n k z n' kk win (fun j => D j ∨ j = 1) v8 v9 v35 (.pointer (some ⟨w.heap.size, 5, none⟩)) v37 v38 v39 v40 w'' :=
  ⟨bthen h.b hb, or_keep h.e0 (by decide), fun _ => rfl, or_keep h.e2 (by decide), or_keep h.e3 (by decide), or_keep h.e4 (by decide), or_keep h.e5 (by decide), or_keep (fun hd => (h.m6 hd).below hb) (by decide), or_keep (fun hd => (h.m7 hd).below hb) (by decide), or_keep2 h.n6_7 (by decide) (by decide), or_keep (fun hd => by obtain ⟨b, e, hl, hr⟩ := h.r8 hd; exact ⟨b, e, Nat.lt_of_lt_of_le hl hb.size, rangeAt_below hb hl hr⟩) (by decide), fun hd => .inl (h.o8 (hd.resolve_right (by decide)))⟩
theorem On1000.s2 {w1 : World} {w : World} {X : Nat} {n k z n' kk win : Int} {D : Nat → Prop} {v8 v9 v35 v36 v37 v38 v39 v40 : Value} {w' w'' : World} (h : On1000 w1 w X n k z n' kk win D v8 v9 v35 v36 v37 v38 v39 v40 w') (hb : Below w'.heap.size w' w'') : On1000 w1 w X n k z n' kk win (fun j => D j ∨ j = 2) v8 v9 v35 v36 (.agg #[.bool false, .bool false, .int .u32 n, .int .u32 k, .int .i64 z]) v38 v39 v40 w'' :=
  ⟨bthen h.b hb, or_keep h.e0 (by decide), or_keep h.e1 (by decide), fun _ => rfl, or_keep h.e3 (by decide), or_keep h.e4 (by decide), or_keep h.e5 (by decide), or_keep (fun hd => (h.m6 hd).below hb) (by decide), or_keep (fun hd => (h.m7 hd).below hb) (by decide), or_keep2 h.n6_7 (by decide) (by decide), or_keep (fun hd => by obtain ⟨b, e, hl, hr⟩ := h.r8 hd; exact ⟨b, e, Nat.lt_of_lt_of_le hl hb.size, rangeAt_below hb hl hr⟩) (by decide), fun hd => .inl (h.o8 (hd.resolve_right (by decide)))⟩
theorem On1000.s3 {w1 : World} {w : World} {X : Nat} {n k z n' kk win : Int} {D : Nat → Prop} {v8 v9 v35 v36 v37 v38 v39 v40 : Value} {w' w'' : World} (h : On1000 w1 w X n k z n' kk win D v8 v9 v35 v36 v37 v38 v39 v40 w') (hb : Below w'.heap.size w' w'') : On1000 w1 w X n k z n' kk win (fun j => D j ∨ j = 3) v8 v9 v35 v36 v37 (.int .u8 1) v39 v40 w'' :=
  ⟨bthen h.b hb, or_keep h.e0 (by decide), or_keep h.e1 (by decide), or_keep h.e2 (by decide), fun _ => rfl, or_keep h.e4 (by decide), or_keep h.e5 (by decide), or_keep (fun hd => (h.m6 hd).below hb) (by decide), or_keep (fun hd => (h.m7 hd).below hb) (by decide), or_keep2 h.n6_7 (by decide) (by decide), or_keep (fun hd => by obtain ⟨b, e, hl, hr⟩ := h.r8 hd; exact ⟨b, e, Nat.lt_of_lt_of_le hl hb.size, rangeAt_below hb hl hr⟩) (by decide), fun hd => .inl (h.o8 (hd.resolve_right (by decide)))⟩
theorem On1000.s4 {w1 : World} {w : World} {X : Nat} {n k z n' kk win : Int} {D : Nat → Prop} {v8 v9 v35 v36 v37 v38 v39 v40 : Value} {w' w'' : World} (h : On1000 w1 w X n k z n' kk win D v8 v9 v35 v36 v37 v38 v39 v40 w') (hb : Below w'.heap.size w' w'') : On1000 w1 w X n k z n' kk win (fun j => D j ∨ j = 4) v8 v9 v35 v36 v37 v38 (.pointer (some ⟨X, 5, none⟩)) v40 w'' :=
  ⟨bthen h.b hb, or_keep h.e0 (by decide), or_keep h.e1 (by decide), or_keep h.e2 (by decide), or_keep h.e3 (by decide), fun _ => rfl, or_keep h.e5 (by decide), or_keep (fun hd => (h.m6 hd).below hb) (by decide), or_keep (fun hd => (h.m7 hd).below hb) (by decide), or_keep2 h.n6_7 (by decide) (by decide), or_keep (fun hd => by obtain ⟨b, e, hl, hr⟩ := h.r8 hd; exact ⟨b, e, Nat.lt_of_lt_of_le hl hb.size, rangeAt_below hb hl hr⟩) (by decide), fun hd => .inl (h.o8 (hd.resolve_right (by decide)))⟩
theorem On1000.s5 {w1 : World} {w : World} {X : Nat} {n k z n' kk win : Int} {D : Nat → Prop} {v8 v9 v35 v36 v37 v38 v39 v40 : Value} {w' w'' : World} (h : On1000 w1 w X n k z n' kk win D v8 v9 v35 v36 v37 v38 v39 v40 w') (hb : Below w'.heap.size w' w'') : On1000 w1 w X n k z n' kk win (fun j => D j ∨ j = 5) v8 v9 v35 v36 v37 v38 v39 (.agg #[.bool true, .bool false, .int .u32 n', .int .u32 k, .int .i64 win]) w'' :=
  ⟨bthen h.b hb, or_keep h.e0 (by decide), or_keep h.e1 (by decide), or_keep h.e2 (by decide), or_keep h.e3 (by decide), or_keep h.e4 (by decide), fun _ => rfl, or_keep (fun hd => (h.m6 hd).below hb) (by decide), or_keep (fun hd => (h.m7 hd).below hb) (by decide), or_keep2 h.n6_7 (by decide) (by decide), or_keep (fun hd => by obtain ⟨b, e, hl, hr⟩ := h.r8 hd; exact ⟨b, e, Nat.lt_of_lt_of_le hl hb.size, rangeAt_below hb hl hr⟩) (by decide), fun hd => .inl (h.o8 (hd.resolve_right (by decide)))⟩
theorem On1000.s6 {w1 : World} {w : World} {X : Nat} {n k z n' kk win : Int} {D : Nat → Prop} {v8 v9 v35 v36 v37 v38 v39 v40 : Value} {w' w'' : World} (h : On1000 w1 w X n k z n' kk win D v8 v9 v35 v36 v37 v38 v39 v40 w') (hb : Below w'.heap.size w' w'') (hm : Made w1.heap.size 5 (.pointer (some ⟨w'.heap.size, 0, none⟩)) w'') (hn : ¬ D 6) : On1000 w1 w X n k z n' kk win (fun j => D j ∨ j = 6) ((.pointer (some ⟨w'.heap.size, 0, none⟩))) v9 v35 v36 v37 v38 v39 v40 w'' :=
  ⟨bthen h.b hb, or_keep h.e0 (by decide), or_keep h.e1 (by decide), or_keep h.e2 (by decide), or_keep h.e3 (by decide), or_keep h.e4 (by decide), or_keep h.e5 (by decide), fun _ => hm, or_keep (fun hd => (h.m7 hd).below hb) (by decide), fun _ hd => ((h.m7 (hd.resolve_right (by decide))).ne).symm, fun hd => absurd (h.o8 (hd.resolve_right (by decide))) hn, fun _ => .inr rfl⟩
theorem On1000.s7 {w1 : World} {w : World} {X : Nat} {n k z n' kk win : Int} {D : Nat → Prop} {v8 v9 v35 v36 v37 v38 v39 v40 : Value} {w' w'' : World} (h : On1000 w1 w X n k z n' kk win D v8 v9 v35 v36 v37 v38 v39 v40 w') (hb : Below w'.heap.size w' w'') (hm : Made w1.heap.size 5 (.pointer (some ⟨w'.heap.size, 0, none⟩)) w'') : On1000 w1 w X n k z n' kk win (fun j => D j ∨ j = 7) v8 ((.pointer (some ⟨w'.heap.size, 0, none⟩))) v35 v36 v37 v38 v39 v40 w'' :=
  ⟨bthen h.b hb, or_keep h.e0 (by decide), or_keep h.e1 (by decide), or_keep h.e2 (by decide), or_keep h.e3 (by decide), or_keep h.e4 (by decide), or_keep h.e5 (by decide), or_keep (fun hd => (h.m6 hd).below hb) (by decide), fun _ => hm, fun hd _ => (h.m6 (hd.resolve_right (by decide))).ne, or_keep (fun hd => by obtain ⟨b, e, hl, hr⟩ := h.r8 hd; exact ⟨b, e, Nat.lt_of_lt_of_le hl hb.size, rangeAt_below hb hl hr⟩) (by decide), fun hd => .inl (h.o8 (hd.resolve_right (by decide)))⟩
theorem On1000.s8 {w1 : World} {w : World} {X : Nat} {n k z n' kk win : Int} {D : Nat → Prop} {v8 v9 v35 v36 v37 v38 v39 v40 : Value} {w' w'' : World} (h : On1000 w1 w X n k z n' kk win D v8 v9 v35 v36 v37 v38 v39 v40 w') (hm : D 6) (hB : Below w1.heap.size w1 w'') (hth : ∀ b o n, w'.there b o n → w''.there b o n) (hr : ∃ b, v8 = .pointer (some ⟨b, 0, none⟩) ∧ b < w''.heap.size ∧ w''.rangeAt b 0 #[.bool false, .bool false, .int .u32 n, .int .u32 k, .int .i64 z].toList) : On1000 w1 w X n k z n' kk win (fun j => D j ∨ j = 8) v8 v9 v35 v36 v37 v38 v39 v40 w'' :=
  ⟨hB, or_keep h.e0 (by decide), or_keep h.e1 (by decide), or_keep h.e2 (by decide), or_keep h.e3 (by decide), or_keep h.e4 (by decide), or_keep h.e5 (by decide), or_keep (fun hd => by obtain ⟨b, e, hl, ht⟩ := h.m6 hd; exact ⟨b, e, hl, hth _ _ _ ht⟩) (by decide), or_keep (fun hd => by obtain ⟨b, e, hl, ht⟩ := h.m7 hd; exact ⟨b, e, hl, hth _ _ _ ht⟩) (by decide), or_keep2 h.n6_7 (by decide) (by decide), fun _ => hr, fun _ => .inl hm⟩
theorem On1000.zero (w1 : World) (w : World) (X : Nat) (n k z n' kk win : Int) (v8 v9 v35 v36 v37 v38 v39 v40 : Value) : On1000 w1 w X n k z n' kk win (fun _ => False) v8 v9 v35 v36 v37 v38 v39 v40 w1.drew :=
  ⟨(Below.refl _ _).drew, fun h => h.elim, fun h => h.elim, fun h => h.elim, fun h => h.elim, fun h => h.elim, fun h => h.elim, fun h => h.elim, fun h => h.elim, fun h => h.elim, fun h => h.elim, fun h => h.elim⟩

set_option maxRecDepth 100000 in
set_option maxHeartbeats 4000000 in
theorem one_1000 (ps pa : Bool) (n k z pn pk pz n' kk : Int) (F : Array Value) (flags seq ack win len : Int) (T T' : Array Value) (w : World) (HT : Hid (trk ⟨ps, pa, pn, pk, pz⟩ ⟨false, false, n, k, z⟩ = T)) (HT' : Hid (trk ⟨ps, pa, pn, pk, pz⟩ ⟨true, false, n', k, win⟩ = T')) (HF : Hid (Fa F flags seq ack win len)) (HS : Hid (∀ W, Calls Try.prog 14 #[.agg T, .int .u8 1, .agg F] W fun e w' => e = .returned (.agg T') ∧ Below W.heap.size W w'))
    (hfb : (bits .and .u8 flags 16 != 0) = false) (hn : 0 ≤ n ∧ n ≤ 4294967295) (hn' : 0 ≤ n' ∧ n' ≤ 4294967295) (hk : 0 ≤ k ∧ k ≤ 4294967295) (hkk : 0 ≤ kk ∧ kk ≤ 4294967295) :
    Calls Try.prog 10 #[.agg T, .int .u8 1, .agg F] w fun e w' => e = .returned (.bool true) ∧ Below w.heap.size w w' := by
  have HI : Hid ((Try.prog.info? 29).map (·.size) = some T.toList.length) := by rw [← HT.out]; exact info29
  have HI' : Hid ((Try.prog.info? 29).map (·.size) = some T'.size) := by rw [← HT'.out]; exact info29
  have HO' : Hid (T'.all (·.oneCell') = true) := by rw [← HT'.out]; exact trk_one _ _
  have HZ' : Hid (T'.size = 10) := by rw [← HT'.out]; rfl
  have HI2 : Hid ((Try.prog.info? 29).map (·.size) = some T'.toList.length) := by rw [← HT'.out]; exact info29
  have HJ := Lib.hid HF.out.hi
  go_enter Try.func10, Try.ntmps10
  go_wp2_with fail
  refine (awake_any _).mono ?_
  rintro e w1 ⟨rfl, hb⟩
  have RT1 : w1.rangeAt w.heap.size 0 T.toList := range_below hb (by simp; omega) (World.rangeAt_alloc (range_new w T 29) _)
  have RF1 : w1.rangeAt (w.heap.size + 1) 0 F.toList := range_below hb (by simp) (range_new' _ F 34 _ (by simp))
  have d1 : Below w.heap.size w w1 := bthen (by (repeat' (first | exact Below.refl _ _ | refine Below.setCell ?_ (by first | omega | (simp; done) | (simp; omega)) _ | refine Below.alloc ?_ (by first | omega | (simp; done) | (simp; omega)) _))) hb
  have l1 : w.heap.size + 1 < w1.heap.size := by have := hb.size; simp at this; omega
  clear hb
  go_wp2_with (first | (refine wpList_load_wide 29 (.tmp 3) rfl (by rfl) w.heap.size 0 rfl T _ Try.underlying29 rfl HI.out ?_ ?_; · (repeat (first | with_reducible exact RT1 | refine World.rangeAt_alloc ?_ _))) | (refine wpList_load_wide 34 (.tmp 5) rfl (by rfl) (w.heap.size + 1) 0 rfl F _ Try.underlying34 rfl HJ.out ?_ ?_; · (repeat (first | with_reducible exact RF1 | refine World.rangeAt_alloc ?_ _))))
  refine (HS.out _ : _).mono ?_
  rintro e w2 ⟨rfl, hb⟩
  have d2 := bthen d1 hb
  have RT2 := range_below hb (by omega) RT1
  have RF2 := range_below hb l1 RF1
  have l2 : w.heap.size + 1 < w2.heap.size := Nat.lt_of_lt_of_le l1 hb.size
  have k2 := d2.size
  clear hb RT1 RF1 d1 l1
  go_wp2_with (refine wpList_store_wide 29 (.tmp 7) (.tmp 15) rfl rfl w2.heap.size 0 T' rfl rfl w.heap.size w HI'.out HO'.out (d2.alloc k2 _) k2 (there_new _ _ _ _ _ rfl ?_) ?_; (· (rw [HZ'.out]; rfl)); intro v1 e1 z1 r1 x1 j1 j2; clear j1 j2; have RT3 := x1 _ _ _ (by omega) (World.rangeAt_alloc RT2 _); have RF3 := x1 _ _ _ (by omega) (World.rangeAt_alloc RF2 _); have y1 : w2.heap.size < v1.heap.size := (by rw [z1]; simp); have y2 : w.heap.size ≤ v1.heap.size := e1.size; clear x1 z1)
  have lF : w.heap.size + 1 < v1.heap.size := by omega
  have z0 : w.heap.size < v1.heap.size := cell_lt (trk_at (by rw [HT.out]; exact RT3)).1.c0
  clear RT2 RF2 l2 d2 k2
  obtain ⟨X, hX⟩ : ∃ X, w2.heap.size = X := ⟨_, rfl⟩
  rw [hX] at r1 y1 ⊢
  clear hX
  refine wp_region_steps 9 [[], [0], [1], [], [3], [4], [], [], [6, 2]] (fun D a w' => ∃ v8 v9 v35 v36 v37 v38 v39 v40 : Value, a = ⟨#[.agg T, .int .u8 1, .agg F, .pointer (some ⟨w.heap.size, 0, none⟩), undef, .pointer (some ⟨w.heap.size + 1, 0, none⟩), .bool false, .pointer (some ⟨X, 0, none⟩), v8, v9, .bool true, .bool false, .agg T, .int .u8 1, .agg F, .agg T', .int .u8 1, .bool false, undef, undef, undef, undef, undef, undef, undef, undef, undef, undef, undef, undef, undef, undef, undef, undef, undef, v35, v36, v37, v38, v39, v40, undef, undef, undef, undef, undef, undef, undef, undef, undef, undef, undef, undef, undef, undef, undef, undef, undef, undef, undef, undef, undef, undef, undef, undef, undef, undef, undef, undef, undef, undef, undef, undef, undef, undef, undef, undef, undef, undef, undef, undef, undef, undef, undef, undef, undef, undef, undef, undef, undef, undef, undef, undef, undef, undef, undef, undef, undef, undef, undef, undef, undef, undef, undef, undef, undef, undef, undef, undef, undef], []⟩ ∧ On1000 v1 w X n k z n' kk win D v8 v9 v35 v36 v37 v38 v39 v40 w') (by kernel_rfl) (by kernel_rfl) ⟨undef, undef, undef, undef, undef, undef, undef, undef, rfl, On1000.zero v1 w X n k z n' kk win (undef) (undef) (undef) (undef) (undef) (undef) (undef) (undef)⟩ ?_ ?_
  · simp only [List.take_succ_cons, List.take_zero]
    refine ⟨?_, ?_, ?_, ?_, ?_, ?_, ?_, ?_, ?_, trivial⟩
    · intro D a w' hn_ hp hI
      obtain ⟨v8, v9, v35, v36, v37, v38, v39, v40, rfl, hR⟩ := hI
      clear hn_ hp
      go_wp2_with fail
      exact ⟨_, _, _, _, _, _, _, _, rfl, hR.s0 (Below.refl _ _)⟩
    · intro D a w' hn_ hp hI
      obtain ⟨v8, v9, v35, v36, v37, v38, v39, v40, rfl, hR⟩ := hI
      obtain rfl := hR.e0 hp.1
      clear hn_ hp
      go_wp2_with fail
      exact ⟨_, _, _, _, _, _, _, _, rfl, hR.s1 (Below.refl _ _)⟩
    · intro D a w' hn_ hp hI
      obtain ⟨v8, v9, v35, v36, v37, v38, v39, v40, rfl, hR⟩ := hI
      obtain rfl := hR.e1 hp.1
      obtain ⟨c0, c1, c2, c3, c4⟩ := (trk_at (by rw [HT.out]; exact range_below hR.b z0 RT3)).2
      simp only [Nat.zero_add, Nat.reduceAdd] at c0 c1 c2 c3 c4
      clear hn_ hp
      go_wp2_with fail
      exact ⟨_, _, _, _, _, _, _, _, rfl, hR.s2 (Below.refl _ _)⟩
    · intro D a w' hn_ hp hI
      obtain ⟨v8, v9, v35, v36, v37, v38, v39, v40, rfl, hR⟩ := hI
      clear hn_ hp
      go_wp2_with fail
      exact ⟨_, _, _, _, _, _, _, _, rfl, hR.s3 (Below.refl _ _)⟩
    · intro D a w' hn_ hp hI
      obtain ⟨v8, v9, v35, v36, v37, v38, v39, v40, rfl, hR⟩ := hI
      obtain rfl := hR.e3 hp.1
      clear hn_ hp
      go_wp2_with fail
      exact ⟨_, _, _, _, _, _, _, _, rfl, hR.s4 (Below.refl _ _)⟩
    · intro D a w' hn_ hp hI
      obtain ⟨v8, v9, v35, v36, v37, v38, v39, v40, rfl, hR⟩ := hI
      obtain rfl := hR.e4 hp.1
      obtain ⟨c0, c1, c2, c3, c4⟩ := (trk_at (by rw [HT'.out]; exact range_below hR.b y1 r1)).2
      simp only [Nat.zero_add, Nat.reduceAdd] at c0 c1 c2 c3 c4
      clear hn_ hp
      go_wp2_with fail
      exact ⟨_, _, _, _, _, _, _, _, rfl, hR.s5 (Below.refl _ _)⟩
    · intro D a w' hn_ hp hI
      obtain ⟨v8, v9, v35, v36, v37, v38, v39, v40, rfl, hR⟩ := hI
      clear hp
      go_wp2_with fail
      exact ⟨_, _, _, _, _, _, _, _, rfl, hR.s6 ((Below.refl _ _).alloc (Nat.le_refl _) _) ⟨_, rfl, hR.b.size, there_new _ _ _ _ _ rfl rfl⟩ hn_⟩
    · intro D a w' hn_ hp hI
      obtain ⟨v8, v9, v35, v36, v37, v38, v39, v40, rfl, hR⟩ := hI
      clear hn_ hp
      go_wp2_with fail
      exact ⟨_, _, _, _, _, _, _, _, rfl, hR.s7 ((Below.refl _ _).alloc (Nat.le_refl _) _) ⟨_, rfl, hR.b.size, there_new _ _ _ _ _ rfl rfl⟩⟩
    · intro D a w' hn_ hp hI
      obtain ⟨v8, v9, v35, v36, v37, v38, v39, v40, rfl, hR⟩ := hI
      obtain ⟨b8, rfl, l8, t8⟩ := hR.m6 hp.1
      obtain rfl := hR.e2 hp.2.1
      have hlt8 := there_lt t8
      refine wpList_store_wide 27 (.tmp 8) (.tmp 37) rfl rfl b8 0 #[.bool false, .bool false, .int .u32 n, .int .u32 k, .int .i64 z] rfl rfl v1.heap.size v1 info27 (by simp [Value.oneCell']) hR.b (by omega) t8 ?_
      intro u1 q1 zz r8 x1 y8 j1
      exact ⟨_, _, _, _, _, _, _, _, rfl, hR.s8 hp.1 q1 y8 ⟨b8, rfl, by rw [zz]; exact hlt8, r8⟩⟩
  intro D a w' hD hI
  obtain ⟨v8, v9, v35, v36, v37, v38, v39, v40, rfl, hR⟩ := hI
  obtain rfl := hR.e0 (hD 0 (by decide))
  obtain rfl := hR.e1 (hD 1 (by decide))
  obtain rfl := hR.e2 (hD 2 (by decide))
  obtain rfl := hR.e3 (hD 3 (by decide))
  obtain rfl := hR.e4 (hD 4 (by decide))
  obtain rfl := hR.e5 (hD 5 (by decide))
  obtain ⟨b8, rfl, l8, t8⟩ := hR.m6 (hD 6 (by decide))
  obtain ⟨b8', eb8, _, R8⟩ := hR.r8 (hD 8 (by decide))
  obtain rfl : b8 = b8' := by injection eb8 with eb8; injection eb8 with eb8; injection eb8
  clear eb8
  obtain ⟨b9, rfl, l9, t9⟩ := hR.m7 (hD 7 (by decide))
  have n1 : b8 ≠ b9 := fun e => hR.n6_7 (hD 6 (by decide)) (hD 7 (by decide)) (by rw [e])
  have RT4 := range_below hR.b z0 RT3
  have RX4 := range_below hR.b y1 r1
  have RF4 := range_below hR.b lF RF3
  have q0 := bthen e1 hR.b
  clear hD hR RT3 RF3 r1 e1
  simp only [List.drop_succ_cons, List.drop_zero]
  refine wpList_store_wide 27 (.tmp 9) (.tmp 40) rfl rfl b9 0 #[.bool true, .bool false, .int .u32 n', .int .u32 k, .int .i64 win] rfl rfl w.heap.size w info27 (by simp [Value.oneCell']) q0 (by omega) t9 ?_
  intro V q2 zz9 r9 x2 y9 j9
  clear zz9 y9 j9
  have SW : SdAt V b8 0 ⟨false, false, n, k, z⟩ := sd_at (x2 _ _ _ n1 R8)
  have SI : SdAt V b9 0 ⟨true, false, n', k, win⟩ := sd_at r9
  have ST := (trk_at (a := ⟨ps, pa, pn, pk, pz⟩) (b := ⟨false, false, n, k, z⟩) (B := w.heap.size) (W := V) (by rw [HT.out]; exact x2 _ _ _ (by omega) RT4)).1
  have SX := (trk_at (a := ⟨ps, pa, pn, pk, pz⟩) (b := ⟨true, false, n', k, win⟩) (B := X) (W := V) (by rw [HT'.out]; exact x2 _ _ _ (by omega) RX4)).1
  have RF := x2 _ _ _ (by omega) RF4
  have fw := fcell RF 11 _ HF.out.cwin
  have ff := fcell RF 6 _ HF.out.cflags
  obtain ⟨s0, s1, s2, s3, s4⟩ := SW
  obtain ⟨i0, i1, i2, i3, i4⟩ := SI
  obtain ⟨t0, t1, t2, t3, t4⟩ := ST
  obtain ⟨g0, g1, g2, g3, g4⟩ := SX
  simp only [Nat.zero_add, Nat.reduceAdd] at s0 s1 s2 s3 s4 i0 i1 i2 i3 i4 t0 t1 t2 t3 t4 g0 g1 g2 g3 g4
  clear q0 x2 R8 r9 t8 t9 RT4 RX4 RF4 RF y1 y2 z0 l8 l9 lF
  have hw1 : IntKind.u8.wrap 0 = 0 := by kernel_rfl
  go_wp2_with fail
  go_quiet (fail)
  clear hw1
  go_wp2_with fail
  go_ret
  exact ⟨by first | rfl | simp, below_drewN q2 _⟩
structure On1001 (w1 : World) (w : World) (X : Nat) (n k z n' kk win : Int) (D : Nat → Prop) (v8 v9 v35 v36 v37 v38 v39 v40 : Value) (w' : World) : Prop where
  b : Below w1.heap.size w1 w'
  e0 : D 0 → v35 = .int .u8 1
  e1 : D 1 → v36 = .pointer (some ⟨w.heap.size, 5, none⟩)
  e2 : D 2 → v37 = .agg #[.bool false, .bool false, .int .u32 n, .int .u32 k, .int .i64 z]
  e3 : D 3 → v38 = .int .u8 1
  e4 : D 4 → v39 = .pointer (some ⟨X, 5, none⟩)
  e5 : D 5 → v40 = .agg #[.bool true, .bool true, .int .u32 n', .int .u32 kk, .int .i64 win]
  m6 : D 6 → Made w1.heap.size 5 v8 w'
  m7 : D 7 → Made w1.heap.size 5 v9 w'
  n6_7 : D 6 → D 7 → v8 ≠ v9
  r8 : D 8 → ∃ b, v8 = .pointer (some ⟨b, 0, none⟩) ∧ b < w'.heap.size ∧ w'.rangeAt b 0 #[.bool false, .bool false, .int .u32 n, .int .u32 k, .int .i64 z].toList
  o8 : D 8 → D 6
theorem On1001.s0 {w1 : World} {w : World} {X : Nat} {n k z n' kk win : Int} {D : Nat → Prop} {v8 v9 v35 v36 v37 v38 v39 v40 : Value} {w' w'' : World} (h : On1001 w1 w X n k z n' kk win D v8 v9 v35 v36 v37 v38 v39 v40 w') (hb : Below w'.heap.size w' w'') : On1001 w1 w X n k z n' kk win (fun j => D j ∨ j = 0) v8 v9 (.int .u8 1) v36 v37 v38 v39 v40 w'' :=
  ⟨bthen h.b hb, fun _ => rfl, or_keep h.e1 (by decide), or_keep h.e2 (by decide), or_keep h.e3 (by decide), or_keep h.e4 (by decide), or_keep h.e5 (by decide), or_keep (fun hd => (h.m6 hd).below hb) (by decide), or_keep (fun hd => (h.m7 hd).below hb) (by decide), or_keep2 h.n6_7 (by decide) (by decide), or_keep (fun hd => by obtain ⟨b, e, hl, hr⟩ := h.r8 hd; exact ⟨b, e, Nat.lt_of_lt_of_le hl hb.size, rangeAt_below hb hl hr⟩) (by decide), fun hd => .inl (h.o8 (hd.resolve_right (by decide)))⟩
theorem On1001.s1 {w1 : World} {w : World} {X : Nat} {n k z n' kk win : Int} {D : Nat → Prop} {v8 v9 v35 v36 v37 v38 v39 v40 : Value} {w' w'' : World} (h : On1001 w1 w X n k z n' kk win D v8 v9 v35 v36 v37 v38 v39 v40 w') (hb : Below w'.heap.size w' w'') : On1001 w1 w X n k z n' kk win (fun j => D j ∨ j = 1) v8 v9 v35 (.pointer (some ⟨w.heap.size, 5, none⟩)) v37 v38 v39 v40 w'' :=
  ⟨bthen h.b hb, or_keep h.e0 (by decide), fun _ => rfl, or_keep h.e2 (by decide), or_keep h.e3 (by decide), or_keep h.e4 (by decide), or_keep h.e5 (by decide), or_keep (fun hd => (h.m6 hd).below hb) (by decide), or_keep (fun hd => (h.m7 hd).below hb) (by decide), or_keep2 h.n6_7 (by decide) (by decide), or_keep (fun hd => by obtain ⟨b, e, hl, hr⟩ := h.r8 hd; exact ⟨b, e, Nat.lt_of_lt_of_le hl hb.size, rangeAt_below hb hl hr⟩) (by decide), fun hd => .inl (h.o8 (hd.resolve_right (by decide)))⟩
theorem On1001.s2 {w1 : World} {w : World} {X : Nat} {n k z n' kk win : Int} {D : Nat → Prop} {v8 v9 v35 v36 v37 v38 v39 v40 : Value} {w' w'' : World} (h : On1001 w1 w X n k z n' kk win D v8 v9 v35 v36 v37 v38 v39 v40 w') (hb : Below w'.heap.size w' w'') : On1001 w1 w X n k z n' kk win (fun j => D j ∨ j = 2) v8 v9 v35 v36 (.agg #[.bool false, .bool false, .int .u32 n, .int .u32 k, .int .i64 z]) v38 v39 v40 w'' :=
  ⟨bthen h.b hb, or_keep h.e0 (by decide), or_keep h.e1 (by decide), fun _ => rfl, or_keep h.e3 (by decide), or_keep h.e4 (by decide), or_keep h.e5 (by decide), or_keep (fun hd => (h.m6 hd).below hb) (by decide), or_keep (fun hd => (h.m7 hd).below hb) (by decide), or_keep2 h.n6_7 (by decide) (by decide), or_keep (fun hd => by obtain ⟨b, e, hl, hr⟩ := h.r8 hd; exact ⟨b, e, Nat.lt_of_lt_of_le hl hb.size, rangeAt_below hb hl hr⟩) (by decide), fun hd => .inl (h.o8 (hd.resolve_right (by decide)))⟩
theorem On1001.s3 {w1 : World} {w : World} {X : Nat} {n k z n' kk win : Int} {D : Nat → Prop} {v8 v9 v35 v36 v37 v38 v39 v40 : Value} {w' w'' : World} (h : On1001 w1 w X n k z n' kk win D v8 v9 v35 v36 v37 v38 v39 v40 w') (hb : Below w'.heap.size w' w'') : On1001 w1 w X n k z n' kk win (fun j => D j ∨ j = 3) v8 v9 v35 v36 v37 (.int .u8 1) v39 v40 w'' :=
  ⟨bthen h.b hb, or_keep h.e0 (by decide), or_keep h.e1 (by decide), or_keep h.e2 (by decide), fun _ => rfl, or_keep h.e4 (by decide), or_keep h.e5 (by decide), or_keep (fun hd => (h.m6 hd).below hb) (by decide), or_keep (fun hd => (h.m7 hd).below hb) (by decide), or_keep2 h.n6_7 (by decide) (by decide), or_keep (fun hd => by obtain ⟨b, e, hl, hr⟩ := h.r8 hd; exact ⟨b, e, Nat.lt_of_lt_of_le hl hb.size, rangeAt_below hb hl hr⟩) (by decide), fun hd => .inl (h.o8 (hd.resolve_right (by decide)))⟩
theorem On1001.s4 {w1 : World} {w : World} {X : Nat} {n k z n' kk win : Int} {D : Nat → Prop} {v8 v9 v35 v36 v37 v38 v39 v40 : Value} {w' w'' : World} (h : On1001 w1 w X n k z n' kk win D v8 v9 v35 v36 v37 v38 v39 v40 w') (hb : Below w'.heap.size w' w'') : On1001 w1 w X n k z n' kk win (fun j => D j ∨ j = 4) v8 v9 v35 v36 v37 v38 (.pointer (some ⟨X, 5, none⟩)) v40 w'' :=
  ⟨bthen h.b hb, or_keep h.e0 (by decide), or_keep h.e1 (by decide), or_keep h.e2 (by decide), or_keep h.e3 (by decide), fun _ => rfl, or_keep h.e5 (by decide), or_keep (fun hd => (h.m6 hd).below hb) (by decide), or_keep (fun hd => (h.m7 hd).below hb) (by decide), or_keep2 h.n6_7 (by decide) (by decide), or_keep (fun hd => by obtain ⟨b, e, hl, hr⟩ := h.r8 hd; exact ⟨b, e, Nat.lt_of_lt_of_le hl hb.size, rangeAt_below hb hl hr⟩) (by decide), fun hd => .inl (h.o8 (hd.resolve_right (by decide)))⟩
theorem On1001.s5 {w1 : World} {w : World} {X : Nat} {n k z n' kk win : Int} {D : Nat → Prop} {v8 v9 v35 v36 v37 v38 v39 v40 : Value} {w' w'' : World} (h : On1001 w1 w X n k z n' kk win D v8 v9 v35 v36 v37 v38 v39 v40 w') (hb : Below w'.heap.size w' w'') : On1001 w1 w X n k z n' kk win (fun j => D j ∨ j = 5) v8 v9 v35 v36 v37 v38 v39 (.agg #[.bool true, .bool true, .int .u32 n', .int .u32 kk, .int .i64 win]) w'' :=
  ⟨bthen h.b hb, or_keep h.e0 (by decide), or_keep h.e1 (by decide), or_keep h.e2 (by decide), or_keep h.e3 (by decide), or_keep h.e4 (by decide), fun _ => rfl, or_keep (fun hd => (h.m6 hd).below hb) (by decide), or_keep (fun hd => (h.m7 hd).below hb) (by decide), or_keep2 h.n6_7 (by decide) (by decide), or_keep (fun hd => by obtain ⟨b, e, hl, hr⟩ := h.r8 hd; exact ⟨b, e, Nat.lt_of_lt_of_le hl hb.size, rangeAt_below hb hl hr⟩) (by decide), fun hd => .inl (h.o8 (hd.resolve_right (by decide)))⟩
theorem On1001.s6 {w1 : World} {w : World} {X : Nat} {n k z n' kk win : Int} {D : Nat → Prop} {v8 v9 v35 v36 v37 v38 v39 v40 : Value} {w' w'' : World} (h : On1001 w1 w X n k z n' kk win D v8 v9 v35 v36 v37 v38 v39 v40 w') (hb : Below w'.heap.size w' w'') (hm : Made w1.heap.size 5 (.pointer (some ⟨w'.heap.size, 0, none⟩)) w'') (hn : ¬ D 6) : On1001 w1 w X n k z n' kk win (fun j => D j ∨ j = 6) ((.pointer (some ⟨w'.heap.size, 0, none⟩))) v9 v35 v36 v37 v38 v39 v40 w'' :=
  ⟨bthen h.b hb, or_keep h.e0 (by decide), or_keep h.e1 (by decide), or_keep h.e2 (by decide), or_keep h.e3 (by decide), or_keep h.e4 (by decide), or_keep h.e5 (by decide), fun _ => hm, or_keep (fun hd => (h.m7 hd).below hb) (by decide), fun _ hd => ((h.m7 (hd.resolve_right (by decide))).ne).symm, fun hd => absurd (h.o8 (hd.resolve_right (by decide))) hn, fun _ => .inr rfl⟩
theorem On1001.s7 {w1 : World} {w : World} {X : Nat} {n k z n' kk win : Int} {D : Nat → Prop} {v8 v9 v35 v36 v37 v38 v39 v40 : Value} {w' w'' : World} (h : On1001 w1 w X n k z n' kk win D v8 v9 v35 v36 v37 v38 v39 v40 w') (hb : Below w'.heap.size w' w'') (hm : Made w1.heap.size 5 (.pointer (some ⟨w'.heap.size, 0, none⟩)) w'') : On1001 w1 w X n k z n' kk win (fun j => D j ∨ j = 7) v8 ((.pointer (some ⟨w'.heap.size, 0, none⟩))) v35 v36 v37 v38 v39 v40 w'' :=
  ⟨bthen h.b hb, or_keep h.e0 (by decide), or_keep h.e1 (by decide), or_keep h.e2 (by decide), or_keep h.e3 (by decide), or_keep h.e4 (by decide), or_keep h.e5 (by decide), or_keep (fun hd => (h.m6 hd).below hb) (by decide), fun _ => hm, fun hd _ => (h.m6 (hd.resolve_right (by decide))).ne, or_keep (fun hd => by obtain ⟨b, e, hl, hr⟩ := h.r8 hd; exact ⟨b, e, Nat.lt_of_lt_of_le hl hb.size, rangeAt_below hb hl hr⟩) (by decide), fun hd => .inl (h.o8 (hd.resolve_right (by decide)))⟩
theorem On1001.s8 {w1 : World} {w : World} {X : Nat} {n k z n' kk win : Int} {D : Nat → Prop} {v8 v9 v35 v36 v37 v38 v39 v40 : Value} {w' w'' : World} (h : On1001 w1 w X n k z n' kk win D v8 v9 v35 v36 v37 v38 v39 v40 w') (hm : D 6) (hB : Below w1.heap.size w1 w'') (hth : ∀ b o n, w'.there b o n → w''.there b o n) (hr : ∃ b, v8 = .pointer (some ⟨b, 0, none⟩) ∧ b < w''.heap.size ∧ w''.rangeAt b 0 #[.bool false, .bool false, .int .u32 n, .int .u32 k, .int .i64 z].toList) : On1001 w1 w X n k z n' kk win (fun j => D j ∨ j = 8) v8 v9 v35 v36 v37 v38 v39 v40 w'' :=
  ⟨hB, or_keep h.e0 (by decide), or_keep h.e1 (by decide), or_keep h.e2 (by decide), or_keep h.e3 (by decide), or_keep h.e4 (by decide), or_keep h.e5 (by decide), or_keep (fun hd => by obtain ⟨b, e, hl, ht⟩ := h.m6 hd; exact ⟨b, e, hl, hth _ _ _ ht⟩) (by decide), or_keep (fun hd => by obtain ⟨b, e, hl, ht⟩ := h.m7 hd; exact ⟨b, e, hl, hth _ _ _ ht⟩) (by decide), or_keep2 h.n6_7 (by decide) (by decide), fun _ => hr, fun _ => .inl hm⟩
theorem On1001.zero (w1 : World) (w : World) (X : Nat) (n k z n' kk win : Int) (v8 v9 v35 v36 v37 v38 v39 v40 : Value) : On1001 w1 w X n k z n' kk win (fun _ => False) v8 v9 v35 v36 v37 v38 v39 v40 w1.drew :=
  ⟨(Below.refl _ _).drew, fun h => h.elim, fun h => h.elim, fun h => h.elim, fun h => h.elim, fun h => h.elim, fun h => h.elim, fun h => h.elim, fun h => h.elim, fun h => h.elim, fun h => h.elim, fun h => h.elim⟩

set_option maxRecDepth 100000 in
set_option maxHeartbeats 4000000 in
theorem one_1001 (ps pa : Bool) (n k z pn pk pz n' kk : Int) (F : Array Value) (flags seq ack win len : Int) (T T' : Array Value) (w : World) (HT : Hid (trk ⟨ps, pa, pn, pk, pz⟩ ⟨false, false, n, k, z⟩ = T)) (HT' : Hid (trk ⟨ps, pa, pn, pk, pz⟩ ⟨true, true, n', kk, win⟩ = T')) (HF : Hid (Fa F flags seq ack win len)) (HS : Hid (∀ W, Calls Try.prog 14 #[.agg T, .int .u8 1, .agg F] W fun e w' => e = .returned (.agg T') ∧ Below W.heap.size W w'))
    (hfb : (bits .and .u8 flags 16 != 0) = true) (hn : 0 ≤ n ∧ n ≤ 4294967295) (hn' : 0 ≤ n' ∧ n' ≤ 4294967295) (hk : 0 ≤ k ∧ k ≤ 4294967295) (hkk : 0 ≤ kk ∧ kk ≤ 4294967295) :
    Calls Try.prog 10 #[.agg T, .int .u8 1, .agg F] w fun e w' => e = .returned (.bool true) ∧ Below w.heap.size w w' := by
  have HI : Hid ((Try.prog.info? 29).map (·.size) = some T.toList.length) := by rw [← HT.out]; exact info29
  have HI' : Hid ((Try.prog.info? 29).map (·.size) = some T'.size) := by rw [← HT'.out]; exact info29
  have HO' : Hid (T'.all (·.oneCell') = true) := by rw [← HT'.out]; exact trk_one _ _
  have HZ' : Hid (T'.size = 10) := by rw [← HT'.out]; rfl
  have HI2 : Hid ((Try.prog.info? 29).map (·.size) = some T'.toList.length) := by rw [← HT'.out]; exact info29
  have HJ := Lib.hid HF.out.hi
  go_enter Try.func10, Try.ntmps10
  go_wp2_with fail
  refine (awake_any _).mono ?_
  rintro e w1 ⟨rfl, hb⟩
  have RT1 : w1.rangeAt w.heap.size 0 T.toList := range_below hb (by simp; omega) (World.rangeAt_alloc (range_new w T 29) _)
  have RF1 : w1.rangeAt (w.heap.size + 1) 0 F.toList := range_below hb (by simp) (range_new' _ F 34 _ (by simp))
  have d1 : Below w.heap.size w w1 := bthen (by (repeat' (first | exact Below.refl _ _ | refine Below.setCell ?_ (by first | omega | (simp; done) | (simp; omega)) _ | refine Below.alloc ?_ (by first | omega | (simp; done) | (simp; omega)) _))) hb
  have l1 : w.heap.size + 1 < w1.heap.size := by have := hb.size; simp at this; omega
  clear hb
  go_wp2_with (first | (refine wpList_load_wide 29 (.tmp 3) rfl (by rfl) w.heap.size 0 rfl T _ Try.underlying29 rfl HI.out ?_ ?_; · (repeat (first | with_reducible exact RT1 | refine World.rangeAt_alloc ?_ _))) | (refine wpList_load_wide 34 (.tmp 5) rfl (by rfl) (w.heap.size + 1) 0 rfl F _ Try.underlying34 rfl HJ.out ?_ ?_; · (repeat (first | with_reducible exact RF1 | refine World.rangeAt_alloc ?_ _))))
  refine (HS.out _ : _).mono ?_
  rintro e w2 ⟨rfl, hb⟩
  have d2 := bthen d1 hb
  have RT2 := range_below hb (by omega) RT1
  have RF2 := range_below hb l1 RF1
  have l2 : w.heap.size + 1 < w2.heap.size := Nat.lt_of_lt_of_le l1 hb.size
  have k2 := d2.size
  clear hb RT1 RF1 d1 l1
  go_wp2_with (refine wpList_store_wide 29 (.tmp 7) (.tmp 15) rfl rfl w2.heap.size 0 T' rfl rfl w.heap.size w HI'.out HO'.out (d2.alloc k2 _) k2 (there_new _ _ _ _ _ rfl ?_) ?_; (· (rw [HZ'.out]; rfl)); intro v1 e1 z1 r1 x1 j1 j2; clear j1 j2; have RT3 := x1 _ _ _ (by omega) (World.rangeAt_alloc RT2 _); have RF3 := x1 _ _ _ (by omega) (World.rangeAt_alloc RF2 _); have y1 : w2.heap.size < v1.heap.size := (by rw [z1]; simp); have y2 : w.heap.size ≤ v1.heap.size := e1.size; clear x1 z1)
  have lF : w.heap.size + 1 < v1.heap.size := by omega
  have z0 : w.heap.size < v1.heap.size := cell_lt (trk_at (by rw [HT.out]; exact RT3)).1.c0
  clear RT2 RF2 l2 d2 k2
  obtain ⟨X, hX⟩ : ∃ X, w2.heap.size = X := ⟨_, rfl⟩
  rw [hX] at r1 y1 ⊢
  clear hX
  refine wp_region_steps 9 [[], [0], [1], [], [3], [4], [], [], [6, 2]] (fun D a w' => ∃ v8 v9 v35 v36 v37 v38 v39 v40 : Value, a = ⟨#[.agg T, .int .u8 1, .agg F, .pointer (some ⟨w.heap.size, 0, none⟩), undef, .pointer (some ⟨w.heap.size + 1, 0, none⟩), .bool false, .pointer (some ⟨X, 0, none⟩), v8, v9, .bool true, .bool false, .agg T, .int .u8 1, .agg F, .agg T', .int .u8 1, .bool false, undef, undef, undef, undef, undef, undef, undef, undef, undef, undef, undef, undef, undef, undef, undef, undef, undef, v35, v36, v37, v38, v39, v40, undef, undef, undef, undef, undef, undef, undef, undef, undef, undef, undef, undef, undef, undef, undef, undef, undef, undef, undef, undef, undef, undef, undef, undef, undef, undef, undef, undef, undef, undef, undef, undef, undef, undef, undef, undef, undef, undef, undef, undef, undef, undef, undef, undef, undef, undef, undef, undef, undef, undef, undef, undef, undef, undef, undef, undef, undef, undef, undef, undef, undef, undef, undef, undef, undef, undef, undef, undef, undef], []⟩ ∧ On1001 v1 w X n k z n' kk win D v8 v9 v35 v36 v37 v38 v39 v40 w') (by kernel_rfl) (by kernel_rfl) ⟨undef, undef, undef, undef, undef, undef, undef, undef, rfl, On1001.zero v1 w X n k z n' kk win (undef) (undef) (undef) (undef) (undef) (undef) (undef) (undef)⟩ ?_ ?_
  · simp only [List.take_succ_cons, List.take_zero]
    refine ⟨?_, ?_, ?_, ?_, ?_, ?_, ?_, ?_, ?_, trivial⟩
    · intro D a w' hn_ hp hI
      obtain ⟨v8, v9, v35, v36, v37, v38, v39, v40, rfl, hR⟩ := hI
      clear hn_ hp
      go_wp2_with fail
      exact ⟨_, _, _, _, _, _, _, _, rfl, hR.s0 (Below.refl _ _)⟩
    · intro D a w' hn_ hp hI
      obtain ⟨v8, v9, v35, v36, v37, v38, v39, v40, rfl, hR⟩ := hI
      obtain rfl := hR.e0 hp.1
      clear hn_ hp
      go_wp2_with fail
      exact ⟨_, _, _, _, _, _, _, _, rfl, hR.s1 (Below.refl _ _)⟩
    · intro D a w' hn_ hp hI
      obtain ⟨v8, v9, v35, v36, v37, v38, v39, v40, rfl, hR⟩ := hI
      obtain rfl := hR.e1 hp.1
      obtain ⟨c0, c1, c2, c3, c4⟩ := (trk_at (by rw [HT.out]; exact range_below hR.b z0 RT3)).2
      simp only [Nat.zero_add, Nat.reduceAdd] at c0 c1 c2 c3 c4
      clear hn_ hp
      go_wp2_with fail
      exact ⟨_, _, _, _, _, _, _, _, rfl, hR.s2 (Below.refl _ _)⟩
    · intro D a w' hn_ hp hI
      obtain ⟨v8, v9, v35, v36, v37, v38, v39, v40, rfl, hR⟩ := hI
      clear hn_ hp
      go_wp2_with fail
      exact ⟨_, _, _, _, _, _, _, _, rfl, hR.s3 (Below.refl _ _)⟩
    · intro D a w' hn_ hp hI
      obtain ⟨v8, v9, v35, v36, v37, v38, v39, v40, rfl, hR⟩ := hI
      obtain rfl := hR.e3 hp.1
      clear hn_ hp
      go_wp2_with fail
      exact ⟨_, _, _, _, _, _, _, _, rfl, hR.s4 (Below.refl _ _)⟩
    · intro D a w' hn_ hp hI
      obtain ⟨v8, v9, v35, v36, v37, v38, v39, v40, rfl, hR⟩ := hI
      obtain rfl := hR.e4 hp.1
      obtain ⟨c0, c1, c2, c3, c4⟩ := (trk_at (by rw [HT'.out]; exact range_below hR.b y1 r1)).2
      simp only [Nat.zero_add, Nat.reduceAdd] at c0 c1 c2 c3 c4
      clear hn_ hp
      go_wp2_with fail
      exact ⟨_, _, _, _, _, _, _, _, rfl, hR.s5 (Below.refl _ _)⟩
    · intro D a w' hn_ hp hI
      obtain ⟨v8, v9, v35, v36, v37, v38, v39, v40, rfl, hR⟩ := hI
      clear hp
      go_wp2_with fail
      exact ⟨_, _, _, _, _, _, _, _, rfl, hR.s6 ((Below.refl _ _).alloc (Nat.le_refl _) _) ⟨_, rfl, hR.b.size, there_new _ _ _ _ _ rfl rfl⟩ hn_⟩
    · intro D a w' hn_ hp hI
      obtain ⟨v8, v9, v35, v36, v37, v38, v39, v40, rfl, hR⟩ := hI
      clear hn_ hp
      go_wp2_with fail
      exact ⟨_, _, _, _, _, _, _, _, rfl, hR.s7 ((Below.refl _ _).alloc (Nat.le_refl _) _) ⟨_, rfl, hR.b.size, there_new _ _ _ _ _ rfl rfl⟩⟩
    · intro D a w' hn_ hp hI
      obtain ⟨v8, v9, v35, v36, v37, v38, v39, v40, rfl, hR⟩ := hI
      obtain ⟨b8, rfl, l8, t8⟩ := hR.m6 hp.1
      obtain rfl := hR.e2 hp.2.1
      have hlt8 := there_lt t8
      refine wpList_store_wide 27 (.tmp 8) (.tmp 37) rfl rfl b8 0 #[.bool false, .bool false, .int .u32 n, .int .u32 k, .int .i64 z] rfl rfl v1.heap.size v1 info27 (by simp [Value.oneCell']) hR.b (by omega) t8 ?_
      intro u1 q1 zz r8 x1 y8 j1
      exact ⟨_, _, _, _, _, _, _, _, rfl, hR.s8 hp.1 q1 y8 ⟨b8, rfl, by rw [zz]; exact hlt8, r8⟩⟩
  intro D a w' hD hI
  obtain ⟨v8, v9, v35, v36, v37, v38, v39, v40, rfl, hR⟩ := hI
  obtain rfl := hR.e0 (hD 0 (by decide))
  obtain rfl := hR.e1 (hD 1 (by decide))
  obtain rfl := hR.e2 (hD 2 (by decide))
  obtain rfl := hR.e3 (hD 3 (by decide))
  obtain rfl := hR.e4 (hD 4 (by decide))
  obtain rfl := hR.e5 (hD 5 (by decide))
  obtain ⟨b8, rfl, l8, t8⟩ := hR.m6 (hD 6 (by decide))
  obtain ⟨b8', eb8, _, R8⟩ := hR.r8 (hD 8 (by decide))
  obtain rfl : b8 = b8' := by injection eb8 with eb8; injection eb8 with eb8; injection eb8
  clear eb8
  obtain ⟨b9, rfl, l9, t9⟩ := hR.m7 (hD 7 (by decide))
  have n1 : b8 ≠ b9 := fun e => hR.n6_7 (hD 6 (by decide)) (hD 7 (by decide)) (by rw [e])
  have RT4 := range_below hR.b z0 RT3
  have RX4 := range_below hR.b y1 r1
  have RF4 := range_below hR.b lF RF3
  have q0 := bthen e1 hR.b
  clear hD hR RT3 RF3 r1 e1
  simp only [List.drop_succ_cons, List.drop_zero]
  refine wpList_store_wide 27 (.tmp 9) (.tmp 40) rfl rfl b9 0 #[.bool true, .bool true, .int .u32 n', .int .u32 kk, .int .i64 win] rfl rfl w.heap.size w info27 (by simp [Value.oneCell']) q0 (by omega) t9 ?_
  intro V q2 zz9 r9 x2 y9 j9
  clear zz9 y9 j9
  have SW : SdAt V b8 0 ⟨false, false, n, k, z⟩ := sd_at (x2 _ _ _ n1 R8)
  have SI : SdAt V b9 0 ⟨true, true, n', kk, win⟩ := sd_at r9
  have ST := (trk_at (a := ⟨ps, pa, pn, pk, pz⟩) (b := ⟨false, false, n, k, z⟩) (B := w.heap.size) (W := V) (by rw [HT.out]; exact x2 _ _ _ (by omega) RT4)).1
  have SX := (trk_at (a := ⟨ps, pa, pn, pk, pz⟩) (b := ⟨true, true, n', kk, win⟩) (B := X) (W := V) (by rw [HT'.out]; exact x2 _ _ _ (by omega) RX4)).1
  have RF := x2 _ _ _ (by omega) RF4
  have fw := fcell RF 11 _ HF.out.cwin
  have ff := fcell RF 6 _ HF.out.cflags
  obtain ⟨s0, s1, s2, s3, s4⟩ := SW
  obtain ⟨i0, i1, i2, i3, i4⟩ := SI
  obtain ⟨t0, t1, t2, t3, t4⟩ := ST
  obtain ⟨g0, g1, g2, g3, g4⟩ := SX
  simp only [Nat.zero_add, Nat.reduceAdd] at s0 s1 s2 s3 s4 i0 i1 i2 i3 i4 t0 t1 t2 t3 t4 g0 g1 g2 g3 g4
  clear q0 x2 R8 r9 t8 t9 RT4 RX4 RF4 RF y1 y2 z0 l8 l9 lF
  have hw1 : IntKind.u8.wrap 0 = 0 := by kernel_rfl
  go_wp2_with fail
  go_quiet (fail)
  clear hw1
  go_wp2_with fail
  go_ret
  exact ⟨by first | rfl | simp, below_drewN q2 _⟩
structure On1010 (w1 : World) (w : World) (X : Nat) (n k z n' kk win : Int) (D : Nat → Prop) (v8 v9 v35 v36 v37 v38 v39 v40 : Value) (w' : World) : Prop where
  b : Below w1.heap.size w1 w'
  e0 : D 0 → v35 = .int .u8 1
  e1 : D 1 → v36 = .pointer (some ⟨w.heap.size, 5, none⟩)
  e2 : D 2 → v37 = .agg #[.bool false, .bool true, .int .u32 n, .int .u32 k, .int .i64 z]
  e3 : D 3 → v38 = .int .u8 1
  e4 : D 4 → v39 = .pointer (some ⟨X, 5, none⟩)
  e5 : D 5 → v40 = .agg #[.bool true, .bool true, .int .u32 n', .int .u32 k, .int .i64 win]
  m6 : D 6 → Made w1.heap.size 5 v8 w'
  m7 : D 7 → Made w1.heap.size 5 v9 w'
  n6_7 : D 6 → D 7 → v8 ≠ v9
  r8 : D 8 → ∃ b, v8 = .pointer (some ⟨b, 0, none⟩) ∧ b < w'.heap.size ∧ w'.rangeAt b 0 #[.bool false, .bool true, .int .u32 n, .int .u32 k, .int .i64 z].toList
  o8 : D 8 → D 6
theorem On1010.s0 {w1 : World} {w : World} {X : Nat} {n k z n' kk win : Int} {D : Nat → Prop} {v8 v9 v35 v36 v37 v38 v39 v40 : Value} {w' w'' : World} (h : On1010 w1 w X n k z n' kk win D v8 v9 v35 v36 v37 v38 v39 v40 w') (hb : Below w'.heap.size w' w'') : On1010 w1 w X n k z n' kk win (fun j => D j ∨ j = 0) v8 v9 (.int .u8 1) v36 v37 v38 v39 v40 w'' :=
  ⟨bthen h.b hb, fun _ => rfl, or_keep h.e1 (by decide), or_keep h.e2 (by decide), or_keep h.e3 (by decide), or_keep h.e4 (by decide), or_keep h.e5 (by decide), or_keep (fun hd => (h.m6 hd).below hb) (by decide), or_keep (fun hd => (h.m7 hd).below hb) (by decide), or_keep2 h.n6_7 (by decide) (by decide), or_keep (fun hd => by obtain ⟨b, e, hl, hr⟩ := h.r8 hd; exact ⟨b, e, Nat.lt_of_lt_of_le hl hb.size, rangeAt_below hb hl hr⟩) (by decide), fun hd => .inl (h.o8 (hd.resolve_right (by decide)))⟩
theorem On1010.s1 {w1 : World} {w : World} {X : Nat} {n k z n' kk win : Int} {D : Nat → Prop} {v8 v9 v35 v36 v37 v38 v39 v40 : Value} {w' w'' : World} (h : On1010 w1 w X n k z n' kk win D v8 v9 v35 v36 v37 v38 v39 v40 w') (hb : Below w'.heap.size w' w'') : On1010 w1 w X n k z n' kk win (fun j => D j ∨ j = 1) v8 v9 v35 (.pointer (some ⟨w.heap.size, 5, none⟩)) v37 v38 v39 v40 w'' :=
  ⟨bthen h.b hb, or_keep h.e0 (by decide), fun _ => rfl, or_keep h.e2 (by decide), or_keep h.e3 (by decide), or_keep h.e4 (by decide), or_keep h.e5 (by decide), or_keep (fun hd => (h.m6 hd).below hb) (by decide), or_keep (fun hd => (h.m7 hd).below hb) (by decide), or_keep2 h.n6_7 (by decide) (by decide), or_keep (fun hd => by obtain ⟨b, e, hl, hr⟩ := h.r8 hd; exact ⟨b, e, Nat.lt_of_lt_of_le hl hb.size, rangeAt_below hb hl hr⟩) (by decide), fun hd => .inl (h.o8 (hd.resolve_right (by decide)))⟩
theorem On1010.s2 {w1 : World} {w : World} {X : Nat} {n k z n' kk win : Int} {D : Nat → Prop} {v8 v9 v35 v36 v37 v38 v39 v40 : Value} {w' w'' : World} (h : On1010 w1 w X n k z n' kk win D v8 v9 v35 v36 v37 v38 v39 v40 w') (hb : Below w'.heap.size w' w'') : On1010 w1 w X n k z n' kk win (fun j => D j ∨ j = 2) v8 v9 v35 v36 (.agg #[.bool false, .bool true, .int .u32 n, .int .u32 k, .int .i64 z]) v38 v39 v40 w'' :=
  ⟨bthen h.b hb, or_keep h.e0 (by decide), or_keep h.e1 (by decide), fun _ => rfl, or_keep h.e3 (by decide), or_keep h.e4 (by decide), or_keep h.e5 (by decide), or_keep (fun hd => (h.m6 hd).below hb) (by decide), or_keep (fun hd => (h.m7 hd).below hb) (by decide), or_keep2 h.n6_7 (by decide) (by decide), or_keep (fun hd => by obtain ⟨b, e, hl, hr⟩ := h.r8 hd; exact ⟨b, e, Nat.lt_of_lt_of_le hl hb.size, rangeAt_below hb hl hr⟩) (by decide), fun hd => .inl (h.o8 (hd.resolve_right (by decide)))⟩
theorem On1010.s3 {w1 : World} {w : World} {X : Nat} {n k z n' kk win : Int} {D : Nat → Prop} {v8 v9 v35 v36 v37 v38 v39 v40 : Value} {w' w'' : World} (h : On1010 w1 w X n k z n' kk win D v8 v9 v35 v36 v37 v38 v39 v40 w') (hb : Below w'.heap.size w' w'') : On1010 w1 w X n k z n' kk win (fun j => D j ∨ j = 3) v8 v9 v35 v36 v37 (.int .u8 1) v39 v40 w'' :=
  ⟨bthen h.b hb, or_keep h.e0 (by decide), or_keep h.e1 (by decide), or_keep h.e2 (by decide), fun _ => rfl, or_keep h.e4 (by decide), or_keep h.e5 (by decide), or_keep (fun hd => (h.m6 hd).below hb) (by decide), or_keep (fun hd => (h.m7 hd).below hb) (by decide), or_keep2 h.n6_7 (by decide) (by decide), or_keep (fun hd => by obtain ⟨b, e, hl, hr⟩ := h.r8 hd; exact ⟨b, e, Nat.lt_of_lt_of_le hl hb.size, rangeAt_below hb hl hr⟩) (by decide), fun hd => .inl (h.o8 (hd.resolve_right (by decide)))⟩
theorem On1010.s4 {w1 : World} {w : World} {X : Nat} {n k z n' kk win : Int} {D : Nat → Prop} {v8 v9 v35 v36 v37 v38 v39 v40 : Value} {w' w'' : World} (h : On1010 w1 w X n k z n' kk win D v8 v9 v35 v36 v37 v38 v39 v40 w') (hb : Below w'.heap.size w' w'') : On1010 w1 w X n k z n' kk win (fun j => D j ∨ j = 4) v8 v9 v35 v36 v37 v38 (.pointer (some ⟨X, 5, none⟩)) v40 w'' :=
  ⟨bthen h.b hb, or_keep h.e0 (by decide), or_keep h.e1 (by decide), or_keep h.e2 (by decide), or_keep h.e3 (by decide), fun _ => rfl, or_keep h.e5 (by decide), or_keep (fun hd => (h.m6 hd).below hb) (by decide), or_keep (fun hd => (h.m7 hd).below hb) (by decide), or_keep2 h.n6_7 (by decide) (by decide), or_keep (fun hd => by obtain ⟨b, e, hl, hr⟩ := h.r8 hd; exact ⟨b, e, Nat.lt_of_lt_of_le hl hb.size, rangeAt_below hb hl hr⟩) (by decide), fun hd => .inl (h.o8 (hd.resolve_right (by decide)))⟩
theorem On1010.s5 {w1 : World} {w : World} {X : Nat} {n k z n' kk win : Int} {D : Nat → Prop} {v8 v9 v35 v36 v37 v38 v39 v40 : Value} {w' w'' : World} (h : On1010 w1 w X n k z n' kk win D v8 v9 v35 v36 v37 v38 v39 v40 w') (hb : Below w'.heap.size w' w'') : On1010 w1 w X n k z n' kk win (fun j => D j ∨ j = 5) v8 v9 v35 v36 v37 v38 v39 (.agg #[.bool true, .bool true, .int .u32 n', .int .u32 k, .int .i64 win]) w'' :=
  ⟨bthen h.b hb, or_keep h.e0 (by decide), or_keep h.e1 (by decide), or_keep h.e2 (by decide), or_keep h.e3 (by decide), or_keep h.e4 (by decide), fun _ => rfl, or_keep (fun hd => (h.m6 hd).below hb) (by decide), or_keep (fun hd => (h.m7 hd).below hb) (by decide), or_keep2 h.n6_7 (by decide) (by decide), or_keep (fun hd => by obtain ⟨b, e, hl, hr⟩ := h.r8 hd; exact ⟨b, e, Nat.lt_of_lt_of_le hl hb.size, rangeAt_below hb hl hr⟩) (by decide), fun hd => .inl (h.o8 (hd.resolve_right (by decide)))⟩
theorem On1010.s6 {w1 : World} {w : World} {X : Nat} {n k z n' kk win : Int} {D : Nat → Prop} {v8 v9 v35 v36 v37 v38 v39 v40 : Value} {w' w'' : World} (h : On1010 w1 w X n k z n' kk win D v8 v9 v35 v36 v37 v38 v39 v40 w') (hb : Below w'.heap.size w' w'') (hm : Made w1.heap.size 5 (.pointer (some ⟨w'.heap.size, 0, none⟩)) w'') (hn : ¬ D 6) : On1010 w1 w X n k z n' kk win (fun j => D j ∨ j = 6) ((.pointer (some ⟨w'.heap.size, 0, none⟩))) v9 v35 v36 v37 v38 v39 v40 w'' :=
  ⟨bthen h.b hb, or_keep h.e0 (by decide), or_keep h.e1 (by decide), or_keep h.e2 (by decide), or_keep h.e3 (by decide), or_keep h.e4 (by decide), or_keep h.e5 (by decide), fun _ => hm, or_keep (fun hd => (h.m7 hd).below hb) (by decide), fun _ hd => ((h.m7 (hd.resolve_right (by decide))).ne).symm, fun hd => absurd (h.o8 (hd.resolve_right (by decide))) hn, fun _ => .inr rfl⟩
theorem On1010.s7 {w1 : World} {w : World} {X : Nat} {n k z n' kk win : Int} {D : Nat → Prop} {v8 v9 v35 v36 v37 v38 v39 v40 : Value} {w' w'' : World} (h : On1010 w1 w X n k z n' kk win D v8 v9 v35 v36 v37 v38 v39 v40 w') (hb : Below w'.heap.size w' w'') (hm : Made w1.heap.size 5 (.pointer (some ⟨w'.heap.size, 0, none⟩)) w'') : On1010 w1 w X n k z n' kk win (fun j => D j ∨ j = 7) v8 ((.pointer (some ⟨w'.heap.size, 0, none⟩))) v35 v36 v37 v38 v39 v40 w'' :=
  ⟨bthen h.b hb, or_keep h.e0 (by decide), or_keep h.e1 (by decide), or_keep h.e2 (by decide), or_keep h.e3 (by decide), or_keep h.e4 (by decide), or_keep h.e5 (by decide), or_keep (fun hd => (h.m6 hd).below hb) (by decide), fun _ => hm, fun hd _ => (h.m6 (hd.resolve_right (by decide))).ne, or_keep (fun hd => by obtain ⟨b, e, hl, hr⟩ := h.r8 hd; exact ⟨b, e, Nat.lt_of_lt_of_le hl hb.size, rangeAt_below hb hl hr⟩) (by decide), fun hd => .inl (h.o8 (hd.resolve_right (by decide)))⟩
theorem On1010.s8 {w1 : World} {w : World} {X : Nat} {n k z n' kk win : Int} {D : Nat → Prop} {v8 v9 v35 v36 v37 v38 v39 v40 : Value} {w' w'' : World} (h : On1010 w1 w X n k z n' kk win D v8 v9 v35 v36 v37 v38 v39 v40 w') (hm : D 6) (hB : Below w1.heap.size w1 w'') (hth : ∀ b o n, w'.there b o n → w''.there b o n) (hr : ∃ b, v8 = .pointer (some ⟨b, 0, none⟩) ∧ b < w''.heap.size ∧ w''.rangeAt b 0 #[.bool false, .bool true, .int .u32 n, .int .u32 k, .int .i64 z].toList) : On1010 w1 w X n k z n' kk win (fun j => D j ∨ j = 8) v8 v9 v35 v36 v37 v38 v39 v40 w'' :=
  ⟨hB, or_keep h.e0 (by decide), or_keep h.e1 (by decide), or_keep h.e2 (by decide), or_keep h.e3 (by decide), or_keep h.e4 (by decide), or_keep h.e5 (by decide), or_keep (fun hd => by obtain ⟨b, e, hl, ht⟩ := h.m6 hd; exact ⟨b, e, hl, hth _ _ _ ht⟩) (by decide), or_keep (fun hd => by obtain ⟨b, e, hl, ht⟩ := h.m7 hd; exact ⟨b, e, hl, hth _ _ _ ht⟩) (by decide), or_keep2 h.n6_7 (by decide) (by decide), fun _ => hr, fun _ => .inl hm⟩
theorem On1010.zero (w1 : World) (w : World) (X : Nat) (n k z n' kk win : Int) (v8 v9 v35 v36 v37 v38 v39 v40 : Value) : On1010 w1 w X n k z n' kk win (fun _ => False) v8 v9 v35 v36 v37 v38 v39 v40 w1.drew :=
  ⟨(Below.refl _ _).drew, fun h => h.elim, fun h => h.elim, fun h => h.elim, fun h => h.elim, fun h => h.elim, fun h => h.elim, fun h => h.elim, fun h => h.elim, fun h => h.elim, fun h => h.elim, fun h => h.elim⟩

set_option maxRecDepth 100000 in
set_option maxHeartbeats 4000000 in
theorem one_1010 (ps pa : Bool) (n k z pn pk pz n' kk : Int) (F : Array Value) (flags seq ack win len : Int) (T T' : Array Value) (w : World) (HT : Hid (trk ⟨ps, pa, pn, pk, pz⟩ ⟨false, true, n, k, z⟩ = T)) (HT' : Hid (trk ⟨ps, pa, pn, pk, pz⟩ ⟨true, true, n', k, win⟩ = T')) (HF : Hid (Fa F flags seq ack win len)) (HS : Hid (∀ W, Calls Try.prog 14 #[.agg T, .int .u8 1, .agg F] W fun e w' => e = .returned (.agg T') ∧ Below W.heap.size W w'))
    (hfb : (bits .and .u8 flags 16 != 0) = false) (hn : 0 ≤ n ∧ n ≤ 4294967295) (hn' : 0 ≤ n' ∧ n' ≤ 4294967295) (hk : 0 ≤ k ∧ k ≤ 4294967295) (hkk : 0 ≤ kk ∧ kk ≤ 4294967295) (hak : Hid (aft k k = false)) :
    Calls Try.prog 10 #[.agg T, .int .u8 1, .agg F] w fun e w' => e = .returned (.bool true) ∧ Below w.heap.size w w' := by
  have HI : Hid ((Try.prog.info? 29).map (·.size) = some T.toList.length) := by rw [← HT.out]; exact info29
  have HI' : Hid ((Try.prog.info? 29).map (·.size) = some T'.size) := by rw [← HT'.out]; exact info29
  have HO' : Hid (T'.all (·.oneCell') = true) := by rw [← HT'.out]; exact trk_one _ _
  have HZ' : Hid (T'.size = 10) := by rw [← HT'.out]; rfl
  have HI2 : Hid ((Try.prog.info? 29).map (·.size) = some T'.toList.length) := by rw [← HT'.out]; exact info29
  have HJ := Lib.hid HF.out.hi
  go_enter Try.func10, Try.ntmps10
  go_wp2_with fail
  refine (awake_any _).mono ?_
  rintro e w1 ⟨rfl, hb⟩
  have RT1 : w1.rangeAt w.heap.size 0 T.toList := range_below hb (by simp; omega) (World.rangeAt_alloc (range_new w T 29) _)
  have RF1 : w1.rangeAt (w.heap.size + 1) 0 F.toList := range_below hb (by simp) (range_new' _ F 34 _ (by simp))
  have d1 : Below w.heap.size w w1 := bthen (by (repeat' (first | exact Below.refl _ _ | refine Below.setCell ?_ (by first | omega | (simp; done) | (simp; omega)) _ | refine Below.alloc ?_ (by first | omega | (simp; done) | (simp; omega)) _))) hb
  have l1 : w.heap.size + 1 < w1.heap.size := by have := hb.size; simp at this; omega
  clear hb
  go_wp2_with (first | (refine wpList_load_wide 29 (.tmp 3) rfl (by rfl) w.heap.size 0 rfl T _ Try.underlying29 rfl HI.out ?_ ?_; · (repeat (first | with_reducible exact RT1 | refine World.rangeAt_alloc ?_ _))) | (refine wpList_load_wide 34 (.tmp 5) rfl (by rfl) (w.heap.size + 1) 0 rfl F _ Try.underlying34 rfl HJ.out ?_ ?_; · (repeat (first | with_reducible exact RF1 | refine World.rangeAt_alloc ?_ _))))
  refine (HS.out _ : _).mono ?_
  rintro e w2 ⟨rfl, hb⟩
  have d2 := bthen d1 hb
  have RT2 := range_below hb (by omega) RT1
  have RF2 := range_below hb l1 RF1
  have l2 : w.heap.size + 1 < w2.heap.size := Nat.lt_of_lt_of_le l1 hb.size
  have k2 := d2.size
  clear hb RT1 RF1 d1 l1
  go_wp2_with (refine wpList_store_wide 29 (.tmp 7) (.tmp 15) rfl rfl w2.heap.size 0 T' rfl rfl w.heap.size w HI'.out HO'.out (d2.alloc k2 _) k2 (there_new _ _ _ _ _ rfl ?_) ?_; (· (rw [HZ'.out]; rfl)); intro v1 e1 z1 r1 x1 j1 j2; clear j1 j2; have RT3 := x1 _ _ _ (by omega) (World.rangeAt_alloc RT2 _); have RF3 := x1 _ _ _ (by omega) (World.rangeAt_alloc RF2 _); have y1 : w2.heap.size < v1.heap.size := (by rw [z1]; simp); have y2 : w.heap.size ≤ v1.heap.size := e1.size; clear x1 z1)
  have lF : w.heap.size + 1 < v1.heap.size := by omega
  have z0 : w.heap.size < v1.heap.size := cell_lt (trk_at (by rw [HT.out]; exact RT3)).1.c0
  clear RT2 RF2 l2 d2 k2
  obtain ⟨X, hX⟩ : ∃ X, w2.heap.size = X := ⟨_, rfl⟩
  rw [hX] at r1 y1 ⊢
  clear hX
  refine wp_region_steps 9 [[], [0], [1], [], [3], [4], [], [], [6, 2]] (fun D a w' => ∃ v8 v9 v35 v36 v37 v38 v39 v40 : Value, a = ⟨#[.agg T, .int .u8 1, .agg F, .pointer (some ⟨w.heap.size, 0, none⟩), undef, .pointer (some ⟨w.heap.size + 1, 0, none⟩), .bool false, .pointer (some ⟨X, 0, none⟩), v8, v9, .bool true, .bool false, .agg T, .int .u8 1, .agg F, .agg T', .int .u8 1, .bool false, undef, undef, undef, undef, undef, undef, undef, undef, undef, undef, undef, undef, undef, undef, undef, undef, undef, v35, v36, v37, v38, v39, v40, undef, undef, undef, undef, undef, undef, undef, undef, undef, undef, undef, undef, undef, undef, undef, undef, undef, undef, undef, undef, undef, undef, undef, undef, undef, undef, undef, undef, undef, undef, undef, undef, undef, undef, undef, undef, undef, undef, undef, undef, undef, undef, undef, undef, undef, undef, undef, undef, undef, undef, undef, undef, undef, undef, undef, undef, undef, undef, undef, undef, undef, undef, undef, undef, undef, undef, undef, undef, undef], []⟩ ∧ On1010 v1 w X n k z n' kk win D v8 v9 v35 v36 v37 v38 v39 v40 w') (by kernel_rfl) (by kernel_rfl) ⟨undef, undef, undef, undef, undef, undef, undef, undef, rfl, On1010.zero v1 w X n k z n' kk win (undef) (undef) (undef) (undef) (undef) (undef) (undef) (undef)⟩ ?_ ?_
  · simp only [List.take_succ_cons, List.take_zero]
    refine ⟨?_, ?_, ?_, ?_, ?_, ?_, ?_, ?_, ?_, trivial⟩
    · intro D a w' hn_ hp hI
      obtain ⟨v8, v9, v35, v36, v37, v38, v39, v40, rfl, hR⟩ := hI
      clear hn_ hp
      go_wp2_with fail
      exact ⟨_, _, _, _, _, _, _, _, rfl, hR.s0 (Below.refl _ _)⟩
    · intro D a w' hn_ hp hI
      obtain ⟨v8, v9, v35, v36, v37, v38, v39, v40, rfl, hR⟩ := hI
      obtain rfl := hR.e0 hp.1
      clear hn_ hp
      go_wp2_with fail
      exact ⟨_, _, _, _, _, _, _, _, rfl, hR.s1 (Below.refl _ _)⟩
    · intro D a w' hn_ hp hI
      obtain ⟨v8, v9, v35, v36, v37, v38, v39, v40, rfl, hR⟩ := hI
      obtain rfl := hR.e1 hp.1
      obtain ⟨c0, c1, c2, c3, c4⟩ := (trk_at (by rw [HT.out]; exact range_below hR.b z0 RT3)).2
      simp only [Nat.zero_add, Nat.reduceAdd] at c0 c1 c2 c3 c4
      clear hn_ hp
      go_wp2_with fail
      exact ⟨_, _, _, _, _, _, _, _, rfl, hR.s2 (Below.refl _ _)⟩
    · intro D a w' hn_ hp hI
      obtain ⟨v8, v9, v35, v36, v37, v38, v39, v40, rfl, hR⟩ := hI
      clear hn_ hp
      go_wp2_with fail
      exact ⟨_, _, _, _, _, _, _, _, rfl, hR.s3 (Below.refl _ _)⟩
    · intro D a w' hn_ hp hI
      obtain ⟨v8, v9, v35, v36, v37, v38, v39, v40, rfl, hR⟩ := hI
      obtain rfl := hR.e3 hp.1
      clear hn_ hp
      go_wp2_with fail
      exact ⟨_, _, _, _, _, _, _, _, rfl, hR.s4 (Below.refl _ _)⟩
    · intro D a w' hn_ hp hI
      obtain ⟨v8, v9, v35, v36, v37, v38, v39, v40, rfl, hR⟩ := hI
      obtain rfl := hR.e4 hp.1
      obtain ⟨c0, c1, c2, c3, c4⟩ := (trk_at (by rw [HT'.out]; exact range_below hR.b y1 r1)).2
      simp only [Nat.zero_add, Nat.reduceAdd] at c0 c1 c2 c3 c4
      clear hn_ hp
      go_wp2_with fail
      exact ⟨_, _, _, _, _, _, _, _, rfl, hR.s5 (Below.refl _ _)⟩
    · intro D a w' hn_ hp hI
      obtain ⟨v8, v9, v35, v36, v37, v38, v39, v40, rfl, hR⟩ := hI
      clear hp
      go_wp2_with fail
      exact ⟨_, _, _, _, _, _, _, _, rfl, hR.s6 ((Below.refl _ _).alloc (Nat.le_refl _) _) ⟨_, rfl, hR.b.size, there_new _ _ _ _ _ rfl rfl⟩ hn_⟩
    · intro D a w' hn_ hp hI
      obtain ⟨v8, v9, v35, v36, v37, v38, v39, v40, rfl, hR⟩ := hI
      clear hn_ hp
      go_wp2_with fail
      exact ⟨_, _, _, _, _, _, _, _, rfl, hR.s7 ((Below.refl _ _).alloc (Nat.le_refl _) _) ⟨_, rfl, hR.b.size, there_new _ _ _ _ _ rfl rfl⟩⟩
    · intro D a w' hn_ hp hI
      obtain ⟨v8, v9, v35, v36, v37, v38, v39, v40, rfl, hR⟩ := hI
      obtain ⟨b8, rfl, l8, t8⟩ := hR.m6 hp.1
      obtain rfl := hR.e2 hp.2.1
      have hlt8 := there_lt t8
      refine wpList_store_wide 27 (.tmp 8) (.tmp 37) rfl rfl b8 0 #[.bool false, .bool true, .int .u32 n, .int .u32 k, .int .i64 z] rfl rfl v1.heap.size v1 info27 (by simp [Value.oneCell']) hR.b (by omega) t8 ?_
      intro u1 q1 zz r8 x1 y8 j1
      exact ⟨_, _, _, _, _, _, _, _, rfl, hR.s8 hp.1 q1 y8 ⟨b8, rfl, by rw [zz]; exact hlt8, r8⟩⟩
  intro D a w' hD hI
  obtain ⟨v8, v9, v35, v36, v37, v38, v39, v40, rfl, hR⟩ := hI
  obtain rfl := hR.e0 (hD 0 (by decide))
  obtain rfl := hR.e1 (hD 1 (by decide))
  obtain rfl := hR.e2 (hD 2 (by decide))
  obtain rfl := hR.e3 (hD 3 (by decide))
  obtain rfl := hR.e4 (hD 4 (by decide))
  obtain rfl := hR.e5 (hD 5 (by decide))
  obtain ⟨b8, rfl, l8, t8⟩ := hR.m6 (hD 6 (by decide))
  obtain ⟨b8', eb8, _, R8⟩ := hR.r8 (hD 8 (by decide))
  obtain rfl : b8 = b8' := by injection eb8 with eb8; injection eb8 with eb8; injection eb8
  clear eb8
  obtain ⟨b9, rfl, l9, t9⟩ := hR.m7 (hD 7 (by decide))
  have n1 : b8 ≠ b9 := fun e => hR.n6_7 (hD 6 (by decide)) (hD 7 (by decide)) (by rw [e])
  have RT4 := range_below hR.b z0 RT3
  have RX4 := range_below hR.b y1 r1
  have RF4 := range_below hR.b lF RF3
  have q0 := bthen e1 hR.b
  clear hD hR RT3 RF3 r1 e1
  simp only [List.drop_succ_cons, List.drop_zero]
  refine wpList_store_wide 27 (.tmp 9) (.tmp 40) rfl rfl b9 0 #[.bool true, .bool true, .int .u32 n', .int .u32 k, .int .i64 win] rfl rfl w.heap.size w info27 (by simp [Value.oneCell']) q0 (by omega) t9 ?_
  intro V q2 zz9 r9 x2 y9 j9
  clear zz9 y9 j9
  have SW : SdAt V b8 0 ⟨false, true, n, k, z⟩ := sd_at (x2 _ _ _ n1 R8)
  have SI : SdAt V b9 0 ⟨true, true, n', k, win⟩ := sd_at r9
  have ST := (trk_at (a := ⟨ps, pa, pn, pk, pz⟩) (b := ⟨false, true, n, k, z⟩) (B := w.heap.size) (W := V) (by rw [HT.out]; exact x2 _ _ _ (by omega) RT4)).1
  have SX := (trk_at (a := ⟨ps, pa, pn, pk, pz⟩) (b := ⟨true, true, n', k, win⟩) (B := X) (W := V) (by rw [HT'.out]; exact x2 _ _ _ (by omega) RX4)).1
  have RF := x2 _ _ _ (by omega) RF4
  have fw := fcell RF 11 _ HF.out.cwin
  have ff := fcell RF 6 _ HF.out.cflags
  obtain ⟨s0, s1, s2, s3, s4⟩ := SW
  obtain ⟨i0, i1, i2, i3, i4⟩ := SI
  obtain ⟨t0, t1, t2, t3, t4⟩ := ST
  obtain ⟨g0, g1, g2, g3, g4⟩ := SX
  simp only [Nat.zero_add, Nat.reduceAdd] at s0 s1 s2 s3 s4 i0 i1 i2 i3 i4 t0 t1 t2 t3 t4 g0 g1 g2 g3 g4
  clear q0 x2 R8 r9 t8 t9 RT4 RX4 RF4 RF y1 y2 z0 l8 l9 lF
  have hw1 : IntKind.u8.wrap 0 = 0 := by kernel_rfl
  go_wp2_with fail
  go_quiet (fail)
  clear hw1
  go_wp2_with fail
  refine (after_is k k false _ hk hk hak.out).mono ?_
  rintro e w' ⟨rfl, rfl⟩
  go_wp2_with fail
  go_ret
  exact ⟨by first | rfl | simp, below_drewN q2 _⟩
structure On1011 (w1 : World) (w : World) (X : Nat) (n k z n' kk win : Int) (D : Nat → Prop) (v8 v9 v35 v36 v37 v38 v39 v40 : Value) (w' : World) : Prop where
  b : Below w1.heap.size w1 w'
  e0 : D 0 → v35 = .int .u8 1
  e1 : D 1 → v36 = .pointer (some ⟨w.heap.size, 5, none⟩)
  e2 : D 2 → v37 = .agg #[.bool false, .bool true, .int .u32 n, .int .u32 k, .int .i64 z]
  e3 : D 3 → v38 = .int .u8 1
  e4 : D 4 → v39 = .pointer (some ⟨X, 5, none⟩)
  e5 : D 5 → v40 = .agg #[.bool true, .bool true, .int .u32 n', .int .u32 kk, .int .i64 win]
  m6 : D 6 → Made w1.heap.size 5 v8 w'
  m7 : D 7 → Made w1.heap.size 5 v9 w'
  n6_7 : D 6 → D 7 → v8 ≠ v9
  r8 : D 8 → ∃ b, v8 = .pointer (some ⟨b, 0, none⟩) ∧ b < w'.heap.size ∧ w'.rangeAt b 0 #[.bool false, .bool true, .int .u32 n, .int .u32 k, .int .i64 z].toList
  o8 : D 8 → D 6
theorem On1011.s0 {w1 : World} {w : World} {X : Nat} {n k z n' kk win : Int} {D : Nat → Prop} {v8 v9 v35 v36 v37 v38 v39 v40 : Value} {w' w'' : World} (h : On1011 w1 w X n k z n' kk win D v8 v9 v35 v36 v37 v38 v39 v40 w') (hb : Below w'.heap.size w' w'') : On1011 w1 w X n k z n' kk win (fun j => D j ∨ j = 0) v8 v9 (.int .u8 1) v36 v37 v38 v39 v40 w'' :=
  ⟨bthen h.b hb, fun _ => rfl, or_keep h.e1 (by decide), or_keep h.e2 (by decide), or_keep h.e3 (by decide), or_keep h.e4 (by decide), or_keep h.e5 (by decide), or_keep (fun hd => (h.m6 hd).below hb) (by decide), or_keep (fun hd => (h.m7 hd).below hb) (by decide), or_keep2 h.n6_7 (by decide) (by decide), or_keep (fun hd => by obtain ⟨b, e, hl, hr⟩ := h.r8 hd; exact ⟨b, e, Nat.lt_of_lt_of_le hl hb.size, rangeAt_below hb hl hr⟩) (by decide), fun hd => .inl (h.o8 (hd.resolve_right (by decide)))⟩
theorem On1011.s1 {w1 : World} {w : World} {X : Nat} {n k z n' kk win : Int} {D : Nat → Prop} {v8 v9 v35 v36 v37 v38 v39 v40 : Value} {w' w'' : World} (h : On1011 w1 w X n k z n' kk win D v8 v9 v35 v36 v37 v38 v39 v40 w') (hb : Below w'.heap.size w' w'') : On1011 w1 w X n k z n' kk win (fun j => D j ∨ j = 1) v8 v9 v35 (.pointer (some ⟨w.heap.size, 5, none⟩)) v37 v38 v39 v40 w'' :=
  ⟨bthen h.b hb, or_keep h.e0 (by decide), fun _ => rfl, or_keep h.e2 (by decide), or_keep h.e3 (by decide), or_keep h.e4 (by decide), or_keep h.e5 (by decide), or_keep (fun hd => (h.m6 hd).below hb) (by decide), or_keep (fun hd => (h.m7 hd).below hb) (by decide), or_keep2 h.n6_7 (by decide) (by decide), or_keep (fun hd => by obtain ⟨b, e, hl, hr⟩ := h.r8 hd; exact ⟨b, e, Nat.lt_of_lt_of_le hl hb.size, rangeAt_below hb hl hr⟩) (by decide), fun hd => .inl (h.o8 (hd.resolve_right (by decide)))⟩
theorem On1011.s2 {w1 : World} {w : World} {X : Nat} {n k z n' kk win : Int} {D : Nat → Prop} {v8 v9 v35 v36 v37 v38 v39 v40 : Value} {w' w'' : World} (h : On1011 w1 w X n k z n' kk win D v8 v9 v35 v36 v37 v38 v39 v40 w') (hb : Below w'.heap.size w' w'') : On1011 w1 w X n k z n' kk win (fun j => D j ∨ j = 2) v8 v9 v35 v36 (.agg #[.bool false, .bool true, .int .u32 n, .int .u32 k, .int .i64 z]) v38 v39 v40 w'' :=
  ⟨bthen h.b hb, or_keep h.e0 (by decide), or_keep h.e1 (by decide), fun _ => rfl, or_keep h.e3 (by decide), or_keep h.e4 (by decide), or_keep h.e5 (by decide), or_keep (fun hd => (h.m6 hd).below hb) (by decide), or_keep (fun hd => (h.m7 hd).below hb) (by decide), or_keep2 h.n6_7 (by decide) (by decide), or_keep (fun hd => by obtain ⟨b, e, hl, hr⟩ := h.r8 hd; exact ⟨b, e, Nat.lt_of_lt_of_le hl hb.size, rangeAt_below hb hl hr⟩) (by decide), fun hd => .inl (h.o8 (hd.resolve_right (by decide)))⟩
theorem On1011.s3 {w1 : World} {w : World} {X : Nat} {n k z n' kk win : Int} {D : Nat → Prop} {v8 v9 v35 v36 v37 v38 v39 v40 : Value} {w' w'' : World} (h : On1011 w1 w X n k z n' kk win D v8 v9 v35 v36 v37 v38 v39 v40 w') (hb : Below w'.heap.size w' w'') : On1011 w1 w X n k z n' kk win (fun j => D j ∨ j = 3) v8 v9 v35 v36 v37 (.int .u8 1) v39 v40 w'' :=
  ⟨bthen h.b hb, or_keep h.e0 (by decide), or_keep h.e1 (by decide), or_keep h.e2 (by decide), fun _ => rfl, or_keep h.e4 (by decide), or_keep h.e5 (by decide), or_keep (fun hd => (h.m6 hd).below hb) (by decide), or_keep (fun hd => (h.m7 hd).below hb) (by decide), or_keep2 h.n6_7 (by decide) (by decide), or_keep (fun hd => by obtain ⟨b, e, hl, hr⟩ := h.r8 hd; exact ⟨b, e, Nat.lt_of_lt_of_le hl hb.size, rangeAt_below hb hl hr⟩) (by decide), fun hd => .inl (h.o8 (hd.resolve_right (by decide)))⟩
theorem On1011.s4 {w1 : World} {w : World} {X : Nat} {n k z n' kk win : Int} {D : Nat → Prop} {v8 v9 v35 v36 v37 v38 v39 v40 : Value} {w' w'' : World} (h : On1011 w1 w X n k z n' kk win D v8 v9 v35 v36 v37 v38 v39 v40 w') (hb : Below w'.heap.size w' w'') : On1011 w1 w X n k z n' kk win (fun j => D j ∨ j = 4) v8 v9 v35 v36 v37 v38 (.pointer (some ⟨X, 5, none⟩)) v40 w'' :=
  ⟨bthen h.b hb, or_keep h.e0 (by decide), or_keep h.e1 (by decide), or_keep h.e2 (by decide), or_keep h.e3 (by decide), fun _ => rfl, or_keep h.e5 (by decide), or_keep (fun hd => (h.m6 hd).below hb) (by decide), or_keep (fun hd => (h.m7 hd).below hb) (by decide), or_keep2 h.n6_7 (by decide) (by decide), or_keep (fun hd => by obtain ⟨b, e, hl, hr⟩ := h.r8 hd; exact ⟨b, e, Nat.lt_of_lt_of_le hl hb.size, rangeAt_below hb hl hr⟩) (by decide), fun hd => .inl (h.o8 (hd.resolve_right (by decide)))⟩
theorem On1011.s5 {w1 : World} {w : World} {X : Nat} {n k z n' kk win : Int} {D : Nat → Prop} {v8 v9 v35 v36 v37 v38 v39 v40 : Value} {w' w'' : World} (h : On1011 w1 w X n k z n' kk win D v8 v9 v35 v36 v37 v38 v39 v40 w') (hb : Below w'.heap.size w' w'') : On1011 w1 w X n k z n' kk win (fun j => D j ∨ j = 5) v8 v9 v35 v36 v37 v38 v39 (.agg #[.bool true, .bool true, .int .u32 n', .int .u32 kk, .int .i64 win]) w'' :=
  ⟨bthen h.b hb, or_keep h.e0 (by decide), or_keep h.e1 (by decide), or_keep h.e2 (by decide), or_keep h.e3 (by decide), or_keep h.e4 (by decide), fun _ => rfl, or_keep (fun hd => (h.m6 hd).below hb) (by decide), or_keep (fun hd => (h.m7 hd).below hb) (by decide), or_keep2 h.n6_7 (by decide) (by decide), or_keep (fun hd => by obtain ⟨b, e, hl, hr⟩ := h.r8 hd; exact ⟨b, e, Nat.lt_of_lt_of_le hl hb.size, rangeAt_below hb hl hr⟩) (by decide), fun hd => .inl (h.o8 (hd.resolve_right (by decide)))⟩
theorem On1011.s6 {w1 : World} {w : World} {X : Nat} {n k z n' kk win : Int} {D : Nat → Prop} {v8 v9 v35 v36 v37 v38 v39 v40 : Value} {w' w'' : World} (h : On1011 w1 w X n k z n' kk win D v8 v9 v35 v36 v37 v38 v39 v40 w') (hb : Below w'.heap.size w' w'') (hm : Made w1.heap.size 5 (.pointer (some ⟨w'.heap.size, 0, none⟩)) w'') (hn : ¬ D 6) : On1011 w1 w X n k z n' kk win (fun j => D j ∨ j = 6) ((.pointer (some ⟨w'.heap.size, 0, none⟩))) v9 v35 v36 v37 v38 v39 v40 w'' :=
  ⟨bthen h.b hb, or_keep h.e0 (by decide), or_keep h.e1 (by decide), or_keep h.e2 (by decide), or_keep h.e3 (by decide), or_keep h.e4 (by decide), or_keep h.e5 (by decide), fun _ => hm, or_keep (fun hd => (h.m7 hd).below hb) (by decide), fun _ hd => ((h.m7 (hd.resolve_right (by decide))).ne).symm, fun hd => absurd (h.o8 (hd.resolve_right (by decide))) hn, fun _ => .inr rfl⟩
theorem On1011.s7 {w1 : World} {w : World} {X : Nat} {n k z n' kk win : Int} {D : Nat → Prop} {v8 v9 v35 v36 v37 v38 v39 v40 : Value} {w' w'' : World} (h : On1011 w1 w X n k z n' kk win D v8 v9 v35 v36 v37 v38 v39 v40 w') (hb : Below w'.heap.size w' w'') (hm : Made w1.heap.size 5 (.pointer (some ⟨w'.heap.size, 0, none⟩)) w'') : On1011 w1 w X n k z n' kk win (fun j => D j ∨ j = 7) v8 ((.pointer (some ⟨w'.heap.size, 0, none⟩))) v35 v36 v37 v38 v39 v40 w'' :=
  ⟨bthen h.b hb, or_keep h.e0 (by decide), or_keep h.e1 (by decide), or_keep h.e2 (by decide), or_keep h.e3 (by decide), or_keep h.e4 (by decide), or_keep h.e5 (by decide), or_keep (fun hd => (h.m6 hd).below hb) (by decide), fun _ => hm, fun hd _ => (h.m6 (hd.resolve_right (by decide))).ne, or_keep (fun hd => by obtain ⟨b, e, hl, hr⟩ := h.r8 hd; exact ⟨b, e, Nat.lt_of_lt_of_le hl hb.size, rangeAt_below hb hl hr⟩) (by decide), fun hd => .inl (h.o8 (hd.resolve_right (by decide)))⟩
theorem On1011.s8 {w1 : World} {w : World} {X : Nat} {n k z n' kk win : Int} {D : Nat → Prop} {v8 v9 v35 v36 v37 v38 v39 v40 : Value} {w' w'' : World} (h : On1011 w1 w X n k z n' kk win D v8 v9 v35 v36 v37 v38 v39 v40 w') (hm : D 6) (hB : Below w1.heap.size w1 w'') (hth : ∀ b o n, w'.there b o n → w''.there b o n) (hr : ∃ b, v8 = .pointer (some ⟨b, 0, none⟩) ∧ b < w''.heap.size ∧ w''.rangeAt b 0 #[.bool false, .bool true, .int .u32 n, .int .u32 k, .int .i64 z].toList) : On1011 w1 w X n k z n' kk win (fun j => D j ∨ j = 8) v8 v9 v35 v36 v37 v38 v39 v40 w'' :=
  ⟨hB, or_keep h.e0 (by decide), or_keep h.e1 (by decide), or_keep h.e2 (by decide), or_keep h.e3 (by decide), or_keep h.e4 (by decide), or_keep h.e5 (by decide), or_keep (fun hd => by obtain ⟨b, e, hl, ht⟩ := h.m6 hd; exact ⟨b, e, hl, hth _ _ _ ht⟩) (by decide), or_keep (fun hd => by obtain ⟨b, e, hl, ht⟩ := h.m7 hd; exact ⟨b, e, hl, hth _ _ _ ht⟩) (by decide), or_keep2 h.n6_7 (by decide) (by decide), fun _ => hr, fun _ => .inl hm⟩
theorem On1011.zero (w1 : World) (w : World) (X : Nat) (n k z n' kk win : Int) (v8 v9 v35 v36 v37 v38 v39 v40 : Value) : On1011 w1 w X n k z n' kk win (fun _ => False) v8 v9 v35 v36 v37 v38 v39 v40 w1.drew :=
  ⟨(Below.refl _ _).drew, fun h => h.elim, fun h => h.elim, fun h => h.elim, fun h => h.elim, fun h => h.elim, fun h => h.elim, fun h => h.elim, fun h => h.elim, fun h => h.elim, fun h => h.elim, fun h => h.elim⟩

set_option maxRecDepth 100000 in
set_option maxHeartbeats 4000000 in
theorem one_1011 (ps pa : Bool) (n k z pn pk pz n' kk : Int) (F : Array Value) (flags seq ack win len : Int) (T T' : Array Value) (w : World) (HT : Hid (trk ⟨ps, pa, pn, pk, pz⟩ ⟨false, true, n, k, z⟩ = T)) (HT' : Hid (trk ⟨ps, pa, pn, pk, pz⟩ ⟨true, true, n', kk, win⟩ = T')) (HF : Hid (Fa F flags seq ack win len)) (HS : Hid (∀ W, Calls Try.prog 14 #[.agg T, .int .u8 1, .agg F] W fun e w' => e = .returned (.agg T') ∧ Below W.heap.size W w'))
    (hfb : (bits .and .u8 flags 16 != 0) = true) (hn : 0 ≤ n ∧ n ≤ 4294967295) (hn' : 0 ≤ n' ∧ n' ≤ 4294967295) (hk : 0 ≤ k ∧ k ≤ 4294967295) (hkk : 0 ≤ kk ∧ kk ≤ 4294967295) (hak : Hid (aft k kk = false)) :
    Calls Try.prog 10 #[.agg T, .int .u8 1, .agg F] w fun e w' => e = .returned (.bool true) ∧ Below w.heap.size w w' := by
  have HI : Hid ((Try.prog.info? 29).map (·.size) = some T.toList.length) := by rw [← HT.out]; exact info29
  have HI' : Hid ((Try.prog.info? 29).map (·.size) = some T'.size) := by rw [← HT'.out]; exact info29
  have HO' : Hid (T'.all (·.oneCell') = true) := by rw [← HT'.out]; exact trk_one _ _
  have HZ' : Hid (T'.size = 10) := by rw [← HT'.out]; rfl
  have HI2 : Hid ((Try.prog.info? 29).map (·.size) = some T'.toList.length) := by rw [← HT'.out]; exact info29
  have HJ := Lib.hid HF.out.hi
  go_enter Try.func10, Try.ntmps10
  go_wp2_with fail
  refine (awake_any _).mono ?_
  rintro e w1 ⟨rfl, hb⟩
  have RT1 : w1.rangeAt w.heap.size 0 T.toList := range_below hb (by simp; omega) (World.rangeAt_alloc (range_new w T 29) _)
  have RF1 : w1.rangeAt (w.heap.size + 1) 0 F.toList := range_below hb (by simp) (range_new' _ F 34 _ (by simp))
  have d1 : Below w.heap.size w w1 := bthen (by (repeat' (first | exact Below.refl _ _ | refine Below.setCell ?_ (by first | omega | (simp; done) | (simp; omega)) _ | refine Below.alloc ?_ (by first | omega | (simp; done) | (simp; omega)) _))) hb
  have l1 : w.heap.size + 1 < w1.heap.size := by have := hb.size; simp at this; omega
  clear hb
  go_wp2_with (first | (refine wpList_load_wide 29 (.tmp 3) rfl (by rfl) w.heap.size 0 rfl T _ Try.underlying29 rfl HI.out ?_ ?_; · (repeat (first | with_reducible exact RT1 | refine World.rangeAt_alloc ?_ _))) | (refine wpList_load_wide 34 (.tmp 5) rfl (by rfl) (w.heap.size + 1) 0 rfl F _ Try.underlying34 rfl HJ.out ?_ ?_; · (repeat (first | with_reducible exact RF1 | refine World.rangeAt_alloc ?_ _))))
  refine (HS.out _ : _).mono ?_
  rintro e w2 ⟨rfl, hb⟩
  have d2 := bthen d1 hb
  have RT2 := range_below hb (by omega) RT1
  have RF2 := range_below hb l1 RF1
  have l2 : w.heap.size + 1 < w2.heap.size := Nat.lt_of_lt_of_le l1 hb.size
  have k2 := d2.size
  clear hb RT1 RF1 d1 l1
  go_wp2_with (refine wpList_store_wide 29 (.tmp 7) (.tmp 15) rfl rfl w2.heap.size 0 T' rfl rfl w.heap.size w HI'.out HO'.out (d2.alloc k2 _) k2 (there_new _ _ _ _ _ rfl ?_) ?_; (· (rw [HZ'.out]; rfl)); intro v1 e1 z1 r1 x1 j1 j2; clear j1 j2; have RT3 := x1 _ _ _ (by omega) (World.rangeAt_alloc RT2 _); have RF3 := x1 _ _ _ (by omega) (World.rangeAt_alloc RF2 _); have y1 : w2.heap.size < v1.heap.size := (by rw [z1]; simp); have y2 : w.heap.size ≤ v1.heap.size := e1.size; clear x1 z1)
  have lF : w.heap.size + 1 < v1.heap.size := by omega
  have z0 : w.heap.size < v1.heap.size := cell_lt (trk_at (by rw [HT.out]; exact RT3)).1.c0
  clear RT2 RF2 l2 d2 k2
  obtain ⟨X, hX⟩ : ∃ X, w2.heap.size = X := ⟨_, rfl⟩
  rw [hX] at r1 y1 ⊢
  clear hX
  refine wp_region_steps 9 [[], [0], [1], [], [3], [4], [], [], [6, 2]] (fun D a w' => ∃ v8 v9 v35 v36 v37 v38 v39 v40 : Value, a = ⟨#[.agg T, .int .u8 1, .agg F, .pointer (some ⟨w.heap.size, 0, none⟩), undef, .pointer (some ⟨w.heap.size + 1, 0, none⟩), .bool false, .pointer (some ⟨X, 0, none⟩), v8, v9, .bool true, .bool false, .agg T, .int .u8 1, .agg F, .agg T', .int .u8 1, .bool false, undef, undef, undef, undef, undef, undef, undef, undef, undef, undef, undef, undef, undef, undef, undef, undef, undef, v35, v36, v37, v38, v39, v40, undef, undef, undef, undef, undef, undef, undef, undef, undef, undef, undef, undef, undef, undef, undef, undef, undef, undef, undef, undef, undef, undef, undef, undef, undef, undef, undef, undef, undef, undef, undef, undef, undef, undef, undef, undef, undef, undef, undef, undef, undef, undef, undef, undef, undef, undef, undef, undef, undef, undef, undef, undef, undef, undef, undef, undef, undef, undef, undef, undef, undef, undef, undef, undef, undef, undef, undef, undef, undef], []⟩ ∧ On1011 v1 w X n k z n' kk win D v8 v9 v35 v36 v37 v38 v39 v40 w') (by kernel_rfl) (by kernel_rfl) ⟨undef, undef, undef, undef, undef, undef, undef, undef, rfl, On1011.zero v1 w X n k z n' kk win (undef) (undef) (undef) (undef) (undef) (undef) (undef) (undef)⟩ ?_ ?_
  · simp only [List.take_succ_cons, List.take_zero]
    refine ⟨?_, ?_, ?_, ?_, ?_, ?_, ?_, ?_, ?_, trivial⟩
    · intro D a w' hn_ hp hI
      obtain ⟨v8, v9, v35, v36, v37, v38, v39, v40, rfl, hR⟩ := hI
      clear hn_ hp
      go_wp2_with fail
      exact ⟨_, _, _, _, _, _, _, _, rfl, hR.s0 (Below.refl _ _)⟩
    · intro D a w' hn_ hp hI
      obtain ⟨v8, v9, v35, v36, v37, v38, v39, v40, rfl, hR⟩ := hI
      obtain rfl := hR.e0 hp.1
      clear hn_ hp
      go_wp2_with fail
      exact ⟨_, _, _, _, _, _, _, _, rfl, hR.s1 (Below.refl _ _)⟩
    · intro D a w' hn_ hp hI
      obtain ⟨v8, v9, v35, v36, v37, v38, v39, v40, rfl, hR⟩ := hI
      obtain rfl := hR.e1 hp.1
      obtain ⟨c0, c1, c2, c3, c4⟩ := (trk_at (by rw [HT.out]; exact range_below hR.b z0 RT3)).2
      simp only [Nat.zero_add, Nat.reduceAdd] at c0 c1 c2 c3 c4
      clear hn_ hp
      go_wp2_with fail
      exact ⟨_, _, _, _, _, _, _, _, rfl, hR.s2 (Below.refl _ _)⟩
    · intro D a w' hn_ hp hI
      obtain ⟨v8, v9, v35, v36, v37, v38, v39, v40, rfl, hR⟩ := hI
      clear hn_ hp
      go_wp2_with fail
      exact ⟨_, _, _, _, _, _, _, _, rfl, hR.s3 (Below.refl _ _)⟩
    · intro D a w' hn_ hp hI
      obtain ⟨v8, v9, v35, v36, v37, v38, v39, v40, rfl, hR⟩ := hI
      obtain rfl := hR.e3 hp.1
      clear hn_ hp
      go_wp2_with fail
      exact ⟨_, _, _, _, _, _, _, _, rfl, hR.s4 (Below.refl _ _)⟩
    · intro D a w' hn_ hp hI
      obtain ⟨v8, v9, v35, v36, v37, v38, v39, v40, rfl, hR⟩ := hI
      obtain rfl := hR.e4 hp.1
      obtain ⟨c0, c1, c2, c3, c4⟩ := (trk_at (by rw [HT'.out]; exact range_below hR.b y1 r1)).2
      simp only [Nat.zero_add, Nat.reduceAdd] at c0 c1 c2 c3 c4
      clear hn_ hp
      go_wp2_with fail
      exact ⟨_, _, _, _, _, _, _, _, rfl, hR.s5 (Below.refl _ _)⟩
    · intro D a w' hn_ hp hI
      obtain ⟨v8, v9, v35, v36, v37, v38, v39, v40, rfl, hR⟩ := hI
      clear hp
      go_wp2_with fail
      exact ⟨_, _, _, _, _, _, _, _, rfl, hR.s6 ((Below.refl _ _).alloc (Nat.le_refl _) _) ⟨_, rfl, hR.b.size, there_new _ _ _ _ _ rfl rfl⟩ hn_⟩
    · intro D a w' hn_ hp hI
      obtain ⟨v8, v9, v35, v36, v37, v38, v39, v40, rfl, hR⟩ := hI
      clear hn_ hp
      go_wp2_with fail
      exact ⟨_, _, _, _, _, _, _, _, rfl, hR.s7 ((Below.refl _ _).alloc (Nat.le_refl _) _) ⟨_, rfl, hR.b.size, there_new _ _ _ _ _ rfl rfl⟩⟩
    · intro D a w' hn_ hp hI
      obtain ⟨v8, v9, v35, v36, v37, v38, v39, v40, rfl, hR⟩ := hI
      obtain ⟨b8, rfl, l8, t8⟩ := hR.m6 hp.1
      obtain rfl := hR.e2 hp.2.1
      have hlt8 := there_lt t8
      refine wpList_store_wide 27 (.tmp 8) (.tmp 37) rfl rfl b8 0 #[.bool false, .bool true, .int .u32 n, .int .u32 k, .int .i64 z] rfl rfl v1.heap.size v1 info27 (by simp [Value.oneCell']) hR.b (by omega) t8 ?_
      intro u1 q1 zz r8 x1 y8 j1
      exact ⟨_, _, _, _, _, _, _, _, rfl, hR.s8 hp.1 q1 y8 ⟨b8, rfl, by rw [zz]; exact hlt8, r8⟩⟩
  intro D a w' hD hI
  obtain ⟨v8, v9, v35, v36, v37, v38, v39, v40, rfl, hR⟩ := hI
  obtain rfl := hR.e0 (hD 0 (by decide))
  obtain rfl := hR.e1 (hD 1 (by decide))
  obtain rfl := hR.e2 (hD 2 (by decide))
  obtain rfl := hR.e3 (hD 3 (by decide))
  obtain rfl := hR.e4 (hD 4 (by decide))
  obtain rfl := hR.e5 (hD 5 (by decide))
  obtain ⟨b8, rfl, l8, t8⟩ := hR.m6 (hD 6 (by decide))
  obtain ⟨b8', eb8, _, R8⟩ := hR.r8 (hD 8 (by decide))
  obtain rfl : b8 = b8' := by injection eb8 with eb8; injection eb8 with eb8; injection eb8
  clear eb8
  obtain ⟨b9, rfl, l9, t9⟩ := hR.m7 (hD 7 (by decide))
  have n1 : b8 ≠ b9 := fun e => hR.n6_7 (hD 6 (by decide)) (hD 7 (by decide)) (by rw [e])
  have RT4 := range_below hR.b z0 RT3
  have RX4 := range_below hR.b y1 r1
  have RF4 := range_below hR.b lF RF3
  have q0 := bthen e1 hR.b
  clear hD hR RT3 RF3 r1 e1
  simp only [List.drop_succ_cons, List.drop_zero]
  refine wpList_store_wide 27 (.tmp 9) (.tmp 40) rfl rfl b9 0 #[.bool true, .bool true, .int .u32 n', .int .u32 kk, .int .i64 win] rfl rfl w.heap.size w info27 (by simp [Value.oneCell']) q0 (by omega) t9 ?_
  intro V q2 zz9 r9 x2 y9 j9
  clear zz9 y9 j9
  have SW : SdAt V b8 0 ⟨false, true, n, k, z⟩ := sd_at (x2 _ _ _ n1 R8)
  have SI : SdAt V b9 0 ⟨true, true, n', kk, win⟩ := sd_at r9
  have ST := (trk_at (a := ⟨ps, pa, pn, pk, pz⟩) (b := ⟨false, true, n, k, z⟩) (B := w.heap.size) (W := V) (by rw [HT.out]; exact x2 _ _ _ (by omega) RT4)).1
  have SX := (trk_at (a := ⟨ps, pa, pn, pk, pz⟩) (b := ⟨true, true, n', kk, win⟩) (B := X) (W := V) (by rw [HT'.out]; exact x2 _ _ _ (by omega) RX4)).1
  have RF := x2 _ _ _ (by omega) RF4
  have fw := fcell RF 11 _ HF.out.cwin
  have ff := fcell RF 6 _ HF.out.cflags
  obtain ⟨s0, s1, s2, s3, s4⟩ := SW
  obtain ⟨i0, i1, i2, i3, i4⟩ := SI
  obtain ⟨t0, t1, t2, t3, t4⟩ := ST
  obtain ⟨g0, g1, g2, g3, g4⟩ := SX
  simp only [Nat.zero_add, Nat.reduceAdd] at s0 s1 s2 s3 s4 i0 i1 i2 i3 i4 t0 t1 t2 t3 t4 g0 g1 g2 g3 g4
  clear q0 x2 R8 r9 t8 t9 RT4 RX4 RF4 RF y1 y2 z0 l8 l9 lF
  have hw1 : IntKind.u8.wrap 0 = 0 := by kernel_rfl
  go_wp2_with fail
  go_quiet (fail)
  clear hw1
  go_wp2_with fail
  refine (after_is k kk false _ hk hkk hak.out).mono ?_
  rintro e w' ⟨rfl, rfl⟩
  go_wp2_with fail
  go_ret
  exact ⟨by first | rfl | simp, below_drewN q2 _⟩

end Go.Proofs.Ytchephpmkommfaa

/-
  The contract of tells: it returns true. Conditions: the numbers lie in their types' ranges.
-/
import Derived.Test.YtchephpmkommfaaRefB
import Derived.Test.YtchephpmkommfaaRefC
import Derived.Test.YtchephpmkommfaaRefD
import Derived.Test.YtchephpmkommfaaInv
namespace Go.Proofs.Ytchephpmkommfaa
open Go.RowKit
set_option linter.unusedVariables false
set_option linter.unusedSimpArgs false

theorem info60x : (Try.prog.info? 60).map (fun i => (i.size)) = some 5 := by kernel_rfl
theorem cells60 : Try.prog.cellsOf 60 = 5 := by kernel_rfl
set_option maxHeartbeats 1000000 in
theorem rtrk_eql (a b : Sd) (W : World) : (binOp .eql 62 (.agg (rtrk a b)) (.agg (rtrk a b))).run Try.prog W = .ok (.bool true) W := by
  obtain ⟨s1, s2, s3, s4, s5⟩ := a
  obtain ⟨t1, t2, t3, t4, t5⟩ := b
  rw [run_eql_struct]
  show ((Op.equalIn 10000 62 (.agg #[.bool s1, .bool s2, .int .i64 s3, .int .i64 s4, .int .i64 s5, .bool t1, .bool t2, .int .i64 t3, .int .i64 t4, .int .i64 t5]) (.agg #[.bool s1, .bool s2, .int .i64 s3, .int .i64 s4, .int .i64 s5, .bool t1, .bool t2, .int .i64 t3, .int .i64 t4, .int .i64 t5])).run Try.prog W).andThen _ = _
  go_simp
/-- What the done operations of a region have left: operation i the value val i, in g i. -/
structure Iv (w1 : World) (val : Nat → Value) (D : Nat → Prop) (g : Nat → Value) (w' : World) : Prop where
  b : Below w1.heap.size w1 w'
  e : ∀ i, D i → g i = val i
theorem Iv.step {w1 w' w'' : World} {val g : Nat → Value} {D : Nat → Prop} (h : Iv w1 val D g w') (i : Nat) (x : Value) (hx : x = val i) (hb : Below w'.heap.size w' w'') : Iv w1 val (fun j => D j ∨ j = i) (fun j => if j = i then x else g j) w'' :=
  ⟨bthen h.b hb, fun j hj => by
    show (if j = i then x else g j) = val j
    by_cases hji : j = i
    · rw [if_pos hji, hx, hji]
    · rw [if_neg hji]
      exact h.e j (hj.resolve_right hji)⟩
theorem Iv.zero (w1 : World) (val g : Nat → Value) : Iv w1 val (fun _ => False) g w1.drew := ⟨(Below.refl _ _).drew, fun _ h => h.elim⟩
def tvals (T FA RT T2 R2 : Array Value) (d na nb rm : Int) (bt be fi : Bool) : List Value := [.int .u32 na, .int .u32 nb, .bool bt, .int .u32 na, .int .i64 na, .int .u32 nb, .int .i64 nb, .bool bt, .bool true, .bool true, .agg FA, .int .u32 rm, .int .i64 rm, .agg FA, .int .i64 rm, .bool true, .bool true, .bool true, .agg T, .int .u8 d, .agg FA, .agg T2, .agg R2, .agg RT, .int .u8 d, .agg FA, .agg R2, .bool true, .bool true, .bool true, .agg T, .int .u8 d, .agg FA, .bool be, .agg RT, .int .u8 d, .agg FA, .bool be, .bool true, .bool true, .bool true, .agg T, .int .u8 d, .agg FA, .bool fi, .agg RT, .int .u8 d, .agg FA, .bool fi, .bool true, .bool true]

theorem nxt_range (k : Bool) (n to : Int) (hn : 0 ≤ n ∧ n ≤ 4294967295) (ht : 0 ≤ to ∧ to ≤ 4294967295) : 0 ≤ nxt k n to ∧ nxt k n to ≤ 4294967295 := by
  unfold nxt
  split
  · exact ht
  · exact hn
theorem seeS_wf (s : Sd) (flags seq ack win len : Int) (hs : s.wf) (ha : 0 ≤ ack ∧ ack ≤ 4294967295) : (seeS s flags seq ack win len).wf := by
  refine ⟨nxt_range _ _ _ hs.1 (by omega), ?_⟩
  unfold seeS
  dsimp only
  split
  · exact nxt_range _ _ _ hs.2 ha
  · exact hs.2
set_option maxRecDepth 100000 in
set_option maxHeartbeats 16000000 in
theorem tells_core (T FA RT T2 R2 : Array Value) (d na nb rm : Int) (bt be fi : Bool) (w : World) (ha : 0 ≤ na ∧ na ≤ 4294967295) (hb : 0 ≤ nb ∧ nb ≤ 4294967295) (hrm : 0 ≤ rm ∧ rm ≤ 4294967295) (hT : Hid (T.size = 10)) (hFA : Hid (FA.size = 19)) (hR0 : Hid (RT.size = 10)) (hRo : Hid (RT.all (·.oneCell') = true))
    (H20a : Hid (∀ W, Calls Try.prog 20 #[.agg T] W fun e w' => e = .returned (.agg RT) ∧ Below W.heap.size W w'))
    (H12 : Hid (∀ W, Calls Try.prog 12 #[.int .u32 na, .int .u32 nb] W fun e w' => e = .returned (.bool bt) ∧ Below W.heap.size W w')) (H21 : Hid (∀ W, Calls Try.prog 21 #[.int .i64 na, .int .i64 nb] W fun e w' => e = .returned (.bool bt) ∧ Below W.heap.size W w')) (H18 : Hid (∀ W, Calls Try.prog 18 #[.agg FA] W fun e w' => e = .returned (.int .u32 rm) ∧ Below W.heap.size W w')) (H22 : Hid (∀ W, Calls Try.prog 22 #[.agg FA] W fun e w' => e = .returned (.int .i64 rm) ∧ Below W.heap.size W w')) (H14 : Hid (∀ W, Calls Try.prog 14 #[.agg T, .int .u8 d, .agg FA] W fun e w' => e = .returned (.agg T2) ∧ Below W.heap.size W w')) (H20 : Hid (∀ W, Calls Try.prog 20 #[.agg T2] W fun e w' => e = .returned (.agg R2) ∧ Below W.heap.size W w')) (H23 : Hid (∀ W, Calls Try.prog 23 #[.agg RT, .int .u8 d, .agg FA] W fun e w' => e = .returned (.agg R2) ∧ Below W.heap.size W w')) (H16 : Hid (∀ W, Calls Try.prog 16 #[.agg T, .int .u8 d, .agg FA] W fun e w' => e = .returned (.bool be) ∧ Below W.heap.size W w')) (H24 : Hid (∀ W, Calls Try.prog 24 #[.agg RT, .int .u8 d, .agg FA] W fun e w' => e = .returned (.bool be) ∧ Below W.heap.size W w')) (H17 : Hid (∀ W, Calls Try.prog 17 #[.agg T, .int .u8 d, .agg FA] W fun e w' => e = .returned (.bool fi) ∧ Below W.heap.size W w')) (H25 : Hid (∀ W, Calls Try.prog 25 #[.agg RT, .int .u8 d, .agg FA] W fun e w' => e = .returned (.bool fi) ∧ Below W.heap.size W w')) (hEq : Hid (∀ W, (binOp .eql 62 (.agg R2) (.agg R2)).run Try.prog W = .ok (.bool true) W)) :
    Calls Try.prog 13 #[.agg T, .int .u8 d, .agg FA, .int .u32 na, .int .u32 nb] w fun e w' => e = .returned (.bool true) ∧ Below w.heap.size w w' := by
  have IT : Hid ((Try.prog.info? 29).map (·.size) = some T.toList.length) := by show _ = _; rw [info29, Array.length_toList, hT.out]
  have IF : Hid ((Try.prog.info? 34).map (·.size) = some FA.toList.length) := by show _ = _; rw [info34, Array.length_toList, hFA.out]
  have IR : Hid ((Try.prog.info? 62).map (·.size) = some RT.toList.length) := by show _ = _; rw [info62, Array.length_toList, hR0.out]
  have IR' : Hid ((Try.prog.info? 62).map (·.size) = some RT.size) := by show _ = _; rw [info62, hR0.out]
  go_enter Try.func13, Try.ntmps13
  go_wp2_with (refine wpList_load_wide 29 _ rfl (by rfl) _ _ rfl T _ Try.underlying29 rfl IT.out ?_ ?_; · (repeat (first | exact range_new _ _ _ | refine World.rangeAt_alloc ?_ _)))
  refine (H20a.out _).mono ?_
  rintro e w5 ⟨rfl, hb5⟩
  have R1 := range_below hb5 (b := w.heap.size) (o := 0) (cs := T.toList) (by simp; omega) (World.rangeAt_alloc (range_new w _ _) _)
  have R2' := range_below hb5 (b := w.heap.size + 1) (o := 0) (cs := FA.toList) (by simp) (range_new' _ _ _ _ (by simp))
  have bw : Below w.heap.size w w5 := bthen (by repeat' (first | exact Below.refl _ _ | refine below_drewN ?_ _ | refine Below.drew ?_ | refine Below.setCell ?_ (by first | omega | (simp; done) | (simp; omega)) _ | refine Below.alloc ?_ (by first | omega | (simp; done) | (simp; omega)) _)) hb5
  have hl : w.heap.size + 1 < w5.heap.size := Nat.lt_of_lt_of_le (by simp) hb5.size
  clear hb5
  go_wp2_with (refine wpList_store_wide 62 (.tmp 11) (.tmp 13) rfl rfl w5.heap.size 0 RT rfl rfl w.heap.size w IR'.out hRo.out ?_ (by omega) ?_ ?_; (· exact bw.alloc bw.size _); (· rw [hR0.out]; exact there_new _ _ _ _ _ rfl rfl); intro V dV zV RV kV tV cV; have r1 := kV _ _ _ (by omega) (World.rangeAt_alloc R1 _); have r2 := kV _ _ _ (by omega) (World.rangeAt_alloc R2' _); clear kV tV cV)
  have hv : w5.heap.size < V.heap.size := by rw [zV]; simp
  clear zV R1 R2' bw
  obtain ⟨p5, hp5⟩ : ∃ n, w.heap.size = n := ⟨_, rfl⟩
  obtain ⟨p7, hp7⟩ : ∃ n, p5 + 1 = n := ⟨_, rfl⟩
  obtain ⟨p11, hp11⟩ : ∃ n, w5.heap.size = n := ⟨_, rfl⟩
  rw [hp11] at RV hv hl
  rw [hp5] at r1 r2 hl dV
  rw [hp7] at r2 hl
  rw [hp11, hp5, hp7]
  have l5 : p5 < V.heap.size := by omega
  have l7 : p7 < V.heap.size := by omega
  have HR1 := Lib.hid r1
  have HR2 := Lib.hid r2
  have HRV := Lib.hid RV
  have HDV := Lib.hid dV
  clear r1 r2 RV dV hp7 hp11 hl
  refine wp_region_steps 51 [[], [], [0, 1], [], [3], [], [5], [4, 6], [2, 7], [8], [9], [9, 10], [9, 11], [9], [9, 13], [9, 12, 14], [9, 15], [16], [17], [17], [17], [17, 18, 19, 20], [17, 21], [17], [17], [17], [17, 23, 24, 25], [17, 22, 26], [17, 27], [28], [29], [29], [29], [29, 30, 31, 32], [29], [29], [29], [29, 34, 35, 36], [29, 33, 37], [29, 38], [39], [40], [40], [40], [40, 41, 42, 43], [40], [40], [40], [40, 45, 46, 47], [40, 44, 48], [40, 49]] (fun D a w' => ∃ g : Nat → Value, a = ⟨#[.agg T, .int .u8 d, .agg FA, .int .u32 na, .int .u32 nb, .pointer (some ⟨p5, 0, none⟩), undef, .pointer (some ⟨p7, 0, none⟩), undef, undef, .bool false, .pointer (some ⟨p11, 0, none⟩), .agg T, .agg RT, g 0, g 1, g 2, g 3, g 4, g 5, g 6, g 7, g 8, g 9, g 10, g 11, g 12, g 13, g 14, g 15, g 16, g 17, g 18, g 19, g 20, g 21, g 22, g 23, g 24, g 25, g 26, g 27, g 28, g 29, g 30, g 31, g 32, g 33, g 34, g 35, g 36, g 37, g 38, g 39, g 40, g 41, g 42, g 43, g 44, g 45, g 46, g 47, g 48, g 49, g 50], []⟩ ∧ Iv V (fun i => (tvals T FA RT T2 R2 d na nb rm bt be fi).getD i undef) D g w') (by kernel_rfl) (by kernel_rfl) ⟨fun _ => undef, rfl, Iv.zero V _ _⟩ ?_ ?_
  · simp only [List.take_succ_cons, List.take_zero]
    refine ⟨?_, ?_, ?_, ?_, ?_, ?_, ?_, ?_, ?_, ?_, ?_, ?_, ?_, ?_, ?_, ?_, ?_, ?_, ?_, ?_, ?_, ?_, ?_, ?_, ?_, ?_, ?_, ?_, ?_, ?_, ?_, ?_, ?_, ?_, ?_, ?_, ?_, ?_, ?_, ?_, ?_, ?_, ?_, ?_, ?_, ?_, ?_, ?_, ?_, ?_, ?_, trivial⟩
    · intro D a w' hn hp hI
      obtain ⟨g, rfl, hR⟩ := hI
      clear hn hp
      go_wp2_with fail
      exact ⟨fun j => if j = 0 then .int .u32 na else g j, by rfl, hR.step 0 _ rfl (Below.refl _ _)⟩
    · intro D a w' hn hp hI
      obtain ⟨g, rfl, hR⟩ := hI
      clear hn hp
      go_wp2_with fail
      exact ⟨fun j => if j = 1 then .int .u32 nb else g j, by rfl, hR.step 1 _ rfl (Below.refl _ _)⟩
    · intro D a w' hn hp hI
      obtain ⟨g, rfl, hR⟩ := hI
      have e0 : g 0 = .int .u32 na := hR.e 0 hp.1
      have e1 : g 1 = .int .u32 nb := hR.e 1 hp.2.1
      rw [e0, e1]
      clear hn hp
      go_wp2_with fail
      refine (H12.out _).mono ?_
      rintro e w'' ⟨rfl, hb9⟩
      go_wp2_with fail
      exact ⟨fun j => if j = 2 then .bool bt else g j, by simp [e0, e1], hR.step 2 _ rfl hb9⟩
    · intro D a w' hn hp hI
      obtain ⟨g, rfl, hR⟩ := hI
      clear hn hp
      go_wp2_with fail
      exact ⟨fun j => if j = 3 then .int .u32 na else g j, by rfl, hR.step 3 _ rfl (Below.refl _ _)⟩
    · intro D a w' hn hp hI
      obtain ⟨g, rfl, hR⟩ := hI
      have e3 : g 3 = .int .u32 na := hR.e 3 hp.1
      rw [e3]
      clear hn hp
      go_wp2_with fail
      exact ⟨fun j => if j = 4 then .int .i64 na else g j, by simp [e3], hR.step 4 _ rfl (Below.refl _ _)⟩
    · intro D a w' hn hp hI
      obtain ⟨g, rfl, hR⟩ := hI
      clear hn hp
      go_wp2_with fail
      exact ⟨fun j => if j = 5 then .int .u32 nb else g j, by rfl, hR.step 5 _ rfl (Below.refl _ _)⟩
    · intro D a w' hn hp hI
      obtain ⟨g, rfl, hR⟩ := hI
      have e5 : g 5 = .int .u32 nb := hR.e 5 hp.1
      rw [e5]
      clear hn hp
      go_wp2_with fail
      exact ⟨fun j => if j = 6 then .int .i64 nb else g j, by simp [e5], hR.step 6 _ rfl (Below.refl _ _)⟩
    · intro D a w' hn hp hI
      obtain ⟨g, rfl, hR⟩ := hI
      have e4 : g 4 = .int .i64 na := hR.e 4 hp.1
      have e6 : g 6 = .int .i64 nb := hR.e 6 hp.2.1
      rw [e4, e6]
      clear hn hp
      go_wp2_with fail
      refine (H21.out _).mono ?_
      rintro e w'' ⟨rfl, hb9⟩
      go_wp2_with fail
      exact ⟨fun j => if j = 7 then .bool bt else g j, by simp [e4, e6], hR.step 7 _ rfl hb9⟩
    · intro D a w' hn hp hI
      obtain ⟨g, rfl, hR⟩ := hI
      have e2 : g 2 = .bool bt := hR.e 2 hp.1
      have e7 : g 7 = .bool bt := hR.e 7 hp.2.1
      rw [e2, e7]
      clear hn hp
      go_wp2_with fail
      exact ⟨fun j => if j = 8 then .bool true else g j, by simp [e2, e7], hR.step 8 _ rfl (Below.refl _ _)⟩
    · intro D a w' hn hp hI
      obtain ⟨g, rfl, hR⟩ := hI
      have e8 : g 8 = .bool true := hR.e 8 hp.1
      rw [e8]
      clear hn hp
      go_wp2_with fail
      exact ⟨fun j => if j = 9 then .bool true else g j, by simp [e8], hR.step 9 _ rfl (Below.refl _ _)⟩
    · intro D a w' hn hp hI
      obtain ⟨g, rfl, hR⟩ := hI
      have e9 : g 9 = .bool true := hR.e 9 hp.1
      rw [e9]
      have rr := range_below hR.b l7 HR2.out
      clear hn hp
      go_wp2_with (refine wpList_load_wide 34 _ rfl (by rfl) _ _ rfl FA _ Try.underlying34 rfl IF.out rr ?_)
      exact ⟨fun j => if j = 10 then .agg FA else g j, by simp [e9], hR.step 10 _ rfl (Below.refl _ _)⟩
    · intro D a w' hn hp hI
      obtain ⟨g, rfl, hR⟩ := hI
      have e9 : g 9 = .bool true := hR.e 9 hp.1
      have e10 : g 10 = .agg FA := hR.e 10 hp.2.1
      rw [e9, e10]
      clear hn hp
      go_wp2_with fail
      refine (H18.out _).mono ?_
      rintro e w'' ⟨rfl, hb9⟩
      go_wp2_with fail
      exact ⟨fun j => if j = 11 then .int .u32 rm else g j, by simp [e9, e10], hR.step 11 _ rfl hb9⟩
    · intro D a w' hn hp hI
      obtain ⟨g, rfl, hR⟩ := hI
      have e9 : g 9 = .bool true := hR.e 9 hp.1
      have e11 : g 11 = .int .u32 rm := hR.e 11 hp.2.1
      rw [e9, e11]
      clear hn hp
      go_wp2_with fail
      exact ⟨fun j => if j = 12 then .int .i64 rm else g j, by simp [e9, e11], hR.step 12 _ rfl (Below.refl _ _)⟩
    · intro D a w' hn hp hI
      obtain ⟨g, rfl, hR⟩ := hI
      have e9 : g 9 = .bool true := hR.e 9 hp.1
      rw [e9]
      have rr := range_below hR.b l7 HR2.out
      clear hn hp
      go_wp2_with (refine wpList_load_wide 34 _ rfl (by rfl) _ _ rfl FA _ Try.underlying34 rfl IF.out rr ?_)
      exact ⟨fun j => if j = 13 then .agg FA else g j, by simp [e9], hR.step 13 _ rfl (Below.refl _ _)⟩
    · intro D a w' hn hp hI
      obtain ⟨g, rfl, hR⟩ := hI
      have e9 : g 9 = .bool true := hR.e 9 hp.1
      have e13 : g 13 = .agg FA := hR.e 13 hp.2.1
      rw [e9, e13]
      clear hn hp
      go_wp2_with fail
      refine (H22.out _).mono ?_
      rintro e w'' ⟨rfl, hb9⟩
      go_wp2_with fail
      exact ⟨fun j => if j = 14 then .int .i64 rm else g j, by simp [e9, e13], hR.step 14 _ rfl hb9⟩
    · intro D a w' hn hp hI
      obtain ⟨g, rfl, hR⟩ := hI
      have e9 : g 9 = .bool true := hR.e 9 hp.1
      have e12 : g 12 = .int .i64 rm := hR.e 12 hp.2.1
      have e14 : g 14 = .int .i64 rm := hR.e 14 hp.2.2.1
      rw [e9, e12, e14]
      clear hn hp
      go_wp2_with fail
      exact ⟨fun j => if j = 15 then .bool true else g j, by simp [e9, e12, e14], hR.step 15 _ rfl (Below.refl _ _)⟩
    · intro D a w' hn hp hI
      obtain ⟨g, rfl, hR⟩ := hI
      have e9 : g 9 = .bool true := hR.e 9 hp.1
      have e15 : g 15 = .bool true := hR.e 15 hp.2.1
      rw [e9, e15]
      clear hn hp
      go_wp2_with fail
      exact ⟨fun j => if j = 16 then .bool true else g j, by simp [e9, e15], hR.step 16 _ rfl (Below.refl _ _)⟩
    · intro D a w' hn hp hI
      obtain ⟨g, rfl, hR⟩ := hI
      have e16 : g 16 = .bool true := hR.e 16 hp.1
      rw [e16]
      clear hn hp
      go_wp2_with fail
      exact ⟨fun j => if j = 17 then .bool true else g j, by simp [e16], hR.step 17 _ rfl (Below.refl _ _)⟩
    · intro D a w' hn hp hI
      obtain ⟨g, rfl, hR⟩ := hI
      have e17 : g 17 = .bool true := hR.e 17 hp.1
      rw [e17]
      have rr := range_below hR.b l5 HR1.out
      clear hn hp
      go_wp2_with (refine wpList_load_wide 29 _ rfl (by rfl) _ _ rfl T _ Try.underlying29 rfl IT.out rr ?_)
      exact ⟨fun j => if j = 18 then .agg T else g j, by simp [e17], hR.step 18 _ rfl (Below.refl _ _)⟩
    · intro D a w' hn hp hI
      obtain ⟨g, rfl, hR⟩ := hI
      have e17 : g 17 = .bool true := hR.e 17 hp.1
      rw [e17]
      clear hn hp
      go_wp2_with fail
      exact ⟨fun j => if j = 19 then .int .u8 d else g j, by simp [e17], hR.step 19 _ rfl (Below.refl _ _)⟩
    · intro D a w' hn hp hI
      obtain ⟨g, rfl, hR⟩ := hI
      have e17 : g 17 = .bool true := hR.e 17 hp.1
      rw [e17]
      have rr := range_below hR.b l7 HR2.out
      clear hn hp
      go_wp2_with (refine wpList_load_wide 34 _ rfl (by rfl) _ _ rfl FA _ Try.underlying34 rfl IF.out rr ?_)
      exact ⟨fun j => if j = 20 then .agg FA else g j, by simp [e17], hR.step 20 _ rfl (Below.refl _ _)⟩
    · intro D a w' hn hp hI
      obtain ⟨g, rfl, hR⟩ := hI
      have e17 : g 17 = .bool true := hR.e 17 hp.1
      have e18 : g 18 = .agg T := hR.e 18 hp.2.1
      have e19 : g 19 = .int .u8 d := hR.e 19 hp.2.2.1
      have e20 : g 20 = .agg FA := hR.e 20 hp.2.2.2.1
      rw [e17, e18, e19, e20]
      clear hn hp
      go_wp2_with fail
      refine (H14.out _).mono ?_
      rintro e w'' ⟨rfl, hb9⟩
      go_wp2_with fail
      exact ⟨fun j => if j = 21 then .agg T2 else g j, by simp [e17, e18, e19, e20], hR.step 21 _ rfl hb9⟩
    · intro D a w' hn hp hI
      obtain ⟨g, rfl, hR⟩ := hI
      have e17 : g 17 = .bool true := hR.e 17 hp.1
      have e21 : g 21 = .agg T2 := hR.e 21 hp.2.1
      rw [e17, e21]
      clear hn hp
      go_wp2_with fail
      refine (H20.out _).mono ?_
      rintro e w'' ⟨rfl, hb9⟩
      go_wp2_with fail
      exact ⟨fun j => if j = 22 then .agg R2 else g j, by simp [e17, e21], hR.step 22 _ rfl hb9⟩
    · intro D a w' hn hp hI
      obtain ⟨g, rfl, hR⟩ := hI
      have e17 : g 17 = .bool true := hR.e 17 hp.1
      rw [e17]
      have rr := range_below hR.b hv HRV.out
      clear hn hp
      go_wp2_with (refine wpList_load_wide 62 _ rfl (by rfl) _ _ rfl RT _ Try.underlying62 rfl IR.out rr ?_)
      exact ⟨fun j => if j = 23 then .agg RT else g j, by simp [e17], hR.step 23 _ rfl (Below.refl _ _)⟩
    · intro D a w' hn hp hI
      obtain ⟨g, rfl, hR⟩ := hI
      have e17 : g 17 = .bool true := hR.e 17 hp.1
      rw [e17]
      clear hn hp
      go_wp2_with fail
      exact ⟨fun j => if j = 24 then .int .u8 d else g j, by simp [e17], hR.step 24 _ rfl (Below.refl _ _)⟩
    · intro D a w' hn hp hI
      obtain ⟨g, rfl, hR⟩ := hI
      have e17 : g 17 = .bool true := hR.e 17 hp.1
      rw [e17]
      have rr := range_below hR.b l7 HR2.out
      clear hn hp
      go_wp2_with (refine wpList_load_wide 34 _ rfl (by rfl) _ _ rfl FA _ Try.underlying34 rfl IF.out rr ?_)
      exact ⟨fun j => if j = 25 then .agg FA else g j, by simp [e17], hR.step 25 _ rfl (Below.refl _ _)⟩
    · intro D a w' hn hp hI
      obtain ⟨g, rfl, hR⟩ := hI
      have e17 : g 17 = .bool true := hR.e 17 hp.1
      have e23 : g 23 = .agg RT := hR.e 23 hp.2.1
      have e24 : g 24 = .int .u8 d := hR.e 24 hp.2.2.1
      have e25 : g 25 = .agg FA := hR.e 25 hp.2.2.2.1
      rw [e17, e23, e24, e25]
      clear hn hp
      go_wp2_with fail
      refine (H23.out _).mono ?_
      rintro e w'' ⟨rfl, hb9⟩
      go_wp2_with fail
      exact ⟨fun j => if j = 26 then .agg R2 else g j, by simp [e17, e23, e24, e25], hR.step 26 _ rfl hb9⟩
    · intro D a w' hn hp hI
      obtain ⟨g, rfl, hR⟩ := hI
      have e17 : g 17 = .bool true := hR.e 17 hp.1
      have e22 : g 22 = .agg R2 := hR.e 22 hp.2.1
      have e26 : g 26 = .agg R2 := hR.e 26 hp.2.2.1
      rw [e17, e22, e26]
      clear hn hp
      have heq := hEq.out
      go_wp2_with fail
      exact ⟨fun j => if j = 27 then .bool true else g j, by simp [e17, e22, e26], hR.step 27 _ rfl (Below.refl _ _)⟩
    · intro D a w' hn hp hI
      obtain ⟨g, rfl, hR⟩ := hI
      have e17 : g 17 = .bool true := hR.e 17 hp.1
      have e27 : g 27 = .bool true := hR.e 27 hp.2.1
      rw [e17, e27]
      clear hn hp
      go_wp2_with fail
      exact ⟨fun j => if j = 28 then .bool true else g j, by simp [e17, e27], hR.step 28 _ rfl (Below.refl _ _)⟩
    · intro D a w' hn hp hI
      obtain ⟨g, rfl, hR⟩ := hI
      have e28 : g 28 = .bool true := hR.e 28 hp.1
      rw [e28]
      clear hn hp
      go_wp2_with fail
      exact ⟨fun j => if j = 29 then .bool true else g j, by simp [e28], hR.step 29 _ rfl (Below.refl _ _)⟩
    · intro D a w' hn hp hI
      obtain ⟨g, rfl, hR⟩ := hI
      have e29 : g 29 = .bool true := hR.e 29 hp.1
      rw [e29]
      have rr := range_below hR.b l5 HR1.out
      clear hn hp
      go_wp2_with (refine wpList_load_wide 29 _ rfl (by rfl) _ _ rfl T _ Try.underlying29 rfl IT.out rr ?_)
      exact ⟨fun j => if j = 30 then .agg T else g j, by simp [e29], hR.step 30 _ rfl (Below.refl _ _)⟩
    · intro D a w' hn hp hI
      obtain ⟨g, rfl, hR⟩ := hI
      have e29 : g 29 = .bool true := hR.e 29 hp.1
      rw [e29]
      clear hn hp
      go_wp2_with fail
      exact ⟨fun j => if j = 31 then .int .u8 d else g j, by simp [e29], hR.step 31 _ rfl (Below.refl _ _)⟩
    · intro D a w' hn hp hI
      obtain ⟨g, rfl, hR⟩ := hI
      have e29 : g 29 = .bool true := hR.e 29 hp.1
      rw [e29]
      have rr := range_below hR.b l7 HR2.out
      clear hn hp
      go_wp2_with (refine wpList_load_wide 34 _ rfl (by rfl) _ _ rfl FA _ Try.underlying34 rfl IF.out rr ?_)
      exact ⟨fun j => if j = 32 then .agg FA else g j, by simp [e29], hR.step 32 _ rfl (Below.refl _ _)⟩
    · intro D a w' hn hp hI
      obtain ⟨g, rfl, hR⟩ := hI
      have e29 : g 29 = .bool true := hR.e 29 hp.1
      have e30 : g 30 = .agg T := hR.e 30 hp.2.1
      have e31 : g 31 = .int .u8 d := hR.e 31 hp.2.2.1
      have e32 : g 32 = .agg FA := hR.e 32 hp.2.2.2.1
      rw [e29, e30, e31, e32]
      clear hn hp
      go_wp2_with fail
      refine (H16.out _).mono ?_
      rintro e w'' ⟨rfl, hb9⟩
      go_wp2_with fail
      exact ⟨fun j => if j = 33 then .bool be else g j, by simp [e29, e30, e31, e32], hR.step 33 _ rfl hb9⟩
    · intro D a w' hn hp hI
      obtain ⟨g, rfl, hR⟩ := hI
      have e29 : g 29 = .bool true := hR.e 29 hp.1
      rw [e29]
      have rr := range_below hR.b hv HRV.out
      clear hn hp
      go_wp2_with (refine wpList_load_wide 62 _ rfl (by rfl) _ _ rfl RT _ Try.underlying62 rfl IR.out rr ?_)
      exact ⟨fun j => if j = 34 then .agg RT else g j, by simp [e29], hR.step 34 _ rfl (Below.refl _ _)⟩
    · intro D a w' hn hp hI
      obtain ⟨g, rfl, hR⟩ := hI
      have e29 : g 29 = .bool true := hR.e 29 hp.1
      rw [e29]
      clear hn hp
      go_wp2_with fail
      exact ⟨fun j => if j = 35 then .int .u8 d else g j, by simp [e29], hR.step 35 _ rfl (Below.refl _ _)⟩
    · intro D a w' hn hp hI
      obtain ⟨g, rfl, hR⟩ := hI
      have e29 : g 29 = .bool true := hR.e 29 hp.1
      rw [e29]
      have rr := range_below hR.b l7 HR2.out
      clear hn hp
      go_wp2_with (refine wpList_load_wide 34 _ rfl (by rfl) _ _ rfl FA _ Try.underlying34 rfl IF.out rr ?_)
      exact ⟨fun j => if j = 36 then .agg FA else g j, by simp [e29], hR.step 36 _ rfl (Below.refl _ _)⟩
    · intro D a w' hn hp hI
      obtain ⟨g, rfl, hR⟩ := hI
      have e29 : g 29 = .bool true := hR.e 29 hp.1
      have e34 : g 34 = .agg RT := hR.e 34 hp.2.1
      have e35 : g 35 = .int .u8 d := hR.e 35 hp.2.2.1
      have e36 : g 36 = .agg FA := hR.e 36 hp.2.2.2.1
      rw [e29, e34, e35, e36]
      clear hn hp
      go_wp2_with fail
      refine (H24.out _).mono ?_
      rintro e w'' ⟨rfl, hb9⟩
      go_wp2_with fail
      exact ⟨fun j => if j = 37 then .bool be else g j, by simp [e29, e34, e35, e36], hR.step 37 _ rfl hb9⟩
    · intro D a w' hn hp hI
      obtain ⟨g, rfl, hR⟩ := hI
      have e29 : g 29 = .bool true := hR.e 29 hp.1
      have e33 : g 33 = .bool be := hR.e 33 hp.2.1
      have e37 : g 37 = .bool be := hR.e 37 hp.2.2.1
      rw [e29, e33, e37]
      clear hn hp
      go_wp2_with fail
      exact ⟨fun j => if j = 38 then .bool true else g j, by simp [e29, e33, e37], hR.step 38 _ rfl (Below.refl _ _)⟩
    · intro D a w' hn hp hI
      obtain ⟨g, rfl, hR⟩ := hI
      have e29 : g 29 = .bool true := hR.e 29 hp.1
      have e38 : g 38 = .bool true := hR.e 38 hp.2.1
      rw [e29, e38]
      clear hn hp
      go_wp2_with fail
      exact ⟨fun j => if j = 39 then .bool true else g j, by simp [e29, e38], hR.step 39 _ rfl (Below.refl _ _)⟩
    · intro D a w' hn hp hI
      obtain ⟨g, rfl, hR⟩ := hI
      have e39 : g 39 = .bool true := hR.e 39 hp.1
      rw [e39]
      clear hn hp
      go_wp2_with fail
      exact ⟨fun j => if j = 40 then .bool true else g j, by simp [e39], hR.step 40 _ rfl (Below.refl _ _)⟩
    · intro D a w' hn hp hI
      obtain ⟨g, rfl, hR⟩ := hI
      have e40 : g 40 = .bool true := hR.e 40 hp.1
      rw [e40]
      have rr := range_below hR.b l5 HR1.out
      clear hn hp
      go_wp2_with (refine wpList_load_wide 29 _ rfl (by rfl) _ _ rfl T _ Try.underlying29 rfl IT.out rr ?_)
      exact ⟨fun j => if j = 41 then .agg T else g j, by simp [e40], hR.step 41 _ rfl (Below.refl _ _)⟩
    · intro D a w' hn hp hI
      obtain ⟨g, rfl, hR⟩ := hI
      have e40 : g 40 = .bool true := hR.e 40 hp.1
      rw [e40]
      clear hn hp
      go_wp2_with fail
      exact ⟨fun j => if j = 42 then .int .u8 d else g j, by simp [e40], hR.step 42 _ rfl (Below.refl _ _)⟩
    · intro D a w' hn hp hI
      obtain ⟨g, rfl, hR⟩ := hI
      have e40 : g 40 = .bool true := hR.e 40 hp.1
      rw [e40]
      have rr := range_below hR.b l7 HR2.out
      clear hn hp
      go_wp2_with (refine wpList_load_wide 34 _ rfl (by rfl) _ _ rfl FA _ Try.underlying34 rfl IF.out rr ?_)
      exact ⟨fun j => if j = 43 then .agg FA else g j, by simp [e40], hR.step 43 _ rfl (Below.refl _ _)⟩
    · intro D a w' hn hp hI
      obtain ⟨g, rfl, hR⟩ := hI
      have e40 : g 40 = .bool true := hR.e 40 hp.1
      have e41 : g 41 = .agg T := hR.e 41 hp.2.1
      have e42 : g 42 = .int .u8 d := hR.e 42 hp.2.2.1
      have e43 : g 43 = .agg FA := hR.e 43 hp.2.2.2.1
      rw [e40, e41, e42, e43]
      clear hn hp
      go_wp2_with fail
      refine (H17.out _).mono ?_
      rintro e w'' ⟨rfl, hb9⟩
      go_wp2_with fail
      exact ⟨fun j => if j = 44 then .bool fi else g j, by simp [e40, e41, e42, e43], hR.step 44 _ rfl hb9⟩
    · intro D a w' hn hp hI
      obtain ⟨g, rfl, hR⟩ := hI
      have e40 : g 40 = .bool true := hR.e 40 hp.1
      rw [e40]
      have rr := range_below hR.b hv HRV.out
      clear hn hp
      go_wp2_with (refine wpList_load_wide 62 _ rfl (by rfl) _ _ rfl RT _ Try.underlying62 rfl IR.out rr ?_)
      exact ⟨fun j => if j = 45 then .agg RT else g j, by simp [e40], hR.step 45 _ rfl (Below.refl _ _)⟩
    · intro D a w' hn hp hI
      obtain ⟨g, rfl, hR⟩ := hI
      have e40 : g 40 = .bool true := hR.e 40 hp.1
      rw [e40]
      clear hn hp
      go_wp2_with fail
      exact ⟨fun j => if j = 46 then .int .u8 d else g j, by simp [e40], hR.step 46 _ rfl (Below.refl _ _)⟩
    · intro D a w' hn hp hI
      obtain ⟨g, rfl, hR⟩ := hI
      have e40 : g 40 = .bool true := hR.e 40 hp.1
      rw [e40]
      have rr := range_below hR.b l7 HR2.out
      clear hn hp
      go_wp2_with (refine wpList_load_wide 34 _ rfl (by rfl) _ _ rfl FA _ Try.underlying34 rfl IF.out rr ?_)
      exact ⟨fun j => if j = 47 then .agg FA else g j, by simp [e40], hR.step 47 _ rfl (Below.refl _ _)⟩
    · intro D a w' hn hp hI
      obtain ⟨g, rfl, hR⟩ := hI
      have e40 : g 40 = .bool true := hR.e 40 hp.1
      have e45 : g 45 = .agg RT := hR.e 45 hp.2.1
      have e46 : g 46 = .int .u8 d := hR.e 46 hp.2.2.1
      have e47 : g 47 = .agg FA := hR.e 47 hp.2.2.2.1
      rw [e40, e45, e46, e47]
      clear hn hp
      go_wp2_with fail
      refine (H25.out _).mono ?_
      rintro e w'' ⟨rfl, hb9⟩
      go_wp2_with fail
      exact ⟨fun j => if j = 48 then .bool fi else g j, by simp [e40, e45, e46, e47], hR.step 48 _ rfl hb9⟩
    · intro D a w' hn hp hI
      obtain ⟨g, rfl, hR⟩ := hI
      have e40 : g 40 = .bool true := hR.e 40 hp.1
      have e44 : g 44 = .bool fi := hR.e 44 hp.2.1
      have e48 : g 48 = .bool fi := hR.e 48 hp.2.2.1
      rw [e40, e44, e48]
      clear hn hp
      go_wp2_with fail
      exact ⟨fun j => if j = 49 then .bool true else g j, by simp [e40, e44, e48], hR.step 49 _ rfl (Below.refl _ _)⟩
    · intro D a w' hn hp hI
      obtain ⟨g, rfl, hR⟩ := hI
      have e40 : g 40 = .bool true := hR.e 40 hp.1
      have e49 : g 49 = .bool true := hR.e 49 hp.2.1
      rw [e40, e49]
      clear hn hp
      go_wp2_with fail
      exact ⟨fun j => if j = 50 then .bool true else g j, by simp [e40, e49], hR.step 50 _ rfl (Below.refl _ _)⟩
  intro D a' w' hD hI
  obtain ⟨g, rfl, hR⟩ := hI
  have e50 : g 50 = .bool true := hR.e 50 (hD 50 (by decide))
  rw [e50]
  have hB := hR.b
  have hD' := HDV.out
  clear hD hR
  simp only [List.drop_succ_cons, List.drop_zero]
  go_wp2_with fail
  go_ret
  exact ⟨rfl, by subst_vars; exact bthen hD' hB⟩

theorem tells_any (x y : Sd) (F : Array Value) (flags seq ack win len d a b : Int) (w : World) (h : Fa F flags seq ack win len) (hx : x.wf) (hy : y.wf) (hd : 0 ≤ d) (ha : 0 ≤ a ∧ a ≤ 4294967295) (hb : 0 ≤ b ∧ b ≤ 4294967295) :
    Calls Try.prog 13 #[.agg (trk x y), .int .u8 d, .agg F, .int .u32 a, .int .u32 b] w fun e w' => e = .returned (.bool true) ∧ Below w.heap.size w w' := by
  have hsx := seeS_wf x flags seq ack win len hx h.ba
  have hsy := seeS_wf y flags seq ack win len hy h.ba
  have c12 : ∀ W, Calls Try.prog 12 #[.int .u32 a, .int .u32 b] W fun e w' => e = .returned (.bool (aft a b)) ∧ Below W.heap.size W w' := fun W => (after_any a b W ha hb).mono fun e w' k => ⟨k.1, k.2 ▸ Below.refl _ _⟩
  have c21 : ∀ W, Calls Try.prog 21 #[.int .i64 a, .int .i64 b] W fun e w' => e = .returned (.bool (aft a b)) ∧ Below W.heap.size W w' := fun W => (rafter_any a b W ha hb).mono fun e w' k => ⟨k.1, k.2 ▸ Below.refl _ _⟩
  have core := fun T2 R2 be fi => tells_core (trk x y) F (rtrk x y) T2 R2 d a b (room flags len) (aft a b) be fi w ha hb (room_range _ _) (show _ = _ from rfl) (show _ = _ from h.size) (show _ = _ from rfl) (show _ = _ by simp [rtrk, Sd.rc, Value.oneCell']) (fun W => turned_any x y W hx hy) c12 c21 (fun W => room_below F flags seq ack win len h W) (fun W => rroom_any F flags seq ack win len W h)
  have hag : ∀ z : Array Value, ∃ cs, (Value.agg z) = .agg cs := fun z => ⟨z, rfl⟩
  by_cases h1 : 1 < d
  · exact core (trk x y) (rtrk x y) false false (fun W => see_out x y F d W h1) (fun W => turned_any x y W hx hy) (fun W => rSee_any x y x y d F flags seq ack win len W h hx hy (.inr (.inr ⟨h1, rfl, rfl⟩))) (fun W => believe_out _ _ d W h1 (hag _) (hag _)) (fun W => rbelieve_out _ _ d W h1 (hag _) (hag _)) (fun W => fits_out _ _ d W h1 (hag _) (hag _)) (fun W => rfits_out _ _ d W h1 (hag _) (hag _)) (fun W => rtrk_eql x y W)
  · have h2 : d = 0 ∨ d = 1 := by omega
    rcases h2 with rfl | rfl
    · exact core (trk (seeS x flags seq ack win len) y) (rtrk (seeS x flags seq ack win len) y) (bel x y flags seq ack) (fit y seq) (fun W => see0_any x y F flags seq ack win len W h hx) (fun W => turned_any _ y W hsx hy) (fun W => rSee_any x y _ y 0 F flags seq ack win len W h hx hy (.inl ⟨rfl, rfl, rfl⟩)) (fun W => believe0_any x y F flags seq ack win len W h hy) (fun W => rbelieve_any x y x y 0 F flags seq ack win len W h hy (.inl ⟨rfl, rfl, rfl⟩) (by decide)) (fun W => fits0_any x y F flags seq ack win len W h hy) (fun W => rfits_any x y x y 0 F flags seq ack win len W h hy (.inl ⟨rfl, rfl, rfl⟩) (by decide)) (fun W => rtrk_eql _ _ W)
    · exact core (trk x (seeS y flags seq ack win len)) (rtrk x (seeS y flags seq ack win len)) (bel y x flags seq ack) (fit x seq) (fun W => see1_any x y F flags seq ack win len W h hy) (fun W => turned_any x _ W hx hsy) (fun W => rSee_any x y x _ 1 F flags seq ack win len W h hx hy (.inr (.inl ⟨rfl, rfl, rfl⟩))) (fun W => believe1_any x y F flags seq ack win len W h hx) (fun W => rbelieve_any x y y x 1 F flags seq ack win len W h hx (.inr ⟨by decide, rfl, rfl⟩) (by decide)) (fun W => fits1_any x y F flags seq ack win len W h hx) (fun W => rfits_any x y y x 1 F flags seq ack win len W h hx (.inr ⟨by decide, rfl, rfl⟩) (by decide)) (fun W => rtrk_eql _ _ W)

end Go.Proofs.Ytchephpmkommfaa

/-
  The walk of WindowOne: a packet changes the side of its direction alone; numbers never go back.
-/
import Derived.Test.YtchephpmkommfaaArgs
import Derived.Test.YtchephpmkommfaaAfter
namespace Go.Proofs.Ytchephpmkommfaa
open Go.RowKit
set_option linter.unusedVariables false
set_option linter.unusedSimpArgs false

theorem aft_asym (a b : Int) (h : aft a b = true) : aft b a = false := by
  unfold aft lss at *
  simp only [Bool.and_eq_true, decide_eq_true_eq] at h
  have e : decide ((b - a) % 4294967296 < 2147483648) = false := by simp; omega
  rw [e, Bool.and_false]
theorem aft_nxt (n to : Int) : aft n (nxt true n to) = false := by
  unfold nxt
  cases h : aft to n
  · simp [aft_same]
  · simp [aft_asym _ _ h]

set_option maxRecDepth 100000 in
set_option maxHeartbeats 4000000 in
theorem one_out (a b : Sd) (F : Array Value) (flags seq ack win len : Int) (d : Int) (T T' : Array Value) (w : World) (hd : 1 < d) (HT : Hid (trk a b = T)) (HT' : Hid (trk a b = T')) (HF : Hid (Fa F flags seq ack win len)) (HS : Hid (∀ W, Calls Try.prog 14 #[.agg T, .int .u8 d, .agg F] W fun e w' => e = .returned (.agg T') ∧ Below W.heap.size W w')) :
    Calls Try.prog 10 #[.agg T, .int .u8 d, .agg F] w fun e w' => e = .returned (.bool true) ∧ Below w.heap.size w w' := by
  have he : ∀ W, (binOp .eql 29 (.agg T') (.agg T)).run Try.prog W = .ok (.bool true) W := fun W => by
    rw [← HT.out, ← HT'.out]
    have := trk_eql a b a b W
    rwa [eqSd_self, eqSd_self] at this
  have HI : Hid ((Try.prog.info? 29).map (·.size) = some T.toList.length) := by rw [← HT.out]; exact info29
  have HI' : Hid ((Try.prog.info? 29).map (·.size) = some T'.size) := by rw [← HT'.out]; exact info29
  have HO' : Hid (T'.all (·.oneCell') = true) := by rw [← HT'.out]; exact trk_one _ _
  have HZ' : Hid (T'.size = 10) := by rw [← HT'.out]; rfl
  have HI2 : Hid ((Try.prog.info? 29).map (·.size) = some T'.toList.length) := by rw [← HT'.out]; exact info29
  have HJ := Lib.hid HF.out.hi
  go_enter Try.func10, Try.ntmps10
  go_wp2_with fail
  refine (awake_any _).mono ?_
  rintro e w1 ⟨rfl, hb⟩
  have RT1 : w1.rangeAt w.heap.size 0 T.toList := range_below hb (by simp; omega) (World.rangeAt_alloc (range_new w T 29) _)
  have RF1 : w1.rangeAt (w.heap.size + 1) 0 F.toList := range_below hb (by simp) (range_new' _ F 34 _ (by simp))
  have d1 : Below w.heap.size w w1 := bthen (by (repeat' (first | exact Below.refl _ _ | refine Below.setCell ?_ (by first | omega | (simp; done) | (simp; omega)) _ | refine Below.alloc ?_ (by first | omega | (simp; done) | (simp; omega)) _))) hb
  have l1 : w.heap.size + 1 < w1.heap.size := by have := hb.size; simp at this; omega
  clear hb
  go_wp2_with (first | (refine wpList_load_wide 29 (.tmp 3) rfl (by rfl) w.heap.size 0 rfl T _ Try.underlying29 rfl HI.out ?_ ?_; · (repeat (first | with_reducible exact RT1 | refine World.rangeAt_alloc ?_ _))) | (refine wpList_load_wide 34 (.tmp 5) rfl (by rfl) (w.heap.size + 1) 0 rfl F _ Try.underlying34 rfl HJ.out ?_ ?_; · (repeat (first | with_reducible exact RF1 | refine World.rangeAt_alloc ?_ _))))
  refine (HS.out _ : _).mono ?_
  rintro e w2 ⟨rfl, hb⟩
  have d2 := bthen d1 hb
  have RT2 := range_below hb (by omega) RT1
  have RF2 := range_below hb l1 RF1
  have l2 : w.heap.size + 1 < w2.heap.size := Nat.lt_of_lt_of_le l1 hb.size
  have k2 := d2.size
  clear hb RT1 RF1 d1 l1
  go_wp2_with (first | (refine wpList_store_wide 29 (.tmp 7) (.tmp 15) rfl rfl w2.heap.size 0 T' rfl rfl w.heap.size w HI'.out HO'.out (d2.alloc k2 _) k2 (there_new _ _ _ _ _ rfl ?_) ?_; (· (rw [HZ'.out]; rfl)); intro v1 e1 z1 r1 x1 j1 j2; clear j1 j2; have RT3 := x1 _ _ _ (by omega) (World.rangeAt_alloc RT2 _); have RF3 := x1 _ _ _ (by omega) (World.rangeAt_alloc RF2 _); have y1 : w2.heap.size < v1.heap.size := (by rw [z1]; simp); have y2 : w.heap.size ≤ v1.heap.size := e1.size; clear x1 z1) | (refine wpList_load_wide 29 (.tmp 3) rfl (by rfl) w.heap.size 0 rfl T _ Try.underlying29 rfl HI.out ?_ ?_; · (repeat (first | with_reducible exact RT3 | refine World.rangeAt_alloc ?_ _))) | (refine wpList_load_wide 34 (.tmp 5) rfl (by rfl) (w.heap.size + 1) 0 rfl F _ Try.underlying34 rfl HJ.out ?_ ?_; · (repeat (first | with_reducible exact RF3 | refine World.rangeAt_alloc ?_ _))) | (refine wpList_load_wide 29 (.tmp 7) rfl (by rfl) w2.heap.size 0 rfl T' _ Try.underlying29 rfl HI2.out r1 ?_))
  refine (believe_out (.agg T) (.agg F) d _ hd ⟨_, rfl⟩ ⟨_, rfl⟩).mono ?_
  rintro e w3 ⟨rfl, hb⟩
  have d3 := bthen e1 hb
  have RT4 := range_below hb (by omega) RT3
  have RF4 := range_below hb (by omega) RF3
  clear hb RT3 RF3 r1
  go_wp2_with (first | (refine wpList_load_wide 29 (.tmp 3) rfl (by rfl) w.heap.size 0 rfl T _ Try.underlying29 rfl HI.out ?_ ?_; · (repeat (first | with_reducible exact RT4 | refine World.rangeAt_alloc ?_ _))) | (refine wpList_load_wide 34 (.tmp 5) rfl (by rfl) (w.heap.size + 1) 0 rfl F _ Try.underlying34 rfl HJ.out ?_ ?_; · (repeat (first | with_reducible exact RF4 | refine World.rangeAt_alloc ?_ _))))
  refine (fits_out (.agg T) (.agg F) d _ hd ⟨_, rfl⟩ ⟨_, rfl⟩).mono ?_
  rintro e w4 ⟨rfl, hb⟩
  go_wp2_with fail
  go_ret
  exact ⟨by first | rfl | simp, bthen d3 hb⟩

end Go.Proofs.Ytchephpmkommfaa

/-
  The contracts of the reference's See, Believe and Fits. Conditions: the numbers lie in their types' ranges.
-/
import Derived.Test.YtchephpmkommfaaRefB
namespace Go.Proofs.Ytchephpmkommfaa
open Go.RowKit
set_option linter.unusedVariables false
set_option linter.unusedSimpArgs false

theorem info62' : (Try.prog.info? 62).map (·.size) = some 10 := by kernel_rfl
set_option maxRecDepth 100000 in
set_option maxHeartbeats 4000000 in
theorem rSee_any (a b a' b' : Sd) (d : Int) (F : Array Value) (flags seq ack win len : Int) (w : World) (h : Fa F flags seq ack win len) (ha : a.wf) (hb : b.wf) (hd : (d = 0 ∧ a' = seeS a flags seq ack win len ∧ b' = b) ∨ (d = 1 ∧ a' = a ∧ b' = seeS b flags seq ack win len) ∨ (1 < d ∧ a' = a ∧ b' = b)) :
    Calls Try.prog 23 #[.agg (rtrk a b), .int .u8 d, .agg F] w fun e w' => e = .returned (.agg (rtrk a' b')) ∧ Below w.heap.size w w' := by
  have HI := Lib.hid h.hi
  have HA : Hid (∀ W, Calls Try.prog 29 #[.agg a.rc, .agg F] W fun e w' => e = .returned (.agg (seeS a flags seq ack win len).rc) ∧ Below W.heap.size W w') := fun W => rsee_any a F flags seq ack win len W h ha
  have HB : Hid (∀ W, Calls Try.prog 29 #[.agg b.rc, .agg F] W fun e w' => e = .returned (.agg (seeS b flags seq ack win len).rc) ∧ Below W.heap.size W w') := fun W => rsee_any b F flags seq ack win len W h hb
  have hsz := h.size
  clear h ha hb
  rcases hd with ⟨rfl, hx, rfl⟩ | ⟨rfl, rfl, hx⟩ | ⟨hd, rfl, rfl⟩
  · rw [← hx] at HA
    clear hx HB
    obtain ⟨s1, s2, s3, s4, s5⟩ := a
    obtain ⟨u1, u2, u3, u4, u5⟩ := a'
    obtain ⟨t1, t2, t3, t4, t5⟩ := b'
    simp only [Sd.rc] at HA
    show Calls Try.prog 23 #[.agg #[.bool s1, .bool s2, .int .i64 s3, .int .i64 s4, .int .i64 s5, .bool t1, .bool t2, .int .i64 t3, .int .i64 t4, .int .i64 t5], .int .u8 0, .agg F] w _
    go_enter Try.func23, Try.ntmps23
    go_wp2_with (refine wpList_load_wide 34 _ rfl (by rfl) _ _ rfl F _ Try.underlying34 rfl HI.out ?_ ?_; · (repeat (first | (refine range_new' _ _ _ _ ?_; first | rfl | (simp; done)) | refine World.rangeAt_alloc ?_ _)))
    refine (HA.out _).mono ?_
    rintro e w5 ⟨rfl, hb⟩
    have L : Lay w (((w.alloc (.cells #[.bool s1, .bool s2, .int .i64 s3, .int .i64 s4, .int .i64 s5, .bool t1, .bool t2, .int .i64 t3, .int .i64 t4, .int .i64 t5] 62)).alloc (.cells F 34)).alloc (.cells #[.bool false, .bool false, .int .i64 0, .int .i64 0, .int .i64 0, .bool false, .bool false, .int .i64 0, .int .i64 0, .int .i64 0] 62)) w.heap.size [.bool s1, .bool s2, .int .i64 s3, .int .i64 s4, .int .i64 s5, .bool t1, .bool t2, .int .i64 t3, .int .i64 t4, .int .i64 t5] F := ⟨by repeat' (first | exact Below.refl _ _ | refine below_drewN ?_ _ | refine Below.drew ?_ | refine Below.setCell ?_ (by first | omega | (simp; done) | (simp; omega)) _ | refine Below.alloc ?_ (by first | omega | (simp; done) | (simp; omega)) _), Nat.le_refl _, by simp, rfl, World.rangeAt_alloc (World.rangeAt_alloc (range_new w _ _) _) _, World.there_alloc (World.there_alloc (there_new w _ _ _ _ rfl rfl) _) _, World.rangeAt_alloc (range_new' _ _ _ _ (by simp)) _, there_new _ _ _ _ _ (by simp) rfl⟩
    have L1 := L.below hb
    clear L hb
    have y0 := L1.cell 0 _ rfl
    have fy0 := L1.free 0 (by decide)
    have y1 := L1.cell 1 _ rfl
    have fy1 := L1.free 1 (by decide)
    have y2 := L1.cell 2 _ rfl
    have fy2 := L1.free 2 (by decide)
    have y3 := L1.cell 3 _ rfl
    have fy3 := L1.free 3 (by decide)
    have y4 := L1.cell 4 _ rfl
    have fy4 := L1.free 4 (by decide)
    have L5 : Lay w (((((w5.setCell ⟨w.heap.size, 0, none⟩ (.bool u1)).setCell ⟨w.heap.size, 1, none⟩ (.bool u2)).setCell ⟨w.heap.size, 2, none⟩ (.int .i64 u3)).setCell ⟨w.heap.size, 3, none⟩ (.int .i64 u4)).setCell ⟨w.heap.size, 4, none⟩ (.int .i64 u5)) w.heap.size [.bool u1, .bool u2, .int .i64 u3, .int .i64 u4, .int .i64 u5, .bool t1, .bool t2, .int .i64 t3, .int .i64 t4, .int .i64 t5] F := (((((L1.put 0 (.bool u1)).put 1 (.bool u2)).put 2 (.int .i64 u3)).put 3 (.int .i64 u4)).put 4 (.int .i64 u5))
    have HL5 := Lib.hid L5
    clear L5 L1
    go_wp2_with (first | (refine wpList_load_wide 62 (.tmp 3) rfl (by rfl) w.heap.size 0 rfl #[.bool u1, .bool u2, .int .i64 u3, .int .i64 u4, .int .i64 u5, .bool t1, .bool t2, .int .i64 t3, .int .i64 t4, .int .i64 t5] _ Try.underlying62 rfl info62' ?_ ?_; (· with_reducible exact HL5.out.t)) | (refine wpList_store_wide 62 (.tmp 6) (.tmp 21) rfl rfl (w.heap.size + 1 + 1) 0 #[.bool u1, .bool u2, .int .i64 u3, .int .i64 u4, .int .i64 u5, .bool t1, .bool t2, .int .i64 t3, .int .i64 t4, .int .i64 t5] rfl rfl w.heap.size w info62' (by simp [Value.oneCell']) ?_ (by omega) ?_ ?_; (· with_reducible exact HL5.out.b); (· exact HL5.out.z); intro w9 e9 z9 r9 j1 j2 j3; clear j1 j2 j3 z9))
    refine bodyPost_ret (v := .agg #[.bool u1, .bool u2, .int .i64 u3, .int .i64 u4, .int .i64 u5, .bool t1, .bool t2, .int .i64 t3, .int .i64 t4, .int .i64 t5]) (results_wide Try.results23 _ rfl (run_loadVar_mid (P := Try.prog) w9 (w.heap.size + 1 + 1) 0 62 _ _ r9 Try.underlying62 rfl info62')) rfl ⟨rfl, e9⟩
  · rw [← hx] at HB
    clear hx HA
    obtain ⟨s1, s2, s3, s4, s5⟩ := a'
    obtain ⟨u1, u2, u3, u4, u5⟩ := b'
    obtain ⟨t1, t2, t3, t4, t5⟩ := b
    simp only [Sd.rc] at HB
    show Calls Try.prog 23 #[.agg #[.bool s1, .bool s2, .int .i64 s3, .int .i64 s4, .int .i64 s5, .bool t1, .bool t2, .int .i64 t3, .int .i64 t4, .int .i64 t5], .int .u8 1, .agg F] w _
    go_enter Try.func23, Try.ntmps23
    go_wp2_with (refine wpList_load_wide 34 _ rfl (by rfl) _ _ rfl F _ Try.underlying34 rfl HI.out ?_ ?_; · (repeat (first | (refine range_new' _ _ _ _ ?_; first | rfl | (simp; done)) | refine World.rangeAt_alloc ?_ _)))
    refine (HB.out _).mono ?_
    rintro e w5 ⟨rfl, hb⟩
    have L : Lay w (((w.alloc (.cells #[.bool s1, .bool s2, .int .i64 s3, .int .i64 s4, .int .i64 s5, .bool t1, .bool t2, .int .i64 t3, .int .i64 t4, .int .i64 t5] 62)).alloc (.cells F 34)).alloc (.cells #[.bool false, .bool false, .int .i64 0, .int .i64 0, .int .i64 0, .bool false, .bool false, .int .i64 0, .int .i64 0, .int .i64 0] 62)) w.heap.size [.bool s1, .bool s2, .int .i64 s3, .int .i64 s4, .int .i64 s5, .bool t1, .bool t2, .int .i64 t3, .int .i64 t4, .int .i64 t5] F := ⟨by repeat' (first | exact Below.refl _ _ | refine below_drewN ?_ _ | refine Below.drew ?_ | refine Below.setCell ?_ (by first | omega | (simp; done) | (simp; omega)) _ | refine Below.alloc ?_ (by first | omega | (simp; done) | (simp; omega)) _), Nat.le_refl _, by simp, rfl, World.rangeAt_alloc (World.rangeAt_alloc (range_new w _ _) _) _, World.there_alloc (World.there_alloc (there_new w _ _ _ _ rfl rfl) _) _, World.rangeAt_alloc (range_new' _ _ _ _ (by simp)) _, there_new _ _ _ _ _ (by simp) rfl⟩
    have L1 := L.below hb
    clear L hb
    have y0 := L1.cell 5 _ rfl
    have fy0 := L1.free 5 (by decide)
    have y1 := L1.cell 6 _ rfl
    have fy1 := L1.free 6 (by decide)
    have y2 := L1.cell 7 _ rfl
    have fy2 := L1.free 7 (by decide)
    have y3 := L1.cell 8 _ rfl
    have fy3 := L1.free 8 (by decide)
    have y4 := L1.cell 9 _ rfl
    have fy4 := L1.free 9 (by decide)
    have L5 : Lay w (((((w5.setCell ⟨w.heap.size, 5, none⟩ (.bool u1)).setCell ⟨w.heap.size, 6, none⟩ (.bool u2)).setCell ⟨w.heap.size, 7, none⟩ (.int .i64 u3)).setCell ⟨w.heap.size, 8, none⟩ (.int .i64 u4)).setCell ⟨w.heap.size, 9, none⟩ (.int .i64 u5)) w.heap.size [.bool s1, .bool s2, .int .i64 s3, .int .i64 s4, .int .i64 s5, .bool u1, .bool u2, .int .i64 u3, .int .i64 u4, .int .i64 u5] F := (((((L1.put 5 (.bool u1)).put 6 (.bool u2)).put 7 (.int .i64 u3)).put 8 (.int .i64 u4)).put 9 (.int .i64 u5))
    have HL5 := Lib.hid L5
    clear L5 L1
    go_wp2_with (first | (refine wpList_load_wide 62 (.tmp 3) rfl (by rfl) w.heap.size 0 rfl #[.bool s1, .bool s2, .int .i64 s3, .int .i64 s4, .int .i64 s5, .bool u1, .bool u2, .int .i64 u3, .int .i64 u4, .int .i64 u5] _ Try.underlying62 rfl info62' ?_ ?_; (· with_reducible exact HL5.out.t)) | (refine wpList_store_wide 62 (.tmp 6) (.tmp 21) rfl rfl (w.heap.size + 1 + 1) 0 #[.bool s1, .bool s2, .int .i64 s3, .int .i64 s4, .int .i64 s5, .bool u1, .bool u2, .int .i64 u3, .int .i64 u4, .int .i64 u5] rfl rfl w.heap.size w info62' (by simp [Value.oneCell']) ?_ (by omega) ?_ ?_; (· with_reducible exact HL5.out.b); (· exact HL5.out.z); intro w9 e9 z9 r9 j1 j2 j3; clear j1 j2 j3 z9))
    refine bodyPost_ret (v := .agg #[.bool s1, .bool s2, .int .i64 s3, .int .i64 s4, .int .i64 s5, .bool u1, .bool u2, .int .i64 u3, .int .i64 u4, .int .i64 u5]) (results_wide Try.results23 _ rfl (run_loadVar_mid (P := Try.prog) w9 (w.heap.size + 1 + 1) 0 62 _ _ r9 Try.underlying62 rfl info62')) rfl ⟨rfl, e9⟩
  · clear HA HB
    obtain ⟨s1, s2, s3, s4, s5⟩ := a'
    obtain ⟨t1, t2, t3, t4, t5⟩ := b'
    have hd1 : decide (d = 0) = false := by simp; omega
    have hd2 : (d == 0) = false := by simp; omega
    have hd3 : decide (d = 1) = false := by simp; omega
    have hd4 : (d == 1) = false := by simp; omega
    show Calls Try.prog 23 #[.agg #[.bool s1, .bool s2, .int .i64 s3, .int .i64 s4, .int .i64 s5, .bool t1, .bool t2, .int .i64 t3, .int .i64 t4, .int .i64 t5], .int .u8 d, .agg F] w _
    go_enter Try.func23, Try.ntmps23
    go_wp2_with fail
    refine bodyPost_ret (v := .agg #[.bool s1, .bool s2, .int .i64 s3, .int .i64 s4, .int .i64 s5, .bool t1, .bool t2, .int .i64 t3, .int .i64 t4, .int .i64 t5]) (by simp [results, Try.results23, go_sem]) rfl ⟨rfl, by repeat' (first | exact Below.refl _ _ | refine below_drewN ?_ _ | refine Below.drew ?_ | refine Below.setCell ?_ (by first | omega | (simp; done) | (simp; omega)) _ | refine Below.alloc ?_ (by first | omega | (simp; done) | (simp; omega)) _)⟩

end Go.Proofs.Ytchephpmkommfaa

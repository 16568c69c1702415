/-
  The contracts of the reference's Believe and Fits. Conditions: the numbers lie in their types' ranges.
-/
import Derived.Test.YtchephpmkommfaaRefA
namespace Go.Proofs.Ytchephpmkommfaa
open Go.RowKit
set_option linter.unusedVariables false
set_option linter.unusedSimpArgs false

theorem info62 : (Try.prog.info? 62).map (·.size) = some 10 := by kernel_rfl
theorem rtrk_size (a b : Sd) : (rtrk a b).size = 10 := rfl
theorem rbelieve_out (t f : Value) (d : Int) (w : World) (h : 1 < d) (ht : ∃ cs, t = .agg cs) (hf : ∃ cs, f = .agg cs) : Calls Try.prog 24 #[t, .int .u8 d, f] w fun e w' => e = .returned (.bool false) ∧ Below w.heap.size w w' := by
  obtain ⟨cs, rfl⟩ := ht
  obtain ⟨fs, rfl⟩ := hf
  go_enter Try.func24, Try.ntmps24
  go_wp2_with fail
  go_ret
  exact ⟨rfl, by go_grown⟩
theorem rfits_out (t f : Value) (d : Int) (w : World) (h : 1 < d) (ht : ∃ cs, t = .agg cs) (hf : ∃ cs, f = .agg cs) : Calls Try.prog 25 #[t, .int .u8 d, f] w fun e w' => e = .returned (.bool false) ∧ Below w.heap.size w w' := by
  obtain ⟨cs, rfl⟩ := ht
  obtain ⟨fs, rfl⟩ := hf
  go_enter Try.func25, Try.ntmps25
  go_wp2_with fail
  go_ret
  exact ⟨rfl, by go_grown⟩

set_option maxRecDepth 100000 in
set_option maxHeartbeats 4000000 in
theorem rbelieve_any (a b own other : Sd) (d : Int) (F : Array Value) (flags seq ack win len : Int) (w : World) (h : Fa F flags seq ack win len) (ho : other.wf) (hd : (d = 0 ∧ own = a ∧ other = b) ∨ (d ≠ 0 ∧ own = b ∧ other = a)) (hle : d ≤ 1) :
    Calls Try.prog 24 #[.agg (rtrk a b), .int .u8 d, .agg F] w fun e w' => e = .returned (.bool (bel own other flags seq ack)) ∧ Below w.heap.size w w' := by
  have HI := Lib.hid h.hi
  have HS : Hid (∀ W, Calls Try.prog 30 #[.agg (rtrk a b), .int .u8 d] W fun e w' => e = .returned (.tuple #[.agg own.rc, .agg other.rc]) ∧ Below W.heap.size W w') := fun W => sides_any a b own other d W hd
  have HW : Hid (∀ W, Calls Try.prog 31 #[.agg other.rc, .int .i64 seq] W fun e w' => e = .returned (.bool (wthn other.ack other.size seq)) ∧ Below W.heap.size W w') := fun W => ropen_any other seq W ho.2 h.bs
  have HM : Hid (∀ W, Calls Try.prog 28 #[.int .i64 (other.ack - seq)] W fun e w' => e = .returned (.int .i64 (lss other.ack seq)) ∧ W = w') := fun W => mod_any _ W
  obtain ⟨T, hT⟩ : ∃ T, rtrk a b = T := ⟨_, rfl⟩
  have ht : T.size = 10 := by rw [← hT]; rfl
  have HI2 : Hid ((Try.prog.info? 62).map (·.size) = some T.toList.length) := by rw [Array.length_toList, ht]; exact info62
  rw [hT] at HS ⊢
  clear hT hd
  have f6 := h.cflags
  have f9 := h.cseq
  have f10 := h.cack
  have hb1 := h.bs
  have hb2 := ho.2
  have hb3 := ho.1
  have hb4 := h.ba
  clear h ho
  obtain ⟨os, oa, on, oak, osz⟩ := own
  obtain ⟨ts, ta, tn, tak, tsz⟩ := other
  simp only [Sd.rc] at HS HW HM hb2 hb3 ⊢
  unfold bel
  dsimp only
  obtain ⟨fb, hfb⟩ : ∃ b, (bits .and .u8 flags 16 != 0) = b := ⟨_, rfl⟩
  rw [hfb]
  have hd1 : decide (1 < d) = false := by simp; omega
  go_enter Try.func24, Try.ntmps24
  go_wp2_with (refine wpList_load_wide 62 _ rfl (by rfl) _ _ rfl T _ Try.underlying62 rfl HI2.out ?_ ?_; · (repeat (first | exact range_new _ _ _ | refine World.rangeAt_alloc ?_ _)))
  refine (HS.out _).mono ?_
  rintro e w5 ⟨rfl, hb⟩
  have c6 := kc hb (a := ⟨w.heap.size + 1, 6, none⟩) (v := .int .u8 flags) (by simp [go_sem, f6])
  have c9 := kc hb (a := ⟨w.heap.size + 1, 9, none⟩) (v := .int .u32 seq) (by simp [go_sem, f9])
  have c10 := kc hb (a := ⟨w.heap.size + 1, 10, none⟩) (v := .int .u32 ack) (by simp [go_sem, f10])
  have bw : Below w.heap.size w w5 := bthen (((Below.refl _ _).alloc (Nat.le_refl _) _).alloc (by simp) _) hb
  have hlt : w.heap.size + 1 < w5.heap.size := cell_lt c9
  have hlt2 : w.heap.size ≤ w5.heap.size := by omega
  have q6 : ((w5.alloc (.cells #[.bool os, .bool oa, .int .i64 on, .int .i64 oak, .int .i64 osz] 60)).alloc (.cells #[.bool ts, .bool ta, .int .i64 tn, .int .i64 tak, .int .i64 tsz] 60)).cell? ⟨w.heap.size + 1, 6, none⟩ = some (.int .u8 flags) := by rw [World.cell?_alloc_past _ _ _ (by first | omega | (simp; omega)), World.cell?_alloc_past _ _ _ (by first | omega | (simp; omega))]; exact c6
  have q9 : ((w5.alloc (.cells #[.bool os, .bool oa, .int .i64 on, .int .i64 oak, .int .i64 osz] 60)).alloc (.cells #[.bool ts, .bool ta, .int .i64 tn, .int .i64 tak, .int .i64 tsz] 60)).cell? ⟨w.heap.size + 1, 9, none⟩ = some (.int .u32 seq) := by rw [World.cell?_alloc_past _ _ _ (by first | omega | (simp; omega)), World.cell?_alloc_past _ _ _ (by first | omega | (simp; omega))]; exact c9
  have q10 : ((w5.alloc (.cells #[.bool os, .bool oa, .int .i64 on, .int .i64 oak, .int .i64 osz] 60)).alloc (.cells #[.bool ts, .bool ta, .int .i64 tn, .int .i64 tak, .int .i64 tsz] 60)).cell? ⟨w.heap.size + 1, 10, none⟩ = some (.int .u32 ack) := by rw [World.cell?_alloc_past _ _ _ (by first | omega | (simp; omega)), World.cell?_alloc_past _ _ _ (by first | omega | (simp; omega))]; exact c10
  clear hb f6 f9 f10 HS ht c6 c9 c10
  cases ta
  · clear HW HM
    cases fb
    · cases os
      all_goals
        go_wp2_with fail
        go_ret
        exact ⟨by simp, by repeat' (first | with_reducible exact bw | exact Below.refl _ _ | refine below_drewN ?_ _ | refine Below.drew ?_ | refine Below.setCell ?_ (by first | omega | (simp; done) | (simp; omega)) _ | refine Below.alloc ?_ (by first | omega | (simp; done) | (simp; omega)) _)⟩
    · cases ts
      · cases os
        all_goals
          go_wp2_with fail
          go_ret
          exact ⟨by simp, by repeat' (first | with_reducible exact bw | exact Below.refl _ _ | refine below_drewN ?_ _ | refine Below.drew ?_ | refine Below.setCell ?_ (by first | omega | (simp; done) | (simp; omega)) _ | refine Below.alloc ?_ (by first | omega | (simp; done) | (simp; omega)) _)⟩
      · go_wp2_with fail
        go_ret
        exact ⟨by simp, by repeat' (first | with_reducible exact bw | exact Below.refl _ _ | refine below_drewN ?_ _ | refine Below.drew ?_ | refine Below.setCell ?_ (by first | omega | (simp; done) | (simp; omega)) _ | refine Below.alloc ?_ (by first | omega | (simp; done) | (simp; omega)) _)⟩
  · go_wp2_with fail
    refine (HW.out _).mono ?_
    rintro e w6 ⟨rfl, hb6⟩
    go_wp2_with fail
    go_ret
    exact ⟨by simp, bthen (by repeat' (first | with_reducible exact bw | exact Below.refl _ _ | refine below_drewN ?_ _ | refine Below.drew ?_ | refine Below.setCell ?_ (by first | omega | (simp; done) | (simp; omega)) _ | refine Below.alloc ?_ (by first | omega | (simp; done) | (simp; omega)) _)) hb6⟩

set_option maxRecDepth 100000 in
set_option maxHeartbeats 4000000 in
theorem rfits_any (a b own other : Sd) (d : Int) (F : Array Value) (flags seq ack win len : Int) (w : World) (h : Fa F flags seq ack win len) (ho : other.wf) (hd : (d = 0 ∧ own = a ∧ other = b) ∨ (d ≠ 0 ∧ own = b ∧ other = a)) (hle : d ≤ 1) :
    Calls Try.prog 25 #[.agg (rtrk a b), .int .u8 d, .agg F] w fun e w' => e = .returned (.bool (fit other seq)) ∧ Below w.heap.size w w' := by
  have HI := Lib.hid h.hi
  have HS : Hid (∀ W, Calls Try.prog 30 #[.agg (rtrk a b), .int .u8 d] W fun e w' => e = .returned (.tuple #[.agg own.rc, .agg other.rc]) ∧ Below W.heap.size W w') := fun W => sides_any a b own other d W hd
  have HW : Hid (∀ W, Calls Try.prog 31 #[.agg other.rc, .int .i64 seq] W fun e w' => e = .returned (.bool (wthn other.ack other.size seq)) ∧ Below W.heap.size W w') := fun W => ropen_any other seq W ho.2 h.bs
  have HM : Hid (∀ W, Calls Try.prog 28 #[.int .i64 (other.ack - seq)] W fun e w' => e = .returned (.int .i64 (lss other.ack seq)) ∧ W = w') := fun W => mod_any _ W
  obtain ⟨T, hT⟩ : ∃ T, rtrk a b = T := ⟨_, rfl⟩
  have ht : T.size = 10 := by rw [← hT]; rfl
  have HI2 : Hid ((Try.prog.info? 62).map (·.size) = some T.toList.length) := by rw [Array.length_toList, ht]; exact info62
  rw [hT] at HS ⊢
  clear hT hd
  have f6 := h.cflags
  have f9 := h.cseq
  have f10 := h.cack
  have hb1 := h.bs
  have hb2 := ho.2
  have hb3 := ho.1
  have hb4 := h.ba
  clear h ho
  obtain ⟨os, oa, on, oak, osz⟩ := own
  obtain ⟨ts, ta, tn, tak, tsz⟩ := other
  simp only [Sd.rc] at HS HW HM hb2 hb3 ⊢
  unfold fit
  dsimp only
  have hr := lss_range tak seq
  generalize wthn tak tsz seq = wt at *
  generalize lss tak seq = x at *
  have hd1 : decide (1 < d) = false := by simp; omega
  go_enter Try.func25, Try.ntmps25
  go_wp2_with (refine wpList_load_wide 62 _ rfl (by rfl) _ _ rfl T _ Try.underlying62 rfl HI2.out ?_ ?_; · (repeat (first | exact range_new _ _ _ | refine World.rangeAt_alloc ?_ _)))
  refine (HS.out _).mono ?_
  rintro e w5 ⟨rfl, hb⟩
  have c6 := kc hb (a := ⟨w.heap.size + 1, 6, none⟩) (v := .int .u8 flags) (by simp [go_sem, f6])
  have c9 := kc hb (a := ⟨w.heap.size + 1, 9, none⟩) (v := .int .u32 seq) (by simp [go_sem, f9])
  have c10 := kc hb (a := ⟨w.heap.size + 1, 10, none⟩) (v := .int .u32 ack) (by simp [go_sem, f10])
  have bw : Below w.heap.size w w5 := bthen (((Below.refl _ _).alloc (Nat.le_refl _) _).alloc (by simp) _) hb
  have hlt : w.heap.size + 1 < w5.heap.size := cell_lt c9
  have hlt2 : w.heap.size ≤ w5.heap.size := by omega
  have q6 : ((w5.alloc (.cells #[.bool os, .bool oa, .int .i64 on, .int .i64 oak, .int .i64 osz] 60)).alloc (.cells #[.bool ts, .bool ta, .int .i64 tn, .int .i64 tak, .int .i64 tsz] 60)).cell? ⟨w.heap.size + 1, 6, none⟩ = some (.int .u8 flags) := by rw [World.cell?_alloc_past _ _ _ (by first | omega | (simp; omega)), World.cell?_alloc_past _ _ _ (by first | omega | (simp; omega))]; exact c6
  have q9 : ((w5.alloc (.cells #[.bool os, .bool oa, .int .i64 on, .int .i64 oak, .int .i64 osz] 60)).alloc (.cells #[.bool ts, .bool ta, .int .i64 tn, .int .i64 tak, .int .i64 tsz] 60)).cell? ⟨w.heap.size + 1, 9, none⟩ = some (.int .u32 seq) := by rw [World.cell?_alloc_past _ _ _ (by first | omega | (simp; omega)), World.cell?_alloc_past _ _ _ (by first | omega | (simp; omega))]; exact c9
  have q10 : ((w5.alloc (.cells #[.bool os, .bool oa, .int .i64 on, .int .i64 oak, .int .i64 osz] 60)).alloc (.cells #[.bool ts, .bool ta, .int .i64 tn, .int .i64 tak, .int .i64 tsz] 60)).cell? ⟨w.heap.size + 1, 10, none⟩ = some (.int .u32 ack) := by rw [World.cell?_alloc_past _ _ _ (by first | omega | (simp; omega)), World.cell?_alloc_past _ _ _ (by first | omega | (simp; omega))]; exact c10
  clear hb f6 f9 f10 HS ht c6 c9 c10
  cases ta
  · go_wp2_with fail
    go_ret
    exact ⟨by simp, by repeat' (first | with_reducible exact bw | exact Below.refl _ _ | refine below_drewN ?_ _ | refine Below.drew ?_ | refine Below.setCell ?_ (by first | omega | (simp; done) | (simp; omega)) _ | refine Below.alloc ?_ (by first | omega | (simp; done) | (simp; omega)) _)⟩
  · go_wp2_with fail
    refine (HW.out _).mono ?_
    rintro e w6 ⟨rfl, hb6⟩
    have e9 := kc hb6 (a := ⟨w.heap.size + 1, 9, none⟩) (v := .int .u32 seq) q9
    have e3 := kc hb6 (a := ⟨w5.heap.size + 1, 3, none⟩) (v := .int .i64 tak) (by simp [go_sem])
    have b6 : Below w.heap.size w w6 := bthen (by repeat' (first | with_reducible exact bw | exact Below.refl _ _ | refine below_drewN ?_ _ | refine Below.drew ?_ | refine Below.setCell ?_ (by first | omega | (simp; done) | (simp; omega)) _ | refine Below.alloc ?_ (by first | omega | (simp; done) | (simp; omega)) _)) hb6
    clear q6 q9 q10 hb6
    cases wt
    · go_wp2_with fail
      refine (HM.out _).mono ?_
      rintro e w7 ⟨rfl, rfl⟩
      go_wp2_with fail
      go_ret
      exact ⟨by simp, b6⟩
    · go_wp2_with fail
      go_ret
      exact ⟨by simp, b6⟩

end Go.Proofs.Ytchephpmkommfaa

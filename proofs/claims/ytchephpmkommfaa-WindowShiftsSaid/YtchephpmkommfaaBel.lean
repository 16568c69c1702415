/-
  The contracts of package window's Believe and Fits over whole tracks and packets.
-/
import Derived.Test.YtchephpmkommfaaSee
import Derived.ChangeKeysEq
namespace Go.Proofs.Ytchephpmkommfaa
open Go.RowKit
set_option linter.unusedVariables false
set_option linter.unusedSimpArgs false

theorem facts_out {F : Array Value} {flags seq ack win len : Int} (h : Fa F flags seq ack win len) : ∃ c0 c1 c2 c3 c4 c5 c7 c8 c13 c14 c15 c16 c17 c18 : Value, F = #[c0, c1, c2, c3, c4, c5, .int .u8 flags, c7, c8, .int .u32 seq, .int .u32 ack, .int .i64 win, .int .i64 len, c13, c14, c15, c16, c17, c18] := by
  obtain ⟨hs, h6, h9, h10, h11, h12, _, _, _, _, _, _⟩ := h
  obtain ⟨l⟩ := F
  match l, hs with
  | [c0, c1, c2, c3, c4, c5, c6, c7, c8, c9, c10, c11, c12, c13, c14, c15, c16, c17, c18], _ =>
    simp at h6 h9 h10 h11 h12
    subst h6 h9 h10 h11 h12
    exact ⟨_, _, _, _, _, _, _, _, _, _, _, _, _, _, rfl⟩

theorem believe0_any (a b : Sd) (F : Array Value) (flags seq ack win len : Int) (w : World) (h : Fa F flags seq ack win len) (hb : b.wf) :
    Calls Try.prog 16 #[.agg (trk a b), .int .u8 0, .agg F] w fun e w' => e = .returned (.bool (bel a b flags seq ack)) ∧ Below w.heap.size w w' := by
  have hs := h.bs
  obtain ⟨c0, c1, c2, c3, c4, c5, c7, c8, c13, c14, c15, c16, c17, c18, rfl⟩ := facts_out h
  exact believe_0 a.seen a.acked b.seen b.acked a.next a.ack a.size b.next b.ack b.size c0 c1 c2 c3 c4 c5 c7 c8 c13 c14 c15 c16 c17 c18 flags seq ack win len w hb.2 hs
theorem believe1_any (a b : Sd) (F : Array Value) (flags seq ack win len : Int) (w : World) (h : Fa F flags seq ack win len) (ha : a.wf) :
    Calls Try.prog 16 #[.agg (trk a b), .int .u8 1, .agg F] w fun e w' => e = .returned (.bool (bel b a flags seq ack)) ∧ Below w.heap.size w w' := by
  have hs := h.bs
  obtain ⟨c0, c1, c2, c3, c4, c5, c7, c8, c13, c14, c15, c16, c17, c18, rfl⟩ := facts_out h
  exact believe_1 b.seen b.acked a.seen a.acked b.next b.ack b.size a.next a.ack a.size c0 c1 c2 c3 c4 c5 c7 c8 c13 c14 c15 c16 c17 c18 flags seq ack win len w ha.2 hs

/-- A packet fits. -/
def fit (other : Sd) (seq : Int) : Bool := !other.acked || (wthn other.ack other.size seq || decide (lss other.ack seq ≤ 65535))
def sd0 : Sd := ⟨false, false, 0, 0, 0⟩
/-- Two sides are one. -/
def eqSd (a c : Sd) : Bool := a.seen == c.seen && (a.acked == c.acked && (a.next == c.next && (a.ack == c.ack && a.size == c.size)))
theorem info27x : (Try.prog.info? 27).map (fun i => (i.size)) = some 5 := by kernel_rfl
theorem cells27 : Try.prog.cellsOf 27 = 5 := by kernel_rfl
set_option maxHeartbeats 1000000 in
theorem side_eql (a c : Sd) (W : World) : (Op.equalIn 9999 27 (.agg #[.bool a.seen, .bool a.acked, .int .u32 a.next, .int .u32 a.ack, .int .i64 a.size]) (.agg #[.bool c.seen, .bool c.acked, .int .u32 c.next, .int .u32 c.ack, .int .i64 c.size])).run Try.prog W = .ok (eqSd a c) W := by
  unfold eqSd
  go_simp
  by_cases h1 : a.seen = c.seen <;> by_cases h2 : a.acked = c.acked <;> by_cases h3 : a.next = c.next <;> by_cases h4 : a.ack = c.ack <;> by_cases h5 : a.size = c.size <;> simp [h1, h2, h3, h4, h5]
theorem trk_eql (a b c d : Sd) (W : World) : (binOp .eql 29 (.agg (trk a b)) (.agg (trk c d))).run Try.prog W = .ok (.bool (eqSd a c && eqSd b d)) W := by
  obtain ⟨i, hi⟩ : ∃ i, Try.prog.info? 27 = some i := by
    have := info27x
    cases h : Try.prog.info? 27 with
    | none => rw [h] at this; cases this
    | some i => exact ⟨i, rfl⟩
  rw [run_eql_struct, run_equalIn_array W 9999 (trk a b) (trk c d) Try.underlying29 hi, cells27]
  have p1 : ∀ (a b : Sd) W, (part 27 (trk a b) 0).run Try.prog W = .ok (.agg #[.bool a.seen, .bool a.acked, .int .u32 a.next, .int .u32 a.ack, .int .i64 a.size]) W := by
    intro a b W
    kernel_rfl
  have p2 : ∀ (a b : Sd) W, (part 27 (trk a b) 5).run Try.prog W = .ok (.agg #[.bool b.seen, .bool b.acked, .int .u32 b.next, .int .u32 b.ack, .int .i64 b.size]) W := by
    intro a b W
    kernel_rfl
  show ((Op.eqItems 9999 27 5 (trk a b) (trk c d) [0, 1]).run Try.prog W).andThen _ = _
  simp only [Op.eqItems, Nat.zero_mul, Nat.one_mul, Sem.run_bind, p1, p2, Result.andThen_ok, side_eql]
  cases hA : eqSd a c <;> cases hB : eqSd b d <;> simp [p2, side_eql, hA, hB]

theorem trk_neq (a b c d : Sd) (W : World) : (binOp .neq 29 (.agg (trk a b)) (.agg (trk c d))).run Try.prog W = .ok (.bool (!(eqSd a c && eqSd b d))) W := by
  have h := trk_eql a b c d W
  rw [run_eql_struct] at h
  rw [run_neq_struct]
  revert h
  generalize (Op.equalIn 10000 29 (.agg (trk a b)) (.agg (trk c d))).run Try.prog W = r
  cases r with
  | ok v w' => intro h; simp only [Result.andThen_ok] at h ⊢; injection h with h1 h2; injection h1 with h1; subst h1 h2; rfl
  | halt x w' => intro h; cases h
theorem eq_sd0 {a : Sd} (h : a.acked = true) : eqSd a sd0 = false := by simp [eqSd, sd0, h]

set_option maxRecDepth 100000 in
set_option maxHeartbeats 2000000 in
theorem fits0_any (a b : Sd) (F : Array Value) (flags seq ack win len : Int) (w : World) (h : Fa F flags seq ack win len) (hb : b.wf) :
    Calls Try.prog 17 #[.agg (trk a b), .int .u8 0, .agg F] w fun e w' => e = .returned (.bool (fit b seq)) ∧ Below w.heap.size w w' := by
  have he : ∀ W, (binOp .eql 29 (.agg (trk a b)) (.agg (trk sd0 sd0))).run Try.prog W = .ok (.bool (eqSd a sd0 && eqSd b sd0)) W := trk_eql a b sd0 sd0
  have hz : b.acked = true → (eqSd a sd0 && eqSd b sd0) = false := fun h => by rw [eq_sd0 h, Bool.and_false]
  generalize (eqSd a sd0 && eqSd b sd0) = eb at *
  have hW : Hid (∀ W, Calls Try.prog 27 #[.agg #[.bool b.seen, .bool b.acked, .int .u32 b.next, .int .u32 b.ack, .int .i64 b.size], .int .u32 seq] W fun e w' => e = .returned (.bool (wthn b.ack b.size seq)) ∧ Below W.heap.size W w') := fun W => within_core _ _ _ _ _ _ W hb.2 h.bs
  have hL : Hid (∀ W, Calls Try.prog 19 #[.int .u32 b.ack, .int .u32 seq] W fun e w' => e = .returned (.int .i64 (lss b.ack seq)) ∧ W = w') := fun W => less_any _ _ W hb.2 h.bs
  have hlr := lss_range b.ack seq
  unfold fit
  obtain ⟨s1, a1, n1, k1, z1⟩ := a
  obtain ⟨s2, a2, n2, k2, z2⟩ := b
  have hq := h.cseq
  clear h hb
  simp only [trk, Sd.cells, sd0, List.cons_append, List.nil_append] at *
  generalize wthn k2 z2 seq = wt at *
  generalize lss k2 seq = ls at *
  cases a2
  · clear hz
    cases eb
    all_goals
      go_enter Try.func17, Try.ntmps17
      go_wp2_with fail
      go_ret
      exact ⟨rfl, by (repeat' (first | exact Below.refl _ _ | refine Below.setCell ?_ (by first | omega | (simp; done) | (simp; omega)) _ | refine Below.alloc ?_ (by first | omega | (simp; done) | (simp; omega)) _))⟩
  · obtain rfl := hz rfl
    clear hz
    cases wt
    · go_enter Try.func17, Try.ntmps17
      go_wp2_with fail
      refine (hW.out _).mono ?_
      rintro e w1 ⟨rfl, hb1⟩
      have c9 : w1.cell? ⟨w.heap.size + 1, 9, none⟩ = some (.int .u32 seq) := (hb1.cell (p := ⟨w.heap.size + 1, 9, none⟩) (by simp)).trans (by simp [go_sem, hq])
      have c3 : w1.cell? ⟨w.heap.size + 1 + 1, 3, none⟩ = some (.int .u32 k2) := (hb1.cell (p := ⟨w.heap.size + 1 + 1, 3, none⟩) (by simp)).trans (by simp [go_sem])
      have b1 : Below w.heap.size w w1 := bthen (by (repeat' (first | exact Below.refl _ _ | refine Below.setCell ?_ (by first | omega | (simp; done) | (simp; omega)) _ | refine Below.alloc ?_ (by first | omega | (simp; done) | (simp; omega)) _))) hb1
      clear hb1 he
      go_wp2_with fail
      refine (hL.out _).mono ?_
      rintro e w2 ⟨rfl, rfl⟩
      go_wp2_with fail
      go_ret
      exact ⟨by simp, b1⟩
    · go_enter Try.func17, Try.ntmps17
      go_wp2_with fail
      refine (hW.out _).mono ?_
      rintro e w1 ⟨rfl, hb1⟩
      have b1 : Below w.heap.size w w1 := bthen (by (repeat' (first | exact Below.refl _ _ | refine Below.setCell ?_ (by first | omega | (simp; done) | (simp; omega)) _ | refine Below.alloc ?_ (by first | omega | (simp; done) | (simp; omega)) _))) hb1
      clear hb1 he
      go_wp2_with fail
      go_ret
      exact ⟨by simp, b1⟩

set_option maxRecDepth 100000 in
set_option maxHeartbeats 2000000 in
theorem fits1_any (a b : Sd) (F : Array Value) (flags seq ack win len : Int) (w : World) (h : Fa F flags seq ack win len) (hb : a.wf) :
    Calls Try.prog 17 #[.agg (trk a b), .int .u8 1, .agg F] w fun e w' => e = .returned (.bool (fit a seq)) ∧ Below w.heap.size w w' := by
  have he : ∀ W, (binOp .eql 29 (.agg (trk a b)) (.agg (trk sd0 sd0))).run Try.prog W = .ok (.bool (eqSd a sd0 && eqSd b sd0)) W := trk_eql a b sd0 sd0
  have hz : a.acked = true → (eqSd a sd0 && eqSd b sd0) = false := fun h => by rw [eq_sd0 h, Bool.false_and]
  generalize (eqSd a sd0 && eqSd b sd0) = eb at *
  have hW : Hid (∀ W, Calls Try.prog 27 #[.agg #[.bool a.seen, .bool a.acked, .int .u32 a.next, .int .u32 a.ack, .int .i64 a.size], .int .u32 seq] W fun e w' => e = .returned (.bool (wthn a.ack a.size seq)) ∧ Below W.heap.size W w') := fun W => within_core _ _ _ _ _ _ W hb.2 h.bs
  have hL : Hid (∀ W, Calls Try.prog 19 #[.int .u32 a.ack, .int .u32 seq] W fun e w' => e = .returned (.int .i64 (lss a.ack seq)) ∧ W = w') := fun W => less_any _ _ W hb.2 h.bs
  have hlr := lss_range a.ack seq
  unfold fit
  obtain ⟨s1, a1, n1, k1, z1⟩ := a
  obtain ⟨s2, a2, n2, k2, z2⟩ := b
  have hq := h.cseq
  clear h hb
  simp only [trk, Sd.cells, sd0, List.cons_append, List.nil_append] at *
  generalize wthn k1 z1 seq = wt at *
  generalize lss k1 seq = ls at *
  cases a1
  · clear hz
    cases eb
    all_goals
      go_enter Try.func17, Try.ntmps17
      go_wp2_with fail
      go_ret
      exact ⟨rfl, by (repeat' (first | exact Below.refl _ _ | refine Below.setCell ?_ (by first | omega | (simp; done) | (simp; omega)) _ | refine Below.alloc ?_ (by first | omega | (simp; done) | (simp; omega)) _))⟩
  · obtain rfl := hz rfl
    clear hz
    cases wt
    · go_enter Try.func17, Try.ntmps17
      go_wp2_with fail
      refine (hW.out _).mono ?_
      rintro e w1 ⟨rfl, hb1⟩
      have c9 : w1.cell? ⟨w.heap.size + 1, 9, none⟩ = some (.int .u32 seq) := (hb1.cell (p := ⟨w.heap.size + 1, 9, none⟩) (by simp)).trans (by simp [go_sem, hq])
      have c3 : w1.cell? ⟨w.heap.size + 1 + 1, 3, none⟩ = some (.int .u32 k1) := (hb1.cell (p := ⟨w.heap.size + 1 + 1, 3, none⟩) (by simp)).trans (by simp [go_sem])
      have b1 : Below w.heap.size w w1 := bthen (by (repeat' (first | exact Below.refl _ _ | refine Below.setCell ?_ (by first | omega | (simp; done) | (simp; omega)) _ | refine Below.alloc ?_ (by first | omega | (simp; done) | (simp; omega)) _))) hb1
      clear hb1 he
      go_wp2_with fail
      refine (hL.out _).mono ?_
      rintro e w2 ⟨rfl, rfl⟩
      go_wp2_with fail
      go_ret
      exact ⟨by simp, b1⟩
    · go_enter Try.func17, Try.ntmps17
      go_wp2_with fail
      refine (hW.out _).mono ?_
      rintro e w1 ⟨rfl, hb1⟩
      have b1 : Below w.heap.size w w1 := bthen (by (repeat' (first | exact Below.refl _ _ | refine Below.setCell ?_ (by first | omega | (simp; done) | (simp; omega)) _ | refine Below.alloc ?_ (by first | omega | (simp; done) | (simp; omega)) _))) hb1
      clear hb1 he
      go_wp2_with fail
      go_ret
      exact ⟨by simp, b1⟩

theorem fits_out (t f : Value) (d : Int) (w : World) (h : 1 < d) (ht : ∃ cs, t = .agg cs) (hf : ∃ cs, f = .agg cs) : Calls Try.prog 17 #[t, .int .u8 d, f] w fun e w' => e = .returned (.bool false) ∧ Below w.heap.size w w' := by
  obtain ⟨cs, rfl⟩ := ht
  obtain ⟨fs, rfl⟩ := hf
  go_enter Try.func17, Try.ntmps17
  go_wp2_with fail
  go_ret
  exact ⟨rfl, by go_grown⟩

end Go.Proofs.Ytchephpmkommfaa

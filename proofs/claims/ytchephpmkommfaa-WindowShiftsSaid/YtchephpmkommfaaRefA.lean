/-
  The contracts of the reference: Mod, After, Room, open, sides, turned. Conditions: the numbers lie in their types' ranges.
-/
import Derived.Test.YtchephpmkommfaaBel
namespace Go.Proofs.Ytchephpmkommfaa
open Go.RowKit
set_option linter.unusedVariables false
set_option linter.unusedSimpArgs false

theorem tmod_parts (n : Int) : -4294967296 < n.tmod 4294967296 ∧ n.tmod 4294967296 < 4294967296 ∧ (n.tmod 4294967296 + 4294967296) % 4294967296 = n % 4294967296 := by
  by_cases h : 0 ≤ n
  · rw [Int.tmod_eq_emod_of_nonneg h]
    omega
  · obtain ⟨m, rfl⟩ : ∃ m, n = -m := ⟨-n, by omega⟩
    rw [Int.neg_tmod, Int.tmod_eq_emod_of_nonneg (by omega)]
    omega
theorem mod_any (n : Int) (w : World) : Calls Try.prog 28 #[.int .i64 n] w fun e w' => e = .returned (.int .i64 (n % 4294967296)) ∧ w = w' := by
  obtain ⟨h1, h2, h3⟩ := tmod_parts n
  obtain ⟨r, hr⟩ : ∃ r, n.tmod 4294967296 = r := ⟨_, rfl⟩
  rw [hr] at h1 h2 h3
  obtain ⟨m, hm⟩ : ∃ m, n % 4294967296 = m := ⟨_, rfl⟩
  rw [hm] at h3 ⊢
  have hm' : 0 ≤ m ∧ m < 4294967296 := by omega
  have hq : (r + 4294967296).tmod 4294967296 = m := by rw [Int.tmod_eq_emod_of_nonneg (by omega)]; exact h3
  have hx : IntKind.i64.wrap r = r := IntWalk.i64_in _ (by omega)
  have hy : IntKind.i64.wrap m = m := IntWalk.i64_in _ (by omega)
  clear h3 hm
  go_enter Try.func28, Try.ntmps28
  go_wp2_with fail
  go_ret
  exact ⟨rfl, rfl⟩

theorem rafter_any (a b : Int) (w : World) (ha : 0 ≤ a ∧ a ≤ 4294967295) (hb : 0 ≤ b ∧ b ≤ 4294967295) : Calls Try.prog 21 #[.int .i64 a, .int .i64 b] w fun e w' => e = .returned (.bool (aft a b)) ∧ w = w' := by
  have hr := lss_range a b
  have HL : Hid (∀ W, Calls Try.prog 28 #[.int .i64 (a - b)] W fun e w' => e = .returned (.int .i64 (lss a b)) ∧ W = w') := fun W => mod_any _ W
  unfold aft
  obtain ⟨x, hx⟩ : ∃ x, lss a b = x := ⟨_, rfl⟩
  rw [hx] at HL hr ⊢
  clear hx
  by_cases h1 : 0 < x
  · have h2 : 1 ≤ x := by omega
    go_enter Try.func21, Try.ntmps21
    go_wp2_with (go_at_call 28; refine (HL.out _).mono ?_; rintro e w' ⟨rfl, rfl⟩)
    go_ret
    exact ⟨by simp [h1]; omega, rfl⟩
  · go_enter Try.func21, Try.ntmps21
    go_wp2_with (go_at_call 28; refine (HL.out _).mono ?_; rintro e w' ⟨rfl, rfl⟩)
    go_ret
    exact ⟨by simp <;> omega, rfl⟩

set_option maxHeartbeats 1000000 in
theorem rroom_any (F : Array Value) (flags seq ack win len : Int) (w : World) (h : Fa F flags seq ack win len) :
    Calls Try.prog 22 #[.agg F] w fun e w' => e = .returned (.int .i64 (room flags len)) ∧ Below w.heap.size w w' := by
  have f1 := h.cflags
  have f2 := h.clen
  clear h
  obtain ⟨m, hm⟩ : ∃ m, len % 4294967296 = m := ⟨_, rfl⟩
  have hm' : 0 ≤ m ∧ m < 4294967296 := by omega
  have HL : Hid (∀ W, Calls Try.prog 28 #[.int .i64 len] W fun e w' => e = .returned (.int .i64 m) ∧ W = w') := fun W => hm ▸ mod_any _ W
  have HM : Hid (∀ x W, Calls Try.prog 28 #[.int .i64 x] W fun e w' => e = .returned (.int .i64 (x % 4294967296)) ∧ W = w') := fun x W => mod_any _ W
  have HE := Lib.hid hm
  clear hm
  by_cases h2 : (bits .and .u8 flags 2 != 0) = true
  all_goals by_cases h1 : (bits .and .u8 flags 1 != 0) = true
  all_goals
    obtain ⟨r, hr⟩ : ∃ r, room flags len = r := ⟨_, rfl⟩
    have hr1 := hr
    unfold room at hr1
    simp only [h1, h2, if_true] at hr1
    rw [hr]
    try simp only [Bool.not_eq_true] at h1
    try simp only [Bool.not_eq_true] at h2
    have HR := Lib.hid hr1
    clear hr hr1
    go_enter Try.func22, Try.ntmps22
    go_wp2_with fail
    refine (HL.out _).mono ?_
    rintro e w' ⟨rfl, rfl⟩
    go_wp2_with fail
    refine (HM.out _ _).mono ?_
    rintro e w' ⟨rfl, rfl⟩
    go_wp2_with fail
    go_ret
    refine ⟨?_, (Below.refl _ _).alloc (Nat.le_refl _) _⟩
    have h3 := HR.out
    have h4 := HE.out
    rw [← h3]
    simp <;> omega

theorem results_two {P : Program} {fn : Func} {p q : Tmp} {ty ty' : TypeId} {a b : Addr} {v u : Value} {w : World} (h : fn.results = #[.cell p ty, .cell q ty']) (tmps : Array Value) (hp : tmps.getD p undef = .pointer (some a)) (hq : tmps.getD q undef = .pointer (some b))
    (hl : (loadVar ty a).run P w = .ok v w) (hm : (loadVar ty' b).run P w = .ok u w) : (results fn tmps).run P w = .ok (.tuple #[v, u]) w := by
  rw [Array.getD_eq_getD_getElem?] at hp hq
  simp only [results, h]
  simp [hp, hq, asAddr, hl, hm]
/-- A side's cells, in the reference. -/
def Sd.rc (s : Sd) : Array Value := #[.bool s.seen, .bool s.acked, .int .i64 s.next, .int .i64 s.ack, .int .i64 s.size]
def rtrk (a b : Sd) : Array Value := a.rc ++ b.rc
theorem ropen_any (s : Sd) (seq : Int) (w : World) (ha : 0 ≤ s.ack ∧ s.ack ≤ 4294967295) (hs : 0 ≤ seq ∧ seq ≤ 4294967295) :
    Calls Try.prog 31 #[.agg s.rc, .int .i64 seq] w fun e w' => e = .returned (.bool (wthn s.ack s.size seq)) ∧ Below w.heap.size w w' := by
  obtain ⟨seen, acked, next, ack, size⟩ := s
  have hr := lss_range seq ack
  have HL : Hid (∀ W, Calls Try.prog 28 #[.int .i64 (seq - ack)] W fun e w' => e = .returned (.int .i64 (lss seq ack)) ∧ W = w') := fun W => mod_any _ W
  unfold wthn
  dsimp only at ha ⊢
  obtain ⟨x, hx⟩ : ∃ x, lss seq ack = x := ⟨_, rfl⟩
  rw [hx] at HL hr ⊢
  clear hx
  unfold Sd.rc
  dsimp only
  by_cases h0 : x = 0
  · go_enter Try.func31, Try.ntmps31
    go_wp2_with fail
    refine (HL.out _).mono ?_
    rintro e w' ⟨rfl, rfl⟩
    subst h0
    go_wp2_with fail
    go_ret
    exact ⟨by simp <;> omega, (Below.refl _ _).alloc (Nat.le_refl _) _⟩
  · have h1 : decide (x = 0) = false := by simp [h0]
    have h2 : (x == 0) = false := by simp [h0]
    go_enter Try.func31, Try.ntmps31
    go_wp2_with fail
    refine (HL.out _).mono ?_
    rintro e w' ⟨rfl, rfl⟩
    go_wp2_with fail
    go_ret
    refine ⟨?_, (Below.refl _ _).alloc (Nat.le_refl _) _⟩
    by_cases h3 : x < size
    · have : x < max 1 size := by omega
      simp [h3, this]
    · have : ¬ x < max 1 size := by omega
      simp [h3, this]

set_option maxHeartbeats 1000000 in
theorem sides_any (a b own other : Sd) (d : Int) (w : World) (hd : (d = 0 ∧ own = a ∧ other = b) ∨ (d ≠ 0 ∧ own = b ∧ other = a)) :
    Calls Try.prog 30 #[.agg (rtrk a b), .int .u8 d] w fun e w' => e = .returned (.tuple #[.agg own.rc, .agg other.rc]) ∧ Below w.heap.size w w' := by
  obtain ⟨s1, s2, s3, s4, s5⟩ := a
  obtain ⟨t1, t2, t3, t4, t5⟩ := b
  rcases hd with ⟨rfl, rfl, rfl⟩ | ⟨hd, rfl, rfl⟩
  · show Calls Try.prog 30 #[.agg #[.bool s1, .bool s2, .int .i64 s3, .int .i64 s4, .int .i64 s5, .bool t1, .bool t2, .int .i64 t3, .int .i64 t4, .int .i64 t5], .int .u8 0] w _
    go_enter Try.func30, Try.ntmps30
    go_wp2_with fail
    go_region
    all_goals
      go_wp2_with fail
      refine bodyPost_ret (v := .tuple #[.agg #[.bool s1, .bool s2, .int .i64 s3, .int .i64 s4, .int .i64 s5], .agg #[.bool t1, .bool t2, .int .i64 t3, .int .i64 t4, .int .i64 t5]]) (by simp [results, Try.results30, go_sem]) rfl ⟨rfl, by repeat' (first | exact Below.refl _ _ | refine below_drewN ?_ _ | refine Below.drew ?_ | refine Below.setCell ?_ (by first | omega | (simp; done) | (simp; omega)) _ | refine Below.alloc ?_ (by first | omega | (simp; done) | (simp; omega)) _)⟩
  · have hd1 : decide (d = 0) = false := by simp [hd]
    have hd2 : (d == 0) = false := by simp [hd]
    show Calls Try.prog 30 #[.agg #[.bool s1, .bool s2, .int .i64 s3, .int .i64 s4, .int .i64 s5, .bool t1, .bool t2, .int .i64 t3, .int .i64 t4, .int .i64 t5], .int .u8 d] w _
    go_enter Try.func30, Try.ntmps30
    go_wp2_with fail
    go_region
    all_goals
      go_wp2_with fail
      refine bodyPost_ret (v := .tuple #[.agg #[.bool t1, .bool t2, .int .i64 t3, .int .i64 t4, .int .i64 t5], .agg #[.bool s1, .bool s2, .int .i64 s3, .int .i64 s4, .int .i64 s5]]) (by simp [results, Try.results30, go_sem]) rfl ⟨rfl, by repeat' (first | exact Below.refl _ _ | refine below_drewN ?_ _ | refine Below.drew ?_ | refine Below.setCell ?_ (by first | omega | (simp; done) | (simp; omega)) _ | refine Below.alloc ?_ (by first | omega | (simp; done) | (simp; omega)) _)⟩

set_option maxHeartbeats 1000000 in
theorem turned_any (a b : Sd) (w : World) (ha : a.wf) (hb : b.wf) :
    Calls Try.prog 20 #[.agg (trk a b)] w fun e w' => e = .returned (.agg (rtrk a b)) ∧ Below w.heap.size w w' := by
  obtain ⟨s1, s2, s3, s4, s5⟩ := a
  obtain ⟨t1, t2, t3, t4, t5⟩ := b
  obtain ⟨⟨a1, a2⟩, a3, a4⟩ := ha
  obtain ⟨⟨b1, b2⟩, b3, b4⟩ := hb
  dsimp only at a1 a2 a3 a4 b1 b2 b3 b4
  show Calls Try.prog 20 #[.agg #[.bool s1, .bool s2, .int .u32 s3, .int .u32 s4, .int .i64 s5, .bool t1, .bool t2, .int .u32 t3, .int .u32 t4, .int .i64 t5]] w _
  have i0 : ∀ W, (Instr.index 29 (.agg #[.bool s1, .bool s2, .int .u32 s3, .int .u32 s4, .int .i64 s5, .bool t1, .bool t2, .int .u32 t3, .int .u32 t4, .int .i64 t5]) (.int .i64 0)).run Try.prog W = .ok (.agg #[.bool s1, .bool s2, .int .u32 s3, .int .u32 s4, .int .i64 s5]) W := fun W => by kernel_rfl
  have i1 : ∀ W, (Instr.index 29 (.agg #[.bool s1, .bool s2, .int .u32 s3, .int .u32 s4, .int .i64 s5, .bool t1, .bool t2, .int .u32 t3, .int .u32 t4, .int .i64 t5]) (.int .i64 1)).run Try.prog W = .ok (.agg #[.bool t1, .bool t2, .int .u32 t3, .int .u32 t4, .int .i64 t5]) W := fun W => by kernel_rfl
  go_enter Try.func20, Try.ntmps20
  go_wp2_with fail
  go_rounds 3
  refine bodyPost_ret (v := .agg #[.bool s1, .bool s2, .int .i64 s3, .int .i64 s4, .int .i64 s5, .bool t1, .bool t2, .int .i64 t3, .int .i64 t4, .int .i64 t5]) (by simp [results, Try.results20, go_sem]) rfl ⟨rfl, by repeat' (first | exact Below.refl _ _ | refine below_drewN ?_ _ | refine Below.drew ?_ | refine Below.setCell ?_ (by first | omega | (simp; done) | (simp; omega)) _ | refine Below.alloc ?_ (by first | omega | (simp; done) | (simp; omega)) _)⟩

end Go.Proofs.Ytchephpmkommfaa

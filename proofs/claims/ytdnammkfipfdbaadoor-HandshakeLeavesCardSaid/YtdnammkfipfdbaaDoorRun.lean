/-
  The contract of handshake.Run: over a slice that reads as a list of packets it returns what the plain fold gives; nothing that was there is written.
-/
import Derived.Test.YtdnammkfipfdbaaDoorAwake
namespace Go.Proofs.YtdnammkfipfdbaaDoor
open Go.RowKit
set_option linter.unusedVariables false

/-- A packet: its direction and its flags. -/
abbrev Pk := Int × Int
def PkOk (p : Pk) : Prop := 0 ≤ p.1 ∧ p.1 ≤ 255 ∧ 0 ≤ p.2 ∧ p.2 ≤ 255

/-- The cells of a packet. -/
def pc (p : Pk) : List Value := [.int .u8 p.1, .int .u8 p.2]
theorem pc_each (l : List Pk) : ∀ cs ∈ l.map pc, cs.length = 2 := by
  intro cs h
  obtain ⟨p, _, rfl⟩ := List.mem_map.1 h
  rfl
/-- A slice that reads as a list of packets. -/
structure Seens (w : World) (A : Option Addr) (l : List Pk) : Prop where
  ok : ∀ p ∈ l, PkOk p
  len : l.length ≤ 1000000
  rd : Rd w A 2 (l.map pc)
theorem Seens.mem {w : World} {A : Option Addr} {l : List Pk} (h : Seens w A l) (hl : l ≠ []) : ∃ b off, A = some ⟨b, off, none⟩ ∧ b < w.heap.size ∧ ∀ i (p : Pk), l[i]? = some p → w.cell? ⟨b, off + i * 2, none⟩ = some (.int .u8 p.1) ∧ w.cell? ⟨b, off + i * 2 + 1, none⟩ = some (.int .u8 p.2) := by
  obtain ⟨b, off, e, hlt, hc⟩ := h.rd.mem (by simpa using hl)
  refine ⟨b, off, e, hlt, fun i p hp => ?_⟩
  have h1 : (l.map pc)[i]? = some (pc p) := by simp [hp]
  exact ⟨hc i _ h1 0 _ rfl, hc i _ h1 1 _ rfl⟩
theorem Seens.below {w w' : World} {A : Option Addr} {l : List Pk} (h : Seens w A l) (hb : Below w.heap.size w w') : Seens w' A l := ⟨h.ok, h.len, h.rd.below hb⟩

/-- One step of a run: the state and the number of allowed packets. -/
def go (s : Int × Int) (p : Pk) : Int × Int := if stp s.1 p.1 p.2 != 0 then (stp s.1 p.1 p.2, s.2 + 1) else s
def run (l : List Pk) : Int × Int :=
  match l with
  | [] => (0, 0)
  | p :: r => if p.1 = 0 ∧ cls p.2 = 1 then r.foldl go (1, 1) else (0, 0)

theorem go_range (s : Int × Int) (p : Pk) (h : 0 ≤ s.1 ∧ s.1 ≤ 8) : 0 ≤ (go s p).1 ∧ (go s p).1 ≤ 8 := by
  unfold go
  split
  · exact stp_range _ _ _
  · exact h
theorem go_count (s : Int × Int) (p : Pk) : s.2 ≤ (go s p).2 ∧ (go s p).2 ≤ s.2 + 1 := by
  unfold go
  split
  · exact ⟨Int.le_of_lt (Int.lt_succ _), Int.le_refl _⟩
  · exact ⟨Int.le_refl _, Int.le_of_lt (Int.lt_succ _)⟩
theorem fold_range (l : List Pk) (s : Int × Int) (h : 0 ≤ s.1 ∧ s.1 ≤ 8) : 0 ≤ (l.foldl go s).1 ∧ (l.foldl go s).1 ≤ 8 := by
  induction l generalizing s with
  | nil => exact h
  | cons p r ih => exact ih _ (go_range s p h)
theorem fold_count (l : List Pk) (s : Int × Int) : s.2 ≤ (l.foldl go s).2 ∧ (l.foldl go s).2 ≤ s.2 + l.length := by
  induction l generalizing s with
  | nil => simp
  | cons p r ih =>
    have h1 := go_count s p
    have h2 := ih (go s p)
    simp only [List.foldl_cons, List.length_cons]
    omega
theorem fold_snoc (l : List Pk) (s : Int × Int) (k : Nat) (p : Pk) (h : l[k]? = some p) : (l.take (k + 1)).foldl go s = go ((l.take k).foldl go s) p := by
  rw [List.take_add_one, h]
  simp

theorem go_yes {s n d f : Int} (h : (stp s d f != 0) = true) : go (s, n) (d, f) = (stp s d f, n + 1) := by unfold go; rw [if_pos h]
theorem go_no {s n d f : Int} (h : (stp s d f != 0) = false) : go (s, n) (d, f) = (s, n) := by unfold go; rw [if_neg (by simp [h])]

theorem run_at (r : List Pk) (k : Nat) : 0 ≤ ((r.take k).foldl go (1, 1)).1 ∧ ((r.take k).foldl go (1, 1)).1 ≤ 8 ∧ 0 ≤ ((r.take k).foldl go (1, 1)).2 ∧ ((r.take k).foldl go (1, 1)).2 ≤ 1 + k := by
  have h1 := fold_range (r.take k) (1, 1) (by decide)
  have h2 := fold_count (r.take k) (1, 1)
  have h3 : (r.take k).length ≤ k := List.length_take_le _ _
  simp only at h2
  omega

set_option maxHeartbeats 1000000 in
theorem run_yes (b off : Nat) (f0 : Int) (r : List Pk) (c : Nat) (w : World) (hnc : r.length + 1 ≤ c) (hc1 : ¬ c = 1) (hT : Hid (Tab w)) (hl : r.length ≤ 1000000)
    (hok : Hid (∀ p ∈ r, PkOk p)) (hlt : b < w.heap.size) (h0 : w.cell? ⟨b, off, none⟩ = some (.int .u8 0)) (h1 : w.cell? ⟨b, off + 1, none⟩ = some (.int .u8 f0)) (hf0 : Hid (cls f0 = 1))
    (hc : Hid (∀ i (p : Pk), r[i]? = some p → w.cell? ⟨b, off + 2 + i * 2, none⟩ = some (.int .u8 p.1) ∧ w.cell? ⟨b, off + 2 + i * 2 + 1, none⟩ = some (.int .u8 p.2))) :
    Calls Tryd.prog 13 #[.slice (some ⟨b, off, none⟩) (r.length + 1) c] w fun e w' => e = .returned (.tuple #[.int .u8 (r.foldl go (1, 1)).1, .int .i64 (r.foldl go (1, 1)).2]) ∧ Below w.heap.size w w' := by
  have hn0 : ((r.length : Int) + 1 == 0) = false := by simp; omega
  have hop : ∀ W, Calls Tryd.prog 18 #[.int .u8 f0] W fun e w' => e = .returned (.bool true) ∧ W = w' := fun W => (opens_any f0 W).mono fun _ _ ⟨a, b⟩ => ⟨by rw [a, hf0.out]; rfl, b⟩
  have Hop := Lib.hid hop
  clear hop
  go_enter Tryd.func13, Tryd.ntmps13
  go_wp2_with (go_at_call 18; refine (Hop.out _).mono ?_; rintro e w' ⟨rfl, rfl⟩)
  go_loopw [4, 5, 31] (fun s n i wr => ∃ k : Nat, k ≤ r.length ∧ i = .int .i64 k ∧ s = .int .u8 ((r.take k).foldl go (1, 1)).1 ∧ n = .int .i64 ((r.take k).foldl go (1, 1)).2 ∧ Below w.heap.size w wr) (fun _ _ i _ => r.length - (intOf i).toNat)
  case atStart => exact ⟨0, Nat.zero_le _, rfl, rfl, rfl, Below.refl _ _⟩
  case round =>
    obtain ⟨k, hk, rfl, rfl, rfl, hb⟩ := hrel
    by_cases hkl : k < r.length
    · obtain ⟨⟨d, f⟩, hrk⟩ : ∃ p, r[k]? = some p := ⟨_, List.getElem?_eq_getElem hkl⟩
      have hs := fold_snoc r (1, 1) k _ hrk
      have hpk := hok.out _ (List.mem_of_getElem? hrk)
      have hcc := hc.out k _ hrk
      have hat := run_at r k
      generalize (r.take k).foldl go (1, 1) = st at *
      obtain ⟨s, n⟩ := st
      unfold PkOk at hpk
      simp only at hcc hpk hat
      have c1 := (hb.cell (p := ⟨b, off + 2 + k * 2, none⟩) hlt).trans hcc.1
      have c2 := (hb.cell (p := ⟨b, off + 2 + k * 2 + 1, none⟩) hlt).trans hcc.2
      have HS := Lib.hid hs
      clear hs hrk hcc
      obtain ⟨hp1, hp2, hp3, hp4⟩ := hpk
      obtain ⟨ha1, ha2, ha3, ha4⟩ := hat
      have hT1 := Lib.hid ((hT.out.below hb).alloc (Obj.cells #[.int .u8 d, .int .u8 f] 33))
      have hblt : b < wr.heap.size := Nat.lt_of_lt_of_le hlt hb.size
      go_wp2_with (first | (go_at_call 15; refine (step_any _ _ _ _ ?_ ?_ hT1.out).mono ?_; omega; omega; rintro e w' ⟨rfl, hb2⟩))
      · have hy : (stp s d f != 0) = true := by assumption
        have hb3 := bthen (hb.alloc hb.size _) hb2
        go_roundw
        case rel => exact ⟨k + 1, by omega, by go_num, by rw [HS.out, go_yes hy], by rw [HS.out, go_yes hy], hb3⟩
        case measure => simp [intOf]; omega
      · have hy : (stp s d f != 0) = false := by assumption
        have hb3 := bthen (hb.alloc hb.size _) hb2
        go_roundw
        case rel => exact ⟨k + 1, by omega, by go_num, by rw [HS.out, go_no hy], by rw [HS.out, go_no hy], hb3⟩
        case measure => simp [intOf]; omega
    · obtain rfl : k = r.length := by omega
      have e : r.take r.length = r := List.take_length
      rw [e]
      clear e
      go_wp2_with fail
      go_ret2
      exact ⟨rfl, hb⟩

set_option maxHeartbeats 1000000 in
theorem run_one (b off : Nat) (f0 : Int) (w : World) (h0 : w.cell? ⟨b, off, none⟩ = some (.int .u8 0)) (h1 : w.cell? ⟨b, off + 1, none⟩ = some (.int .u8 f0)) (hf0 : Hid (cls f0 = 1)) :
    Calls Tryd.prog 13 #[.slice (some ⟨b, off, none⟩) 1 1] w fun e w' => e = .returned (.tuple #[.int .u8 1, .int .i64 1]) ∧ w = w' := by
  have hop : ∀ W, Calls Tryd.prog 18 #[.int .u8 f0] W fun e w' => e = .returned (.bool true) ∧ W = w' := fun W => (opens_any f0 W).mono fun _ _ ⟨a, b⟩ => ⟨by rw [a, hf0.out]; rfl, b⟩
  have Hop := Lib.hid hop
  clear hop
  go_enter Tryd.func13, Tryd.ntmps13
  go_wp2_with (go_at_call 18; refine (Hop.out _).mono ?_; rintro e w' ⟨rfl, rfl⟩)
  refine wp_loop_rounds 1 ?_
  rw [rounds_succ]
  go_wp2_with fail
  go_ret2
  exact ⟨rfl, rfl⟩

set_option maxHeartbeats 1000000 in
theorem run_no (b off n c : Nat) (d0 f0 : Int) (w : World) (hn : 0 < n) (h0 : w.cell? ⟨b, off, none⟩ = some (.int .u8 d0)) (h1 : w.cell? ⟨b, off + 1, none⟩ = some (.int .u8 f0)) (hno : ¬ (d0 = 0 ∧ cls f0 = 1)) :
    Calls Tryd.prog 13 #[.slice (some ⟨b, off, none⟩) n c] w fun e w' => e = .returned (.tuple #[.int .u8 0, .int .i64 0]) ∧ w = w' := by
  have hn0 : ((n : Int) == 0) = false := by simp; omega
  by_cases hd : d0 = 0
  · subst hd
    have hc : (cls f0 == 1) = false := by simpa using hno
    have hop : ∀ W, Calls Tryd.prog 18 #[.int .u8 f0] W fun e w' => e = .returned (.bool false) ∧ W = w' := fun W => (opens_any f0 W).mono fun _ _ ⟨a, b⟩ => ⟨by rw [a, hc], b⟩
    have Hop := Lib.hid hop
    clear hop hno hc
    go_enter Tryd.func13, Tryd.ntmps13
    go_wp2_with (go_at_call 18; refine (Hop.out _).mono ?_; rintro e w' ⟨rfl, rfl⟩)
    go_ret2
    exact ⟨rfl, rfl⟩
  · have hd0 : (d0 != 0) = true := by simpa using hd
    clear hno hd
    go_enter Tryd.func13, Tryd.ntmps13
    go_wp2_with fail
    go_ret2
    exact ⟨rfl, rfl⟩

theorem run_nil (A : Option Addr) (c : Nat) (w : World) :
    Calls Tryd.prog 13 #[.slice A 0 c] w fun e w' => e = .returned (.tuple #[.int .u8 0, .int .i64 0]) ∧ w = w' := by
  go_enter Tryd.func13, Tryd.ntmps13
  go_wp2_with fail
  go_ret2
  exact ⟨rfl, rfl⟩

/-- handshake.Run, whatever slice of packets. -/
theorem run_any (A : Option Addr) (l : List Pk) (c : Nat) (w : World) (hc : l.length ≤ c) (hT : Tab w) (h : Seens w A l) :
    Calls Tryd.prog 13 #[.slice A l.length c] w fun e w' => e = .returned (.tuple #[.int .u8 (run l).1, .int .i64 (run l).2]) ∧ Below w.heap.size w w' := by
  cases l with
  | nil => exact (run_nil A c w).mono fun _ _ ⟨a, e⟩ => ⟨a, e ▸ Below.refl _ _⟩
  | cons p r =>
    obtain ⟨b, off, rfl, hlt, hm⟩ := h.mem (by simp)
    have h0 := hm 0 p rfl
    simp only [Nat.zero_mul, Nat.add_zero] at h0
    by_cases hy : p.1 = 0 ∧ cls p.2 = 1
    · have e : run (p :: r) = r.foldl go (1, 1) := by simp only [run]; rw [if_pos hy]
      rw [e]
      by_cases hc1 : c = 1
      · have hr : r = [] := List.eq_nil_of_length_eq_zero (by simp at hc; omega)
        subst hr hc1
        exact (run_one b off p.2 w (by rw [h0.1, hy.1]) h0.2 hy.2).mono fun _ _ ⟨a, e⟩ => ⟨a, e ▸ Below.refl _ _⟩
      · refine run_yes b off p.2 r c w (by simpa using hc) hc1 hT (by have := h.len; simp at this; omega) (fun q hq => h.ok q (by simp [hq])) hlt (by rw [h0.1, hy.1]) h0.2 hy.2 fun i q hq => ?_
        have := hm (i + 1) q (by simpa using hq)
        rw [show off + (i + 1) * 2 = off + 2 + i * 2 by omega] at this
        exact this
    · have e : run (p :: r) = (0, 0) := by simp only [run]; rw [if_neg hy]
      rw [e]
      exact (run_no b off (r.length + 1) c p.1 p.2 w (by omega) h0.1 h0.2 hy).mono fun _ _ ⟨a, e⟩ => ⟨a, e ▸ Below.refl _ _⟩

end Go.Proofs.YtdnammkfipfdbaaDoor

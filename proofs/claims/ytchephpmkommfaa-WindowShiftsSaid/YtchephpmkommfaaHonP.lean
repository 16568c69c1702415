/-
  Plain laws behind WindowHonest: what is kept along an honest conversation. No conditions.
-/
import Derived.Test.YtchephpmkommfaaTells
namespace Go.Proofs.Ytchephpmkommfaa
open Go.RowKit
set_option linter.unusedVariables false
set_option linter.unusedSimpArgs false

/-- One side of an honest conversation: s the side as it is tracked, n its next number, w its window, no the other's next number, ko what of it this side has acknowledged. -/
structure Half (s : Sd) (n w no ko : Int) : Prop where
  wf : s.wf
  hn : 0 ≤ n ∧ n ≤ 4294967295
  hk : 0 ≤ ko ∧ ko ≤ 4294967295
  hw : 1 ≤ w ∧ w ≤ 65535
  seen : s.seen = true → s.next = n
  acked : s.acked = true → s.ack = ko ∧ w = max 1 s.size ∧ lss no ko ≤ w
/-- What is left of the other's window, in a round. -/
def outOf (acked : Bool) (n ko w : Int) : Int := if lss n ko ≥ w ∧ acked = false then 0 else lss n ko
theorem room16 (len : Int) (h : 0 ≤ len ∧ len ≤ 65535) : room 16 len = len := by
  unfold room
  have h1 : bits .and .u8 16 2 = 0 := by decide
  have h2 : bits .and .u8 16 1 = 0 := by decide
  rw [h1, h2]
  simp
  omega
theorem aft_small (a b : Int) (h : 0 < lss a b ∧ lss a b ≤ 65535) : aft a b = true := by
  unfold aft
  simp
  omega
theorem aft_self (a : Int) : aft a a = false := by
  unfold aft lss
  simp
/-- The round's packet: its numbers. x the own side, y the other one. -/
structure Rnd (x y : Sd) (n no w wo k ko out len win : Int) : Prop where
  hx : Half x n w no ko
  hy : Half y no wo n k
  ho : out = (if lss n k ≥ wo then 0 else lss n k)
  hc : lss n k ≥ wo → y.acked = false
  hl : 0 ≤ len ∧ len ≤ wo - out
  hv : 0 ≤ win ∧ win ≤ 65535
theorem Rnd.len_le {x y : Sd} {n no w wo k ko out len win : Int} (h : Rnd x y n no w wo k ko out len win) : len ≤ 65535 := by
  have h1 := h.hl.2
  have h2 := h.hy.hw.2
  have h3 := lss_range n k
  have h4 := h.ho
  split at h4 <;> omega
theorem Rnd.fits {x y : Sd} {n no w wo k ko out len win : Int} (h : Rnd x y n no w wo k ko out len win) : fit y n = true := by
  unfold fit
  cases ha : y.acked
  · rfl
  · obtain ⟨h1, h2, h3⟩ := h.hy.acked ha
    have h4 : ¬ lss n k ≥ wo := fun e => by rw [h.hc e] at ha; cases ha
    have : wthn y.ack y.size n = true := by
      unfold wthn
      rw [h1, ← h2]
      simp
      omega
    rw [this]
    rfl
/-- The side behind the packet. -/
def hon (n no len win : Int) : Sd := ⟨true, true, (n + len) % 4294967296, no, win⟩
theorem Rnd.sees {x y : Sd} {n no w wo k ko out len win : Int} (h : Rnd x y n no w wo k ko out len win) : seeS x 16 n no win len = hon n no len win := by
  have hl := h.len_le
  have hr := room16 len ⟨h.hl.1, hl⟩
  have hf : (bits .and .u8 16 16 != 0) = true := by decide
  have hn := h.hx.hn
  have hno := h.hy.hn
  have e1 : nxt x.seen x.next ((n + len) % 4294967296) = (n + len) % 4294967296 := by
    unfold nxt
    split
    · rfl
    · rename_i hh
      have hs : x.seen = true := by
        cases hs : x.seen
        · simp [hs] at hh
        · rfl
      rw [h.hx.seen hs] at hh ⊢
      by_cases hz : len = 0
      · subst hz
        omega
      · have : aft ((n + len) % 4294967296) n = true := aft_small _ _ (by unfold lss; have := h.hl.1; omega)
        simp [this] at hh
  have e2 : nxt x.acked x.ack no = no := by
    unfold nxt
    split
    · rfl
    · rename_i hh
      have hs : x.acked = true := by
        cases hs : x.acked
        · simp [hs] at hh
        · rfl
      obtain ⟨h1, h2, h3⟩ := h.hx.acked hs
      have hk := h.hx.hk
      have hw := h.hx.hw
      rw [h1] at hh ⊢
      by_cases hz : no = ko
      · exact hz.symm
      · have : aft no ko = true := aft_small _ _ ⟨by unfold lss; omega, by omega⟩
        simp [this] at hh
  unfold seeS hon
  rw [hr, hf, e1, if_pos rfl, e2]
  simp
theorem Rnd.see2 {x y : Sd} {n no w wo k ko out len win : Int} (h : Rnd x y n no w wo k ko out len win) : seeS (hon n no len win) 16 n no win len = hon n no len win := by
  have hl := h.len_le
  have hr := room16 len ⟨h.hl.1, hl⟩
  have hf : (bits .and .u8 16 16 != 0) = true := by decide
  unfold seeS hon
  rw [hr, hf, if_pos rfl]
  simp [nxt, aft_self]
theorem Rnd.own {x y : Sd} {n no w wo k ko out len win : Int} (h : Rnd x y n no w wo k ko out len win) : Half (hon n no len win) ((n + len) % 4294967296) (if 1 < win then win else 1) no no := by
  have hno := h.hy.hn
  have hv := h.hv
  refine ⟨⟨by simp only [hon]; omega, by simp only [hon]; omega⟩, by omega, hno, by split <;> omega, fun _ => rfl, fun _ => ⟨rfl, by simp only [hon]; split <;> omega, ?_⟩⟩
  have : lss no no = 0 := by unfold lss; simp
  rw [this]
  split <;> omega
theorem Rnd.other {x y : Sd} {n no w wo k ko out len win : Int} (h : Rnd x y n no w wo k ko out len win) : Half y no wo ((n + len) % 4294967296) k := by
  refine ⟨h.hy.wf, h.hy.hn, h.hy.hk, h.hy.hw, h.hy.seen, fun ha => ?_⟩
  obtain ⟨h1, h2, h3⟩ := h.hy.acked ha
  refine ⟨h1, h2, ?_⟩
  have h4 : ¬ lss n k ≥ wo := fun e => by rw [h.hc e] at ha; cases ha
  have ho := h.ho
  rw [if_neg h4] at ho
  have hl := h.hl
  have hw := h.hy.hw
  unfold lss at *
  omega
theorem Rnd.believed {x y : Sd} {n no w wo k ko out len win : Int} (h : Rnd x y n no w wo k ko out len win) : bel y (hon n no len win) 4 no 0 = true := by
  unfold bel hon wthn
  have : lss no no = 0 := by unfold lss; simp
  simp [this]
  omega

end Go.Proofs.Ytchephpmkommfaa

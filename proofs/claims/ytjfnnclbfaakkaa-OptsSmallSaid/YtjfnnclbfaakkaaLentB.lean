/-
  The contract of bafflekit's LentBytes. Conditions: the bytes lie.
-/
import Derived.Test.YtjfnnclbfaakkaaPre
import Derived.OwnWalk
namespace Go.Proofs.Ytjfnnclbfaakkaa
open Go.RowKit
set_option linter.unusedVariables false
set_option linter.unusedSimpArgs false

/-- The marks behind lent bytes. -/
def mks (n : Nat) : List Int := (List.range n).map fun i => mbS 1 (i : Nat)
theorem mks_succ (n : Nat) : mks (n + 1) = mks n ++ [mbS 1 (n : Nat)] := by simp [mks, List.range_succ]
theorem mks_len (n : Nat) : (mks n).length = n := by simp [mks]
/-- Lent bytes: a block of their own, the marks behind. -/
def lentC (d : List Int) : Array Value := ((d ++ mks 12).map (Value.int .u8)).toArray

theorem own_full {w : World} {base g n : Nat} {e : TypeId} {xs : List Value} (h : w.ownsRow base e 1 (.slice (some ⟨g, 0, none⟩) n n) n xs) : w.heap[g]? = some (.cells xs.toArray e (0, 0)) := by
  obtain ⟨hl, (⟨e1, _⟩ | ⟨g', cap, cur, e1, _, h2, _, _, h5, h6⟩)⟩ := h
  · cases e1
  · injection e1 with e1 _ e3
    cases e1
    subst e3
    rw [h2]
    rw [List.take_of_length_le (by rw [Array.length_toList]; omega)] at h6
    rw [← h6]

set_option maxRecDepth 100000 in
set_option maxHeartbeats 2000000 in
theorem lent_any (d : List Int) (A : Option Addr) (c : Nat) (w : World) (hd : By w A d) (hn : d.length ≤ 2 ^ 40) (hA : A = none → c = 0) :
    Calls Try.prog 28 #[.slice A d.length c] w fun e w' => ∃ g, e = .returned (.slice (some ⟨g, 0, none⟩) d.length (d.length + 12)) ∧ w.heap.size ≤ g ∧ w'.heap[g]? = some (.cells (lentC d) 5 (0, 0)) ∧ Below w.heap.size w w' := by
  obtain ⟨n, hN⟩ : ∃ n, d.length = n := ⟨_, rfl⟩
  rw [hN] at hn ⊢
  have HN := Lib.hid hN
  have HNO : Hid (A = none → n = 0 ∧ c = 0) := fun h => by
    refine ⟨?_, hA h⟩
    rw [← hN]
    cases d with
    | nil => rfl
    | cons x r =>
      obtain ⟨b, o, e, _⟩ := hd.mem (by simp)
      rw [h] at e
      cases e
  have HC : Hid (∀ (W : World) (ob : Obj), ∀ ad, A = some ad → ∀ j u, (d.map (Value.int .u8))[j]? = some u → (w.alloc ob).cell? (ad.add j) = some u) := fun W ob ad ha j u hu => by
    obtain ⟨b, o, e, _⟩ := hd.mem (by rintro rfl; simp at hu)
    rw [ha] at e
    cases e
    rw [ha] at hd
    exact (hd.alloc ob).news j u hu
  obtain ⟨i0, hi, hz0, hz1, hz2⟩ := info5
  have hmk : ∀ w : World, (Instr.makeSlice 22 (.int .i64 0) (.int .i64 ((n : Int) + 12))).run Try.prog w = .ok (.slice (some ⟨w.heap.size, 0, none⟩) 0 (n + 12)) (w.alloc (.cells (madeCells (Value.int .u8 0).cells ((n + 12) * 1)) 5)) := fun w => by
    have hr := run_make (P := Try.prog) w 22 5 i0 (.int .u8 0) Try.underlying22 hi hz0 .i64 .i64 0 ((n : Int) + 12) (by omega) (by omega) (by rw [hz2]; omega) (by omega)
    rw [hz1, show ((n : Int) + 12).toNat = n + 12 by omega] at hr
    exact hr
  have hw1 : IntKind.i64.wrap ((n : Int) + 12) = (n : Int) + 12 := IntWalk.i64_in _ (by omega)
  clear hN hd hA
  go_enter Try.func28, Try.ntmps28
  go_upto_region 2 with fail
  have hrow := World.ownsRow_made (e := 5) (size := 1) (base := w.heap.size) w (madeCells #[Value.int IntKind.u8 0] (n + 12)) (n + 12) (Nat.le_refl _) (by unfold maxLen; omega) (by rw [Nat.mul_one]; exact size_madeCells _ _)
  have hbx : Below w.heap.size w (w.alloc (.cells (madeCells #[Value.int IntKind.u8 0] (n + 12)) 5)) := (Below.refl _ _).alloc (Nat.le_refl _) _
  have hcc := HC.out w (.cells (madeCells #[Value.int IntKind.u8 0] (n + 12)) 5)
  obtain ⟨g, hg⟩ : ∃ g, w.heap.size = g := ⟨_, rfl⟩
  obtain ⟨X1, hX1⟩ : ∃ X, w.alloc (.cells (madeCells #[Value.int IntKind.u8 0] (n + 12)) 5) = X := ⟨_, rfl⟩
  rw [hX1, hg] at hrow
  rw [hX1] at hbx hcc ⊢
  rw [hg]
  have hgl : g ≤ X1.heap.size := by rw [← hg]; exact hbx.size
  have HG := Lib.hid hg
  have HB1 := Lib.hid hbx
  have HR1 := Lib.hid hrow
  have HCC := Lib.hid hcc
  clear hmk hX1 hbx hrow hcc HC hw1 hg
  go_wp2_with (at_builtin; refine wpList_append_fits_any _ rfl _ _ 22 rfl g 5 i0 1 Try.underlying22 hi hz1 g 0 (n + 12) [] rfl HR1.out A n c (d.map (Value.int .u8)) rfl (by simp [HN.out]) HNO.out HCC.out (by simp [Value.oneCell']) (by omega) ?_; intro w3 hr3 hg3; (try dsimp only [Act.put]); (try simp only [List.setIfInBounds_toArray, List.set_cons_succ, List.set_cons_zero, Nat.zero_add]))
  have HR3 := Lib.hid hr3
  have HB3 := Lib.hid (HB1.out.grown hg3 HB1.out.size fun k e => by cases e; exact Nat.le_of_eq HG.out)
  clear hr3 hg3
  go_loopw [3, 4] (fun v3 v4 wr => ∃ k : Nat, k ≤ 12 ∧ v3 = .slice (some ⟨g, 0, none⟩) (n + k) (n + 12) ∧ v4 = .int .i64 k ∧ wr.ownsRow g 5 1 (.slice (some ⟨g, 0, none⟩) (n + k) (n + 12)) (n + k) ((d ++ mks k).map (Value.int .u8)) ∧ Below w.heap.size w wr) (fun _ v _ => 12 - (intOf v).toNat)
  case atStart => exact ⟨0, by omega, by simp, rfl, by have h := HR3.out; simpa [mks] using h, HB3.out⟩
  case round =>
    obtain ⟨k, hk, rfl, rfl, hrow, hb⟩ := hrel
    by_cases hlt : k < 12
    · have t1 : decide ((k : Int) < 12) = true := by simp; omega
      have t1' : decide (k < 12) = true := by simp; omega
      have HLT := Lib.hid hlt
      have HROW := Lib.hid hrow
      have HB := Lib.hid hb
      obtain ⟨y, hy⟩ : ∃ y, mbS 1 (k : Nat) = y := ⟨_, rfl⟩
      have HY := Lib.hid hy
      clear hrow hb hy hlt
      go_wp2_with fail
      refine (markByte_any 1 (k : Nat) _ (by decide) (by omega)).mono ?_
      rintro e Y ⟨rfl, hY⟩
      rw [hY, HY.out]
      clear hY
      go_wp2_with (at_builtin; refine wpList_append_fits _ rfl _ _ 22 rfl g 5 i0 1 Try.underlying22 hi hz1 g (n + k) (n + 12) ((d ++ mks k).map (Value.int .u8)) rfl (HROW.out.alloc _) ⟨wr.heap.size, 0, none⟩ 1 1 [.int .u8 y] rfl rfl (cell_one_new _ _ _) (by simp [Value.oneCell']) (by have := HLT.out; omega) ?_; intro w4 hr4 hg4; (try dsimp only [Act.put]); (try simp only [List.setIfInBounds_toArray, List.set_cons_succ, List.set_cons_zero]))
      have HR4 := Lib.hid hr4
      have HB4 := Lib.hid ((HB.out.alloc HB.out.size (Obj.cells #[Value.int .u8 y] 5)).grown hg4 (by simp; have := HB.out.size; omega) fun k e => by cases e; exact Nat.le_of_eq HG.out)
      have hlt := HLT.out
      exact ⟨⟨k + 1, by omega, by rw [Nat.add_assoc], by go_num, by
        have h := HR4.out
        rw [mks_succ, HY.out, ← List.append_assoc, List.map_append, ← Nat.add_assoc]
        exact h, HB4.out⟩, by simp [intOf]; omega⟩
    · obtain rfl : k = 12 := by omega
      have t1 : decide ((12 : Int) < 12) = false := by simp
      have HROW := Lib.hid hrow
      have HB := Lib.hid hb
      clear hrow hb
      have hn0 : (0 : Int) ≤ n := by omega
      have hn1 : (n : Int) ≤ (n : Int) + 12 := by omega
      rw [show (((12 : Nat) : Int)) = 12 from rfl]
      go_wp2_with fail
      go_ret
      refine ⟨g, rfl, Nat.le_of_eq HG.out, ?_, HB.out⟩
      exact own_full HROW.out
end Go.Proofs.Ytjfnnclbfaakkaa

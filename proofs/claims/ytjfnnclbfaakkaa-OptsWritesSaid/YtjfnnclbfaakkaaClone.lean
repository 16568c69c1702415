/-
  The contracts of slices.Clone and slices.Max at bytes. Conditions: those of the theorems.
-/
import Derived.Test.YtjfnnclbfaakkaaData
import Derived.Test.YtjfnnclbfaakkaaProg
import Derived.WalkKit
import Derived.Deep.LoopGhost
import Derived.Lib.Hide
import Derived.Lib.SliceRun
namespace Go.Proofs.Ytjfnnclbfaakkaa
open Go.RowKit
set_option linter.unusedVariables false
set_option linter.unusedSimpArgs false

theorem info5 : ∃ i0, Try.prog.info? 5 = some i0 ∧ i0.zero = some (.int .u8 0) ∧ i0.size = 1 ∧ i0.bytes = 1 := ⟨(Try.prog.info? 5).get (by kernel_rfl), by kernel_rfl, by kernel_rfl, by kernel_rfl, by kernel_rfl⟩

set_option maxRecDepth 100000 in
theorem clone_any (d : List Int) (A : Option Addr) (c : Nat) (w : World) (hd : By w A d) (hn : d.length ≤ 2 ^ 40) :
    Calls Try.prog 43 #[.slice A d.length c] w fun e w' => ∃ v, e = .returned v ∧ w'.ownsRow w.heap.size 5 1 v d.length (d.map (Value.int .u8)) ∧ (v = .slice none 0 0 ↔ A = none) ∧ Below w.heap.size w w' := by
  have q22 : ∀ (w : World) (a : Option Addr) (n c n' c' : Nat), (binOp .eql 22 (.slice a n c) (.slice none n' c')).run Try.prog w = .ok (.bool a.isNone) w := fun w a n c n' c' => Lib.run_eql_slice_nil w _ _ a n c n' c' Try.underlying22
  cases A with
  | none =>
    have : d = [] := by
      cases d with
      | nil => rfl
      | cons x r => obtain ⟨b, o, e, _⟩ := hd.mem (by simp); cases e
    subst this
    go_enter Try.func43, Try.ntmps43
    go_wp2_with fail
    go_ret
    exact ⟨_, rfl, World.ownsRow_nil _ _ _ _, by simp, Below.refl _ _⟩
  | some a =>
    have hc : ∀ j u, (d.map (Value.int .u8))[j]? = some u → w.cell? (a.add j) = some u := by
      intro j u hu
      obtain ⟨b, o, e, _⟩ := hd.mem (by rintro rfl; simp at hu)
      cases e
      exact hd.news j u hu
    obtain ⟨i0, hi, hz0, hz1, hz2⟩ := info5
    have Hc := Lib.hid hc
    clear hc
    go_enter Try.func43, Try.ntmps43
    go_wp2_with (at_builtin; refine wpList_append_own _ rfl _ _ 22 rfl w.heap.size 5 i0 (.int .u8 0) 1 1 Try.underlying22 hi hz0 hz1 hz2 rfl (by decide) _ _ _ rfl (World.ownsRow_made w #[] 0 (Nat.le_refl _) (Nat.zero_le _) (by simp)) a d.length c (d.map (Value.int .u8)) rfl ?qc1 ?qc2 ?qc3 ?qc4 ?qc5 ?qc6 ?_)
    case qc1 => simp
    case qc2 =>
      intro j u hj
      exact Lib.cell?_alloc_some _ (Hc.out j u hj)
    case qc3 => simp [Value.oneCell']
    case qc4 => unfold maxLen; omega
    case qc5 => omega
    case qc6 => simp
    intro v' w1 hown hgrow hnil
    go_wp2_with fail
    go_ret
    refine ⟨v', rfl, by simpa using hown, ?_, ?_⟩
    · simpa using hnil
    · exact ((Below.refl _ w).alloc (Nat.le_refl _) _).grown hgrow (by simp) (by intro k hk; simp [Value.ownBlock] at hk; omega)

/-- The greatest of some bytes, and of one. -/
def mx : Int → List Int → Int
  | m, [] => m
  | m, x :: r => mx (if m < x then x else m) r
set_option maxRecDepth 100000 in
set_option maxHeartbeats 1000000 in
theorem max_any (x0 : Int) (d : List Int) (A : Option Addr) (c : Nat) (w : World) (hd : By w A (x0 :: d)) (hn : d.length ≤ 2 ^ 40) :
    Calls Try.prog 54 #[.slice A (x0 :: d).length c] w fun e w' => e = .returned (.int .u8 (mx x0 d)) ∧ Below w.heap.size w w' := by
  obtain ⟨b, o, rfl, hb, hc⟩ := hd.mem (by simp)
  have c0 := hc 0 x0 rfl
  rw [Nat.add_zero] at c0
  obtain ⟨n, hN⟩ : ∃ n, (x0 :: d).length = n := ⟨_, rfl⟩
  rw [hN]
  have hN1 : n = d.length + 1 := by rw [← hN]; rfl
  have hlt : decide ((n : Int) < 1) = false := by simp; omega
  have hpos : (0 : Int) < n := by omega
  have HC := Lib.hid hc
  clear hc
  go_enter Try.func54, Try.ntmps54
  go_wp2_with fail
  clear hlt
  go_loopw [3, 4] (fun m i wr => ∃ (k : Nat) (y : Int), k ≤ d.length ∧ m = .int .u8 y ∧ i = .int .i64 (k + 1 : Nat) ∧ mx x0 d = mx y (d.drop k) ∧ Below w.heap.size w wr) (fun _ i _ => n - (intOf i).toNat)
  case atStart => exact ⟨0, x0, by omega, rfl, rfl, by simp, Below.refl _ _⟩
  case round =>
    obtain ⟨k, y, hk, rfl, rfl, hf, hbw⟩ := hrel
    by_cases hkl : k < d.length
    · obtain ⟨x, hx⟩ : ∃ x, d[k]? = some x := ⟨d[k], List.getElem?_eq_getElem hkl⟩
      have q0 := (hbw.cell (p := ⟨b, o + (k + 1), none⟩) hb).trans (HC.out (k + 1) x (by simpa using hx))
      have hd1 : decide (((k + 1 : Nat) : Int) < n) = true := by simp; omega
      have hdrop : d.drop k = x :: d.drop (k + 1) := by
        rw [List.drop_eq_getElem_cons hkl]
        rw [List.getElem?_eq_getElem hkl] at hx
        rw [Option.some.inj hx]
      rw [hdrop] at hf
      obtain ⟨m2, hm2⟩ : ∃ m2, (if y < x then x else y) = m2 := ⟨_, rfl⟩
      have hf1 : mx x0 d = mx m2 (d.drop (k + 1)) := by rw [hf, ← hm2]; rfl
      clear hf hx hdrop HC c0
      go_wp2_with fail
      exact ⟨⟨k + 1, m2, by omega, rfl, by congr 1, hf1, hbw⟩, by simp [intOf]; omega⟩
    · obtain rfl : k = d.length := by omega
      rw [List.drop_length] at hf
      have hd1 : decide (((d.length + 1 : Nat) : Int) < n) = false := by simp; omega
      have hf1 : mx x0 d = y := hf
      have Hf := Lib.hid hf1
      clear hf hf1 c0 HC
      go_wp2_with fail
      go_ret
      exact ⟨by rw [Hf.out]; rfl, hbw⟩

end Go.Proofs.Ytjfnnclbfaakkaa

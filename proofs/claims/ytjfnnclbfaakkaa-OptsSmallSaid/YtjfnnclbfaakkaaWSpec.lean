/-
  Plain definitions and lemmas, of no program: what Write returns.
-/
import Derived.Test.YtjfnnclbfaakkaaRead
namespace Go.Proofs.Ytjfnnclbfaakkaa
open Go.RowKit
set_option linter.unusedVariables false
set_option linter.unusedSimpArgs false

/-- The bytes of an option. -/
def bytesO (o : Op1) : List Int := o.1 :: (if o.1 = 1 then [] else ((o.2.length : Int) + 2) :: o.2)
/-- How many options of a group. -/
def num (l : List Op1) (j : Int) : Int := ((l.filter fun p => grp p.1 == j).length : Nat)
/-- Bytes 0 up to a multiple of 4. -/
def padS (d : List Int) : List Int := d ++ List.replicate ((4 - d.length % 4) % 4) 0
/-- What Write makes of the options that are left. -/
def wf : List Int → List Op1 → Bool → List Op1 → Int × List Int
  | out, _, tw, [] => if tw then (63, []) else if 40 < out.length then (3, []) else (0, padS out)
  | out, seen, tw, o :: r => if rightS o = false then (2, []) else wf (if 40 < out.length then out else out ++ bytesO o) (seen ++ [o]) (tw || (decide (0 < grp o.1) && decide (0 < num seen (grp o.1)))) r
/-- What Write returns. -/
def writeS (l : List Op1) : Int × List Int := wf [] [] false l

theorem num_push (l : List Op1) (o : Op1) (j : Int) : num (l ++ [o]) j = if grp o.1 = j then num l j + 1 else num l j := by
  unfold num
  rw [List.filter_append, List.length_append]
  by_cases h : grp o.1 = j
  · rw [if_pos h]
    have : List.filter (fun p => grp p.1 == j) [o] = [o] := by simp [h]
    rw [this]
    simp
  · rw [if_neg h]
    have : List.filter (fun p => grp p.1 == j) [o] = [] := by simp [h]
    rw [this]
    simp
theorem num_nonneg (l : List Op1) (j : Int) : 0 ≤ num l j := by unfold num; omega
theorem num_le (l : List Op1) (j : Int) : num l j ≤ l.length := by
  unfold num
  have := List.length_filter_le (fun p => grp p.1 == j) l
  omega
structure Mets (acc : List Op1) (M : Array Value) : Prop where
  size : M.size = 4
  get : ∀ j : Nat, 0 < j → j < 4 → M[j]? = some (.int .i64 (num acc j))
theorem Mets.nil : Mets [] #[.int .i64 0, .int .i64 0, .int .i64 0, .int .i64 0] := ⟨rfl, fun j h1 h2 => by
  rcases (by omega : j = 1 ∨ j = 2 ∨ j = 3) with rfl | rfl | rfl <;> rfl⟩
theorem Mets.push0 {acc : List Op1} {M : Array Value} (h : Mets acc M) (o : Op1) (ho : grp o.1 = 0) : Mets (acc ++ [o]) M := ⟨h.size, fun j h1 h2 => by
  rw [h.get j h1 h2]
  have : (0 : Int) ≠ j := by omega
  rw [num_push, ho, if_neg this]⟩
theorem Mets.push {acc : List Op1} {M : Array Value} (h : Mets acc M) (o : Op1) {g : Nat} (ho : grp o.1 = g) (h4 : g < 4) : Mets (acc ++ [o]) (M.setIfInBounds g (.int .i64 (num acc g + 1))) := ⟨by simp [h.size], fun j h1 h2 => by
  by_cases hj : g = j
  · subst hj
    rw [num_push, ho, if_pos rfl]
    simp [h.size, h4]
  · rw [Array.getElem?_setIfInBounds_ne hj, h.get j h1 h2]
    have : (g : Int) ≠ j := by omega
    rw [num_push, ho, if_neg this]⟩
theorem bytesO_len {o : Op1} (h : rightS o = true) : (bytesO o).length ≤ 40 := by
  unfold rightS at h
  unfold bytesO
  split at h
  · rename_i h1
    simp at h
    simp [h.1]
  · simp at h
    split
    · simp
    · simp
      omega
theorem right_len {o : Op1} (h : rightS o = true) : o.2.length ≤ 38 := by
  unfold rightS at h
  split at h
  · simp at h
    simp [h.2]
  · simp at h
    exact h.2

theorem own_form {w : World} {base n : Nat} {e : TypeId} {size : Nat} {v : Value} {xs : List Value} (h : w.ownsRow base e size v n xs) : ∃ A c, v = .slice A n c := by
  rcases own_cases h with ⟨rfl, rfl, _⟩ | ⟨g, cap, rfl, _⟩
  · exact ⟨_, _, rfl⟩
  · exact ⟨_, _, rfl⟩
/-- Between the rounds of Write. -/
structure WrI (w : World) (l : List Op1) (wr : World) (k : Nat) (v : Value) (out : List Int) (tw : Bool) (M : Array Value) : Prop where
  below : Below w.heap.size w wr
  row : wr.ownsRow (w.heap.size + 1) 5 1 v out.length (out.map (Value.int .u8))
  met : wr.heap[w.heap.size]? = some (.cells M 70 (0, 0))
  mets : Mets (l.take k) M
  eq : writeS l = wf out (l.take k) tw (l.drop k)
  len : out.length ≤ 80

end Go.Proofs.Ytjfnnclbfaakkaa

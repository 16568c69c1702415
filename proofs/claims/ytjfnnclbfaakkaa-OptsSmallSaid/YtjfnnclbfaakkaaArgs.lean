/-
  Plain lemmas: an argument that is a slice of bytes. No conditions.
-/
import Derived.Test.YtjfnnclbfaakkaaPre
namespace Go.Proofs.Ytjfnnclbfaakkaa
open Go.RowKit
set_option linter.unusedVariables false

theorem bytes_list : ∀ (css : List (List Value)), (∀ cs ∈ css, All2 [some .u8] cs) → ∃ d : List Int, css = d.map (fun x => [.int .u8 x]) ∧ ∀ x ∈ d, 0 ≤ x ∧ x ≤ 255
  | [], _ => ⟨[], rfl, by simp⟩
  | cs :: r, h => by
    obtain ⟨n0, r0, e0, w0, h0⟩ := all2_int (h cs (by simp))
    have e1 := all2_nil h0
    subst e1
    obtain ⟨d, e, hd⟩ := bytes_list r (fun c hc => h c (by simp [hc]))
    refine ⟨n0 :: d, by rw [e0, e]; rfl, fun x hx => ?_⟩
    rcases List.mem_cons.1 hx with rfl | hx
    · exact bounds_u8 w0
    · exact hd x hx
theorem bytes_of {w : World} {A : Option Addr} {css : List (List Value)} (hrd : Rd w A 1 css) (hall : ∀ cs ∈ css, All2 [some .u8] cs) : ∃ d : List Int, css.length = d.length ∧ By w A d := by
  obtain ⟨d, rfl, hd⟩ := bytes_list css hall
  exact ⟨d, by simp, By.of_rd hrd hd⟩
end Go.Proofs.Ytjfnnclbfaakkaa

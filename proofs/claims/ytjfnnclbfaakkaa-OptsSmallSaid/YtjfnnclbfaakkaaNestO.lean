/-
  Plain lemmas: arguments that are slices of structs which hold slices of bytes. No conditions.
-/
import Derived.Test.YtjfnnclbfaakkaaArgs
import Derived.Test.YtjfnnclbfaakkaaRecord
namespace Go.Proofs.Ytjfnnclbfaakkaa
open Go.ChangeShapes Go.WideShapes Go.RowKit
set_option linter.unusedVariables false

section
variable {H : Type} {enc : TypeId × Value → H} {P : Program} {w : World} {base : Nat} {spare : Nat → Bool} {held : Bool}
/-- The cell of a slice, whose elements' cells are as E says. -/
theorem rd_of_cells {fuel size : Nat} {t e : TypeId} {cs : List Value} {x : DataW H × List MemPlace} {E : List Value → Prop} (ht : P.underlying t = some (.slice e)) (hc : P.cellsOf e = size)
    (hE : ∀ n cs x, DataW.trod enc P w base spare held n e cs = some x → E cs) (hf : DataW.trod enc P w base spare held fuel t cs = some x) (hsz : 0 < size) :
    ∃ (A : Option Addr) (css : List (List Value)) (cap : Nat), cs = [.slice A css.length cap] ∧ css.length ≤ cap ∧ cap ≤ maxLen ∧ (A = none → css = [] ∧ cap = 0) ∧ Rd w A size css ∧ ∀ c ∈ css, E c := by
  rcases Go.Deep.open_slice ht hf with ⟨hcs, _⟩ | ⟨a, len, cap, m', n', D, Pl, hcs, hb, hl, hm, hmm, _, hi⟩
  · exact ⟨none, [], 0, hcs, by simp, by simp, fun _ => ⟨rfl, rfl⟩, Rd.nil _ _ _, by simp⟩
  · have hlm : len ≤ m' := by rw [hmm]; split <;> omega
    have hall : ∀ i, i < len → ∃ cs, w.cells? base (a.add (i * size)) size = some cs ∧ E cs := fun i hil => by
      obtain ⟨cs, h1, h2⟩ := hi i (by omega)
      rw [hc] at h1
      exact ⟨cs, h1, hE n' cs _ h2⟩
    have hex : ∀ len : Nat, (∀ i, i < len → ∃ cs, w.cells? base (a.add (i * size)) size = some cs ∧ E cs) → ∃ css : List (List Value), css.length = len ∧ ∀ i cs, css[i]? = some cs → w.cells? base (a.add (i * size)) size = some cs ∧ E cs := by
      intro len hall
      induction len with
      | zero => exact ⟨[], rfl, fun i cs h => by simp at h⟩
      | succ k ih =>
        obtain ⟨css, hl1, hc1⟩ := ih (fun i hik => hall i (by omega))
        obtain ⟨cs, h1, h2⟩ := hall k (by omega)
        refine ⟨css ++ [cs], by simp [hl1], fun i c hi => ?_⟩
        by_cases hik : i < k
        · rw [List.getElem?_append_left (by omega)] at hi
          exact hc1 i c hi
        · rw [List.getElem?_append_right (by omega)] at hi
          have : i - css.length = 0 := by
            rcases Nat.eq_zero_or_pos (i - css.length) with h0 | h0
            · exact h0
            · rw [List.getElem?_eq_none (by simp; omega)] at hi
              cases hi
          rw [this] at hi
          simp only [List.getElem?_cons_zero, Option.some.injEq] at hi
          subst hi
          obtain rfl : i = k := by omega
          exact ⟨h1, h2⟩
    obtain ⟨css, hcl, hcc⟩ := hex len hall
    subst hcl
    have heach : ∀ cs ∈ css, cs.length = size := fun cs hcs => by
      obtain ⟨i, hi⟩ := List.getElem?_of_mem hcs
      exact (World.cells?_some (hcc i cs hi).1).2.1
    refine ⟨some a, css, cap, hcs, hl, hm, by simp, ⟨heach, fun hne => ?_⟩, fun cs hcs => ?_⟩
    · obtain ⟨b, off, spot⟩ := a
      have hpos : 0 < css.length := List.length_pos_iff.2 hne
      have h0 := (hcc 0 css[0] (List.getElem?_eq_getElem hpos)).1
      have hl0 := heach css[0] (List.getElem_mem _)
      have hcell0 := (World.cells?_some h0).2.2 0 hsz
      rw [List.getElem?_eq_getElem (by omega)] at hcell0
      have hspot : spot = none := by simpa [Addr.add] using World.cell?_spot hcell0
      subst hspot
      refine ⟨b, off, rfl, ?_, fun i cs hi j v hv => ?_⟩
      · have h1 := cell_lt hcell0
        simpa [Addr.add] using h1
      · have h1 := (World.cells?_some (hcc i cs hi).1).2.2 j (by
          have := heach cs (List.mem_of_getElem? hi)
          rw [List.getElem?_eq_some_iff] at hv
          have := hv.1
          omega)
        rw [hv, Go.WideShapes.add_plain, Go.WideShapes.add_plain] at h1
        exact h1
    · obtain ⟨i, hi⟩ := List.getElem?_of_mem hcs
      exact (hcc i cs hi).2
end
section
variable {H : Type} {enc : TypeId × Value → H} {w : World} {base : Nat} {spare : Nat → Bool} {held : Bool}
/-- The cell of a slice of bytes. -/
def ByC (w : World) (cs : List Value) (d : List Int) : Prop := ∃ A cap, cs = [.slice A d.length cap] ∧ d.length ≤ cap ∧ cap ≤ maxLen ∧ (A = none → cap = 0) ∧ By w A d
theorem byC_of {fuel : Nat} {cs : List Value} {x : DataW H × List MemPlace} (hf : DataW.trod enc Try.prog w base spare held fuel 22 cs = some x) : ∃ d, ByC w cs d := by
  obtain ⟨A, css, cap, rfl, h1, h2, h3, h4, h5⟩ := rd_of_cells (E := All2 [some .u8]) (size := 1) Try.underlying22 (by kernel_rfl) (fun n cs x hx => kinds_all 8 n 5 cs x [some .u8] (by kernel_rfl) hx) hf (by decide)
  obtain ⟨d, hl, hb⟩ := bytes_of h4 h5
  exact ⟨d, A, cap, by rw [hl], by omega, h2, fun e => (h3 e).2, hb⟩
theorem u8_of {fuel : Nat} {cs : List Value} {x : DataW H × List MemPlace} (hf : DataW.trod enc Try.prog w base spare held fuel 5 cs = some x) : ∃ k, cs = [.int .u8 k] ∧ 0 ≤ k ∧ k ≤ 255 := by
  obtain ⟨k, e, _, hw⟩ := DataW.trod_int Try.underlying5 hf
  exact ⟨k, e, bounds_u8 hw⟩
theorem cells5 : Try.prog.cellsOf 5 = 1 := by kernel_rfl
theorem cells22 : Try.prog.cellsOf 22 = 1 := by kernel_rfl
theorem cells36 : Try.prog.cellsOf 36 = 2 := by kernel_rfl
theorem cells44 : Try.prog.cellsOf 44 = 4 := by kernel_rfl
theorem len2 {cs : List Value} (h : cs.length = 2) : ∃ a b, cs = [a, b] := by
  rcases cs with _ | ⟨a, _ | ⟨b, _ | ⟨c, r⟩⟩⟩
  · cases h
  · cases h
  · exact ⟨a, b, rfl⟩
  · simp at h
theorem len4 {cs : List Value} (h : cs.length = 4) : ∃ a b c d, cs = [a, b, c, d] := by
  rcases cs with _ | ⟨a, _ | ⟨b, _ | ⟨c, _ | ⟨d, _ | ⟨e, r⟩⟩⟩⟩⟩
  · cases h
  · cases h
  · simp at h
  · simp at h
  · exact ⟨a, b, c, d, rfl⟩
  · simp at h
/-- An option's cells. -/
theorem opv_of {fuel : Nat} {cs : List Value} {x : DataW H × List MemPlace} (hf : DataW.trod enc Try.prog w base spare held fuel 36 cs = some x) : ∃ o, OpV w cs o := by
  obtain ⟨xs, n, rfl, _, hl, hxl, hi⟩ := DataW.trod_struct Try.underlying36 hf
  rw [cells36] at hl
  obtain ⟨a, b, rfl⟩ := len2 hl
  have h0 : DataW.trod enc Try.prog w base spare held n 5 (List.take (Try.prog.cellsOf 5) [a, b]) = xs[0]? := hi 0 _ rfl
  have h1 : DataW.trod enc Try.prog w base spare held n 22 (List.take (Try.prog.cellsOf 22) [b]) = xs[1]? := hi 1 _ rfl
  rw [cells5] at h0
  rw [cells22] at h1
  have hx2 : xs.length = 2 := hxl
  rw [List.getElem?_eq_getElem (by omega)] at h0 h1
  obtain ⟨k, e0, hk⟩ := u8_of h0
  obtain ⟨d, A, cap, e1, g1, g2, g3, g4⟩ := byC_of h1
  simp at e0 e1
  subst e0 e1
  exact ⟨(k, d), hk, A, cap, rfl, g1, g2, g4, g3⟩
set_option maxRecDepth 100000 in
/-- A slice of options. -/
theorem ops_of {r : Reach} {b0 : Nat} {v : Value} {d : DataW H} {p : List MemPlace} (hv : Value.okWide Try.prog w r b0 26 v) (h : DataW.Trod enc Try.prog w base spare held 26 v d p) :
    ∃ A l cap, v = .slice A l.length cap ∧ l.length ≤ cap ∧ cap ≤ maxLen ∧ Ops w A l := by
  obtain ⟨A0, len, cap0, rfl⟩ := okWide_slice Try.underlying26 hv
  obtain ⟨m, hf⟩ := h
  obtain ⟨A, css, cap, e, h1, h2, h3, h4, h5⟩ := rd_of_cells (E := fun cs => ∃ o, OpV w cs o) (size := 2) Try.underlying26 (by kernel_rfl) (fun n cs x hx => opv_of hx) hf (by decide)
  simp [Value.cells] at e
  obtain ⟨rfl, rfl, rfl⟩ := e
  have hex : ∀ css : List (List Value), (∀ c ∈ css, ∃ o, OpV w c o) → ∃ l, OpVs w css l := by
    intro css
    induction css with
    | nil => exact fun _ => ⟨[], .nil⟩
    | cons c r ih =>
      intro h
      obtain ⟨o, ho⟩ := h c (by simp)
      obtain ⟨l, hl⟩ := ih fun c hc => h c (by simp [hc])
      exact ⟨o :: l, .cons ho hl⟩
  obtain ⟨l, hl⟩ := hex css h5
  have e := hl.length
  exact ⟨A0, l, cap0, by rw [e], by omega, h2, css, h4, hl⟩
set_option maxRecDepth 100000 in
/-- An option by value. -/
theorem op_of {r : Reach} {b0 : Nat} {v : Value} {d : DataW H} {p : List MemPlace} (hv : Value.okWide Try.prog w r b0 36 v) (h : DataW.Trod enc Try.prog w base spare held 36 v d p) :
    ∃ k A b cap, v = .agg #[.int .u8 k, .slice A b.length cap] ∧ (0 ≤ k ∧ k ≤ 255) ∧ b.length ≤ cap ∧ cap ≤ maxLen ∧ By w A b ∧ (A = none → cap = 0) := by
  obtain ⟨cs, rfl, _⟩ := okWide_struct Try.underlying36 hv
  obtain ⟨m, hf⟩ := h
  obtain ⟨⟨k, b⟩, hk, A, cap, e, h1, h2, h3, h4⟩ := opv_of hf
  simp [Value.cells] at e
  refine ⟨k, A, b, cap, ?_, hk, h1, h2, h3, h4⟩
  rw [show cs = #[.int .u8 k, .slice A b.length cap] by rw [← Array.toArray_toList (xs := cs), e]]
end
end Go.Proofs.Ytjfnnclbfaakkaa

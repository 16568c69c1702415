/-
  The contract of packets as the caller sees it: two slices that read as the model's directions and packets. Condition: the words are those of an argument.
-/
import Derived.Test.YtchephpmkommfaaShM
namespace Go.Proofs.Ytchephpmkommfaa
open Go.RowKit
set_option linter.unusedVariables false
set_option linter.unusedSimpArgs false

theorem own_rows {w : World} {base : Nat} {e : TypeId} {size : Nat} {v : Value} {n : Nat} {rows : List (List Value)} (h : w.ownsRow base e size v n rows.flatten) (hn : rows.length = n) (hs : ∀ c ∈ rows, c.length = size) : ∃ A cap, v = .slice A n cap ∧ n ≤ cap ∧ Rd w A size rows := by
  subst hn
  rcases h.2 with ⟨rfl, h0⟩ | ⟨g, cap, cur, rfl, hbs, hg, hle, r⟩
  · obtain rfl : rows = [] := List.length_eq_zero_iff.1 h0
    exact ⟨none, 0, rfl, Nat.le_refl _, Rd.nil w none size⟩
  · exact ⟨_, cap, rfl, hle, Rd.of_own h hs (Array.getElem?_eq_some_iff.1 hg).1⟩
theorem ones_flat (ds : List Int) : (ds.map fun d => [Value.int .u8 d]).flatten = ds.map (.int .u8) := by
  induction ds with
  | nil => rfl
  | cons d r ih => simp only [List.map_cons, List.flatten_cons, ih, List.singleton_append]
theorem packets_any (A : Option Addr) (css : List (List Value)) (n cap : Nat) (f0 f1 : Int) (w : World) (hn : n = css.length) (hle0 : n ≤ cap) (hp : cap ≤ maxLen ∧ Rd w A 4 css ∧ ∀ x ∈ css, All2 [some .u8, some .u16, some .i8, some .u16] x) (h0 : 0 ≤ f0 ∧ f0 ≤ 4294967295) (h1 : 0 ≤ f1 ∧ f1 ≤ 4294967295) :
    Calls Try.prog 15 #[.slice A n cap, .agg #[.int .u32 f0, .int .u32 f1]] w fun e w' => ∃ (A1 A2 : Option Addr) (c1 c2 : Nat), e = .returned (.tuple #[.slice A1 (min n 100) c1, .slice A2 (min n 100) c2]) ∧ Below w.heap.size w w' ∧ Rd w' A1 1 ((mo (css.take (min n 100)) f0 f1).ds.map fun d => [.int .u8 d]) ∧ Rd w' A2 19 ((mo (css.take (min n 100)) f0 f1).ps.map Pk.row) ∧ (mo (css.take (min n 100)) f0 f1).ds.length = min n 100 ∧ (mo (css.take (min n 100)) f0 f1).ps.length = min n 100 ∧ min n 100 ≤ c1 ∧ min n 100 ≤ c2 := by
  refine (packets_core A css n cap (min n 100) f0 f1 w hn hle0 hp.1 (by split <;> omega) (by omega) (by omega) hp.2.1 hp.2.2 h0 h1).mono ?_
  rintro e w' ⟨v6, v7, base, rfl, hb, hbs, o6, o7, l6, l7⟩
  rw [← ones_flat] at o6
  obtain ⟨A1, c1, rfl, hc1, r1⟩ := own_rows o6 (by rw [List.length_map]; exact l6) (by intro c hc; obtain ⟨d, _, rfl⟩ := List.mem_map.1 hc; rfl)
  obtain ⟨A2, c2, rfl, hc2, r2⟩ := own_rows o7 (by rw [List.length_map]; exact l7) (by intro c hc; obtain ⟨d, _, rfl⟩ := List.mem_map.1 hc; rfl)
  exact ⟨A1, A2, c1, c2, rfl, hb, r1, r2, l6, l7, hc1, hc2⟩

end Go.Proofs.Ytchephpmkommfaa

/-
  Plain lemmas, of no program: a slice of structs (or of integers) that reads as a list of rows of cells: an argument, a row of the call's own, the cells to be appended. No conditions.
-/
import Derived.Test.YtjfnnclbfaakkaaFlat
import Derived.Deep.AppendLies
import Derived.Lib.Hide
import Derived.Deep.QuietTactic
namespace Go.Proofs.Ytjfnnclbfaakkaa
open Go.ChangeShapes Go.WideShapes Go.RowKit

theorem below_drewN {B : Nat} {a w : World} (h : Below B a w) (n : Nat) : Below B a (w.drewN n) := ⟨h.os, h.tape, h.output, h.size, h.block⟩
theorem bthen {a b c : World} (h : Below a.heap.size a b) (k : Below b.heap.size b c) : Below a.heap.size a c := h.trans (k.mono h.size)

theorem cell_lt {w : World} {a : Addr} {v : Value} (h : w.cell? a = some v) : a.block < w.heap.size := by
  rcases Nat.lt_or_ge a.block w.heap.size with hlt | hge
  · exact hlt
  · unfold World.cell? at h
    rw [Array.getElem?_eq_none hge] at h
    cases h

/-- A slice that reads as rows of 'size' cells. -/
structure Rd (w : World) (A : Option Addr) (size : Nat) (css : List (List Value)) : Prop where
  each : ∀ cs ∈ css, cs.length = size
  mem : css ≠ [] → ∃ b off, A = some ⟨b, off, none⟩ ∧ b < w.heap.size ∧ ∀ i cs, css[i]? = some cs → ∀ j v, cs[j]? = some v → w.cell? ⟨b, off + i * size + j, none⟩ = some v

theorem Rd.below {w w' : World} {A : Option Addr} {size : Nat} {css : List (List Value)} (h : Rd w A size css) (hb : Below w.heap.size w w') : Rd w' A size css :=
  ⟨h.each, fun hl => by
    obtain ⟨b, off, e, hlt, hc⟩ := h.mem hl
    exact ⟨b, off, e, Nat.lt_of_lt_of_le hlt hb.size, fun i cs hi j v hv => (hb.cell (p := ⟨b, off + i * size + j, none⟩) hlt).trans (hc i cs hi j v hv)⟩⟩

theorem Rd.nil (w : World) (A : Option Addr) (size : Nat) : Rd w A size [] := ⟨by simp, fun h => absurd rfl h⟩

theorem flatten_length {size : Nat} {css : List (List Value)} (h : ∀ cs ∈ css, cs.length = size) : css.flatten.length = css.length * size := by
  induction css with
  | nil => simp
  | cons c r ih =>
    have h0 := h c (by simp)
    have h1 := ih fun cs hcs => h cs (by simp [hcs])
    simp only [List.flatten_cons, List.length_append, List.length_cons, h0, h1, Nat.succ_mul]
    omega

theorem flatten_get {size : Nat} (hs : 0 < size) {css : List (List Value)} (h : ∀ cs ∈ css, cs.length = size) : ∀ k v, css.flatten[k]? = some v → ∃ cs, css[k / size]? = some cs ∧ cs[k % size]? = some v := by
  induction css with
  | nil => intro k v hv; simp at hv
  | cons c r ih =>
    intro k v hv
    have h0 := h c (by simp)
    simp only [List.flatten_cons] at hv
    by_cases hk : k < size
    · rw [List.getElem?_append_left (by omega)] at hv
      rw [Nat.div_eq_of_lt hk, Nat.mod_eq_of_lt hk]
      exact ⟨c, rfl, hv⟩
    · rw [List.getElem?_append_right (by omega), h0] at hv
      obtain ⟨cs, h1, h2⟩ := ih (fun cs hcs => h cs (by simp [hcs])) _ _ hv
      have e1 : k / size = (k - size) / size + 1 := by
        rw [Nat.div_eq_sub_div hs (by omega)]
      have e2 : k % size = (k - size) % size := by rw [Nat.mod_eq_sub_mod (by omega)]
      rw [e1, e2]
      exact ⟨cs, by simpa using h1, h2⟩

theorem get_flatten {size : Nat} {css : List (List Value)} (h : ∀ cs ∈ css, cs.length = size) : ∀ (i : Nat) (cs : List Value) (j : Nat) (v : Value), css[i]? = some cs → cs[j]? = some v → css.flatten[i * size + j]? = some v := by
  induction css with
  | nil => intro i cs j v hi; simp at hi
  | cons c r ih =>
    intro i cs j v hi hv
    have h0 := h c (by simp)
    have hj : j < cs.length := by
      rw [List.getElem?_eq_some_iff] at hv
      exact hv.1
    simp only [List.flatten_cons]
    cases i with
    | zero =>
      simp only [List.getElem?_cons_zero, Option.some.injEq] at hi
      subst hi
      rw [Nat.zero_mul, Nat.zero_add, List.getElem?_append_left hj]
      exact hv
    | succ i =>
      rw [Nat.succ_mul, List.getElem?_append_right (by omega), h0]
      rw [show i * size + size + j - size = i * size + j by omega]
      exact ih (fun cs hcs => h cs (by simp [hcs])) i cs j v (by simpa using hi) hv

/-- The cells to be appended. -/
theorem Rd.news {w : World} {b off size : Nat} {css : List (List Value)} (hs : 0 < size) (h : Rd w (some ⟨b, off, none⟩) size css) : ∀ j u, css.flatten[j]? = some u → w.cell? ((⟨b, off, none⟩ : Addr).add j) = some u := by
  intro k u hu
  by_cases hl : css = []
  · subst hl
    simp at hu
  · obtain ⟨b', off', e, _, hc⟩ := h.mem hl
    simp only [Option.some.injEq, Addr.mk.injEq, and_true] at e
    obtain ⟨rfl, rfl⟩ := e
    obtain ⟨cs, h1, h2⟩ := flatten_get hs h.each k u hu
    have := hc _ _ h1 _ _ h2
    rw [Go.WideShapes.add_plain]
    rw [Nat.add_assoc, show k / size * size + k % size = k by rw [Nat.mul_comm]; exact Nat.div_add_mod k size] at this
    exact this

/-- A row of the call's own. -/
theorem Rd.of_own {w : World} {base g n cap size : Nat} {e : TypeId} {css : List (List Value)} (h : w.ownsRow base e size (.slice (some ⟨g, 0, none⟩) n cap) n css.flatten) (he : ∀ cs ∈ css, cs.length = size) (hg : g < w.heap.size) :
    Rd w (some ⟨g, 0, none⟩) size css :=
  ⟨he, fun _ => ⟨g, 0, rfl, hg, fun i cs hi j v hv => by
    have := h.cells (g := g) rfl _ _ (get_flatten he i cs j v hi hv)
    rw [Go.WideShapes.add_plain] at this
    rw [Nat.add_assoc]
    exact this⟩⟩

/-- An element's cells, one by one. -/
theorem Rd.cell {w : World} {b off size : Nat} {css : List (List Value)} (h : Rd w (some ⟨b, off, none⟩) size css) {i : Nat} {cs : List Value} (hi : css[i]? = some cs) {j : Nat} {v : Value} (hv : cs[j]? = some v) : w.cell? ⟨b, off + i * size + j, none⟩ = some v := by
  obtain ⟨b', off', e, _, hc⟩ := h.mem (by rintro rfl; simp at hi)
  simp only [Option.some.injEq, Addr.mk.injEq, and_true] at e
  obtain ⟨rfl, rfl⟩ := e
  exact hc i cs hi j v hv

section
variable {H : Type} {enc : TypeId × Value → H} {P : Program} {w : World} {base : Nat} {spare : Nat → Bool} {held : Bool}
/-- An argument that is a slice of structs or integers. -/
theorem rd_of_trod {r : Reach} {b0 fuel size : Nat} {t e : TypeId} {v : Value} {d : DataW H} {p : List MemPlace} {ks : List (Option IntKind)} (ht : P.underlying t = some (.slice e)) (hc : P.cellsOf e = size) (hk : kinds P fuel e = some ks)
    (hv : Value.okWide P w r b0 t v) (h : DataW.Trod enc P w base spare held t v d p) (hsz : 0 < size) :
    ∃ (A : Option Addr) (css : List (List Value)) (cap : Nat), v = .slice A css.length cap ∧ css.length ≤ cap ∧ cap ≤ maxLen ∧ (A = none → css = [] ∧ cap = 0) ∧ Rd w A size css ∧ ∀ cs ∈ css, All2 ks cs := by
  obtain ⟨A, len, cap, rfl⟩ := okWide_slice ht hv
  obtain ⟨m, hf⟩ := h
  rcases Go.Deep.open_slice ht hf with ⟨hcs, _⟩ | ⟨a, l, c, m', n', D, Pl, hcs, hb, hl, hm, hmm, _, hi⟩
  · simp [Value.cells] at hcs
    obtain ⟨rfl, rfl, rfl⟩ := hcs
    exact ⟨none, [], 0, rfl, by simp, by simp, fun _ => ⟨rfl, rfl⟩, Rd.nil _ _ _, by simp⟩
  · simp [Value.cells] at hcs
    obtain ⟨rfl, rfl, rfl⟩ := hcs
    have hlm : len ≤ m' := by rw [hmm]; split <;> omega
    have hall : ∀ i, i < len → ∃ cs, w.cells? base (a.add (i * size)) size = some cs ∧ All2 ks cs := fun i hil => by
      obtain ⟨cs, h1, h2⟩ := hi i (by omega)
      rw [hc] at h1
      exact ⟨cs, h1, kinds_all fuel n' e cs _ ks hk h2⟩
    have hex : ∀ len : Nat, (∀ i, i < len → ∃ cs, w.cells? base (a.add (i * size)) size = some cs ∧ All2 ks cs) → ∃ css : List (List Value), css.length = len ∧ ∀ i cs, css[i]? = some cs → w.cells? base (a.add (i * size)) size = some cs ∧ All2 ks cs := by
      intro len hall
      induction len with
      | zero => exact ⟨[], rfl, fun i cs h => by simp at h⟩
      | succ k ih =>
        obtain ⟨css, hl1, hc1⟩ := ih (fun i hik => hall i (by omega))
        obtain ⟨cs, h1, h2⟩ := hall k (by omega)
        refine ⟨css ++ [cs], by simp [hl1], fun i c hi => ?_⟩
        by_cases hik : i < k
        · rw [List.getElem?_append_left (by omega)] at hi
          exact hc1 i c hi
        · rw [List.getElem?_append_right (by omega)] at hi
          have : i - css.length = 0 := by
            rcases Nat.eq_zero_or_pos (i - css.length) with h0 | h0
            · exact h0
            · rw [List.getElem?_eq_none (by simp; omega)] at hi
              cases hi
          rw [this] at hi
          simp only [List.getElem?_cons_zero, Option.some.injEq] at hi
          subst hi
          obtain rfl : i = k := by omega
          exact ⟨h1, h2⟩
    obtain ⟨css, hcl, hcc⟩ := hex len hall
    subst hcl
    have heach : ∀ cs ∈ css, cs.length = size := fun cs hcs => by
      obtain ⟨i, hi⟩ := List.getElem?_of_mem hcs
      exact (World.cells?_some (hcc i cs hi).1).2.1
    refine ⟨some a, css, cap, rfl, hl, hm, by simp, ⟨heach, fun hne => ?_⟩, fun cs hcs => ?_⟩
    · obtain ⟨b, off, spot⟩ := a
      have hpos : 0 < css.length := List.length_pos_iff.2 hne
      have h0 := (hcc 0 css[0] (List.getElem?_eq_getElem hpos)).1
      have hl0 := heach css[0] (List.getElem_mem _)
      have hcell0 := (World.cells?_some h0).2.2 0 hsz
      rw [List.getElem?_eq_getElem (by omega)] at hcell0
      have hspot : spot = none := by simpa [Addr.add] using World.cell?_spot hcell0
      subst hspot
      refine ⟨b, off, rfl, ?_, fun i cs hi j v hv => ?_⟩
      · have h1 := cell_lt hcell0
        simpa [Addr.add] using h1
      · have h1 := (World.cells?_some (hcc i cs hi).1).2.2 j (by
          have := heach cs (List.mem_of_getElem? hi)
          rw [List.getElem?_eq_some_iff] at hv
          have := hv.1
          omega)
        rw [hv, Go.WideShapes.add_plain, Go.WideShapes.add_plain] at h1
        exact h1
    · obtain ⟨i, hi⟩ := List.getElem?_of_mem hcs
      exact (hcc i cs hi).2
end
end Go.Proofs.Ytjfnnclbfaakkaa

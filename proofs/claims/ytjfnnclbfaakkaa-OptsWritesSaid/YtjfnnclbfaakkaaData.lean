/-
  Plain lemmas, of no program: bytes as they lie, options as they lie (two cells: a kind, a slice of bytes), lists of options. No conditions.
-/
import Derived.Test.YtjfnnclbfaakkaaSlice
namespace Go.Proofs.Ytjfnnclbfaakkaa
open Go.RowKit
set_option linter.unusedVariables false
set_option linter.unusedSimpArgs false

/-- Bytes, as they lie. -/
structure By (w : World) (A : Option Addr) (d : List Int) : Prop where
  rng : ∀ x ∈ d, 0 ≤ x ∧ x ≤ 255
  mem : d ≠ [] → ∃ b o, A = some ⟨b, o, none⟩ ∧ b < w.heap.size ∧ ∀ i x, d[i]? = some x → w.cell? ⟨b, o + i, none⟩ = some (.int .u8 x)

theorem By.nil (w : World) (A : Option Addr) : By w A [] := ⟨by simp, fun h => absurd rfl h⟩
theorem By.below {w w' : World} {A : Option Addr} {d : List Int} (h : By w A d) (hb : Below w.heap.size w w') : By w' A d :=
  ⟨h.rng, fun hl => by
    obtain ⟨b, o, e, hlt, hc⟩ := h.mem hl
    exact ⟨b, o, e, Nat.lt_of_lt_of_le hlt hb.size, fun i x hi => (hb.cell (p := ⟨b, o + i, none⟩) hlt).trans (hc i x hi)⟩⟩
theorem By.alloc {w : World} {A : Option Addr} {d : List Int} (h : By w A d) (ob : Obj) : By (w.alloc ob) A d := h.below ((Below.refl _ _).alloc (Nat.le_refl _) ob)
theorem By.drewN {w : World} {A : Option Addr} {d : List Int} (h : By w A d) (n : Nat) : By (w.drewN n) A d := h.below (below_drewN (Below.refl _ _) n)
theorem By.pos {w : World} {A : Option Addr} {d : List Int} (h : By w A d) (hd : 0 < d.length) : ∃ b o, A = some ⟨b, o, none⟩ ∧ b < w.heap.size ∧ ∀ i x, d[i]? = some x → w.cell? ⟨b, o + i, none⟩ = some (.int .u8 x) :=
  h.mem (by intro e; subst e; simp at hd)
theorem By.cell {w : World} {b o : Nat} {d : List Int} (h : By w (some ⟨b, o, none⟩) d) {i : Nat} {x : Int} (hi : d[i]? = some x) : w.cell? ⟨b, o + i, none⟩ = some (.int .u8 x) := by
  obtain ⟨b', o', e, _, hc⟩ := h.mem (by rintro rfl; simp at hi)
  simp only [Option.some.injEq, Addr.mk.injEq, and_true] at e
  obtain ⟨rfl, rfl⟩ := e
  exact hc i x hi
theorem By.drop {w : World} {b o : Nat} {d : List Int} (h : By w (some ⟨b, o, none⟩) d) (k : Nat) : By w (some ⟨b, o + k, none⟩) (d.drop k) :=
  ⟨fun x hx => h.rng x (List.mem_of_mem_drop hx), fun hne => by
    obtain ⟨b', o', e, hlt, hc⟩ := h.mem (by rintro rfl; simp at hne)
    simp only [Option.some.injEq, Addr.mk.injEq, and_true] at e
    obtain ⟨rfl, rfl⟩ := e
    refine ⟨b, o + k, rfl, hlt, fun i x hi => ?_⟩
    rw [List.getElem?_drop] at hi
    have := hc _ _ hi
    rwa [Nat.add_assoc]⟩
theorem By.take {w : World} {A : Option Addr} {d : List Int} (h : By w A d) (k : Nat) : By w A (d.take k) :=
  ⟨fun x hx => h.rng x (List.mem_of_mem_take hx), fun hne => by
    obtain ⟨b, o, e, hlt, hc⟩ := h.mem (by rintro rfl; simp at hne)
    refine ⟨b, o, e, hlt, fun i x hi => hc i x ?_⟩
    rw [List.getElem?_take] at hi
    split at hi
    · exact hi
    · cases hi⟩
theorem By.of_rd {w : World} {A : Option Addr} {d : List Int} (h : Rd w A 1 (d.map fun x => [.int .u8 x])) (hr : ∀ x ∈ d, 0 ≤ x ∧ x ≤ 255) : By w A d :=
  ⟨hr, fun hne => by
    obtain ⟨b, o, e, hlt, hc⟩ := h.mem (by simpa using hne)
    refine ⟨b, o, e, hlt, fun i x hi => ?_⟩
    have := hc i [.int .u8 x] (by simp [hi]) 0 _ rfl
    simpa using this⟩
theorem By.of_own {w : World} {base g n cap : Nat} {e : TypeId} {d : List Int} (h : w.ownsRow base e 1 (.slice (some ⟨g, 0, none⟩) n cap) n (d.map (Value.int .u8))) (hr : ∀ x ∈ d, 0 ≤ x ∧ x ≤ 255) (hg : g < w.heap.size) : By w (some ⟨g, 0, none⟩) d :=
  ⟨hr, fun hne => ⟨g, 0, rfl, hg, fun i x hi => by
    have := h.cells (g := g) rfl i (.int .u8 x) (by simp [hi])
    rw [Go.WideShapes.add_plain] at this
    exact this⟩⟩
theorem By.getD {w : World} {A : Option Addr} {d : List Int} (h : By w A d) (i : Nat) : 0 ≤ d.getD i 0 ∧ d.getD i 0 ≤ 255 := by
  rw [List.getD_eq_getElem?_getD]
  cases hd : d[i]? with
  | none => simp
  | some x => exact h.rng x (List.mem_of_getElem? hd)
theorem getD_some {d : List Int} {i : Nat} (h : i < d.length) : d[i]? = some (d.getD i 0) := by
  rw [List.getD_eq_getElem?_getD, List.getElem?_eq_getElem h]
  rfl
theorem By.at0 {w : World} {A : Option Addr} {d : List Int} (h : By w A d) (hp : 0 < d.length) : ∃ b o, A = some ⟨b, o, none⟩ ∧ w.cell? ⟨b, o, none⟩ = some (.int .u8 (d.getD 0 0)) := by
  obtain ⟨b, o, e, _, hc⟩ := h.pos hp
  exact ⟨b, o, e, by simpa using hc 0 _ (getD_some hp)⟩
theorem By.at1 {w : World} {A : Option Addr} {d : List Int} (h : By w A d) (hp : 1 < d.length) : ∃ b o, A = some ⟨b, o, none⟩ ∧ w.cell? ⟨b, o, none⟩ = some (.int .u8 (d.getD 0 0)) ∧ w.cell? ⟨b, o + 1, none⟩ = some (.int .u8 (d.getD 1 0)) := by
  obtain ⟨b, o, e, _, hc⟩ := h.pos (by omega)
  exact ⟨b, o, e, by simpa using hc 0 _ (getD_some (by omega)), hc 1 _ (getD_some hp)⟩
/-- The bytes to be appended. -/
theorem By.news {w : World} {b o : Nat} {d : List Int} (h : By w (some ⟨b, o, none⟩) d) : ∀ j u, (d.map (Value.int .u8))[j]? = some u → w.cell? ((⟨b, o, none⟩ : Addr).add j) = some u := by
  intro j u hu
  rw [List.getElem?_map] at hu
  cases hd : d[j]? with
  | none => rw [hd] at hu; cases hu
  | some x =>
    rw [hd] at hu
    cases hu
    rw [Go.WideShapes.add_plain]
    exact h.cell hd

/-- A row of the call's own: nil, or a block. -/
theorem own_cases {w : World} {base n : Nat} {e : TypeId} {size : Nat} {v : Value} {xs : List Value} (h : w.ownsRow base e size v n xs) :
    (v = .slice none 0 0 ∧ n = 0 ∧ xs = []) ∨ ∃ g cap, v = .slice (some ⟨g, 0, none⟩) n cap ∧ base ≤ g ∧ g < w.heap.size ∧ n ≤ cap ∧ cap ≤ maxLen := by
  obtain ⟨hl, (⟨rfl, rfl⟩ | ⟨g, cap, cur, rfl, h1, h2, h3, h4, _⟩)⟩ := h
  · exact .inl ⟨rfl, rfl, by simpa using hl⟩
  · exact .inr ⟨g, cap, rfl, h1, (Array.getElem?_eq_some_iff.1 h2).1, h3, h4⟩
theorem By.of_own' {w : World} {base : Nat} {e : TypeId} {v : Value} {d : List Int} (h : w.ownsRow base e 1 v d.length (d.map (Value.int .u8))) (hr : ∀ x ∈ d, 0 ≤ x ∧ x ≤ 255) :
    ∃ A c, v = .slice A d.length c ∧ d.length ≤ c ∧ c ≤ maxLen ∧ By w A d := by
  rcases own_cases h with ⟨rfl, h1, h2⟩ | ⟨g, cap, rfl, h1, h2, h3, h4⟩
  · have : d = [] := by simpa using h2
    subst this
    exact ⟨none, 0, rfl, by simp, by simp, By.nil _ _⟩
  · exact ⟨_, _, rfl, h3, h4, By.of_own h hr h2⟩

theorem By.of_own2 {w : World} {base : Nat} {e : TypeId} {v : Value} {d : List Int} (h : w.ownsRow base e 1 v d.length (d.map (Value.int .u8))) (hr : ∀ x ∈ d, 0 ≤ x ∧ x ≤ 255) :
    ∃ A c, v = .slice A d.length c ∧ d.length ≤ c ∧ c ≤ maxLen ∧ By w A d ∧ (A = none → c = 0) := by
  rcases own_cases h with ⟨rfl, h1, h2⟩ | ⟨g, cap, rfl, h1, h2, h3, h4⟩
  · have : d = [] := by simpa using h2
    subst this
    exact ⟨none, 0, rfl, by simp, by simp, By.nil _ _, fun _ => rfl⟩
  · exact ⟨_, _, rfl, h3, h4, By.of_own h hr h2, by simp⟩
/-- An option: its kind, its data. -/
abbrev Op1 := Int × List Int
/-- An option's two cells. -/
structure OpV (w : World) (cs : List Value) (o : Op1) : Prop where
  kind : 0 ≤ o.1 ∧ o.1 ≤ 255
  mem : ∃ A c, cs = [.int .u8 o.1, .slice A o.2.length c] ∧ o.2.length ≤ c ∧ c ≤ maxLen ∧ By w A o.2 ∧ (A = none → c = 0)
theorem OpV.below {w w' : World} {cs : List Value} {o : Op1} (h : OpV w cs o) (hb : Below w.heap.size w w') : OpV w' cs o :=
  ⟨h.kind, by obtain ⟨A, c, h1, h2, h3, h4, h5⟩ := h.mem; exact ⟨A, c, h1, h2, h3, h4.below hb, h5⟩⟩
theorem OpV.length {w : World} {cs : List Value} {o : Op1} (h : OpV w cs o) : cs.length = 2 := by
  obtain ⟨A, c, h1, _⟩ := h.mem
  rw [h1]; rfl

/-- Rows of cells that are options. -/
inductive OpVs (w : World) : List (List Value) → List Op1 → Prop
  | nil : OpVs w [] []
  | cons {cs : List Value} {o : Op1} {css : List (List Value)} {l : List Op1} : OpV w cs o → OpVs w css l → OpVs w (cs :: css) (o :: l)
theorem OpVs.bel {w w' : World} {css : List (List Value)} {l : List Op1} (h : OpVs w css l) (hb : Below w.heap.size w w') : OpVs w' css l := by
  induction h with
  | nil => exact .nil
  | cons h1 _ ih => exact .cons (h1.below hb) ih
theorem OpVs.length {w : World} {css : List (List Value)} {l : List Op1} (h : OpVs w css l) : css.length = l.length := by
  induction h with
  | nil => rfl
  | cons _ _ ih => simp [ih]
theorem OpVs.push {w : World} {css : List (List Value)} {l : List Op1} (h : OpVs w css l) {cs : List Value} {o : Op1} (h1 : OpV w cs o) : OpVs w (css ++ [cs]) (l ++ [o]) := by
  induction h with
  | nil => exact .cons h1 .nil
  | cons h2 _ ih => exact .cons h2 ih
theorem OpVs.each {w : World} {css : List (List Value)} {l : List Op1} (h : OpVs w css l) : ∀ cs ∈ css, cs.length = 2 := by
  induction h with
  | nil => simp
  | cons h1 _ ih =>
    intro cs hcs
    rcases List.mem_cons.1 hcs with rfl | h2
    · exact h1.length
    · exact ih cs h2
theorem OpVs.get {w : World} {css : List (List Value)} {l : List Op1} (h : OpVs w css l) : ∀ (i : Nat) (o : Op1), l[i]? = some o → ∃ cs, css[i]? = some cs ∧ OpV w cs o := by
  induction h with
  | nil => intro i o hi; simp at hi
  | cons h1 _ ih =>
    intro i o hi
    cases i with
    | zero => simp only [List.getElem?_cons_zero, Option.some.injEq] at hi; subst hi; exact ⟨_, rfl, h1⟩
    | succ i => exact ih i o (by simpa using hi)
theorem OpVs.drop {w : World} {css : List (List Value)} {l : List Op1} (h : OpVs w css l) (k : Nat) : OpVs w (css.drop k) (l.drop k) := by
  induction h generalizing k with
  | nil => simp; exact .nil
  | cons h1 h2 ih =>
    cases k with
    | zero => exact .cons h1 h2
    | succ k => exact ih k
theorem OpVs.take {w : World} {css : List (List Value)} {l : List Op1} (h : OpVs w css l) (k : Nat) : OpVs w (css.take k) (l.take k) := by
  induction h generalizing k with
  | nil => simp; exact .nil
  | cons h1 h2 ih =>
    cases k with
    | zero => exact .nil
    | succ k => exact .cons h1 (ih k)

/-- Options, as they lie. -/
structure Ops (w : World) (A : Option Addr) (l : List Op1) : Prop where
  mem : ∃ css, Rd w A 2 css ∧ OpVs w css l
theorem Ops.below {w w' : World} {A : Option Addr} {l : List Op1} (h : Ops w A l) (hb : Below w.heap.size w w') : Ops w' A l := by
  obtain ⟨css, h1, h2⟩ := h.mem
  exact ⟨css, h1.below hb, h2.bel hb⟩
theorem Ops.nil (w : World) (A : Option Addr) : Ops w A [] := ⟨[], Rd.nil _ _ _, .nil⟩
theorem Ops.pos {w : World} {A : Option Addr} {l : List Op1} (h : Ops w A l) (hl : 0 < l.length) : ∃ b o, A = some ⟨b, o, none⟩ ∧ b < w.heap.size := by
  obtain ⟨css, h1, h2⟩ := h.mem
  have := h2.length
  obtain ⟨b, o, e, hlt, _⟩ := h1.mem (by rintro rfl; simp at this; omega)
  exact ⟨b, o, e, hlt⟩
/-- The cells of one of them. -/
theorem Ops.at {w : World} {b off : Nat} {l : List Op1} (h : Ops w (some ⟨b, off, none⟩) l) {i : Nat} {o : Op1} (hi : l[i]? = some o) :
    ∃ A c, w.cell? ⟨b, off + i * 2, none⟩ = some (.int .u8 o.1) ∧ w.cell? ⟨b, off + i * 2 + 1, none⟩ = some (.slice A o.2.length c) ∧ o.2.length ≤ c ∧ c ≤ maxLen ∧ By w A o.2 ∧ 0 ≤ o.1 ∧ o.1 ≤ 255 ∧ (A = none → c = 0) := by
  obtain ⟨css, h1, h2⟩ := h.mem
  obtain ⟨cs, h3, h4⟩ := h2.get i o hi
  obtain ⟨A, c, rfl, h5, h6, h7, h8⟩ := h4.mem
  exact ⟨A, c, by simpa using h1.cell h3 (j := 0) rfl, by simpa using h1.cell h3 (j := 1) rfl, h5, h6, h7, h4.kind.1, h4.kind.2, h8⟩
theorem Ops.drop {w : World} {b off : Nat} {l : List Op1} (h : Ops w (some ⟨b, off, none⟩) l) (k : Nat) : Ops w (some ⟨b, off + k * 2, none⟩) (l.drop k) := by
  obtain ⟨css, h1, h2⟩ := h.mem
  refine ⟨css.drop k, ⟨fun cs hcs => h1.each cs (List.mem_of_mem_drop hcs), fun hne => ?_⟩, h2.drop k⟩
  obtain ⟨b', o', e, hlt, hc⟩ := h1.mem (by rintro rfl; simp at hne)
  simp only [Option.some.injEq, Addr.mk.injEq, and_true] at e
  obtain ⟨rfl, rfl⟩ := e
  refine ⟨b, off + k * 2, rfl, hlt, fun i cs hi j v hv => ?_⟩
  rw [List.getElem?_drop] at hi
  have := hc _ _ hi _ _ hv
  rw [Nat.add_mul] at this
  rw [show off + k * 2 + i * 2 + j = off + (k * 2 + i * 2) + j by omega]
  exact this
theorem Ops.take {w : World} {A : Option Addr} {l : List Op1} (h : Ops w A l) (k : Nat) : Ops w A (l.take k) := by
  obtain ⟨css, h1, h2⟩ := h.mem
  refine ⟨css.take k, ⟨fun cs hcs => h1.each cs (List.mem_of_mem_take hcs), fun hne => ?_⟩, h2.take k⟩
  obtain ⟨b, o, e, hlt, hc⟩ := h1.mem (by rintro rfl; simp at hne)
  refine ⟨b, o, e, hlt, fun i cs hi j v hv => hc i cs ?_ j v hv⟩
  rw [List.getElem?_take] at hi
  split at hi
  · exact hi
  · cases hi
/-- A row of the call's own. -/
theorem Ops.of_own {w : World} {base n : Nat} {e : TypeId} {v : Value} {css : List (List Value)} {l : List Op1} (h : w.ownsRow base e 2 v n css.flatten) (ho : OpVs w css l) (hn : n = l.length) :
    ∃ A c, v = .slice A l.length c ∧ l.length ≤ c ∧ c ≤ maxLen ∧ Ops w A l := by
  subst hn
  rcases own_cases h with ⟨rfl, h1, h2⟩ | ⟨g, cap, rfl, h1, h2, h3, h4⟩
  · have : l = [] := by simpa using h1
    subst this
    exact ⟨none, 0, rfl, by simp, by simp, Ops.nil _ _⟩
  · exact ⟨_, _, rfl, h3, h4, css, Rd.of_own h ho.each h2, ho⟩

end Go.Proofs.Ytjfnnclbfaakkaa

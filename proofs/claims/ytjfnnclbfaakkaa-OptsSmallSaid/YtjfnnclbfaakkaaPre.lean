/-
  Plain lemmas and contracts of chapter 06, merged from 16 texts: Flat, Slice, Base, Shape, Stamp, Data, Map, Inv, Wide, Right, Clone, Spec, Rng, Iter, Got, Lent. Conditions: those of the theorems.
-/
import Derived.OpenShut
import Derived.Deep.Slices
import Derived.ChangeSame
import Derived.LaidLaws
import Derived.WalkKit
import Derived.ProofKit
import Derived.Deep.AppendLies
import Derived.Lib.Hide
import Derived.Deep.QuietTactic
import Derived.Test.YtjfnnclbfaakkaaProg
import Derived.Maps.OwnSet
import Derived.StillTail
import Derived.Below
import Derived.Deep.MidRow
import Derived.Deep.WholeRow
import Derived.StillTailTactics
import Derived.Deep.DeepCutAuto
import Derived.Deep.LoopGhost
import Derived.Lib.SliceRun
import Derived.RangeFuncNested
import Derived.RangeFuncBound
import Derived.RangeFuncCalls
import Derived.RangeFuncLeaves
import Derived.Laws.Rows
import Derived.Shelf.Abstract
import Derived.Shelf.RegionOpen
import Derived.OwnWalkIn
import Derived.TacticsInMore
import Derived.LoopNIn
import Derived.LoopIn
import Derived.Sort.CutIn
import Derived.Maps.AppendAt
import Derived.BigQuiet
import Derived.BigRegion
import Derived.Deep.CutBlock
namespace Go.Proofs.Ytjfnnclbfaakkaa
open Go.ChangeShapes Go.WideShapes Go.RowKit

/-- What a cell of a kind holds ('none': a bool). -/
def Fits (k : Option IntKind) (v : Value) : Prop :=
  match k with
  | some k => ∃ n, v = .int k n ∧ (Lit.int k n).wf = true
  | none => ∃ b, v = .bool b
def All2 : List (Option IntKind) → List Value → Prop
  | [], [] => True
  | k :: ks, v :: vs => Fits k v ∧ All2 ks vs
  | _, _ => False
theorem all2_nil {vs : List Value} (h : All2 [] vs) : vs = [] := by
  cases vs with
  | nil => rfl
  | cons v vs => exact absurd h (by simp [All2])
theorem all2_cons {k : Option IntKind} {ks : List (Option IntKind)} {vs : List Value} (h : All2 (k :: ks) vs) : ∃ v r, vs = v :: r ∧ Fits k v ∧ All2 ks r := by
  cases vs with
  | nil => exact absurd h (by simp [All2])
  | cons v vs => exact ⟨v, vs, rfl, h.1, h.2⟩
theorem all2_int {k : IntKind} {ks : List (Option IntKind)} {vs : List Value} (h : All2 (some k :: ks) vs) : ∃ (n : Int) (r : List Value), vs = .int k n :: r ∧ (Lit.int k n).wf = true ∧ All2 ks r := by
  obtain ⟨v, r, rfl, ⟨n, rfl, hn⟩, hr⟩ := all2_cons h
  exact ⟨n, r, rfl, hn, hr⟩
theorem all2_bool {ks : List (Option IntKind)} {vs : List Value} (h : All2 (none :: ks) vs) : ∃ (b : Bool) (r : List Value), vs = .bool b :: r ∧ All2 ks r := by
  obtain ⟨v, r, rfl, ⟨n, rfl⟩, hr⟩ := all2_cons h
  exact ⟨n, r, rfl, hr⟩
theorem all2_append {a b : List (Option IntKind)} {x y : List Value} (h : All2 a x) (k : All2 b y) : All2 (a ++ b) (x ++ y) := by
  induction a generalizing x with
  | nil =>
    have := all2_nil h
    subst this
    exact k
  | cons c a ih =>
    obtain ⟨v, r, rfl, hv, hr⟩ := all2_cons h
    exact ⟨hv, ih hr⟩

/-- The kinds of a struct's cells: its fields lie one behind the other. -/
def kindsF (P : Program) (total : Nat) (g : TypeId → Option (List (Option IntKind))) : List Field → Nat → Option (List (Option IntKind))
  | [], o => if o = total then some [] else none
  | f :: r, o => if f.offset = o then (g f.type).bind fun ks => (kindsF P total g r (o + P.cellsOf f.type)).map fun rest => ks ++ rest else none
/-- The kinds of a type's cells. -/
def kinds (P : Program) : Nat → TypeId → Option (List (Option IntKind))
  | 0, _ => none
  | fuel + 1, t =>
    match P.underlying t with
    | some .bool => some [none]
    | some (.int k) => some [some k]
    | some (.array n e) => if P.cellsOf t = n * P.cellsOf e then (kinds P fuel e).map fun ks => (List.replicate n ks).flatten else none
    | some (.struct fs) => kindsF P (P.cellsOf t) (kinds P fuel) fs.toList 0
    | _ => none

section
variable {H : Type} {enc : TypeId × Value → H} {P : Program} {w : World} {base : Nat} {spare : Nat → Bool} {held : Bool}

theorem take_split {α : Type} (l : List α) (o c : Nat) : l.drop o = (l.drop o).take c ++ l.drop (o + c) := by
  rw [← List.drop_drop, List.take_append_drop]

theorem kindsF_all (total n : Nat) (g : TypeId → Option (List (Option IntKind))) (cs : List Value) (hcs : cs.length = total)
    (ih : ∀ t cs x ks, g t = some ks → DataW.trod enc P w base spare held n t cs = some x → All2 ks cs) :
    ∀ (fs : List Field) (o : Nat) (ks : List (Option IntKind)) (xs : List (DataW H × List MemPlace)), kindsF P total g fs o = some ks → xs.length = fs.length →
      (∀ (i : Nat) (f : Field), fs[i]? = some f → DataW.trod enc P w base spare held n f.type ((cs.drop f.offset).take (P.cellsOf f.type)) = xs[i]?) → All2 ks (cs.drop o) := by
  intro fs
  induction fs with
  | nil =>
    intro o ks xs hk _ _
    unfold kindsF at hk
    split at hk
    · rename_i ho
      cases hk
      rw [List.drop_eq_nil_of_le (by omega)]
      trivial
    · cases hk
  | cons f r ihr =>
    intro o ks xs hk hl hf
    unfold kindsF at hk
    split at hk
    · rename_i ho
      rw [Option.bind_eq_some_iff] at hk
      obtain ⟨k1, hk1, hk2⟩ := hk
      rw [Option.map_eq_some_iff] at hk2
      obtain ⟨k2, hk2, rfl⟩ := hk2
      cases xs with
      | nil => simp at hl
      | cons y ys =>
        have h0 := hf 0 f rfl
        rw [ho] at h0
        rw [take_split cs o (P.cellsOf f.type)]
        exact all2_append (ih _ _ y _ hk1 (by simpa using h0)) (ihr _ _ ys hk2 (by simpa using hl) (fun i f' hf' => by simpa using hf (i + 1) f' (by simpa using hf')))
    · cases hk

theorem kindsA_all (n : Nat) (e : TypeId) (ks : List (Option IntKind)) (ih : ∀ cs x, DataW.trod enc P w base spare held n e cs = some x → All2 ks cs) :
    ∀ (m : Nat) (cs : List Value), cs.length = m * P.cellsOf e → (∀ i, i < m → ∃ x, DataW.trod enc P w base spare held n e ((cs.drop (i * P.cellsOf e)).take (P.cellsOf e)) = some x) → All2 (List.replicate m ks).flatten cs := by
  intro m
  induction m with
  | zero =>
    intro cs hl _
    have : cs = [] := List.eq_nil_of_length_eq_zero (by simpa using hl)
    subst this
    trivial
  | succ m ihm =>
    intro cs hl h
    rw [List.replicate_succ, List.flatten_cons]
    have e1 := take_split cs 0 (P.cellsOf e)
    simp only [List.drop_zero, Nat.zero_add] at e1
    rw [e1]
    obtain ⟨x, hx⟩ := h 0 (by omega)
    simp only [Nat.zero_mul, List.drop_zero] at hx
    refine all2_append (ih _ _ hx) (ihm _ (by rw [List.length_drop, hl, Nat.succ_mul]; omega) fun i hi => ?_)
    obtain ⟨y, hy⟩ := h (i + 1) (by omega)
    refine ⟨y, ?_⟩
    rw [List.drop_drop]
    rw [Nat.succ_mul, Nat.add_comm] at hy
    exact hy

/-- A value of such a type: cell for cell of its kind. -/
theorem kinds_all : ∀ (fuel m : Nat) (t : TypeId) (cs : List Value) (x : DataW H × List MemPlace) (ks : List (Option IntKind)), kinds P fuel t = some ks →
    DataW.trod enc P w base spare held m t cs = some x → All2 ks cs := by
  intro fuel
  induction fuel with
  | zero => intro m t cs x ks hk; simp [kinds] at hk
  | succ fuel ih =>
    intro m t cs x ks hk h
    unfold kinds at hk
    split at hk
    · rename_i hu
      obtain ⟨b, rfl, _⟩ := DataW.trod_bool hu h
      cases hk
      exact ⟨⟨b, rfl⟩, trivial⟩
    · rename_i k hu
      obtain ⟨b, rfl, _, hb⟩ := DataW.trod_int hu h
      cases hk
      exact ⟨⟨b, rfl, hb⟩, trivial⟩
    · rename_i n e hu
      split at hk
      · rename_i hc
        rw [Option.map_eq_some_iff] at hk
        obtain ⟨k1, hk1, rfl⟩ := hk
        obtain ⟨xs, m', rfl, _, hl, hxl, hi⟩ := DataW.trod_array hu h
        refine kindsA_all m' e k1 (fun cs x hx => ih m' e cs x k1 hk1 hx) n cs (by rw [hl, hc]) fun i hin => ?_
        rw [hi i hin]
        exact ⟨xs[i]'(by omega), List.getElem?_eq_getElem (by omega)⟩
      · cases hk
    · rename_i fs hu
      obtain ⟨xs, m', rfl, _, hl, hxl, hi⟩ := DataW.trod_struct hu h
      have := kindsF_all (P.cellsOf t) m' (kinds P fuel) cs hl (fun t cs x ks hks hx => ih m' t cs x ks hks hx) fs.toList 0 ks xs hk (by simpa using hxl) (fun i f hf => hi i f (by simpa using hf))
      simpa using this
    · cases hk

theorem okWide_array {r : Reach} {b0 : Nat} {t e : TypeId} {n : Nat} {v : Value} (ht : P.underlying t = some (.array n e)) (h : Value.okWide P w r b0 t v) : ∃ cs, v = .agg cs ∧ cs.size = P.cellsOf t := by
  simp only [Value.okWide, ht] at h
  obtain ⟨cs, h1, h2, _⟩ := h
  exact ⟨cs, h1, h2⟩

/-- A struct or an array by value. -/
theorem open_flat {r : Reach} {b0 fuel : Nat} {t : TypeId} {v : Value} {d : DataW H} {p : List MemPlace} {ks : List (Option IntKind)}
    (hs : (∃ fs, P.underlying t = some (.struct fs)) ∨ ∃ n e, P.underlying t = some (.array n e)) (hk : kinds P fuel t = some ks)
    (hv : Value.okWide P w r b0 t v) (h : DataW.Trod enc P w base spare held t v d p) : ∃ cs : List Value, v = .agg cs.toArray ∧ All2 ks cs := by
  obtain ⟨m, hf⟩ := h
  have ha := kinds_all fuel m t v.cells.toList _ ks hk hf
  rcases hs with ⟨fs, hu⟩ | ⟨n, e, hu⟩
  · obtain ⟨cs, rfl, _⟩ := okWide_struct hu hv
    exact ⟨cs.toList, by simp, by simpa [Value.cells] using ha⟩
  · obtain ⟨cs, rfl, _⟩ := okWide_array hu hv
    exact ⟨cs.toList, by simp, by simpa [Value.cells] using ha⟩
end

/-! ### A variable that reads as a datum -/
mutual
/-- The cells of a datum made of integers, bools and strings. -/
def flatD {H : Type} : DataW H → List Value
  | .lit (.int k n) => [.int k n]
  | .lit (.bool b) => [.bool b]
  | .lit (.string s) => [.string ⟨s.toArray⟩]
  | .agg l => flatDs l
  | _ => []
def flatDs {H : Type} : List (DataW H) → List Value
  | [] => []
  | d :: r => flatD d ++ flatDs r
end
def flatF (P : Program) (total : Nat) (g : TypeId → Bool) : List Field → Nat → Bool
  | [], o => o == total
  | f :: r, o => f.offset == o && g f.type && flatF P total g r (o + P.cellsOf f.type)
def flatB (P : Program) : Nat → TypeId → Bool
  | 0, _ => false
  | fuel + 1, t =>
    match P.underlying t with
    | some .bool => true
    | some (.int _) => true
    | some .string => true
    | some (.array n e) => P.cellsOf t == n * P.cellsOf e && flatB P fuel e
    | some (.struct fs) => flatF P (P.cellsOf t) (flatB P fuel) fs.toList 0
    | _ => false

section
variable {H : Type} {enc : TypeId × Value → H} {P : Program} {w : World} {base : Nat} {spare : Nat → Bool} {held : Bool}

theorem flatF_all (total n : Nat) (g : TypeId → Bool) (cs : List Value) (hcs : cs.length = total)
    (ih : ∀ t cs x, g t = true → DataW.trod enc P w base spare held n t cs = some x → cs = flatD x.1) :
    ∀ (fs : List Field) (o : Nat) (xs : List (DataW H × List MemPlace)), flatF P total g fs o = true → xs.length = fs.length →
      (∀ (i : Nat) (f : Field), fs[i]? = some f → DataW.trod enc P w base spare held n f.type ((cs.drop f.offset).take (P.cellsOf f.type)) = xs[i]?) → cs.drop o = flatDs (xs.map (·.1)) := by
  intro fs
  induction fs with
  | nil =>
    intro o xs hk hl _
    simp only [flatF, beq_iff_eq] at hk
    have : xs = [] := List.eq_nil_of_length_eq_zero (by simpa using hl)
    subst this
    rw [List.drop_eq_nil_of_le (by omega)]
    rfl
  | cons f r ihr =>
    intro o xs hk hl hf
    simp only [flatF, Bool.and_eq_true, beq_iff_eq] at hk
    obtain ⟨⟨ho, hg⟩, hr⟩ := hk
    cases xs with
    | nil => simp at hl
    | cons y ys =>
      have h0 := hf 0 f rfl
      rw [ho] at h0
      rw [take_split cs o (P.cellsOf f.type)]
      simp only [List.map_cons, flatDs]
      rw [← ih _ _ y hg (by simpa using h0), ← ihr _ ys hr (by simpa using hl) (fun i f' hf' => by simpa using hf (i + 1) f' (by simpa using hf'))]

theorem flatA_all (n : Nat) (e : TypeId) (ih : ∀ cs x, DataW.trod enc P w base spare held n e cs = some x → cs = flatD x.1) :
    ∀ (m : Nat) (cs : List Value) (xs : List (DataW H × List MemPlace)), cs.length = m * P.cellsOf e → xs.length = m →
      (∀ i, i < m → DataW.trod enc P w base spare held n e ((cs.drop (i * P.cellsOf e)).take (P.cellsOf e)) = xs[i]?) → cs = flatDs (xs.map (·.1)) := by
  intro m
  induction m with
  | zero =>
    intro cs xs hl hx _
    have : cs = [] := List.eq_nil_of_length_eq_zero (by simpa using hl)
    subst this
    have : xs = [] := List.eq_nil_of_length_eq_zero hx
    subst this
    rfl
  | succ m ihm =>
    intro cs xs hl hx h
    cases xs with
    | nil => simp at hx
    | cons y ys =>
      have e1 := take_split cs 0 (P.cellsOf e)
      simp only [List.drop_zero, Nat.zero_add] at e1
      have h0 := h 0 (by omega)
      simp only [Nat.zero_mul, List.drop_zero] at h0
      simp only [List.map_cons, flatDs]
      rw [e1, ← ih _ y (by simpa using h0)]
      congr 1
      refine ihm _ ys (by rw [List.length_drop, hl, Nat.succ_mul]; omega) (by simpa using hx) fun i hi => ?_
      have hy := h (i + 1) (by omega)
      rw [List.drop_drop]
      rw [Nat.succ_mul, Nat.add_comm] at hy
      simpa using hy

theorem flat_all : ∀ (fuel m : Nat) (t : TypeId) (cs : List Value) (x : DataW H × List MemPlace), flatB P fuel t = true → DataW.trod enc P w base spare held m t cs = some x → cs = flatD x.1 := by
  intro fuel
  induction fuel with
  | zero => intro m t cs x hk; simp [flatB] at hk
  | succ fuel ih =>
    intro m t cs x hk h
    unfold flatB at hk
    split at hk
    · rename_i hu
      obtain ⟨b, rfl, rfl⟩ := DataW.trod_bool hu h
      rfl
    · rename_i k hu
      obtain ⟨b, rfl, rfl, hb⟩ := DataW.trod_int hu h
      rfl
    · rename_i hu
      obtain ⟨b, rfl, rfl, hb⟩ := DataW.trod_string hu h
      simp [flatD]
    · rename_i n e hu
      simp only [Bool.and_eq_true, beq_iff_eq] at hk
      obtain ⟨xs, m', rfl, rfl, hl, hxl, hi⟩ := DataW.trod_array hu h
      exact flatA_all m' e (fun cs x hx => ih m' e cs x hk.2 hx) n cs xs (by rw [hl, hk.1]) hxl hi
    · rename_i fs hu
      obtain ⟨xs, m', rfl, rfl, hl, hxl, hi⟩ := DataW.trod_struct hu h
      have := flatF_all (P.cellsOf t) m' (flatB P fuel) cs hl (fun t cs x hg hx => ih m' t cs x hg hx) fs.toList 0 xs hk (by simpa using hxl) (fun i f hf => hi i f (by simpa using hf))
      rw [flatD]
      simpa using this
    · cases hk
end
end Go.Proofs.Ytjfnnclbfaakkaa

namespace Go.Proofs.Ytjfnnclbfaakkaa
open Go.ChangeShapes Go.WideShapes Go.RowKit

theorem below_drewN {B : Nat} {a w : World} (h : Below B a w) (n : Nat) : Below B a (w.drewN n) := ⟨h.os, h.tape, h.output, h.size, h.block⟩
theorem bthen {a b c : World} (h : Below a.heap.size a b) (k : Below b.heap.size b c) : Below a.heap.size a c := h.trans (k.mono h.size)

theorem cell_lt {w : World} {a : Addr} {v : Value} (h : w.cell? a = some v) : a.block < w.heap.size := by
  rcases Nat.lt_or_ge a.block w.heap.size with hlt | hge
  · exact hlt
  · unfold World.cell? at h
    rw [Array.getElem?_eq_none hge] at h
    cases h

/-- A slice that reads as rows of 'size' cells. -/
structure Rd (w : World) (A : Option Addr) (size : Nat) (css : List (List Value)) : Prop where
  each : ∀ cs ∈ css, cs.length = size
  mem : css ≠ [] → ∃ b off, A = some ⟨b, off, none⟩ ∧ b < w.heap.size ∧ ∀ i cs, css[i]? = some cs → ∀ j v, cs[j]? = some v → w.cell? ⟨b, off + i * size + j, none⟩ = some v

theorem Rd.below {w w' : World} {A : Option Addr} {size : Nat} {css : List (List Value)} (h : Rd w A size css) (hb : Below w.heap.size w w') : Rd w' A size css :=
  ⟨h.each, fun hl => by
    obtain ⟨b, off, e, hlt, hc⟩ := h.mem hl
    exact ⟨b, off, e, Nat.lt_of_lt_of_le hlt hb.size, fun i cs hi j v hv => (hb.cell (p := ⟨b, off + i * size + j, none⟩) hlt).trans (hc i cs hi j v hv)⟩⟩

theorem Rd.nil (w : World) (A : Option Addr) (size : Nat) : Rd w A size [] := ⟨by simp, fun h => absurd rfl h⟩

theorem flatten_length {size : Nat} {css : List (List Value)} (h : ∀ cs ∈ css, cs.length = size) : css.flatten.length = css.length * size := by
  induction css with
  | nil => simp
  | cons c r ih =>
    have h0 := h c (by simp)
    have h1 := ih fun cs hcs => h cs (by simp [hcs])
    simp only [List.flatten_cons, List.length_append, List.length_cons, h0, h1, Nat.succ_mul]
    omega

theorem flatten_get {size : Nat} (hs : 0 < size) {css : List (List Value)} (h : ∀ cs ∈ css, cs.length = size) : ∀ k v, css.flatten[k]? = some v → ∃ cs, css[k / size]? = some cs ∧ cs[k % size]? = some v := by
  induction css with
  | nil => intro k v hv; simp at hv
  | cons c r ih =>
    intro k v hv
    have h0 := h c (by simp)
    simp only [List.flatten_cons] at hv
    by_cases hk : k < size
    · rw [List.getElem?_append_left (by omega)] at hv
      rw [Nat.div_eq_of_lt hk, Nat.mod_eq_of_lt hk]
      exact ⟨c, rfl, hv⟩
    · rw [List.getElem?_append_right (by omega), h0] at hv
      obtain ⟨cs, h1, h2⟩ := ih (fun cs hcs => h cs (by simp [hcs])) _ _ hv
      have e1 : k / size = (k - size) / size + 1 := by
        rw [Nat.div_eq_sub_div hs (by omega)]
      have e2 : k % size = (k - size) % size := by rw [Nat.mod_eq_sub_mod (by omega)]
      rw [e1, e2]
      exact ⟨cs, by simpa using h1, h2⟩

theorem get_flatten {size : Nat} {css : List (List Value)} (h : ∀ cs ∈ css, cs.length = size) : ∀ (i : Nat) (cs : List Value) (j : Nat) (v : Value), css[i]? = some cs → cs[j]? = some v → css.flatten[i * size + j]? = some v := by
  induction css with
  | nil => intro i cs j v hi; simp at hi
  | cons c r ih =>
    intro i cs j v hi hv
    have h0 := h c (by simp)
    have hj : j < cs.length := by
      rw [List.getElem?_eq_some_iff] at hv
      exact hv.1
    simp only [List.flatten_cons]
    cases i with
    | zero =>
      simp only [List.getElem?_cons_zero, Option.some.injEq] at hi
      subst hi
      rw [Nat.zero_mul, Nat.zero_add, List.getElem?_append_left hj]
      exact hv
    | succ i =>
      rw [Nat.succ_mul, List.getElem?_append_right (by omega), h0]
      rw [show i * size + size + j - size = i * size + j by omega]
      exact ih (fun cs hcs => h cs (by simp [hcs])) i cs j v (by simpa using hi) hv

/-- The cells to be appended. -/
theorem Rd.news {w : World} {b off size : Nat} {css : List (List Value)} (hs : 0 < size) (h : Rd w (some ⟨b, off, none⟩) size css) : ∀ j u, css.flatten[j]? = some u → w.cell? ((⟨b, off, none⟩ : Addr).add j) = some u := by
  intro k u hu
  by_cases hl : css = []
  · subst hl
    simp at hu
  · obtain ⟨b', off', e, _, hc⟩ := h.mem hl
    simp only [Option.some.injEq, Addr.mk.injEq, and_true] at e
    obtain ⟨rfl, rfl⟩ := e
    obtain ⟨cs, h1, h2⟩ := flatten_get hs h.each k u hu
    have := hc _ _ h1 _ _ h2
    rw [Go.WideShapes.add_plain]
    rw [Nat.add_assoc, show k / size * size + k % size = k by rw [Nat.mul_comm]; exact Nat.div_add_mod k size] at this
    exact this

/-- A row of the call's own. -/
theorem Rd.of_own {w : World} {base g n cap size : Nat} {e : TypeId} {css : List (List Value)} (h : w.ownsRow base e size (.slice (some ⟨g, 0, none⟩) n cap) n css.flatten) (he : ∀ cs ∈ css, cs.length = size) (hg : g < w.heap.size) :
    Rd w (some ⟨g, 0, none⟩) size css :=
  ⟨he, fun _ => ⟨g, 0, rfl, hg, fun i cs hi j v hv => by
    have := h.cells (g := g) rfl _ _ (get_flatten he i cs j v hi hv)
    rw [Go.WideShapes.add_plain] at this
    rw [Nat.add_assoc]
    exact this⟩⟩

/-- An element's cells, one by one. -/
theorem Rd.cell {w : World} {b off size : Nat} {css : List (List Value)} (h : Rd w (some ⟨b, off, none⟩) size css) {i : Nat} {cs : List Value} (hi : css[i]? = some cs) {j : Nat} {v : Value} (hv : cs[j]? = some v) : w.cell? ⟨b, off + i * size + j, none⟩ = some v := by
  obtain ⟨b', off', e, _, hc⟩ := h.mem (by rintro rfl; simp at hi)
  simp only [Option.some.injEq, Addr.mk.injEq, and_true] at e
  obtain ⟨rfl, rfl⟩ := e
  exact hc i cs hi j v hv

section
variable {H : Type} {enc : TypeId × Value → H} {P : Program} {w : World} {base : Nat} {spare : Nat → Bool} {held : Bool}
/-- An argument that is a slice of structs or integers. -/
theorem rd_of_trod {r : Reach} {b0 fuel size : Nat} {t e : TypeId} {v : Value} {d : DataW H} {p : List MemPlace} {ks : List (Option IntKind)} (ht : P.underlying t = some (.slice e)) (hc : P.cellsOf e = size) (hk : kinds P fuel e = some ks)
    (hv : Value.okWide P w r b0 t v) (h : DataW.Trod enc P w base spare held t v d p) (hsz : 0 < size) :
    ∃ (A : Option Addr) (css : List (List Value)) (cap : Nat), v = .slice A css.length cap ∧ css.length ≤ cap ∧ cap ≤ maxLen ∧ (A = none → css = [] ∧ cap = 0) ∧ Rd w A size css ∧ ∀ cs ∈ css, All2 ks cs := by
  obtain ⟨A, len, cap, rfl⟩ := okWide_slice ht hv
  obtain ⟨m, hf⟩ := h
  rcases Go.Deep.open_slice ht hf with ⟨hcs, _⟩ | ⟨a, l, c, m', n', D, Pl, hcs, hb, hl, hm, hmm, _, hi⟩
  · simp [Value.cells] at hcs
    obtain ⟨rfl, rfl, rfl⟩ := hcs
    exact ⟨none, [], 0, rfl, by simp, by simp, fun _ => ⟨rfl, rfl⟩, Rd.nil _ _ _, by simp⟩
  · simp [Value.cells] at hcs
    obtain ⟨rfl, rfl, rfl⟩ := hcs
    have hlm : len ≤ m' := by rw [hmm]; split <;> omega
    have hall : ∀ i, i < len → ∃ cs, w.cells? base (a.add (i * size)) size = some cs ∧ All2 ks cs := fun i hil => by
      obtain ⟨cs, h1, h2⟩ := hi i (by omega)
      rw [hc] at h1
      exact ⟨cs, h1, kinds_all fuel n' e cs _ ks hk h2⟩
    have hex : ∀ len : Nat, (∀ i, i < len → ∃ cs, w.cells? base (a.add (i * size)) size = some cs ∧ All2 ks cs) → ∃ css : List (List Value), css.length = len ∧ ∀ i cs, css[i]? = some cs → w.cells? base (a.add (i * size)) size = some cs ∧ All2 ks cs := by
      intro len hall
      induction len with
      | zero => exact ⟨[], rfl, fun i cs h => by simp at h⟩
      | succ k ih =>
        obtain ⟨css, hl1, hc1⟩ := ih (fun i hik => hall i (by omega))
        obtain ⟨cs, h1, h2⟩ := hall k (by omega)
        refine ⟨css ++ [cs], by simp [hl1], fun i c hi => ?_⟩
        by_cases hik : i < k
        · rw [List.getElem?_append_left (by omega)] at hi
          exact hc1 i c hi
        · rw [List.getElem?_append_right (by omega)] at hi
          have : i - css.length = 0 := by
            rcases Nat.eq_zero_or_pos (i - css.length) with h0 | h0
            · exact h0
            · rw [List.getElem?_eq_none (by simp; omega)] at hi
              cases hi
          rw [this] at hi
          simp only [List.getElem?_cons_zero, Option.some.injEq] at hi
          subst hi
          obtain rfl : i = k := by omega
          exact ⟨h1, h2⟩
    obtain ⟨css, hcl, hcc⟩ := hex len hall
    subst hcl
    have heach : ∀ cs ∈ css, cs.length = size := fun cs hcs => by
      obtain ⟨i, hi⟩ := List.getElem?_of_mem hcs
      exact (World.cells?_some (hcc i cs hi).1).2.1
    refine ⟨some a, css, cap, rfl, hl, hm, by simp, ⟨heach, fun hne => ?_⟩, fun cs hcs => ?_⟩
    · obtain ⟨b, off, spot⟩ := a
      have hpos : 0 < css.length := List.length_pos_iff.2 hne
      have h0 := (hcc 0 css[0] (List.getElem?_eq_getElem hpos)).1
      have hl0 := heach css[0] (List.getElem_mem _)
      have hcell0 := (World.cells?_some h0).2.2 0 hsz
      rw [List.getElem?_eq_getElem (by omega)] at hcell0
      have hspot : spot = none := by simpa [Addr.add] using World.cell?_spot hcell0
      subst hspot
      refine ⟨b, off, rfl, ?_, fun i cs hi j v hv => ?_⟩
      · have h1 := cell_lt hcell0
        simpa [Addr.add] using h1
      · have h1 := (World.cells?_some (hcc i cs hi).1).2.2 j (by
          have := heach cs (List.mem_of_getElem? hi)
          rw [List.getElem?_eq_some_iff] at hv
          have := hv.1
          omega)
        rw [hv, Go.WideShapes.add_plain, Go.WideShapes.add_plain] at h1
        exact h1
    · obtain ⟨i, hi⟩ := List.getElem?_of_mem hcs
      exact (hcc i cs hi).2
end
end Go.Proofs.Ytjfnnclbfaakkaa

namespace Go.Proofs.Ytjfnnclbfaakkaa
open Go.RowKit
set_option linter.unusedVariables false
set_option linter.unusedSimpArgs false

/-- The group of a kind. -/
def grp (k : Int) : Int := if k = 7 then 1 else if k = 68 then 2 else if k = 131 ∨ k = 137 then 3 else 0
theorem group_any (k : Int) (w : World) : Calls Try.prog 34 #[.int .u8 k] w fun e w' => e = .returned (.int .i64 (grp k)) ∧ w' = w := by
  unfold grp
  by_cases h1 : k = 7
  · subst h1
    go_enter Try.func34, Try.ntmps34
    go_wp2_with fail
    go_ret
    exact ⟨rfl, rfl⟩
  by_cases h2 : k = 68
  · subst h2
    go_enter Try.func34, Try.ntmps34
    go_wp2_with fail
    go_ret
    exact ⟨rfl, rfl⟩
  by_cases h3 : k = 131
  · subst h3
    go_enter Try.func34, Try.ntmps34
    go_wp2_with fail
    go_ret
    exact ⟨rfl, rfl⟩
  by_cases h4 : k = 137
  · subst h4
    go_enter Try.func34, Try.ntmps34
    go_wp2_with fail
    go_ret
    exact ⟨rfl, rfl⟩
  have b1 : (k == 7) = false := by simpa using h1
  have b2 : (k == 68) = false := by simpa using h2
  have b3 : (k == 131) = false := by simpa using h3
  have b4 : (k == 137) = false := by simpa using h4
  go_enter Try.func34, Try.ntmps34
  go_wp2_with fail
  go_ret
  exact ⟨by simp [h1, h2, h3, h4], rfl⟩

end Go.Proofs.Ytjfnnclbfaakkaa

namespace Go.Proofs.Ytjfnnclbfaakkaa
open Go.RowKit
set_option linter.unusedVariables false
set_option linter.unusedSimpArgs false

/-- Right data of an option with addresses: its length, its first byte. -/
def adr (n : Nat) (x : Int) : Bool := n % 4 == 1 && decide (4 ≤ x) && x % 4 == 0 && decide (x ≤ (n : Int) + 3)
theorem addr_any (A : Option Addr) (n cap : Nat) (x : Int) (w : World) (hn : n < 2 ^ 62) (hx : 0 ≤ x ∧ x ≤ 255) (h0 : 0 < n → ∃ b o, A = some ⟨b, o, none⟩ ∧ w.cell? ⟨b, o, none⟩ = some (.int .u8 x)) :
    Calls Try.prog 55 #[.slice A n cap] w fun e w' => e = .returned (.bool (adr n x)) ∧ w' = w := by
  by_cases h1 : n % 4 = 1
  · obtain ⟨b, o, rfl, hc⟩ := h0 (by omega)
    have m1 : (n : Int).tmod 4 = 1 := by rw [Int.tmod_eq_emod_of_nonneg (by omega)]; omega
    have xm : x.tmod 4 = x % 4 := Int.tmod_eq_emod_of_nonneg hx.1
    have hpos : (0 : Int) < n := by omega
    have hw : IntKind.i64.wrap ((n : Int) + 3) = (n : Int) + 3 := IntWalk.i64_in _ (by omega)
    by_cases h2 : 4 ≤ x
    · have d2 : decide (4 ≤ x) = true := by simpa using h2
      by_cases h3 : x % 4 = 0
      · by_cases h4 : x ≤ (n : Int) + 3
        · have d4 : decide (x ≤ (n : Int) + 3) = true := by simpa using h4
          have e : adr n x = true := by simp [adr, h1, h2, h3, h4]
          rw [e]
          go_enter Try.func55, Try.ntmps55
          go_wp2_with fail
          go_ret
          exact ⟨rfl, rfl⟩
        · have d4 : decide (x ≤ (n : Int) + 3) = false := by simpa using h4
          have e : adr n x = false := by simp [adr, h4]
          rw [e]
          go_enter Try.func55, Try.ntmps55
          go_wp2_with fail
          go_ret
          exact ⟨rfl, rfl⟩
      · have d3 : (x % 4 == 0) = false := by simpa using h3
        have e : adr n x = false := by simp [adr, h3]
        rw [e]
        go_enter Try.func55, Try.ntmps55
        go_wp2_with fail
        go_ret
        exact ⟨rfl, rfl⟩
    · have d2 : decide (4 ≤ x) = false := by simpa using h2
      have e : adr n x = false := by simp [adr, h2]
      rw [e]
      go_enter Try.func55, Try.ntmps55
      go_wp2_with fail
      go_ret
      exact ⟨rfl, rfl⟩
  · have m1 : (n : Int).tmod 4 = (n : Int) % 4 := Int.tmod_eq_emod_of_nonneg (by omega)
    have d1 : ((n : Int) % 4 == 1) = false := by simp; omega
    have e : adr n x = false := by simp [adr, h1]
    rw [e]
    go_enter Try.func55, Try.ntmps55
    go_wp2_with fail
    go_ret
    exact ⟨rfl, rfl⟩
theorem alert_any (A : Option Addr) (n cap : Nat) (w : World) (hn : n < 2 ^ 62) :
    Calls Try.prog 56 #[.slice A n cap] w fun e w' => e = .returned (.bool (n == 2)) ∧ w' = w := by
  have d : ((n : Int) == 2) = (n == 2) := by
    rw [Bool.eq_iff_iff]
    simp
    omega
  go_enter Try.func56, Try.ntmps56
  go_wp2_with fail
  go_ret
  exact ⟨rfl, rfl⟩

end Go.Proofs.Ytjfnnclbfaakkaa

namespace Go.Proofs.Ytjfnnclbfaakkaa
open Go.RowKit
set_option linter.unusedVariables false
set_option linter.unusedSimpArgs false

def ssz (y : Int) : Int := if y % 16 = 0 then 4 else if y % 16 = 1 ∨ y % 16 = 3 then 8 else 0
/-- Right data of a stamp: its length, its first two bytes. -/
def stm (n : Nat) (x y : Int) : Bool := decide (2 ≤ n) && (ssz y != 0) && (((n : Int) - 2) % ssz y == 0) && decide (0 ≤ x - 5) && ((x - 5) % ssz y == 0) && decide (x - 5 ≤ (n : Int) - 2)
set_option maxHeartbeats 4000000 in
theorem stamp_any (A : Option Addr) (n cap : Nat) (x y : Int) (w : World) (hn : n < 2 ^ 62) (hx : 0 ≤ x ∧ x ≤ 255) (hy : 0 ≤ y ∧ y ≤ 255) (h0 : 1 < n → ∃ b o, A = some ⟨b, o, none⟩ ∧ w.cell? ⟨b, o, none⟩ = some (.int .u8 x) ∧ w.cell? ⟨b, o + 1, none⟩ = some (.int .u8 y)) :
    Calls Try.prog 57 #[.slice A n cap] w fun e w' => e = .returned (.bool (stm n x y)) ∧ Below w.heap.size w w' := by
  by_cases h2 : n < 2
  · have d : decide ((n : Int) < 2) = true := by simp; omega
    have e : stm n x y = false := by simp [stm]; omega
    rw [e]
    go_enter Try.func57, Try.ntmps57
    go_wp2_with fail
    go_ret
    exact ⟨rfl, Below.refl _ _⟩
  have d : decide ((n : Int) < 2) = false := by simp; omega
  obtain ⟨b, o, rfl, c0, c1⟩ := h0 (by omega)
  have hb : b < w.heap.size := cell_lt c0
  have hpos : (1 : Int) < n := by omega
  have ym : y.tmod 16 = y % 16 := Int.tmod_eq_emod_of_nonneg hy.1
  have hw1 : IntKind.i64.wrap ((n : Int) - 2) = (n : Int) - 2 := IntWalk.i64_in _ (by omega)
  have hw2 : IntKind.i64.wrap (x - 5) = x - 5 := IntWalk.i64_in _ (by omega)
  obtain ⟨f, hf⟩ : ∃ f, y % 16 = f := ⟨_, rfl⟩
  have hf0 : 0 ≤ f ∧ f ≤ 15 := by omega
  have hwd : w.heap.size ≤ w.heap.size := Nat.le_refl _
  rcases (by omega : f = 0 ∨ f = 1 ∨ f = 2 ∨ f = 3 ∨ 3 < f) with rfl | rfl | rfl | rfl | hgt
  · have z : ssz y = 4 := by simp [ssz, hf]
    have nm : ((n : Int) - 2).tmod 4 = ((n : Int) - 2) % 4 := Int.tmod_eq_emod_of_nonneg (by omega)
    unfold stm
    rw [z]
    have p1 : decide (2 ≤ n) = true := by simp; omega
    rw [p1]
    obtain ⟨q1, hq1⟩ : ∃ q, (((n : Int) - 2) % 4 == 0) = q := ⟨_, rfl⟩
    obtain ⟨q2, hq2⟩ : ∃ q, decide (0 ≤ x - 5) = q := ⟨_, rfl⟩
    obtain ⟨q4, hq4⟩ : ∃ q, decide (x - 5 ≤ (n : Int) - 2) = q := ⟨_, rfl⟩
    have hq5 : decide (5 ≤ x) = q2 := by rw [← hq2]; exact decide_eq_decide.2 (by omega)
    rw [hq1, hq2, hq4]
    cases q1
    · go_enter Try.func57, Try.ntmps57
      go_wp2_with fail
      go_ret
      exact ⟨by simp, (Below.refl _ _).alloc (Nat.le_refl _) _⟩
    cases q2
    · go_enter Try.func57, Try.ntmps57
      go_wp2_with fail
      go_ret
      exact ⟨by simp, (Below.refl _ _).alloc (Nat.le_refl _) _⟩
    have xm : (x - 5).tmod 4 = (x - 5) % 4 := Int.tmod_eq_emod_of_nonneg (by simpa using hq2)
    obtain ⟨q3, hq3⟩ : ∃ q, ((x - 5) % 4 == 0) = q := ⟨_, rfl⟩
    rw [hq3]
    cases q3
    · go_enter Try.func57, Try.ntmps57
      go_wp2_with fail
      go_ret
      exact ⟨by simp, (Below.refl _ _).alloc (Nat.le_refl _) _⟩
    go_enter Try.func57, Try.ntmps57
    go_wp2_with fail
    go_ret
    exact ⟨by simp, (Below.refl _ _).alloc (Nat.le_refl _) _⟩
  · have z : ssz y = 8 := by simp [ssz, hf]
    have nm : ((n : Int) - 2).tmod 8 = ((n : Int) - 2) % 8 := Int.tmod_eq_emod_of_nonneg (by omega)
    unfold stm
    rw [z]
    have p1 : decide (2 ≤ n) = true := by simp; omega
    rw [p1]
    obtain ⟨q1, hq1⟩ : ∃ q, (((n : Int) - 2) % 8 == 0) = q := ⟨_, rfl⟩
    obtain ⟨q2, hq2⟩ : ∃ q, decide (0 ≤ x - 5) = q := ⟨_, rfl⟩
    obtain ⟨q4, hq4⟩ : ∃ q, decide (x - 5 ≤ (n : Int) - 2) = q := ⟨_, rfl⟩
    have hq5 : decide (5 ≤ x) = q2 := by rw [← hq2]; exact decide_eq_decide.2 (by omega)
    rw [hq1, hq2, hq4]
    cases q1
    · go_enter Try.func57, Try.ntmps57
      go_wp2_with fail
      go_ret
      exact ⟨by simp, (Below.refl _ _).alloc (Nat.le_refl _) _⟩
    cases q2
    · go_enter Try.func57, Try.ntmps57
      go_wp2_with fail
      go_ret
      exact ⟨by simp, (Below.refl _ _).alloc (Nat.le_refl _) _⟩
    have xm : (x - 5).tmod 8 = (x - 5) % 8 := Int.tmod_eq_emod_of_nonneg (by simpa using hq2)
    obtain ⟨q3, hq3⟩ : ∃ q, ((x - 5) % 8 == 0) = q := ⟨_, rfl⟩
    rw [hq3]
    cases q3
    · go_enter Try.func57, Try.ntmps57
      go_wp2_with fail
      go_ret
      exact ⟨by simp, (Below.refl _ _).alloc (Nat.le_refl _) _⟩
    go_enter Try.func57, Try.ntmps57
    go_wp2_with fail
    go_ret
    exact ⟨by simp, (Below.refl _ _).alloc (Nat.le_refl _) _⟩
  · have z : ssz y = 0 := by simp [ssz, hf]
    have e : stm n x y = false := by simp [stm, z]
    rw [e]
    go_enter Try.func57, Try.ntmps57
    go_wp2_with fail
    go_ret
    exact ⟨rfl, (Below.refl _ _).alloc (Nat.le_refl _) _⟩
  · have z : ssz y = 8 := by simp [ssz, hf]
    have nm : ((n : Int) - 2).tmod 8 = ((n : Int) - 2) % 8 := Int.tmod_eq_emod_of_nonneg (by omega)
    unfold stm
    rw [z]
    have p1 : decide (2 ≤ n) = true := by simp; omega
    rw [p1]
    obtain ⟨q1, hq1⟩ : ∃ q, (((n : Int) - 2) % 8 == 0) = q := ⟨_, rfl⟩
    obtain ⟨q2, hq2⟩ : ∃ q, decide (0 ≤ x - 5) = q := ⟨_, rfl⟩
    obtain ⟨q4, hq4⟩ : ∃ q, decide (x - 5 ≤ (n : Int) - 2) = q := ⟨_, rfl⟩
    have hq5 : decide (5 ≤ x) = q2 := by rw [← hq2]; exact decide_eq_decide.2 (by omega)
    rw [hq1, hq2, hq4]
    cases q1
    · go_enter Try.func57, Try.ntmps57
      go_wp2_with fail
      go_ret
      exact ⟨by simp, (Below.refl _ _).alloc (Nat.le_refl _) _⟩
    cases q2
    · go_enter Try.func57, Try.ntmps57
      go_wp2_with fail
      go_ret
      exact ⟨by simp, (Below.refl _ _).alloc (Nat.le_refl _) _⟩
    have xm : (x - 5).tmod 8 = (x - 5) % 8 := Int.tmod_eq_emod_of_nonneg (by simpa using hq2)
    obtain ⟨q3, hq3⟩ : ∃ q, ((x - 5) % 8 == 0) = q := ⟨_, rfl⟩
    rw [hq3]
    cases q3
    · go_enter Try.func57, Try.ntmps57
      go_wp2_with fail
      go_ret
      exact ⟨by simp, (Below.refl _ _).alloc (Nat.le_refl _) _⟩
    go_enter Try.func57, Try.ntmps57
    go_wp2_with fail
    go_ret
    exact ⟨by simp, (Below.refl _ _).alloc (Nat.le_refl _) _⟩
  · have z : ssz y = 0 := by simp [ssz, hf]; omega
    have e : stm n x y = false := by simp [stm, z]
    rw [e]
    have dg : decide (3 < f) = true := by simpa using hgt
    have hmn : (if f < 3 then f else 3) = 3 := by rw [if_neg (by omega)]
    go_enter Try.func57, Try.ntmps57
    go_wp2_with fail
    go_ret
    exact ⟨rfl, (Below.refl _ _).alloc (Nat.le_refl _) _⟩

end Go.Proofs.Ytjfnnclbfaakkaa

namespace Go.Proofs.Ytjfnnclbfaakkaa
open Go.RowKit
set_option linter.unusedVariables false
set_option linter.unusedSimpArgs false

/-- Bytes, as they lie. -/
structure By (w : World) (A : Option Addr) (d : List Int) : Prop where
  rng : ∀ x ∈ d, 0 ≤ x ∧ x ≤ 255
  mem : d ≠ [] → ∃ b o, A = some ⟨b, o, none⟩ ∧ b < w.heap.size ∧ ∀ i x, d[i]? = some x → w.cell? ⟨b, o + i, none⟩ = some (.int .u8 x)

theorem By.nil (w : World) (A : Option Addr) : By w A [] := ⟨by simp, fun h => absurd rfl h⟩
theorem By.below {w w' : World} {A : Option Addr} {d : List Int} (h : By w A d) (hb : Below w.heap.size w w') : By w' A d :=
  ⟨h.rng, fun hl => by
    obtain ⟨b, o, e, hlt, hc⟩ := h.mem hl
    exact ⟨b, o, e, Nat.lt_of_lt_of_le hlt hb.size, fun i x hi => (hb.cell (p := ⟨b, o + i, none⟩) hlt).trans (hc i x hi)⟩⟩
theorem By.alloc {w : World} {A : Option Addr} {d : List Int} (h : By w A d) (ob : Obj) : By (w.alloc ob) A d := h.below ((Below.refl _ _).alloc (Nat.le_refl _) ob)
theorem By.drewN {w : World} {A : Option Addr} {d : List Int} (h : By w A d) (n : Nat) : By (w.drewN n) A d := h.below (below_drewN (Below.refl _ _) n)
theorem By.pos {w : World} {A : Option Addr} {d : List Int} (h : By w A d) (hd : 0 < d.length) : ∃ b o, A = some ⟨b, o, none⟩ ∧ b < w.heap.size ∧ ∀ i x, d[i]? = some x → w.cell? ⟨b, o + i, none⟩ = some (.int .u8 x) :=
  h.mem (by intro e; subst e; simp at hd)
theorem By.cell {w : World} {b o : Nat} {d : List Int} (h : By w (some ⟨b, o, none⟩) d) {i : Nat} {x : Int} (hi : d[i]? = some x) : w.cell? ⟨b, o + i, none⟩ = some (.int .u8 x) := by
  obtain ⟨b', o', e, _, hc⟩ := h.mem (by rintro rfl; simp at hi)
  simp only [Option.some.injEq, Addr.mk.injEq, and_true] at e
  obtain ⟨rfl, rfl⟩ := e
  exact hc i x hi
theorem By.drop {w : World} {b o : Nat} {d : List Int} (h : By w (some ⟨b, o, none⟩) d) (k : Nat) : By w (some ⟨b, o + k, none⟩) (d.drop k) :=
  ⟨fun x hx => h.rng x (List.mem_of_mem_drop hx), fun hne => by
    obtain ⟨b', o', e, hlt, hc⟩ := h.mem (by rintro rfl; simp at hne)
    simp only [Option.some.injEq, Addr.mk.injEq, and_true] at e
    obtain ⟨rfl, rfl⟩ := e
    refine ⟨b, o + k, rfl, hlt, fun i x hi => ?_⟩
    rw [List.getElem?_drop] at hi
    have := hc _ _ hi
    rwa [Nat.add_assoc]⟩
theorem By.take {w : World} {A : Option Addr} {d : List Int} (h : By w A d) (k : Nat) : By w A (d.take k) :=
  ⟨fun x hx => h.rng x (List.mem_of_mem_take hx), fun hne => by
    obtain ⟨b, o, e, hlt, hc⟩ := h.mem (by rintro rfl; simp at hne)
    refine ⟨b, o, e, hlt, fun i x hi => hc i x ?_⟩
    rw [List.getElem?_take] at hi
    split at hi
    · exact hi
    · cases hi⟩
theorem By.of_rd {w : World} {A : Option Addr} {d : List Int} (h : Rd w A 1 (d.map fun x => [.int .u8 x])) (hr : ∀ x ∈ d, 0 ≤ x ∧ x ≤ 255) : By w A d :=
  ⟨hr, fun hne => by
    obtain ⟨b, o, e, hlt, hc⟩ := h.mem (by simpa using hne)
    refine ⟨b, o, e, hlt, fun i x hi => ?_⟩
    have := hc i [.int .u8 x] (by simp [hi]) 0 _ rfl
    simpa using this⟩
theorem By.of_own {w : World} {base g n cap : Nat} {e : TypeId} {d : List Int} (h : w.ownsRow base e 1 (.slice (some ⟨g, 0, none⟩) n cap) n (d.map (Value.int .u8))) (hr : ∀ x ∈ d, 0 ≤ x ∧ x ≤ 255) (hg : g < w.heap.size) : By w (some ⟨g, 0, none⟩) d :=
  ⟨hr, fun hne => ⟨g, 0, rfl, hg, fun i x hi => by
    have := h.cells (g := g) rfl i (.int .u8 x) (by simp [hi])
    rw [Go.WideShapes.add_plain] at this
    exact this⟩⟩
theorem By.getD {w : World} {A : Option Addr} {d : List Int} (h : By w A d) (i : Nat) : 0 ≤ d.getD i 0 ∧ d.getD i 0 ≤ 255 := by
  rw [List.getD_eq_getElem?_getD]
  cases hd : d[i]? with
  | none => simp
  | some x => exact h.rng x (List.mem_of_getElem? hd)
theorem getD_some {d : List Int} {i : Nat} (h : i < d.length) : d[i]? = some (d.getD i 0) := by
  rw [List.getD_eq_getElem?_getD, List.getElem?_eq_getElem h]
  rfl
theorem By.at0 {w : World} {A : Option Addr} {d : List Int} (h : By w A d) (hp : 0 < d.length) : ∃ b o, A = some ⟨b, o, none⟩ ∧ w.cell? ⟨b, o, none⟩ = some (.int .u8 (d.getD 0 0)) := by
  obtain ⟨b, o, e, _, hc⟩ := h.pos hp
  exact ⟨b, o, e, by simpa using hc 0 _ (getD_some hp)⟩
theorem By.at1 {w : World} {A : Option Addr} {d : List Int} (h : By w A d) (hp : 1 < d.length) : ∃ b o, A = some ⟨b, o, none⟩ ∧ w.cell? ⟨b, o, none⟩ = some (.int .u8 (d.getD 0 0)) ∧ w.cell? ⟨b, o + 1, none⟩ = some (.int .u8 (d.getD 1 0)) := by
  obtain ⟨b, o, e, _, hc⟩ := h.pos (by omega)
  exact ⟨b, o, e, by simpa using hc 0 _ (getD_some (by omega)), hc 1 _ (getD_some hp)⟩
/-- The bytes to be appended. -/
theorem By.news {w : World} {b o : Nat} {d : List Int} (h : By w (some ⟨b, o, none⟩) d) : ∀ j u, (d.map (Value.int .u8))[j]? = some u → w.cell? ((⟨b, o, none⟩ : Addr).add j) = some u := by
  intro j u hu
  rw [List.getElem?_map] at hu
  cases hd : d[j]? with
  | none => rw [hd] at hu; cases hu
  | some x =>
    rw [hd] at hu
    cases hu
    rw [Go.WideShapes.add_plain]
    exact h.cell hd

/-- A row of the call's own: nil, or a block. -/
theorem own_cases {w : World} {base n : Nat} {e : TypeId} {size : Nat} {v : Value} {xs : List Value} (h : w.ownsRow base e size v n xs) :
    (v = .slice none 0 0 ∧ n = 0 ∧ xs = []) ∨ ∃ g cap, v = .slice (some ⟨g, 0, none⟩) n cap ∧ base ≤ g ∧ g < w.heap.size ∧ n ≤ cap ∧ cap ≤ maxLen := by
  obtain ⟨hl, (⟨rfl, rfl⟩ | ⟨g, cap, cur, rfl, h1, h2, h3, h4, _⟩)⟩ := h
  · exact .inl ⟨rfl, rfl, by simpa using hl⟩
  · exact .inr ⟨g, cap, rfl, h1, (Array.getElem?_eq_some_iff.1 h2).1, h3, h4⟩
theorem By.of_own' {w : World} {base : Nat} {e : TypeId} {v : Value} {d : List Int} (h : w.ownsRow base e 1 v d.length (d.map (Value.int .u8))) (hr : ∀ x ∈ d, 0 ≤ x ∧ x ≤ 255) :
    ∃ A c, v = .slice A d.length c ∧ d.length ≤ c ∧ c ≤ maxLen ∧ By w A d := by
  rcases own_cases h with ⟨rfl, h1, h2⟩ | ⟨g, cap, rfl, h1, h2, h3, h4⟩
  · have : d = [] := by simpa using h2
    subst this
    exact ⟨none, 0, rfl, by simp, by simp, By.nil _ _⟩
  · exact ⟨_, _, rfl, h3, h4, By.of_own h hr h2⟩

theorem By.of_own2 {w : World} {base : Nat} {e : TypeId} {v : Value} {d : List Int} (h : w.ownsRow base e 1 v d.length (d.map (Value.int .u8))) (hr : ∀ x ∈ d, 0 ≤ x ∧ x ≤ 255) :
    ∃ A c, v = .slice A d.length c ∧ d.length ≤ c ∧ c ≤ maxLen ∧ By w A d ∧ (A = none → c = 0) := by
  rcases own_cases h with ⟨rfl, h1, h2⟩ | ⟨g, cap, rfl, h1, h2, h3, h4⟩
  · have : d = [] := by simpa using h2
    subst this
    exact ⟨none, 0, rfl, by simp, by simp, By.nil _ _, fun _ => rfl⟩
  · exact ⟨_, _, rfl, h3, h4, By.of_own h hr h2, by simp⟩
/-- An option: its kind, its data. -/
abbrev Op1 := Int × List Int
/-- An option's two cells. -/
structure OpV (w : World) (cs : List Value) (o : Op1) : Prop where
  kind : 0 ≤ o.1 ∧ o.1 ≤ 255
  mem : ∃ A c, cs = [.int .u8 o.1, .slice A o.2.length c] ∧ o.2.length ≤ c ∧ c ≤ maxLen ∧ By w A o.2 ∧ (A = none → c = 0)
theorem OpV.below {w w' : World} {cs : List Value} {o : Op1} (h : OpV w cs o) (hb : Below w.heap.size w w') : OpV w' cs o :=
  ⟨h.kind, by obtain ⟨A, c, h1, h2, h3, h4, h5⟩ := h.mem; exact ⟨A, c, h1, h2, h3, h4.below hb, h5⟩⟩
theorem OpV.length {w : World} {cs : List Value} {o : Op1} (h : OpV w cs o) : cs.length = 2 := by
  obtain ⟨A, c, h1, _⟩ := h.mem
  rw [h1]; rfl

/-- Rows of cells that are options. -/
inductive OpVs (w : World) : List (List Value) → List Op1 → Prop
  | nil : OpVs w [] []
  | cons {cs : List Value} {o : Op1} {css : List (List Value)} {l : List Op1} : OpV w cs o → OpVs w css l → OpVs w (cs :: css) (o :: l)
theorem OpVs.bel {w w' : World} {css : List (List Value)} {l : List Op1} (h : OpVs w css l) (hb : Below w.heap.size w w') : OpVs w' css l := by
  induction h with
  | nil => exact .nil
  | cons h1 _ ih => exact .cons (h1.below hb) ih
theorem OpVs.length {w : World} {css : List (List Value)} {l : List Op1} (h : OpVs w css l) : css.length = l.length := by
  induction h with
  | nil => rfl
  | cons _ _ ih => simp [ih]
theorem OpVs.push {w : World} {css : List (List Value)} {l : List Op1} (h : OpVs w css l) {cs : List Value} {o : Op1} (h1 : OpV w cs o) : OpVs w (css ++ [cs]) (l ++ [o]) := by
  induction h with
  | nil => exact .cons h1 .nil
  | cons h2 _ ih => exact .cons h2 ih
theorem OpVs.each {w : World} {css : List (List Value)} {l : List Op1} (h : OpVs w css l) : ∀ cs ∈ css, cs.length = 2 := by
  induction h with
  | nil => simp
  | cons h1 _ ih =>
    intro cs hcs
    rcases List.mem_cons.1 hcs with rfl | h2
    · exact h1.length
    · exact ih cs h2
theorem OpVs.get {w : World} {css : List (List Value)} {l : List Op1} (h : OpVs w css l) : ∀ (i : Nat) (o : Op1), l[i]? = some o → ∃ cs, css[i]? = some cs ∧ OpV w cs o := by
  induction h with
  | nil => intro i o hi; simp at hi
  | cons h1 _ ih =>
    intro i o hi
    cases i with
    | zero => simp only [List.getElem?_cons_zero, Option.some.injEq] at hi; subst hi; exact ⟨_, rfl, h1⟩
    | succ i => exact ih i o (by simpa using hi)
theorem OpVs.drop {w : World} {css : List (List Value)} {l : List Op1} (h : OpVs w css l) (k : Nat) : OpVs w (css.drop k) (l.drop k) := by
  induction h generalizing k with
  | nil => simp; exact .nil
  | cons h1 h2 ih =>
    cases k with
    | zero => exact .cons h1 h2
    | succ k => exact ih k
theorem OpVs.take {w : World} {css : List (List Value)} {l : List Op1} (h : OpVs w css l) (k : Nat) : OpVs w (css.take k) (l.take k) := by
  induction h generalizing k with
  | nil => simp; exact .nil
  | cons h1 h2 ih =>
    cases k with
    | zero => exact .nil
    | succ k => exact .cons h1 (ih k)

/-- Options, as they lie. -/
structure Ops (w : World) (A : Option Addr) (l : List Op1) : Prop where
  mem : ∃ css, Rd w A 2 css ∧ OpVs w css l
theorem Ops.below {w w' : World} {A : Option Addr} {l : List Op1} (h : Ops w A l) (hb : Below w.heap.size w w') : Ops w' A l := by
  obtain ⟨css, h1, h2⟩ := h.mem
  exact ⟨css, h1.below hb, h2.bel hb⟩
theorem Ops.nil (w : World) (A : Option Addr) : Ops w A [] := ⟨[], Rd.nil _ _ _, .nil⟩
theorem Ops.pos {w : World} {A : Option Addr} {l : List Op1} (h : Ops w A l) (hl : 0 < l.length) : ∃ b o, A = some ⟨b, o, none⟩ ∧ b < w.heap.size := by
  obtain ⟨css, h1, h2⟩ := h.mem
  have := h2.length
  obtain ⟨b, o, e, hlt, _⟩ := h1.mem (by rintro rfl; simp at this; omega)
  exact ⟨b, o, e, hlt⟩
/-- The cells of one of them. -/
theorem Ops.at {w : World} {b off : Nat} {l : List Op1} (h : Ops w (some ⟨b, off, none⟩) l) {i : Nat} {o : Op1} (hi : l[i]? = some o) :
    ∃ A c, w.cell? ⟨b, off + i * 2, none⟩ = some (.int .u8 o.1) ∧ w.cell? ⟨b, off + i * 2 + 1, none⟩ = some (.slice A o.2.length c) ∧ o.2.length ≤ c ∧ c ≤ maxLen ∧ By w A o.2 ∧ 0 ≤ o.1 ∧ o.1 ≤ 255 ∧ (A = none → c = 0) := by
  obtain ⟨css, h1, h2⟩ := h.mem
  obtain ⟨cs, h3, h4⟩ := h2.get i o hi
  obtain ⟨A, c, rfl, h5, h6, h7, h8⟩ := h4.mem
  exact ⟨A, c, by simpa using h1.cell h3 (j := 0) rfl, by simpa using h1.cell h3 (j := 1) rfl, h5, h6, h7, h4.kind.1, h4.kind.2, h8⟩
theorem Ops.drop {w : World} {b off : Nat} {l : List Op1} (h : Ops w (some ⟨b, off, none⟩) l) (k : Nat) : Ops w (some ⟨b, off + k * 2, none⟩) (l.drop k) := by
  obtain ⟨css, h1, h2⟩ := h.mem
  refine ⟨css.drop k, ⟨fun cs hcs => h1.each cs (List.mem_of_mem_drop hcs), fun hne => ?_⟩, h2.drop k⟩
  obtain ⟨b', o', e, hlt, hc⟩ := h1.mem (by rintro rfl; simp at hne)
  simp only [Option.some.injEq, Addr.mk.injEq, and_true] at e
  obtain ⟨rfl, rfl⟩ := e
  refine ⟨b, off + k * 2, rfl, hlt, fun i cs hi j v hv => ?_⟩
  rw [List.getElem?_drop] at hi
  have := hc _ _ hi _ _ hv
  rw [Nat.add_mul] at this
  rw [show off + k * 2 + i * 2 + j = off + (k * 2 + i * 2) + j by omega]
  exact this
theorem Ops.take {w : World} {A : Option Addr} {l : List Op1} (h : Ops w A l) (k : Nat) : Ops w A (l.take k) := by
  obtain ⟨css, h1, h2⟩ := h.mem
  refine ⟨css.take k, ⟨fun cs hcs => h1.each cs (List.mem_of_mem_take hcs), fun hne => ?_⟩, h2.take k⟩
  obtain ⟨b, o, e, hlt, hc⟩ := h1.mem (by rintro rfl; simp at hne)
  refine ⟨b, o, e, hlt, fun i cs hi j v hv => hc i cs ?_ j v hv⟩
  rw [List.getElem?_take] at hi
  split at hi
  · exact hi
  · cases hi
/-- A row of the call's own. -/
theorem Ops.of_own {w : World} {base n : Nat} {e : TypeId} {v : Value} {css : List (List Value)} {l : List Op1} (h : w.ownsRow base e 2 v n css.flatten) (ho : OpVs w css l) (hn : n = l.length) :
    ∃ A c, v = .slice A l.length c ∧ l.length ≤ c ∧ c ≤ maxLen ∧ Ops w A l := by
  subst hn
  rcases own_cases h with ⟨rfl, h1, h2⟩ | ⟨g, cap, rfl, h1, h2, h3, h4⟩
  · have : l = [] := by simpa using h1
    subst this
    exact ⟨none, 0, rfl, by simp, by simp, Ops.nil _ _⟩
  · exact ⟨_, _, rfl, h3, h4, css, Rd.of_own h ho.each h2, ho⟩

end Go.Proofs.Ytjfnnclbfaakkaa

namespace Go.Proofs.Ytjfnnclbfaakkaa
open Go.RowKit
set_option linter.unusedVariables false
set_option linter.unusedSimpArgs false

/-- How an element that is a function value reads: by its number; none: -1. -/
def fnElem : Value → Option (DataW Unit × List MemPlace)
  | .func (.func n) x y => if x.size = 0 ∧ y.size = 0 then some (.lit (.int .i64 n), []) else none
  | .nilFunc => some (.lit (.int .i64 (-1)), [])
  | _ => none
theorem fnElem_nil : fnElem .nilFunc = some (.lit (.int .i64 (-1)), []) := rfl
theorem fnElem_mk (n : Nat) : fnElem (.func (.func n) #[] #[]) = some (.lit (.int .i64 n), []) := rfl
theorem fnElem_inv {v : Value} {n : Nat} {ps : List MemPlace} (h : fnElem v = some (.lit (.int .i64 n), ps)) (hn : 0 < n) : v = .func (.func n) #[] #[] := by
  unfold fnElem at h
  split at h
  · split at h
    · rename_i h2
      obtain ⟨h2, h3⟩ := h2
      have h4 := Array.eq_empty_of_size_eq_zero h2
      have h5 := Array.eq_empty_of_size_eq_zero h3
      subst h4 h5
      simp at h
      rw [Int.ofNat_inj.1 h.1]
    · cases h
  · simp at h
  · cases h
theorem ownsMap_below {w w' : World} {P : Program} {k : TypeId} {R : Value → Option (DataW Unit × List MemPlace)} {b n : Nat} {D : DataW Unit} (h : w.ownsMap P k R b n D) (hb : Below w.heap.size w w') : w'.ownsMap P k R b n D := by
  have hlt := h.lt
  obtain ⟨es, clock, h1, h2⟩ := h
  exact ⟨es, clock, (hb.block b hlt).trans h1, h2⟩

theorem fnElem_inv0 {v : Value} {ps : List MemPlace} (h : fnElem v = some (.lit (.int .i64 (-1)), ps)) : v = .nilFunc := by
  unfold fnElem at h
  split at h
  · split at h
    · simp at h
    · cases h
  · rfl
  · cases h

/-- The map of shapes. -/
def shapesD : DataW Unit := (((((DataW.map []).put (.int .u8 7) (.lit (.int .i64 55))).put (.int .u8 131) (.lit (.int .i64 55))).put (.int .u8 137) (.lit (.int .i64 55))).put (.int .u8 148) (.lit (.int .i64 56))).put (.int .u8 68) (.lit (.int .i64 57))

/-- A key's store in a literal of a map. -/
theorem wpList_insert_own {H : Type} {P : Program} (w : World) {ops : Array Oper} {rest : List Oper} {o : Oper} {a : Act} {Q : Exit → Act → World → Prop}
    (hg : o.guard = none) (m x v : Operand) (t : TypeId) (hop : o.op = Op.insert t m x v)
    (k e : TypeId) (K : Go.Maps.Keyed P k) (ht : P.underlying t = some (.map k e)) (R : Value → Option (DataW H × List MemPlace)) (b n : Nat) (D : DataW H)
    (hm : a.eval m = .map (some b)) (hown : w.ownsMap P k R b n D) (hn : n < maxLen) (key val : Value) (kl : Lit) (hx : a.eval x = key) (hv : a.eval v = val) (hkey : keyOf P k key = some kl)
    (d : DataW H) (ps : List MemPlace) (hval : R val = some (d, ps))
    (hK : ∀ w', w'.ownsMap P k R b (n + 1) (D.put kl d) → w.grownBy w' (some b) → wpList P ops Q rest (a.put o.dst undef) w') :
    wpList P ops Q (o :: rest) a w := by
  refine wpList_plain hg fun K' hK' => ?_
  obtain ⟨w', hrun, r1, r2⟩ := hown.update K ht hn hkey hval
  unfold Oper.wp
  simp [execOp, hop, hm, hx, hv, hrun, Result.andThen]
  exact hK' _ _ (hK w' r1 r2)

theorem lt_maxLen {n : Nat} (h : n < 100) : n < maxLen := by
  unfold maxLen
  omega
set_option maxRecDepth 100000 in
theorem shapes_any (w : World) : Calls Try.prog 36 #[] w fun e w' => ∃ b, e = .returned (.map (some b)) ∧ w'.ownsMap Try.prog 5 fnElem b 5 shapesD ∧ Below w.heap.size w w' := by
  have hmm := @run_makeMap Try.prog
  have O := World.ownsMap_made w Try.prog 5 fnElem
  obtain ⟨w0, hw0⟩ : ∃ w0, w.alloc (.map #[] 0) = w0 := ⟨_, rfl⟩
  have hB : Below w.heap.size w w0 := by rw [← hw0]; exact (Below.refl _ _).alloc (Nat.le_refl _) _
  have hz : w.heap.size < w0.heap.size := by rw [← hw0]; simp
  rw [hw0] at O
  go_enter Try.func36, Try.ntmps36
  go_wp2_with (refine wpList_insert_own _ rfl _ _ _ 76 rfl 5 23 (Maps.int_keyed Try.underlying5) Try.underlying76 fnElem w.heap.size _ _ rfl (by assumption) (lt_maxLen (by decide)) _ _ _ rfl rfl (Maps.keyOf_int_mk Try.underlying5 (WalkArith.wf_u8 (by decide))) _ _ (fnElem_mk _) ?_; intro wx hox hgx; replace hB := Below.grown hB hgx hB.size (by intro k hk; cases hk; exact Nat.le_refl _))
  go_ret
  exact ⟨_, rfl, hox, hB⟩


/-- The function value of a kind. -/
def fv (k : Int) : Value := if k = 7 ∨ k = 131 ∨ k = 137 then .func (.func 55) #[] #[] else if k = 148 then .func (.func 56) #[] #[] else if k = 68 then .func (.func 57) #[] #[] else .nilFunc
def isS (k : Int) : Bool := k == 7 || k == 131 || k == 137 || k == 148 || k == 68
def fnum (k : Int) : Int := if k = 7 ∨ k = 131 ∨ k = 137 then 55 else if k = 148 then 56 else if k = 68 then 57 else -1
theorem at_shapes (k : Int) : shapesD.atKey (.int .u8 k) (.lit (.int .i64 (-1))) = .lit (.int .i64 (fnum k)) ∧ Maps.has shapesD (.int .u8 k) = isS k := by
  by_cases h1 : k = 7
  · subst h1; exact ⟨rfl, rfl⟩
  by_cases h2 : k = 131
  · subst h2; exact ⟨rfl, rfl⟩
  by_cases h3 : k = 137
  · subst h3; exact ⟨rfl, rfl⟩
  by_cases h4 : k = 148
  · subst h4; exact ⟨rfl, rfl⟩
  by_cases h5 : k = 68
  · subst h5; exact ⟨rfl, rfl⟩
  have hD : shapesD = .map [(.int .u8 7, .lit (.int .i64 55)), (.int .u8 68, .lit (.int .i64 57)), (.int .u8 131, .lit (.int .i64 55)), (.int .u8 137, .lit (.int .i64 55)), (.int .u8 148, .lit (.int .i64 56))] := rfl
  have e : ∀ c : Int, k ≠ c → (Lit.int .u8 c).sameKey (.int .u8 k) = false := fun c hc => by
    simp [Lit.sameKey]; omega
  rw [hD]
  constructor
  · simp [DataW.atKey, e 7 h1, e 131 h2, e 137 h3, e 148 h4, e 68 h5, fnum, h1, h2, h3, h4, h5]
  · simp [Maps.has, e 7 h1, e 131 h2, e 137 h3, e 148 h4, e 68 h5, isS, h1, h2, h3, h4, h5]
theorem look_shape {w : World} {b n : Nat} (h : w.ownsMap Try.prog 5 fnElem b n shapesD) (k : Int) (h0 : 0 ≤ k) (h1 : k ≤ 255) : (Instr.lookup 76 (.map (some b)) (.int .u8 k) true).run Try.prog w = .ok (.tuple #[fv k, .bool (isS k)]) w := by
  obtain ⟨v, ps, hr, hv⟩ := h.look_ok (Maps.int_keyed Try.underlying5) Try.underlying76 (z := .nilFunc) (by kernel_rfl) fnElem_nil (Maps.keyOf_int_mk Try.underlying5 (a := k) (WalkArith.wf_u8 (by omega)))
  rw [(at_shapes k).1] at hv
  rw [(at_shapes k).2] at hr
  rw [hr]
  have : v = fv k := by
    unfold fnum at hv
    unfold fv
    split at hv
    · rename_i hh
      rw [if_pos hh]
      exact fnElem_inv (n := 55) hv (by decide)
    · rename_i hh
      rw [if_neg hh]
      split at hv
      · rename_i hh
        rw [if_pos hh]
        exact fnElem_inv (n := 56) hv (by decide)
      · rename_i hh
        rw [if_neg hh]
        split at hv
        · rename_i hh
          rw [if_pos hh]
          exact fnElem_inv (n := 57) hv (by decide)
        · rename_i hh
          rw [if_neg hh]
          exact fnElem_inv0 hv
  rw [this]

end Go.Proofs.Ytjfnnclbfaakkaa

namespace Go.Proofs.Ytjfnnclbfaakkaa
open Go.RowKit

/-- J at the normal end, Q elsewhere. -/
def Pass (Q : Exit → Act → World → Prop) (J : Act → World → Prop) : Exit → Act → World → Prop
  | .normal, a, w => J a w
  | e, a, w => Q e a w

section
variable {P : Program} {ops : Array Oper} {md : Region.Mode} {Q : Exit → Act → World → Prop}

theorem letsOut_pass {J : Act → World → Prop} (h : LetsOut (Pass Q J)) : LetsOut Q := by
  obtain ⟨a, w, h⟩ := h
  exact ⟨a, w, h⟩
theorem upon_pass {o : Oper} {a : Act} {J : Act → World → Prop} {r : Result Next} (h : o.upon P a (wpList P ops (Pass Q J) []) (Pass Q J) r) : o.upon P a J Q r := by
  cases r with
  | ok n w' =>
    cases n <;> simp only [Oper.upon] at h ⊢
    case value v => exact h
    case skip => exact h
    case defer d => exact h
    case enter f args =>
      refine Calls.mono h fun e w'' he => ?_
      cases e with
      | returned v => exact he
      | panicked c => exact he
      | outgrown => exact letsOut_pass he
    case row row args => exact Rows.mono h fun u w'' he => he
  | halt x w' => cases x <;> simp only [Oper.upon] at h ⊢ <;> exact h
theorem wpOp_of_list {i : Nat} {o : Oper} {a : Act} {w : World} {J : Act → World → Prop} (ho : ops[i]? = some o) (h : wpList P ops (Pass Q J) [o] a w) : wpOp P ops Q i J a w := by
  unfold wpOp
  simp only [ho]
  unfold wpList at h
  split
  · rename_i hw
    rw [if_pos hw] at h
    exact h.imp upon_pass fun ⟨h1, h2⟩ => ⟨h1, letsOut_pass h2⟩
  · rename_i hw
    rw [if_neg hw] at h
    exact h

/-- Every edge that binds leads back. -/
def acycB (md : Region.Mode) (ops : Array Oper) : Bool := (List.range ops.size).all fun i => ((ops[i]?).map fun o => o.after.all fun e => !Region.binds md e || decide (e.on < i)).getD true
theorem acycB_spec (h : acycB md ops = true) {i : Nat} {o : Oper} (ho : ops[i]? = some o) : ∀ e ∈ o.after, Region.binds md e = true → e.on < i := by
  intro e he hb
  have hi : i < ops.size := (Array.getElem?_eq_some_iff.1 ho).1
  have h1 := List.all_eq_true.1 h i (List.mem_range.2 hi)
  rw [ho] at h1
  simp only [Option.map_some, Option.getD_some] at h1
  have h2 := Array.all_eq_true_iff_forall_mem.1 h1 e he
  simpa [hb] using h2
/-- While one is not done, the least of these may come up. -/
theorem ready_ne (h : acycB md ops = true) {listed : Array Bool} (hs : listed.size = ops.size) : ∀ (i : Nat), i < ops.size → listed.getD i false = false → Region.ready md ops listed ≠ [] := by
  intro i
  induction i using Nat.strongRecOn with
  | _ i ih =>
    intro hi hl h0
    have ho := Array.getElem?_eq_getElem hi
    by_cases hall : ∀ e ∈ (ops[i]).after, Region.binds md e = true → listed.getD e.on false = true
    · have : i ∈ Region.ready md ops listed := mem_ready.2 ⟨getD_in (by omega) hl, _, ho, hall⟩
      rw [h0] at this
      cases this
    · simp only [Classical.not_forall] at hall
      obtain ⟨e, he, hb, hn⟩ := hall
      have hlt := acycB_spec h ho e he hb
      exact ih e.on hlt (by omega) (by simpa using hn) h0

/-- The edges that the walk leans on. -/
def preB (md : Region.Mode) (ops : Array Oper) (n : Nat) (pre : List (List Nat)) : Bool :=
  (List.range n).all fun i => (pre.getD i []).all fun j => Region.waitsFor md ops i j

def firstN (n m : Nat) : Array Bool := (List.replicate n true ++ List.replicate m false).toArray
def invB (md : Region.Mode) (ops : Array Oper) (n : Nat) (pre : List (List Nat)) : Bool :=
  decide (n < ops.size) && Region.sinkB md ops n && Region.chainB md ops n && acycB md ops && preB md ops n pre && Region.seqB md ops (ops.size - n) n (firstN n (ops.size - n))

theorem done_set {listed : Array Bool} {i : Nat} (hi : i < listed.size) : (fun j => (listed.setIfInBounds i true).getD j false = true) = fun j => listed.getD j false = true ∨ j = i := by
  funext j
  apply propext
  by_cases hij : i = j
  · subst hij
    simp [hi]
  · rw [getD_set_ne false hij]
    constructor
    · exact .inl
    · rintro (h | h)
      · exact h
      · exact absurd h.symm hij

theorem first_of {n m : Nat} {listed : Array Bool} (hs : listed.size = n + m) (h1 : ∀ j, j < n → listed.getD j false = true) (h2 : ∀ j, n ≤ j → j < n + m → listed.getD j true = false) : listed = firstN n m := by
  apply Array.ext
  · simp [firstN, hs]
  · intro j hj hj'
    simp only [firstN, List.getElem_toArray]
    rcases Nat.lt_or_ge j n with h | h
    · rw [List.getElem_append_left (by simpa using h)]
      have := h1 j h
      simpa [hj] using this
    · rw [List.getElem_append_right (by simpa using h)]
      have := h2 j h (by omega)
      simpa [hj] using this

theorem count_set {listed : Array Bool} {i : Nat} (hi : i < listed.size) (h : listed.getD i false = false) {n : Nat} (hn : i < n) :
    ((List.range n).filter fun j => !(listed.getD j false)).length = ((List.range n).filter fun j => !((listed.setIfInBounds i true).getD j false)).length + 1 := by
  induction n with
  | zero => omega
  | succ n ih =>
    rw [List.range_succ, List.filter_append, List.filter_append, List.length_append, List.length_append]
    by_cases hin : i < n
    · rw [ih hin]
      have : (listed.setIfInBounds i true).getD n false = listed.getD n false := getD_set_ne false (by omega)
      simp only [List.filter_cons, List.filter_nil, this]
      omega
    · have hin' : i = n := by omega
      subst hin'
      have e : ((List.range i).filter fun j => !(listed.getD j false)) = (List.range i).filter fun j => !((listed.setIfInBounds i true).getD j false) := by
        apply List.filter_congr
        intro j hj
        have := List.mem_range.1 hj
        rw [getD_set_ne false (by omega)]
      rw [e]
      have h3 : (listed.setIfInBounds i true).getD i false = true := by simp [hi]
      simp only [List.filter_cons, List.filter_nil, h, h3]
      simp

variable {l : List Oper}

theorem wpAny_of_inv {n : Nat} {pre : List (List Nat)} {I : (Nat → Prop) → Act → World → Prop} (hB : invB md l.toArray n pre = true)
    (step : ∀ (i : Nat) (o : Oper) (D : Nat → Prop) (a : Act) (w : World), l[i]? = some o → i < n → ¬ D i → (∀ j ∈ pre.getD i [], D j) → I D a w → wpList P l.toArray (Pass Q (I fun j => D j ∨ j = i)) [o] a w)
    (fin : ∀ (D : Nat → Prop) (a : Act) (w : World), (∀ j, j < n → D j) → I D a w → wpList P l.toArray Q (l.drop n) a w) :
    ∀ (f : Nat) (listed : Array Bool) (a : Act) (w : World), HeadInv md l.toArray n listed → ((List.range n).filter fun j => !(listed.getD j false)).length = f → I (fun j => listed.getD j false = true) a w →
      wpAny P md l.toArray Q (f + (l.length - n)) listed a w := by
  simp only [invB, Bool.and_eq_true, decide_eq_true_eq] at hB
  obtain ⟨⟨⟨⟨⟨hn, hs⟩, hc⟩, hac⟩, hpre⟩, hseq⟩ := hB
  have hsz : l.toArray.size = l.length := by simp
  intro f
  induction f with
  | zero =>
    intro listed a w inv hf hI
    have hall : ∀ j, j < n → listed.getD j false = true := by
      intro j hj
      have := List.filter_eq_nil_iff.1 (List.eq_nil_of_length_eq_zero hf) j (List.mem_range.2 hj)
      simpa using this
    have he : listed = firstN n (l.length - n) := first_of (by rw [inv.size]; simp at hn ⊢; omega) hall fun j h1 h2 => inv.tail j h1 (by simp at hn ⊢; omega)
    have hfin := fin _ a w hall hI
    have hdl : (l.drop n).length = l.length - n := by simp
    have := wpAny_of_seq (md := md) (Q' := Q) (l.drop n) n listed a w (fun j => by simp [List.getElem?_drop]) (by rw [hdl, he]; rw [hsz] at hseq; exact hseq) hfin
    rw [hdl] at this
    rw [Nat.zero_add]
    exact this
  | succ f ih =>
    intro listed a w inv hf hI
    have hex : ∃ i, i < n ∧ listed.getD i false = false := by
      have hne : ((List.range n).filter fun j => !(listed.getD j false)) ≠ [] := fun h => by rw [h] at hf; cases hf
      obtain ⟨i, hi⟩ := List.exists_mem_of_ne_nil _ hne
      rw [List.mem_filter, List.mem_range] at hi
      exact ⟨i, hi.1, by simpa using hi.2⟩
    obtain ⟨i0, hi0, hl0⟩ := hex
    rw [show f + 1 + (l.length - n) = (f + (l.length - n)) + 1 by omega]
    refine ⟨fun h0 => absurd h0 (ready_ne hac inv.size i0 (by omega) hl0), fun i hi => ?_⟩
    have hin : i < n := by
      rcases Nat.lt_or_ge i n with h | h
      · exact h
      · exact absurd hi (tail_waits hs hc hn inv _ i0 rfl hi0 (getD_in (by rw [inv.size]; omega) hl0) i h)
    obtain ⟨hun, o, ho, hall⟩ := mem_ready.1 hi
    have hun' := getD_both hun
    have hD : ∀ j ∈ pre.getD i [], listed.getD j false = true := by
      intro j hj
      have h1 := List.all_eq_true.1 (List.all_eq_true.1 hpre i (List.mem_range.2 hin)) j hj
      obtain ⟨o', ho', e, he, hb, hon⟩ := Region.waitsFor_spec h1
      have : o' = o := Option.some.inj (ho'.symm.trans ho)
      subst this
      rw [← hon]
      exact hall e he hb
    have hst := step i o (fun j => listed.getD j false = true) a w (by simpa using ho) hin (by simp only [hun']; exact Bool.false_ne_true) hD hI
    refine wpOp_mono (fun a' w' hI' => ?_) (wpOp_of_list ho hst)
    have hisz : i < listed.size := by rw [inv.size]; omega
    rw [← done_set hisz] at hI'
    refine ih _ a' w' (inv.set hi hin) ?_ hI'
    have := count_set hisz hun' hin
    omega

theorem drew_eq (w : World) : { w with drawn := w.drawn + 1 } = w.drew := rfl

/-- A region that draws its order: one walk an operation, under the condition I, then the tail as a plain list. -/
theorem wp_region_inv {id : Nat} {a : Act} {w : World} (n : Nat) (pre : List (List Nat)) (I : (Nat → Prop) → Act → World → Prop) (hm : P.follows .mixedOrders = true) (hB : invB .any l.toArray n pre = true)
    (h0 : I (fun _ => False) a w.drew)
    (step : ∀ (i : Nat) (o : Oper) (D : Nat → Prop) (a : Act) (w : World), l[i]? = some o → i < n → ¬ D i → (∀ j ∈ pre.getD i [], D j) → I D a w → wpList P l.toArray (Pass Q (I fun j => D j ∨ j = i)) [o] a w)
    (fin : ∀ (D : Nat → Prop) (a : Act) (w : World), (∀ j, j < n → D j) → I D a w → wpList P l.toArray Q (l.drop n) a w) :
    (Code.region id l.toArray true).wp P Q a w := by
  refine wp_region_any hm ?_
  have hn : n < l.length := by
    simp only [invB, Bool.and_eq_true, decide_eq_true_eq] at hB
    simpa using hB.1.1.1.1.1
  have inv0 : HeadInv .any l.toArray n (Array.replicate l.toArray.size false) :=
    ⟨by simp, fun j oj _ hl => (by rw [getD_replicate_false] at hl; cases hl), fun t _ ht => getD_in (by simpa using ht) (getD_replicate_false _ _)⟩
  have e0 : (fun j => (Array.replicate l.toArray.size false).getD j false = true) = fun _ => False := by
    funext j
    rw [getD_replicate_false]
    simp
  have hcount : ((List.range n).filter fun j => !((Array.replicate l.toArray.size false).getD j false)).length = n := by
    rw [List.filter_eq_self.2]
    · simp
    · intro j _
      rw [getD_replicate_false]
      rfl
  have := wpAny_of_inv (md := .any) hB step fin n _ a w.drew inv0 hcount (by rw [e0]; exact h0)
  rw [show n + (l.length - n) = l.toArray.size by simp; omega] at this
  exact this

/-- All of a list are done. -/
def AllD (D : Nat → Prop) : List Nat → Prop
  | [] => True
  | j :: r => D j ∧ AllD D r
theorem allD_of {D : Nat → Prop} : ∀ (l : List Nat), (∀ j ∈ l, D j) → AllD D l
  | [], _ => trivial
  | j :: r, h => ⟨h j (by simp), allD_of r fun k hk => h k (by simp [hk])⟩
/-- Each operation of the head keeps the condition. -/
def Steps (P : Program) (ops : Array Oper) (Q : Exit → Act → World → Prop) (I : (Nat → Prop) → Act → World → Prop) (pre : List (List Nat)) : Nat → List Oper → Prop
  | _, [] => True
  | i, o :: r => (∀ (D : Nat → Prop) (a : Act) (w : World), ¬ D i → AllD D (pre.getD i []) → I D a w → wpList P ops (Pass Q (I fun j => D j ∨ j = i)) [o] a w) ∧ Steps P ops Q I pre (i + 1) r
theorem steps_at {I : (Nat → Prop) → Act → World → Prop} {pre : List (List Nat)} : ∀ (l : List Oper) (k : Nat), Steps P ops Q I pre k l → ∀ (i : Nat) (o : Oper), l[i]? = some o →
    ∀ (D : Nat → Prop) (a : Act) (w : World), ¬ D (k + i) → AllD D (pre.getD (k + i) []) → I D a w → wpList P ops (Pass Q (I fun j => D j ∨ j = k + i)) [o] a w
  | [], _, _, i, o, h => by simp at h
  | o :: r, k, hs, 0, o', h => by
    obtain rfl : o = o' := by simpa using h
    exact hs.1
  | o :: r, k, hs, i + 1, o', h => by
    have := steps_at r (k + 1) hs.2 i o' (by simpa using h)
    rwa [show k + 1 + i = k + (i + 1) by omega] at this
theorem or_keep {D : Nat → Prop} {k i : Nat} {p : Prop} (h : D k → p) (hk : k ≠ i) : D k ∨ k = i → p := fun h' => h (h'.resolve_right hk)
theorem or_keep2 {D : Nat → Prop} {k k' i : Nat} {p : Prop} (h : D k → D k' → p) (hk : k ≠ i) (hk' : k' ≠ i) : D k ∨ k = i → D k' ∨ k' = i → p := fun h1 h2 => h (h1.resolve_right hk) (h2.resolve_right hk')
/-- The same, its steps one by one. -/
theorem wp_region_steps {id : Nat} {a : Act} {w : World} (n : Nat) (pre : List (List Nat)) (I : (Nat → Prop) → Act → World → Prop) (hm : P.follows .mixedOrders = true) (hB : invB .any l.toArray n pre = true)
    (h0 : I (fun _ => False) a w.drew) (step : Steps P l.toArray Q I pre 0 (l.take n))
    (fin : ∀ (D : Nat → Prop) (a : Act) (w : World), (∀ j, j < n → D j) → I D a w → wpList P l.toArray Q (l.drop n) a w) :
    (Code.region id l.toArray true).wp P Q a w :=
  wp_region_inv n pre I hm hB h0 (fun i o D a w ho hi hn hp hI => by
    have := steps_at _ 0 step i o (by rw [List.getElem?_take]; simp [hi, ho]) D a w
    rw [Nat.zero_add] at this
    exact this hn (allD_of _ hp) hI) fin
/-- A variable that the region has made. -/
def Made (B n : Nat) (v : Value) (w : World) : Prop := ∃ b, v = .pointer (some ⟨b, 0, none⟩) ∧ B ≤ b ∧ w.there b 0 n
theorem there_lt {w : World} {b n : Nat} (h : w.there b 0 (n + 1)) : b < w.heap.size := by
  obtain ⟨v, hv⟩ := Option.isSome_iff_exists.1 (h 0 (by omega)).1
  rw [Nat.zero_add] at hv
  rcases Nat.lt_or_ge b w.heap.size with hlt | hge
  · exact hlt
  · unfold World.cell? at hv
    rw [Array.getElem?_eq_none hge] at hv
    cases hv
theorem rangeAt_below {w w' : World} {b o : Nat} {cs : List Value} (hb : Below w.heap.size w w') (hlt : b < w.heap.size) (h : w.rangeAt b o cs) : w'.rangeAt b o cs := fun j v hv => (hb.cell (p := ⟨b, o + j, none⟩) hlt).trans (h j v hv)
theorem Made.below {B n : Nat} {v : Value} {w w' : World} (h : Made B (n + 1) v w) (hb : Below w.heap.size w w') : Made B (n + 1) v w' := by
  obtain ⟨b, rfl, hle, ht⟩ := h
  have hlt := there_lt ht
  refine ⟨b, rfl, hle, fun j hj => ?_⟩
  rw [hb.cell (p := ⟨b, 0 + j, none⟩) hlt, hb.frozen (p := ⟨b, 0 + j, none⟩) hlt]
  exact ht j hj
theorem Made.ne {B n : Nat} {v : Value} {w : World} (h : Made B (n + 1) v w) : v ≠ .pointer (some ⟨w.heap.size, 0, none⟩) := by
  obtain ⟨b, rfl, hle, ht⟩ := h
  have hlt := there_lt ht
  intro e
  have : b = w.heap.size := by injection e with e; injection e with e; injection e
  omega
end
end Go.Proofs.Ytjfnnclbfaakkaa

namespace Go.Proofs.Ytjfnnclbfaakkaa
open Go.RowKit

/-- A whole struct is read out of the block where it lies: at a guarded operation too. -/
theorem wpList_load_wide {P : Program} {ops : Array Oper} {rest : List Oper} {op : Oper} {a : Act} {w : World} {Q : Exit → Act → World → Prop} (ty : TypeId) (x : Operand) (ho : op.op = .load ty x) (hw : Region.wanted op (yielded ops a.tmps) = true)
    (b o : Nat) (hx : a.eval x = .pointer (some ⟨b, o, none⟩)) (F : Array Value) (d : TypeDesc) (hu : P.underlying ty = some d) (hd : d.isRow = true) (hi : (P.info? ty).map (·.size) = some F.toList.length) (hc : w.rangeAt b o F.toList)
    (h : wpList P ops Q rest (a.put op.dst (.agg F)) w) : wpList P ops Q (op :: rest) a w :=
  wpList_step fun K hK => by
    rw [if_pos hw]
    refine wp_load_mid ty x ho b o hx F.toList d hc hu hd hi ?_
    simpa using hK _ _ h
theorem range_new (w : World) (F : Array Value) (t : TypeId) : (w.alloc (.cells F t)).rangeAt w.heap.size 0 F.toList := fun j v hv => by
  rw [Nat.zero_add, cell_of_row _ _ j F t (0, 0) (heap_alloc_last w _)]
  simpa using hv
theorem range_new' (w : World) (F : Array Value) (t : TypeId) (n : Nat) (h : w.heap.size = n) : (w.alloc (.cells F t)).rangeAt n 0 F.toList := h ▸ range_new w F t
theorem range_below {w w' : World} {b o : Nat} {cs : List Value} (hb : Below w.heap.size w w') (hlt : b < w.heap.size) (h : w.rangeAt b o cs) : w'.rangeAt b o cs := fun j v hv =>
  (hb.cell (p := ⟨b, o + j, none⟩) hlt).trans (h j v hv)
theorem there_new (w : World) (F : Array Value) (t : TypeId) (n m : Nat) (h : w.heap.size = n) (hm : F.size = m) : (w.alloc (.cells F t)).there n 0 m := fun j hj => by
  subst h hm
  have hc := cell_of_row (w.alloc (.cells F t)) w.heap.size j F t (0, 0) (heap_alloc_last w _)
  rw [Nat.zero_add]
  refine ⟨by rw [hc, Array.getElem?_eq_getElem hj]; rfl, ?_⟩
  simp only [World.frozen?, heap_alloc_last]
  simp
theorem size_setC (w : World) (a : Addr) (v : Value) : (w.setCell a v).heap.size = w.heap.size := by simp [World.setCell]
theorem below_setCells {B b : Nat} (hle : B ≤ b) : ∀ (vs : List Value) (o : Nat) (a w : World), Below B a w → Below B a (w.setCells b o vs) ∧ (w.setCells b o vs).heap.size = w.heap.size
  | [], _, _, _, h => ⟨h, rfl⟩
  | v :: r, o, a, w, h => by
    rw [World.setCells]
    obtain ⟨h1, h2⟩ := below_setCells hle r (o + 1) a _ (h.setCell (p := ⟨b, o, none⟩) hle v)
    exact ⟨h1, h2.trans (size_setC _ _ _)⟩
/-- A whole struct is written into the block where it lies: behind it the world is a letter. -/
theorem wpList_store_wide {P : Program} {ops : Array Oper} {rest : List Oper} {op : Oper} {a : Act} {w : World} {Q : Exit → Act → World → Prop} (ty : TypeId) (x y : Operand) (ho : op.op = .store ty x y) (hgd : op.guard = none)
    (b o : Nat) (F : Array Value) (hx : a.eval x = .pointer (some ⟨b, o, none⟩)) (hy : a.eval y = .agg F) (B : Nat) (w0 : World) (hi : (P.info? ty).map (·.size) = some F.size) (h1 : F.all (·.oneCell') = true)
    (hB : Below B w0 w) (hle : B ≤ b) (ht : w.there b o F.size)
    (h : ∀ w', Below B w0 w' → w'.heap.size = w.heap.size → w'.rangeAt b o F.toList → (∀ b' o' cs, b' ≠ b → w.rangeAt b' o' cs → w'.rangeAt b' o' cs) → (∀ b' o' n, w.there b' o' n → w'.there b' o' n) → (∀ b' o', b' ≠ b → w'.cell? ⟨b', o', none⟩ = w.cell? ⟨b', o', none⟩) →
      wpList P ops Q rest (a.put op.dst undef) w') : wpList P ops Q (op :: rest) a w := by
  refine wpList_store_mid hgd ty x y ho b o F hx hy ht hi h1 ?_
  obtain ⟨g1, g2⟩ := below_setCells hle F.toList o w0 w hB
  exact h _ g1 g2 (World.rangeAt_setCells_same w b o F.toList (by simpa using ht)) (fun b' o' cs hne hr => World.rangeAt_setCells_apart hr b o F.toList (.inl hne)) (fun b' o' n ht' => World.there_setCells ht' b o F.toList)
    (fun b' o' hne => World.cell?_setCells_out b F.toList o w ⟨b', o', none⟩ (fun hb _ => absurd hb hne))
theorem bcell {W w1 : World} (hb : Below W.heap.size W w1) : (∀ b o, b < W.heap.size → w1.cell? ⟨b, o, none⟩ = W.cell? ⟨b, o, none⟩) ∧ (∀ b o, b < W.heap.size → w1.frozen? ⟨b, o, none⟩ = W.frozen? ⟨b, o, none⟩) :=
  ⟨fun b o h => hb.cell (p := ⟨b, o, none⟩) h, fun b o h => hb.frozen (p := ⟨b, o, none⟩) h⟩
/-- .. in a region whose reads come ahead of its tail. -/
theorem wpStill_load_wide {P : Program} {ops : Array Oper} {rest : List Oper} {op : Oper} {a : Act} {w : World} {Q : Act → Prop} (ty : TypeId) (x : Operand) (ho : op.op = .load ty x) (hw : Region.wanted op (yielded ops a.tmps) = true)
    (b o : Nat) (hx : a.eval x = .pointer (some ⟨b, o, none⟩)) (F : Array Value) (d : TypeDesc) (hu : P.underlying ty = some d) (hd : d.isRow = true) (hi : (P.info? ty).map (·.size) = some F.toList.length) (hc : w.rangeAt b o F.toList)
    (h : wpStill P ops w Q rest (a.put op.dst (.agg F))) : wpStill P ops w Q (op :: rest) a :=
  wpStill_step fun K hK => by
    rw [if_pos hw]
    unfold Oper.still execOp
    simp only [ho, hx, Instr.loadAt, Instr.sureAddr, Sem.run_bind, Sem.run_pure, Result.andThen_ok, run_loadVar_mid w b o ty F.toList d hc hu hd hi]
    exact ⟨rfl, hK _ (by simpa using h)⟩
/-- A result that lies in one block. -/
theorem results_wide {P : Program} {fn : Func} {p : Tmp} {ty : TypeId} {a : Addr} {v : Value} {w : World} (h : fn.results = #[.cell p ty]) (tmps : Array Value) (hp : tmps.getD p undef = .pointer (some a)) (hl : (loadVar ty a).run P w = .ok v w) : (results fn tmps).run P w = .ok v w := by
  rw [Array.getD_eq_getD_getElem?] at hp
  simp only [results, h]
  simp [hp, asAddr, hl]
theorem kc {W w' : World} (hb : Below W.heap.size W w') {a : Addr} {v : Value} (h : W.cell? a = some v) : w'.cell? a = some v := (hb.cell (cell_lt h)).trans h
theorem kf {W w' : World} (hb : Below W.heap.size W w') {a : Addr} {v : Value} (h : W.cell? a = some v) (hf : W.frozen? a = false) : w'.frozen? a = false := (hb.frozen (cell_lt h)).trans hf
theorem there_sub {W : World} {b n : Nat} (h : W.there b 0 (n + 1)) : W.there b 1 n := fun j hj => by
  have := h (j + 1) (by omega)
  rwa [show 0 + (j + 1) = 1 + j by omega] at this
theorem there_below {w w' : World} {b o n : Nat} (hb : Below w.heap.size w w') (hlt : b < w.heap.size) (h : w.there b o n) : w'.there b o n := fun j hj => by
  rw [hb.cell (p := ⟨b, o + j, none⟩) hlt, hb.frozen (p := ⟨b, o + j, none⟩) hlt]
  exact h j hj
end Go.Proofs.Ytjfnnclbfaakkaa

namespace Go.Proofs.Ytjfnnclbfaakkaa
open Go.RowKit
set_option linter.unusedVariables false
set_option linter.unusedSimpArgs false

/-- Has an option of a kind with a shape it? -/
def shp (o : Op1) : Bool := if o.1 = 7 ∨ o.1 = 131 ∨ o.1 = 137 then adr o.2.length (o.2.getD 0 0) else if o.1 = 148 then o.2.length == 2 else if o.1 = 68 then stm o.2.length (o.2.getD 0 0) (o.2.getD 1 0) else true
/-- Is an option right? -/
def rightS (o : Op1) : Bool := if o.1 = 0 ∨ o.1 = 1 then o.1 == 1 && o.2.length == 0 else shp o && decide (o.2.length ≤ 38)

/-- What the done operations of a region have left: operation i the value val i, in g i; operation ia what P tells. -/
structure Ip (w1 : World) (val : Nat → Value) (ia : Nat) (P : Value → World → Prop) (D : Nat → Prop) (g : Nat → Value) (w' : World) : Prop where
  b : Below w1.heap.size w1 w'
  e : ∀ i, i ≠ ia → D i → g i = val i
  m : D ia → P (g ia) w'
theorem Ip.upd {w1 w' w'' : World} {val g : Nat → Value} {ia : Nat} {P : Value → World → Prop} {D : Nat → Prop} (hP : ∀ v X Y, P v X → Below X.heap.size X Y → P v Y) (h : Ip w1 val ia P D g w') (i : Nat) (x : Value) (hb : Below w'.heap.size w' w'') (hv : i ≠ ia → x = val i) (hm : i = ia → P x w'') : Ip w1 val ia P (fun j => D j ∨ j = i) (fun j => if j = i then x else g j) w'' := by
  refine ⟨bthen h.b hb, fun j hn hj => ?_, fun hj => ?_⟩
  · show (if j = i then x else g j) = val j
    by_cases hji : j = i
    · rw [if_pos hji, hv (hji ▸ hn), hji]
    · rw [if_neg hji]
      exact h.e j hn (hj.resolve_right hji)
  · by_cases hji : ia = i
    · rw [if_pos hji]
      exact hm hji.symm
    · rw [if_neg hji]
      exact hP _ _ _ (h.m (hj.resolve_right hji)) hb
theorem Ip.zero (w1 : World) (val g : Nat → Value) (ia : Nat) (P : Value → World → Prop) : Ip w1 val ia P (fun _ => False) g w1.drew := ⟨(Below.refl _ _).drew, fun _ _ h => h.elim, fun h => h.elim⟩

/-- The map of shapes lies in a block. -/
def IsMap (v : Value) (w : World) : Prop := ∃ b, v = .map (some b) ∧ w.ownsMap Try.prog 5 fnElem b 5 shapesD
theorem IsMap.below (v : Value) (X Y : World) (h : IsMap v X) (hb : Below X.heap.size X Y) : IsMap v Y := by
  obtain ⟨b, h1, h2⟩ := h
  exact ⟨b, h1, ownsMap_below h2 hb⟩

set_option maxHeartbeats 2000000 in
theorem right_any (k : Int) (d : List Int) (A : Option Addr) (c : Nat) (w : World) (hk : 0 ≤ k ∧ k ≤ 255) (hd : By w A d) (hn : d.length < 2 ^ 62) :
    Calls Try.prog 19 #[.agg #[.int .u8 k, .slice A d.length c]] w fun e w' => e = .returned (.bool (rightS (k, d))) ∧ Below w.heap.size w w' := by
  by_cases h0 : k = 0
  · subst h0
    have e : rightS (0, d) = false := by simp [rightS]
    rw [e]
    go_enter Try.func19, Try.ntmps19
    go_wp2_with fail
    go_ret
    exact ⟨rfl, (Below.refl _ _).alloc (Nat.le_refl _) _⟩
  by_cases h1 : k = 1
  · subst h1
    have e : rightS (1, d) = ((d.length : Int) == 0) := by
      simp [rightS]
      rw [Bool.eq_iff_iff]
      simp
    rw [e]
    go_enter Try.func19, Try.ntmps19
    go_wp2_with fail
    go_ret
    exact ⟨rfl, (Below.refl _ _).alloc (Nat.le_refl _) _⟩
  have b0 : (k == 0) = false := by simpa using h0
  have b1 : (k == 1) = false := by simpa using h1
  have hq : rightS (k, d) = (shp (k, d) && decide (d.length ≤ 38)) := by simp [rightS, h0, h1]
  have hdl : decide ((d.length : Int) ≤ 38) = decide (d.length ≤ 38) := decide_eq_decide.2 (by omega)
  obtain ⟨r, hr⟩ : ∃ r, rightS (k, d) = r := ⟨_, rfl⟩
  rw [hr]
  replace hr := Lib.hid (hq.symm.trans hr)
  go_enter Try.func19, Try.ntmps19
  go_upto_region 3 with fail
  obtain ⟨w1, hw1⟩ : ∃ w1, w.alloc (Obj.cells #[Value.int IntKind.u8 k, Value.slice A d.length c] 36) = w1 := ⟨_, rfl⟩
  have hB1 : Below w.heap.size w w1 := by rw [← hw1]; exact (Below.refl _ _).alloc (Nat.le_refl _) _
  have hz1 : w.heap.size < w1.heap.size := by rw [← hw1]; simp
  have c0 : w1.cell? ⟨w.heap.size, 0, none⟩ = some (.int .u8 k) := by rw [← hw1]; simp [go_sem]
  have c1 : w1.cell? ⟨w.heap.size, 1, none⟩ = some (.slice A d.length c) := by rw [← hw1]; simp [go_sem]
  rw [hw1]
  clear hw1
  go_cut [3, 4] (fun v3 v4 wx => v3 = fv k ∧ v4 = .bool (isS k) ∧ Below w1.heap.size w1 wx)
  case first =>
    refine wp_region_steps 8 [[], [], [1], [0, 2], [3], [4], [4], [5]] (fun D a w' => ∃ g : Nat → Value, a = ⟨#[.agg #[.int .u8 k, .slice A d.length c], .pointer (some ⟨w.heap.size, 0, none⟩), .bool false, g 7, undef, .pointer (some ⟨w.heap.size, 0, none⟩), .int .u8 k, .bool false, .bool false, .pointer (some ⟨w.heap.size, 0, none⟩), .int .u8 k, .bool false, .bool false, undef, undef, undef, undef, undef, undef, undef, undef, undef, g 4, g 0, g 1, g 2, g 3, g 5, g 6, undef, undef, undef, undef, undef, undef, undef, undef, undef, undef, undef, undef], []⟩ ∧ Ip w1 (fun i => ([undef, .pointer (some ⟨w.heap.size, 0, none⟩), .int .u8 k, .tuple #[fv k, .bool (isS k)], .tuple #[fv k, .bool (isS k)], fv k, .bool (isS k), fv k] : List Value).getD i undef) 0 IsMap D g w') (by kernel_rfl) (by kernel_rfl) ⟨fun _ => undef, rfl, Ip.zero w1 _ _ _ _⟩ ?_ ?_
    · simp only [List.take_succ_cons, List.take_zero]
      refine ⟨?_, ?_, ?_, ?_, ?_, ?_, ?_, ?_, trivial⟩
      · intro D a w' hn hp hI
        obtain ⟨g, rfl, hR⟩ := hI
        clear hn hp
        go_wp2_with fail
        refine (shapes_any _).mono ?_
        rintro e w'' ⟨bm, rfl, hm, hb9⟩
        go_wp2_with fail
        exact ⟨fun ix => if ix = 0 then .map (some bm) else g ix, by rfl, hR.upd IsMap.below 0 _ hb9 (fun h => absurd rfl h) (fun _ => ⟨bm, rfl, hm⟩)⟩
      · intro D a w' hn hp hI
        obtain ⟨g, rfl, hR⟩ := hI
        clear hn hp
        go_wp2_with fail
        exact ⟨fun ix => if ix = 1 then .pointer (some ⟨w.heap.size, 0, none⟩) else g ix, by rfl, hR.upd IsMap.below 1 _ (Below.refl _ _) (fun _ => rfl) (fun h => absurd h (by decide))⟩
      · intro D a w' hn hp hI
        obtain ⟨g, rfl, hR⟩ := hI
        have e1 : g 1 = .pointer (some ⟨w.heap.size, 0, none⟩) := hR.e 1 (by decide) hp.1
        rw [e1]
        have cc := kc hR.b c0
        clear hn hp
        go_wp2_with fail
        exact ⟨fun ix => if ix = 2 then .int .u8 k else g ix, by simp [e1], hR.upd IsMap.below 2 _ (Below.refl _ _) (fun _ => rfl) (fun h => absurd h (by decide))⟩
      · intro D a w' hn hp hI
        obtain ⟨g, rfl, hR⟩ := hI
        obtain ⟨bm, em, hm⟩ := hR.m hp.1
        have hl := look_shape hm k hk.1 hk.2
        rw [em]
        clear hm
        have e2 : g 2 = .int .u8 k := hR.e 2 (by decide) hp.2.1
        rw [e2]
        clear hn hp
        go_wp2_with fail
        exact ⟨fun ix => if ix = 3 then .tuple #[fv k, .bool (isS k)] else g ix, by simp [em, e2], hR.upd IsMap.below 3 _ (Below.refl _ _) (fun _ => rfl) (fun h => absurd h (by decide))⟩
      · intro D a w' hn hp hI
        obtain ⟨g, rfl, hR⟩ := hI
        have e3 : g 3 = .tuple #[fv k, .bool (isS k)] := hR.e 3 (by decide) hp.1
        rw [e3]
        clear hn hp
        go_wp2_with fail
        exact ⟨fun ix => if ix = 4 then .tuple #[fv k, .bool (isS k)] else g ix, by simp [e3], hR.upd IsMap.below 4 _ (Below.refl _ _) (fun _ => rfl) (fun h => absurd h (by decide))⟩
      · intro D a w' hn hp hI
        obtain ⟨g, rfl, hR⟩ := hI
        have e4 : g 4 = .tuple #[fv k, .bool (isS k)] := hR.e 4 (by decide) hp.1
        rw [e4]
        clear hn hp
        go_wp2_with fail
        exact ⟨fun ix => if ix = 5 then fv k else g ix, by simp [e4], hR.upd IsMap.below 5 _ (Below.refl _ _) (fun _ => rfl) (fun h => absurd h (by decide))⟩
      · intro D a w' hn hp hI
        obtain ⟨g, rfl, hR⟩ := hI
        have e4 : g 4 = .tuple #[fv k, .bool (isS k)] := hR.e 4 (by decide) hp.1
        rw [e4]
        clear hn hp
        go_wp2_with fail
        exact ⟨fun ix => if ix = 6 then .bool (isS k) else g ix, by simp [e4], hR.upd IsMap.below 6 _ (Below.refl _ _) (fun _ => rfl) (fun h => absurd h (by decide))⟩
      · intro D a w' hn hp hI
        obtain ⟨g, rfl, hR⟩ := hI
        have e5 : g 5 = fv k := hR.e 5 (by decide) hp.1
        rw [e5]
        clear hn hp
        go_wp2_with fail
        exact ⟨fun ix => if ix = 7 then fv k else g ix, by simp [e5], hR.upd IsMap.below 7 _ (Below.refl _ _) (fun _ => rfl) (fun h => absurd h (by decide))⟩
    intro D a' w' hD hI
    obtain ⟨g3, rfl, hR⟩ := hI
    have e6 : g3 6 = .bool (isS k) := hR.e 6 (by decide) (hD 6 (by decide))
    have e7 : g3 7 = fv k := hR.e 7 (by decide) (hD 7 (by decide))
    have hB2 := hR.b
    rw [e6, e7]
    simp only [List.drop_succ_cons, List.drop_zero]
    clear hD hR e6 e7
    go_wp2_with fail
    go_meet
    exact ⟨rfl, rfl, hB2⟩
  obtain ⟨rfl, rfl, hB2⟩ := hcut
  obtain ⟨X1, hX1⟩ : ∃ X, X = wc := ⟨_, rfl⟩
  subst hX1
  have d0 := kc hB2 c0
  have d1 := kc hB2 c1
  have hd1 := hd.below (bthen hB1 hB2)
  have hB := bthen hB1 hB2
  clear hB1 hB2 c0 c1 hd hq h0 h1 b0 b1
  have hzz : w.heap.size < X1.heap.size := cell_lt d0
  by_cases k1 : k = 7 ∨ k = 131 ∨ k = 137
  · have ef : fv k = .func (.func 55) #[] #[] := by simp [fv, k1]
    have es : isS k = true := by
      rcases k1 with rfl | rfl | rfl <;> rfl
    have eq : shp (k, d) = (adr d.length (d.getD 0 0)) := by simp [shp, k1]
    have hx : 0 ≤ d.getD 0 0 ∧ d.getD 0 0 ≤ 255 := By.getD hd1 0
    have hy : 0 ≤ d.getD 1 0 ∧ d.getD 1 0 ≤ 255 := By.getD hd1 1
    have hc : ∀ V, Below X1.heap.size X1 V → Calls Try.prog 55 #[.slice A d.length c] V fun e w' => e = .returned (.bool (adr d.length (d.getD 0 0))) ∧ Below V.heap.size V w' := fun V hV => (addr_any A d.length c (d.getD 0 0) V hn hx (fun hp => (hd1.below hV).at0 hp)).mono (fun e V' h => ⟨h.1, by rw [h.2]; exact Below.refl _ _⟩)
    replace hr := hr.out
    rw [eq] at hr
    rw [ef, es]
    clear ef es eq k1
    obtain ⟨q, hqq⟩ : ∃ q, (adr d.length (d.getD 0 0)) = q := ⟨_, rfl⟩
    rw [hqq] at hc hr
    replace hc := Lib.hid hc
    clear hqq
    cases q
    · have hr : false = r := by simpa using hr
      subst hr
      go_wp2_with fail
      refine (hc.out _ (Below.refl _ _)).mono ?_
      rintro e w' ⟨rfl, hb9⟩
      go_wp2_with fail
      go_ret
      exact ⟨rfl, bthen hB hb9⟩
    · have hr : decide (d.length ≤ 38) = r := by simpa using hr
      subst hr
      go_wp2_with fail
      refine (hc.out _ (Below.refl _ _)).mono ?_
      rintro e w' ⟨rfl, hb9⟩
      have d2 := kc hb9 d1
      have d3 := kc hb9 d0
      clear d1 d0
      go_wp2_with fail
      go_ret
      exact ⟨rfl, bthen hB hb9⟩
  by_cases k2 : k = 148
  · have ef : fv k = .func (.func 56) #[] #[] := by rw [k2]; simp [fv]
    have es : isS k = true := by
      rw [k2]; rfl
    have eq : shp (k, d) = (d.length == 2) := by rw [k2]; simp [shp]
    have hx : 0 ≤ d.getD 0 0 ∧ d.getD 0 0 ≤ 255 := By.getD hd1 0
    have hy : 0 ≤ d.getD 1 0 ∧ d.getD 1 0 ≤ 255 := By.getD hd1 1
    have hc : ∀ V, Below X1.heap.size X1 V → Calls Try.prog 56 #[.slice A d.length c] V fun e w' => e = .returned (.bool (d.length == 2)) ∧ Below V.heap.size V w' := fun V hV => (alert_any A d.length c V hn).mono (fun e V' h => ⟨h.1, by rw [h.2]; exact Below.refl _ _⟩)
    replace hr := hr.out
    rw [eq] at hr
    rw [ef, es]
    clear ef es eq k2
    obtain ⟨q, hqq⟩ : ∃ q, (d.length == 2) = q := ⟨_, rfl⟩
    rw [hqq] at hc hr
    replace hc := Lib.hid hc
    clear hqq
    cases q
    · have hr : false = r := by simpa using hr
      subst hr
      go_wp2_with fail
      refine (hc.out _ (Below.refl _ _)).mono ?_
      rintro e w' ⟨rfl, hb9⟩
      go_wp2_with fail
      go_ret
      exact ⟨rfl, bthen hB hb9⟩
    · have hr : decide (d.length ≤ 38) = r := by simpa using hr
      subst hr
      go_wp2_with fail
      refine (hc.out _ (Below.refl _ _)).mono ?_
      rintro e w' ⟨rfl, hb9⟩
      have d2 := kc hb9 d1
      have d3 := kc hb9 d0
      clear d1 d0
      go_wp2_with fail
      go_ret
      exact ⟨rfl, bthen hB hb9⟩
  by_cases k3 : k = 68
  · have ef : fv k = .func (.func 57) #[] #[] := by rw [k3]; simp [fv]
    have es : isS k = true := by
      rw [k3]; rfl
    have eq : shp (k, d) = (stm d.length (d.getD 0 0) (d.getD 1 0)) := by rw [k3]; simp [shp]
    have hx : 0 ≤ d.getD 0 0 ∧ d.getD 0 0 ≤ 255 := By.getD hd1 0
    have hy : 0 ≤ d.getD 1 0 ∧ d.getD 1 0 ≤ 255 := By.getD hd1 1
    have hc : ∀ V, Below X1.heap.size X1 V → Calls Try.prog 57 #[.slice A d.length c] V fun e w' => e = .returned (.bool (stm d.length (d.getD 0 0) (d.getD 1 0))) ∧ Below V.heap.size V w' := fun V hV => (stamp_any A d.length c (d.getD 0 0) (d.getD 1 0) V hn hx hy (fun hp => (hd1.below hV).at1 hp))
    replace hr := hr.out
    rw [eq] at hr
    rw [ef, es]
    clear ef es eq k3
    obtain ⟨q, hqq⟩ : ∃ q, (stm d.length (d.getD 0 0) (d.getD 1 0)) = q := ⟨_, rfl⟩
    rw [hqq] at hc hr
    replace hc := Lib.hid hc
    clear hqq
    cases q
    · have hr : false = r := by simpa using hr
      subst hr
      go_wp2_with fail
      refine (hc.out _ (Below.refl _ _)).mono ?_
      rintro e w' ⟨rfl, hb9⟩
      go_wp2_with fail
      go_ret
      exact ⟨rfl, bthen hB hb9⟩
    · have hr : decide (d.length ≤ 38) = r := by simpa using hr
      subst hr
      go_wp2_with fail
      refine (hc.out _ (Below.refl _ _)).mono ?_
      rintro e w' ⟨rfl, hb9⟩
      have d2 := kc hb9 d1
      have d3 := kc hb9 d0
      clear d1 d0
      go_wp2_with fail
      go_ret
      exact ⟨rfl, bthen hB hb9⟩
  have ef : fv k = .nilFunc := by simp [fv, k1, k2, k3]
  have es : isS k = false := by
    simp only [not_or] at k1
    simp [isS, k1, k2, k3]
  have eq : shp (k, d) = true := by simp [shp, k1, k2, k3]
  replace hr := hr.out
  rw [eq] at hr
  rw [ef, es]
  have hr : decide (d.length ≤ 38) = r := by simpa using hr
  subst hr
  clear ef es eq k1 k2 k3
  go_wp2_with fail
  go_ret
  exact ⟨rfl, hB⟩

end Go.Proofs.Ytjfnnclbfaakkaa

namespace Go.Proofs.Ytjfnnclbfaakkaa
open Go.RowKit
set_option linter.unusedVariables false
set_option linter.unusedSimpArgs false

theorem info5 : ∃ i0, Try.prog.info? 5 = some i0 ∧ i0.zero = some (.int .u8 0) ∧ i0.size = 1 ∧ i0.bytes = 1 := ⟨(Try.prog.info? 5).get (by kernel_rfl), by kernel_rfl, by kernel_rfl, by kernel_rfl, by kernel_rfl⟩

set_option maxRecDepth 100000 in
theorem clone_any (d : List Int) (A : Option Addr) (c : Nat) (w : World) (hd : By w A d) (hn : d.length ≤ 2 ^ 40) :
    Calls Try.prog 43 #[.slice A d.length c] w fun e w' => ∃ v, e = .returned v ∧ w'.ownsRow w.heap.size 5 1 v d.length (d.map (Value.int .u8)) ∧ (v = .slice none 0 0 ↔ A = none) ∧ Below w.heap.size w w' := by
  have q22 : ∀ (w : World) (a : Option Addr) (n c n' c' : Nat), (binOp .eql 22 (.slice a n c) (.slice none n' c')).run Try.prog w = .ok (.bool a.isNone) w := fun w a n c n' c' => Lib.run_eql_slice_nil w _ _ a n c n' c' Try.underlying22
  cases A with
  | none =>
    have : d = [] := by
      cases d with
      | nil => rfl
      | cons x r => obtain ⟨b, o, e, _⟩ := hd.mem (by simp); cases e
    subst this
    go_enter Try.func43, Try.ntmps43
    go_wp2_with fail
    go_ret
    exact ⟨_, rfl, World.ownsRow_nil _ _ _ _, by simp, Below.refl _ _⟩
  | some a =>
    have hc : ∀ j u, (d.map (Value.int .u8))[j]? = some u → w.cell? (a.add j) = some u := by
      intro j u hu
      obtain ⟨b, o, e, _⟩ := hd.mem (by rintro rfl; simp at hu)
      cases e
      exact hd.news j u hu
    obtain ⟨i0, hi, hz0, hz1, hz2⟩ := info5
    have Hc := Lib.hid hc
    clear hc
    go_enter Try.func43, Try.ntmps43
    go_wp2_with (at_builtin; refine wpList_append_own _ rfl _ _ 22 rfl w.heap.size 5 i0 (.int .u8 0) 1 1 Try.underlying22 hi hz0 hz1 hz2 rfl (by decide) _ _ _ rfl (World.ownsRow_made w #[] 0 (Nat.le_refl _) (Nat.zero_le _) (by simp)) a d.length c (d.map (Value.int .u8)) rfl ?qc1 ?qc2 ?qc3 ?qc4 ?qc5 ?qc6 ?_)
    case qc1 => simp
    case qc2 =>
      intro j u hj
      exact Lib.cell?_alloc_some _ (Hc.out j u hj)
    case qc3 => simp [Value.oneCell']
    case qc4 => unfold maxLen; omega
    case qc5 => omega
    case qc6 => simp
    intro v' w1 hown hgrow hnil
    go_wp2_with fail
    go_ret
    refine ⟨v', rfl, by simpa using hown, ?_, ?_⟩
    · simpa using hnil
    · exact ((Below.refl _ w).alloc (Nat.le_refl _) _).grown hgrow (by simp) (by intro k hk; simp [Value.ownBlock] at hk; omega)

/-- The greatest of some bytes, and of one. -/
def mx : Int → List Int → Int
  | m, [] => m
  | m, x :: r => mx (if m < x then x else m) r
set_option maxRecDepth 100000 in
set_option maxHeartbeats 1000000 in
theorem max_any (x0 : Int) (d : List Int) (A : Option Addr) (c : Nat) (w : World) (hd : By w A (x0 :: d)) (hn : d.length ≤ 2 ^ 40) :
    Calls Try.prog 54 #[.slice A (x0 :: d).length c] w fun e w' => e = .returned (.int .u8 (mx x0 d)) ∧ Below w.heap.size w w' := by
  obtain ⟨b, o, rfl, hb, hc⟩ := hd.mem (by simp)
  have c0 := hc 0 x0 rfl
  rw [Nat.add_zero] at c0
  obtain ⟨n, hN⟩ : ∃ n, (x0 :: d).length = n := ⟨_, rfl⟩
  rw [hN]
  have hN1 : n = d.length + 1 := by rw [← hN]; rfl
  have hlt : decide ((n : Int) < 1) = false := by simp; omega
  have hpos : (0 : Int) < n := by omega
  have HC := Lib.hid hc
  clear hc
  go_enter Try.func54, Try.ntmps54
  go_wp2_with fail
  clear hlt
  go_loopw [3, 4] (fun m i wr => ∃ (k : Nat) (y : Int), k ≤ d.length ∧ m = .int .u8 y ∧ i = .int .i64 (k + 1 : Nat) ∧ mx x0 d = mx y (d.drop k) ∧ Below w.heap.size w wr) (fun _ i _ => n - (intOf i).toNat)
  case atStart => exact ⟨0, x0, by omega, rfl, rfl, by simp, Below.refl _ _⟩
  case round =>
    obtain ⟨k, y, hk, rfl, rfl, hf, hbw⟩ := hrel
    by_cases hkl : k < d.length
    · obtain ⟨x, hx⟩ : ∃ x, d[k]? = some x := ⟨d[k], List.getElem?_eq_getElem hkl⟩
      have q0 := (hbw.cell (p := ⟨b, o + (k + 1), none⟩) hb).trans (HC.out (k + 1) x (by simpa using hx))
      have hd1 : decide (((k + 1 : Nat) : Int) < n) = true := by simp; omega
      have hdrop : d.drop k = x :: d.drop (k + 1) := by
        rw [List.drop_eq_getElem_cons hkl]
        rw [List.getElem?_eq_getElem hkl] at hx
        rw [Option.some.inj hx]
      rw [hdrop] at hf
      obtain ⟨m2, hm2⟩ : ∃ m2, (if y < x then x else y) = m2 := ⟨_, rfl⟩
      have hf1 : mx x0 d = mx m2 (d.drop (k + 1)) := by rw [hf, ← hm2]; rfl
      clear hf hx hdrop HC c0
      go_wp2_with fail
      exact ⟨⟨k + 1, m2, by omega, rfl, by congr 1, hf1, hbw⟩, by simp [intOf]; omega⟩
    · obtain rfl : k = d.length := by omega
      rw [List.drop_length] at hf
      have hd1 : decide (((d.length + 1 : Nat) : Int) < n) = false := by simp; omega
      have hf1 : mx x0 d = y := hf
      have Hf := Lib.hid hf1
      clear hf hf1 c0 HC
      go_wp2_with fail
      go_ret
      exact ⟨by rw [Hf.out]; rfl, hbw⟩

end Go.Proofs.Ytjfnnclbfaakkaa

namespace Go.Proofs.Ytjfnnclbfaakkaa
open Go.RowKit
set_option linter.unusedVariables false
set_option linter.unusedSimpArgs false

/-- What options yields of some bytes: errors and options. -/
def yl : Nat → List Int → List (Int × Op1)
  | 0, _ => []
  | _ + 1, [] => []
  | f + 1, k :: r =>
    if k = 0 then (if 0 < mx k r then [(62, (0, []))] else [])
    else if k = 1 then (0, (1, [])) :: yl f r
    else match r with
      | [] => [(60, (0, []))]
      | n :: q =>
        if n < 2 then [(61, (0, []))]
        else if (q.length : Int) + 2 < n then [(60, (0, []))]
        else if rightS (k, q.take (n - 2).toNat) then (0, (k, q.take (n - 2).toNat)) :: yl f (q.drop (n - 2).toNat)
        else [(61, (k, q.take (n - 2).toNat))]
/-- What Read makes of what is yielded. -/
def fd (l : List Op1) : List (Int × Op1) → Int × List Op1
  | [] => (0, l)
  | (e, o) :: r => if e ≠ 0 then (e, []) else if 0 < grp o.1 ∧ l.any (fun p => grp p.1 == grp o.1) then (63, []) else fd (l ++ [o]) r
/-- What Read returns. -/
def readS (b : List Int) : Int × List Op1 := if 40 < b.length then (3, []) else fd [] (yl b.length b)

/-- What is yielded, as it lies. -/
structure Yv where
  e : Int
  k : Int
  d : List Int
  A : Option Addr
  c : Nat
def Yv.op (y : Yv) : Int × Op1 := (y.e, (y.k, y.d))
def Yv.enc (y : Yv) : Array Value := #[.agg #[.int .u8 y.k, .slice y.A y.d.length y.c], .int .i64 y.e]
/-- Its data lies in a block of its own. -/
structure Yv.Own (m : Nat) (y : Yv) (W : World) : Prop where
  row : W.ownsRow m 5 1 (.slice y.A y.d.length y.c) y.d.length (y.d.map (Value.int .u8))
  kind : 0 ≤ y.k ∧ y.k ≤ 255
  rng : ∀ x ∈ y.d, 0 ≤ x ∧ x ≤ 255

end Go.Proofs.Ytjfnnclbfaakkaa

namespace Go.Proofs.Ytjfnnclbfaakkaa
open Go.RowKit

/-- What lies in the blocks of L lies as it lay. -/
structure Keep (L : Nat → Prop) (W W' : World) : Prop where
  frame : Below 0 W W'
  low : ∀ b, L b → b < W.heap.size → W'.heap[b]? = W.heap[b]?
theorem Keep.size {L : Nat → Prop} {W W' : World} (h : Keep L W W') : W.heap.size ≤ W'.heap.size := h.frame.size
theorem Keep.refl (L : Nat → Prop) (W : World) : Keep L W W := ⟨Below.refl _ _, fun _ _ _ => rfl⟩
theorem Keep.trans {L : Nat → Prop} {X Y Z : World} (h : Keep L X Y) (k : Keep L Y Z) : Keep L X Z :=
  ⟨h.frame.trans k.frame, fun b h1 h2 => (k.low b h1 (Nat.lt_of_lt_of_le h2 h.size)).trans (h.low b h1 h2)⟩
theorem Keep.mono {L L' : Nat → Prop} {X Y : World} (h : Keep L X Y) (hL : ∀ b, L' b → L b) : Keep L' X Y := ⟨h.frame, fun b h1 h2 => h.low b (hL b h1) h2⟩
theorem Keep.of_below {L : Nat → Prop} {X Y : World} (h : Below X.heap.size X Y) : Keep L X Y := ⟨h.mono (Nat.zero_le _), fun b _ h2 => h.block b h2⟩
theorem Keep.below {L : Nat → Prop} {n : Nat} {X Y : World} (h : Keep L X Y) (hn : ∀ b, b < n → L b) (hx : n ≤ X.heap.size) : Below n X Y :=
  ⟨h.frame.os, h.frame.tape, h.frame.output, h.size, fun b hb => h.low b (hn b hb) (by omega)⟩
theorem Keep.setCell {L : Nat → Prop} {b : Nat} {X Y : World} (h : Keep L X Y) (h1 : ¬ L b) (o : Nat) (v : Value) : Keep L X (Y.setCell ⟨b, o, none⟩ v) :=
  ⟨h.frame.setCell (p := ⟨b, o, none⟩) (Nat.zero_le _) v, fun k hk hk2 => (Below.heap_setCell Y ⟨b, o, none⟩ v k (by show k ≠ b; rintro rfl; exact h1 hk)).trans (h.low k hk hk2)⟩
theorem Keep.grown {L : Nat → Prop} {X Y Z : World} {row : Option Nat} (h : Keep L X Y) (hg : Y.grownBy Z row) (hr : ∀ k, row = some k → ¬ L k) : Keep L X Z :=
  h.trans ⟨(Below.refl 0 Y).grown hg (Nat.zero_le _) (fun _ _ => Nat.zero_le _), fun b hb hlt => hg.block b hlt (fun e => hr b e.symm hb)⟩
theorem Keep.alloc {L : Nat → Prop} {X Y : World} (h : Keep L X Y) (o : Obj) : Keep L X (Y.alloc o) := h.trans (Keep.of_below ((Below.refl _ _).alloc (Nat.le_refl _) o))
theorem Keep.cell {L : Nat → Prop} {b o : Nat} {X Y : World} {v : Value} (h : Keep L X Y) (hb : L b) (hc : X.cell? ⟨b, o, none⟩ = some v) : Y.cell? ⟨b, o, none⟩ = some v := by
  have hlt : b < X.heap.size := by
    rcases Nat.lt_or_ge b X.heap.size with hlt | hge
    · exact hlt
    · unfold World.cell? at hc
      rw [Array.getElem?_eq_none hge] at hc
      cases hc
  exact (World.cell?_of_block (h.low b hb hlt)).trans hc
theorem Keep.frozen {L : Nat → Prop} {b o : Nat} {X Y : World} (h : Keep L X Y) (hb : L b) (hlt : b < X.heap.size) : Y.frozen? ⟨b, o, none⟩ = X.frozen? ⟨b, o, none⟩ := World.frozen?_of_block (h.low b hb hlt)
theorem below_put {B : Nat} (W : World) {l : Nat} {o : Obj} (o' : Obj) (hB : B ≤ l) (h : W.heap[l]? = some o) : Below B W (W.putObj l o') :=
  (Below.refl B W).grown (grownBy_putObj' W l o') (by have := (Array.getElem?_eq_some_iff.1 h).1; omega) (fun k e => by cases e; omega)
theorem keep_put {L : Nat → Prop} (W : World) {l : Nat} {o : Obj} (o' : Obj) (hn : ¬ L l) (h : W.heap[l]? = some o) : Keep L W (W.putObj l o') :=
  ⟨below_put W o' (Nat.zero_le _) h, fun k hk _ => World.putObj_heap_other (by rintro rfl; exact hn hk)⟩

/-- A block of cells, known whole. -/
theorem blk_cell {w : World} {b : Nat} {F : Array Value} {t : TypeId} (h : w.heap[b]? = some (.cells F t (0, 0))) (j : Nat) : w.cell? ⟨b, j, none⟩ = F[j]? := cell_of_row w b j F t (0, 0) h
theorem blk_free {w : World} {b : Nat} {F : Array Value} {t : TypeId} (h : w.heap[b]? = some (.cells F t (0, 0))) (j : Nat) : w.frozen? ⟨b, j, none⟩ = false := by
  simp only [World.frozen?, h]
  simp
theorem blk_set {w : World} {b : Nat} {F : Array Value} {t : TypeId} (h : w.heap[b]? = some (.cells F t (0, 0))) (j : Nat) (v : Value) : (w.setCell ⟨b, j, none⟩ v).heap[b]? = some (.cells (F.setIfInBounds j v) t (0, 0)) := by
  obtain ⟨hlt, hk⟩ := Array.getElem?_eq_some_iff.1 h
  show (w.heap.modify b _)[b]? = _
  rw [Array.getElem?_eq_getElem (by rw [Array.size_modify]; exact hlt), Array.getElem_modify_self, hk]
  simp
theorem blk_lt {w : World} {b : Nat} {o : Obj} (h : w.heap[b]? = some o) : b < w.heap.size := (Array.getElem?_eq_some_iff.1 h).1
theorem blk_below {w w' : World} {b : Nat} {o : Obj} (hb : Below w.heap.size w w') (h : w.heap[b]? = some o) : w'.heap[b]? = some o := (hb.block b (blk_lt h)).trans h
theorem blk_keep {L : Nat → Prop} {b : Nat} {w w' : World} {o : Obj} (hk : Keep L w w') (hb : L b) (h : w.heap[b]? = some o) : w'.heap[b]? = some o := (hk.low b hb (blk_lt h)).trans h

/-- What an iterator's value does, whatever loop calls it: of each element it says T, which speaks of blocks that were not there behind the last round; between the rounds it alters the blocks of M alone of those that were there; the rounds keep the blocks of L. -/
def Yields {α : Type} (n : Nat) (P : Program) (g : Nat) (lb : Array Value) (encs : α → Array Value) (T : Nat → α → World → Prop) (S Sp : List α → Prop) (L M : Nat → Prop) (w : World) : Prop :=
  ∀ (l : Nat) (J Jx : List α → World → Prop) (W : World), Below w.heap.size w W →
    (∀ pre x W0 W1, W.heap.size ≤ W0.heap.size → J pre W0 → Keep (fun b => ¬ M b) W0 W1 → T W0.heap.size x W1 → Sp (pre ++ [x]) → YieldAt Fence.wide (n - 1) P l (encs x) W1 fun e W' =>
      (e = .returned (.bool true) ∧ J (pre ++ [x]) W' ∧ Keep L W1 W') ∨ (e = .returned (.bool false) ∧ Jx (pre ++ [x]) W')) →
    J [] W →
    CallsIn Fence.wide n P g (#[.func (.yield l) #[] #[]] ++ lb) W fun e W' => (∃ v, e = .returned v) ∧ ∃ xs W0, Keep (fun b => ¬ M b) W0 W' ∧ ((S xs ∧ J xs W0) ∨ (Sp xs ∧ Jx xs W0))

/-- How the body of a round may be left; B: the loop's own blocks are B and B + 1. -/
def bodyEnd {α : Type} (L : Nat → Prop) (B : Nat) (I : List α → World → Prop) (Ix : Code → List α → World → Prop) (xs : List α) (W : World) : Exit → Act → World → Prop
  | .normal, _, W' => Keep (fun b => L b ∨ b = B ∨ b = B + 1) W W' ∧ I xs W'
  | .ret, _, W' => Keep (fun b => b = B ∨ b = B + 1) W W' ∧ Ix .ret xs W'
  | .exit id, _, W' => Keep (fun b => b = B ∨ b = B + 1) W W' ∧ Ix (.exit id) xs W'
  | .goto t, _, W' => Keep (fun b => b = B ∨ b = B + 1) W W' ∧ Ix (.goto t) xs W'
  | .panic _, _, _ => False
  | .outgrown, _, _ => False

/-- The loop. -/
theorem wpIn_yields {α : Type} {n : Nat} {P : Program} {g : Operand} {ps : Array Tmp} {assign body : Code} {Q : Exit → Act → World → Prop} {a : Act} {w : World} {gf : Nat} {lb : Array Value}
    (hg : a.eval g = .func (.func gf) #[] lb) (eg : ∀ args w, (callFunc gf args).run P w = .ok (.enter gf args) w) {encs : α → Array Value} {T : Nat → α → World → Prop} {S Sp : List α → Prop} {L M : Nat → Prop}
    (hseq : Yields (n - 1) P gf lb encs T S Sp L M w) (h1 : 1 ≤ n) (hL : ∀ b, L b → b < w.heap.size) (hM : ∀ b, M b → b < w.heap.size) (hps : ∀ x, (encs x).size = ps.size)
    (I : List α → World → Prop) (Ix : Code → List α → World → Prop)
    (hI : ∀ s W W', I s W → Keep (fun b => ¬ M b ∧ b ≠ w.heap.size + 1) W W' → I s W') (hIx : ∀ c s W W', Ix c s W → Keep (fun b => ¬ M b ∧ b ≠ w.heap.size + 1) W W' → Ix c s W') (h0 : I [] w)
    (hT : ∀ m x W W', w.heap.size + 2 ≤ m → T m x W → Keep (fun b => b ≠ w.heap.size + 1) W W' → T m x W')
    (Ax : α → Act → World → Prop) (hAx : ∀ x a' W l o o', Ax x a' W → W.heap[l]? = some o → o.isCells = false → Ax x a' (W.putObj l o'))
    (hassign : ∀ (l : Nat) (x : α) (W : World) (K : Act → World → Prop), w.heap.size ≤ W.heap.size → (∀ a' W', Below W.heap.size W W' → Ax x a' W' → K a' W') →
      assign.wpIn (Fence.wide.inRound l) (n - 1 - 1) P (Exit.then K (fun _ _ _ => False)) { tmps := (ps.zip (encs x)).foldl (fun t (p, v) => t.setIfInBounds p v) a.tmps, defers := [] } W)
    (hbody : ∀ (l : Nat) (pre : List α) (x : α) (a' : Act) (W0 W : World), w.heap.size + 2 ≤ W0.heap.size → I pre W0 → Keep (fun b => ¬ M b ∧ b ≠ w.heap.size + 1) W0 W → T W0.heap.size x W → Sp (pre ++ [x]) → Ax x a' W →
      body.wpIn (Fence.wide.inRound l) (n - 1 - 1) P (bodyEnd L w.heap.size I Ix (pre ++ [x]) W) a' W)
    (hdone : ∀ (D : Nat) (xs : List α) (W : World), w.heap.size ≤ D → S xs → I xs W → W.heap[D]? = some (.deferred (some [])) → Q .normal { a with defers := { target := .collected D, args := #[] } :: a.defers } W)
    (hstop : ∀ (D : Nat) (c : Code) (pre : List α) (W : World), w.heap.size ≤ D → Sp pre → Ix c pre W → W.heap[D]? = some (.deferred (some [])) → c.wpIn Fence.wide n P Q { a with defers := { target := .collected D, args := #[] } :: a.defers } W) :
    (Code.rangeFunc g ps assign body).wpIn Fence.wide n P Q a w := by
  refine wpIn_rangeFunc ?_
  intro fn hfn
  rw [show Fence.wide.round = none from rfl]
  obtain ⟨rec, hrec⟩ : ∃ rec : LoopState → Option Code → Loop, rec = fun st pe => { state := st, pending := pe, fn, tmps := a.tmps, params := ps, assign, body, defers := w.heap.size } := ⟨_, rfl⟩
  obtain ⟨V, hV⟩ : ∃ V, (w.alloc (.deferred (some []))).alloc (.loop (rec .ready none)) = V := ⟨_, rfl⟩
  have zV : V.heap.size = w.heap.size + 2 := by rw [← hV]; simp
  have bV : Below w.heap.size w V := by rw [← hV]; exact ((Below.refl _ w).alloc (Nat.le_refl _) _).alloc (by simp) _
  have lV : V.heap[w.heap.size + 1]? = some (.loop (rec .ready none)) := by
    rw [← hV]; have := World.alloc_heap_new (w.alloc (.deferred (some []))) (.loop (rec .ready none)); rwa [World.size_alloc] at this
  have dV : V.heap[w.heap.size]? = some (.deferred (some [])) := by
    rw [← hV]; exact (Below.heap_alloc _ _ _ (by simp)).trans (World.alloc_heap_new w _)
  have nM0 : ¬ M w.heap.size := fun h => by have := hM _ h; omega
  have nM1 : ¬ M (w.heap.size + 1) := fun h => by have := hM _ h; omega
  refine ⟨w.heap.size + 1, [{ target := .collected w.heap.size, args := #[] }], V, { target := .fn (.func gf) lb, args := #[.func (.yield (w.heap.size + 1)) #[] #[]] }, V, gf,
    #[.func (.yield (w.heap.size + 1)) #[] #[]] ++ lb, V, ?_, ?_, ?_, ?_, fun _ => h1, ?_⟩
  · rw [← hV, hrec]; exact run_enterLoop_outer _ _ _ _ _
  · simp only [resolve, hg]
    simp [go_sem]
  · intro f' hf'; simp [Target.leads] at hf'; subst hf'; trivial
  · simp [invoke, go_sem, eg]
  · have kp : ∀ (X : World) {o : Obj} (o' : Obj), X.heap[w.heap.size + 1]? = some o → Keep (fun b => ¬ M b ∧ b ≠ w.heap.size + 1) X (X.putObj (w.heap.size + 1) o') := fun X o o' h => keep_put X o' (fun h => h.2 rfl) h
    refine (hseq (w.heap.size + 1)
      (fun pre W => I pre W ∧ W.heap[w.heap.size + 1]? = some (.loop (rec .ready none)) ∧ W.heap[w.heap.size]? = some (.deferred (some [])))
      (fun pre W => ∃ c, Ix c pre W ∧ W.heap[w.heap.size + 1]? = some (.loop (rec .done (some c))) ∧ W.heap[w.heap.size]? = some (.deferred (some [])))
      V bV ?_ ⟨hI _ _ _ h0 (Keep.of_below bV), lV, dV⟩).mono ?_
    · rintro pre x W0 W hW0 ⟨hi, hl0, hk0⟩ hkw htx hsp
      have hl := blk_keep hkw nM1 hl0
      have hk := blk_keep hkw nM0 hk0
      have hlt : w.heap.size + 1 < W.heap.size := (Array.getElem?_eq_some_iff.1 hl).1
      have hy := run_yield (P := P) (args := encs x) hl (by rw [hrec]; exact hps x)
      rw [hrec] at hy
      refine ⟨fn, _, assign, body, hy, roundIn_of_wpIn hfn (hassign _ x W _ (by omega) ?_)⟩
      clear hy
      intro a' X hba hax
      have lX : X.heap[w.heap.size + 1]? = some (.loop (rec .ready none)) := (hba.block _ hlt).trans hl
      have dX : X.heap[w.heap.size]? = some (.deferred (some [])) := (hba.block _ (by omega)).trans hk
      have sX : W.heap.size ≤ X.heap.size := hba.size
      refine ⟨_, run_beginRound lX (by rw [hrec]), ?_⟩
      have lY : (X.putObj (w.heap.size + 1) (.loop { rec .ready none with state := .busy })).heap[w.heap.size + 1]? = some (.loop { rec .ready none with state := .busy }) := World.putObj_heap_same (by omega)
      have dY : (X.putObj (w.heap.size + 1) (.loop { rec .ready none with state := .busy })).heap[w.heap.size]? = some (.deferred (some [])) := (World.putObj_heap_other (by omega)).trans dX
      have kXY : Keep (fun b => b ≠ w.heap.size + 1) W (X.putObj (w.heap.size + 1) (.loop { rec .ready none with state := .busy })) := (Keep.of_below hba).trans (keep_put X _ (fun h => h rfl) lX)
      have k1 : Keep L W (X.putObj (w.heap.size + 1) (.loop { rec .ready none with state := .busy })) := kXY.mono (fun b hb e => by have := hL b hb; omega)
      refine wpIn_mono (hbody _ pre x a' W0 _ (by omega) hi ((hkw.mono (fun b h => h.1)).trans (kXY.mono (fun b h => h.2))) (hT _ _ _ _ (by omega) htx kXY) hsp (hAx _ _ _ _ _ _ hax lX rfl)) ?_
      have fin : ∀ (m : Nat → Prop) (jump : Option Code) (Z : World), Keep m (X.putObj (w.heap.size + 1) (.loop { rec .ready none with state := .busy })) Z → m w.heap.size → m (w.heap.size + 1) →
          (Instr.endRound (w.heap.size + 1) jump).run P Z = .ok (.bool jump.isNone) (Z.putObj (w.heap.size + 1) (.loop (rec (if jump.isNone then .ready else .done) jump))) ∧
          Z.heap[w.heap.size + 1]? = some (.loop { rec .ready none with state := .busy }) ∧
          (Z.putObj (w.heap.size + 1) (.loop (rec (if jump.isNone then .ready else .done) jump))).heap[w.heap.size + 1]? = some (.loop (rec (if jump.isNone then .ready else .done) jump)) ∧
          (Z.putObj (w.heap.size + 1) (.loop (rec (if jump.isNone then .ready else .done) jump))).heap[w.heap.size]? = some (.deferred (some [])) := fun m jump Z hZ m0 m1 => by
        have lZ := (hZ.low (w.heap.size + 1) m1 (by rw [World.putObj_size]; omega)).trans lY
        have dZ := (hZ.low w.heap.size m0 (by rw [World.putObj_size]; omega)).trans dY
        have := run_endRound (P := P) jump lZ
        rw [hrec] at this ⊢
        exact ⟨this, by rw [hrec] at lZ; exact lZ, World.putObj_heap_same (Array.getElem?_eq_some_iff.1 lZ).1, (World.putObj_heap_other (by omega)).trans dZ⟩
      rintro e a3 Z hp
      cases e with
      | normal =>
        obtain ⟨hZ, hi3⟩ := hp
        obtain ⟨hr, l3, l4, d4⟩ := fin _ none Z hZ (.inr (.inl rfl)) (.inr (.inr rfl))
        exact ⟨_, _, hr, .inl ⟨rfl, ⟨hI _ _ _ hi3 (kp _ _ l3), l4, d4⟩, (k1.trans (hZ.mono (fun b h => .inl h))).trans (keep_put Z _ (fun h => by have := hL _ h; omega) l3)⟩⟩
      | ret =>
        obtain ⟨hZ, hi3⟩ := hp
        obtain ⟨hr, l3, l4, d4⟩ := fin _ (some .ret) Z hZ (.inl rfl) (.inr rfl)
        exact ⟨_, _, hr, .inr ⟨rfl, .ret, hIx _ _ _ _ hi3 (kp _ _ l3), l4, d4⟩⟩
      | exit id =>
        obtain ⟨hZ, hi3⟩ := hp
        obtain ⟨hr, l3, l4, d4⟩ := fin _ (some (.exit id)) Z hZ (.inl rfl) (.inr rfl)
        exact ⟨_, _, hr, .inr ⟨rfl, .exit id, hIx _ _ _ _ hi3 (kp _ _ l3), l4, d4⟩⟩
      | goto t =>
        obtain ⟨hZ, hi3⟩ := hp
        obtain ⟨hr, l3, l4, d4⟩ := fin _ (some (.goto t)) Z hZ (.inl rfl) (.inr rfl)
        exact ⟨_, _, hr, .inr ⟨rfl, .goto t, hIx _ _ _ _ hi3 (kp _ _ l3), l4, d4⟩⟩
      | panic ch => exact hp.elim
      | outgrown => exact hp.elim
    · rintro e Z ⟨⟨v, rfl⟩, xs, Z0, hZ0, (⟨hS, hi, hl, hk⟩ | ⟨hSp, c, hi, hl, hk⟩)⟩
      · replace hl := blk_keep hZ0 nM1 hl
        replace hk := blk_keep hZ0 nM0 hk
        exact ⟨none, _, by have := run_endLoop (P := P) hl (by rw [hrec]; simp); rw [hrec] at this; exact this, hdone _ xs _ (Nat.le_refl _) hS (hI _ _ _ hi ((hZ0.mono (fun b h => h.1)).trans (kp _ _ hl))) ((World.putObj_heap_other (by omega)).trans hk)⟩
      · replace hl := blk_keep hZ0 nM1 hl
        replace hk := blk_keep hZ0 nM0 hk
        exact ⟨some c, _, by have := run_endLoop (P := P) hl (by rw [hrec]; simp); rw [hrec] at this; exact this, hstop _ c xs _ (Nat.le_refl _) hSp (hIx c _ _ _ hi ((hZ0.mono (fun b h => h.1)).trans (kp _ _ hl))) ((World.putObj_heap_other (by omega)).trans hk)⟩
end Go.Proofs.Ytjfnnclbfaakkaa

namespace Go.Proofs.Ytjfnnclbfaakkaa
open Go.RowKit Go.Shelf
set_option linter.unusedVariables false
set_option linter.unusedSimpArgs false
attribute [local go_sem] Oper.semAt_some

theorem wide_call {n : Nat} {P : Program} {g : Nat} {args : Array Value} {w : World} {Q : Ending → World → Prop} (h : Calls P g args w Q) : Fence.wide.fn g ∧ (Fence.wide.depth.isSome = true → 1 ≤ n) ∧ CallsIn Fence.wide (n - 1) P g args w Q := ⟨trivial, fun h => (by cases h), callsIn_wide.2 h⟩

theorem options_any (A : Option Addr) (n c : Nat) (w : World) :
    Calls Try.prog 35 #[.slice A n c] w fun e w' => e = .returned (.func (.func 53) #[] #[.pointer (some ⟨w.heap.size, 0, none⟩)]) ∧ w.alloc (.cells #[.slice A n c] 22) = w' := by
  go_enter Try.func35, Try.ntmps35
  go_wp2
  go_ret
  exact ⟨rfl, rfl⟩

/-- How many bytes are left. -/
def boxLen (B : Nat) (w : World) : Nat := match w.cell? ⟨B, 0, none⟩ with | some (.slice _ n _) => n | _ => 0
theorem boxLen_of {B : Nat} {w : World} {A : Option Addr} {n c : Nat} (h : w.cell? ⟨B, 0, none⟩ = some (.slice A n c)) : boxLen B w = n := by simp [boxLen, h]

/-- Where the iterator is. -/
structure It (B : Nat) (bs : List Int) (J : List Yv → World → Prop) (w0 W wr : World) (pre : List Yv) (W0 : World) (rest : List Int) (A : Option Addr) (c f : Nat) : Prop where
  j : J pre W0
  size : W.heap.size ≤ W0.heap.size
  keep : Keep (fun b => ¬ b = B) W0 wr
  box : wr.heap[B]? = some (.cells #[.slice A rest.length c] 22 (0, 0))
  dat : By w0 A rest
  fuel : rest.length ≤ f
  cap : rest.length ≤ c
  max : c ≤ maxLen
  len : rest.length ≤ 2 ^ 40
  eq : pre.map Yv.op ++ yl f rest = yl bs.length bs
  below : Below w0.heap.size w0 wr

theorem It.grow {B : Nat} {bs : List Int} {J : List Yv → World → Prop} {w0 W wr X : World} {pre : List Yv} {W0 : World} {rest : List Int} {A : Option Addr} {c f : Nat} (h : It B bs J w0 W wr pre W0 rest A c f) (hb : Below wr.heap.size wr X) : It B bs J w0 W X pre W0 rest A c f :=
  ⟨h.j, h.size, h.keep.trans (Keep.of_below hb), blk_below hb h.box, h.dat, h.fuel, h.cap, h.max, h.len, h.eq, h.below.trans (hb.mono h.below.size)⟩
theorem It.endT {B : Nat} {bs : List Int} {J Jx : List Yv → World → Prop} {w0 W wr W3 : World} {pre : List Yv} {W0 : World} {rest : List Int} {A : Option Addr} {c f : Nat} (h : It B bs J w0 W wr pre W0 rest A c f) (y : Yv) (he : yl f rest = [y.op]) (hJ : J (pre ++ [y]) W3) :
    ∃ xs W0, Keep (fun b => ¬ b = B) W0 W3 ∧ ((xs.map Yv.op = yl bs.length bs ∧ J xs W0) ∨ ((∃ r, xs.map Yv.op ++ r = yl bs.length bs) ∧ Jx xs W0)) :=
  ⟨_, W3, Keep.refl _ _, .inl ⟨by rw [← h.eq, he]; simp, hJ⟩⟩
theorem It.endF {B : Nat} {bs : List Int} {J Jx : List Yv → World → Prop} {w0 W wr W3 : World} {pre : List Yv} {W0 : World} {rest : List Int} {A : Option Addr} {c f : Nat} (h : It B bs J w0 W wr pre W0 rest A c f) (y : Yv) (r : List (Int × Op1)) (he : yl f rest = y.op :: r) (hJ : Jx (pre ++ [y]) W3) :
    ∃ xs W0, Keep (fun b => ¬ b = B) W0 W3 ∧ ((xs.map Yv.op = yl bs.length bs ∧ J xs W0) ∨ ((∃ r, xs.map Yv.op ++ r = yl bs.length bs) ∧ Jx xs W0)) :=
  ⟨_, W3, Keep.refl _ _, .inr ⟨⟨r, by rw [← h.eq, he]; simp⟩, hJ⟩⟩
theorem It.sp {B : Nat} {bs : List Int} {J : List Yv → World → Prop} {w0 W wr : World} {pre : List Yv} {W0 : World} {rest : List Int} {A : Option Addr} {c f : Nat} (h : It B bs J w0 W wr pre W0 rest A c f) (y : Yv) (r : List (Int × Op1)) (he : yl f rest = y.op :: r) : ∃ r, (pre ++ [y]).map Yv.op ++ r = yl bs.length bs := ⟨r, by rw [← h.eq, he]; simp⟩
theorem It.next {B : Nat} {bs : List Int} {J : List Yv → World → Prop} {w0 W wr W3 : World} {pre : List Yv} {W0 : World} {rest rest' : List Int} {A A' : Option Addr} {c c' f : Nat} (h : It B bs J w0 W wr pre W0 rest A c (f + 1)) (y : Yv) (he : yl (f + 1) rest = y.op :: yl f rest')
    (hK : Keep (fun b => b < w0.heap.size ∨ b = B) wr W3) (hJ : J (pre ++ [y]) W3) (hB : w0.heap.size ≤ B) (hd : By w0 A' rest') (hf : rest'.length < rest.length) (hc : rest'.length ≤ c') (hc1 : c' ≤ maxLen) :
    It B bs J w0 W (W3.setCell ⟨B, 0, none⟩ (.slice A' rest'.length c')) (pre ++ [y]) W3 rest' A' c' f := by
  have hb := blk_keep hK (.inr rfl) h.box
  refine ⟨hJ, Nat.le_trans h.size (Nat.le_trans h.keep.size hK.size), (Keep.refl _ _).setCell (by simp) _ _, ?_, hd, by have := h.fuel; omega, hc, hc1, by have := h.len; omega, by rw [← h.eq, he]; simp, ?_⟩
  · have := blk_set hb 0 (.slice A' rest'.length c')
    simpa using this
  · exact (h.below.trans (hK.below (fun b hb => .inl hb) h.below.size)).setCell (p := ⟨B, 0, none⟩) hB _
theorem It.left {B : Nat} {bs : List Int} {J : List Yv → World → Prop} {w0 W wr : World} {pre : List Yv} {W0 : World} {rest : List Int} {A : Option Addr} {c f : Nat} (h : It B bs J w0 W wr pre W0 rest A c f) : boxLen B wr = rest.length :=
  boxLen_of (A := A) (c := c) (by have := blk_cell h.box 0; simpa using this)
theorem By.cut {w : World} {b o : Nat} {d : List Int} (h : By w (some ⟨b, o, none⟩) d) (k c : Nat) (hc : d.length ≤ c) : By w (if c = k then some ⟨b, o, none⟩ else some ⟨b, o + k, none⟩) (d.drop k) := by
  by_cases hk : c = k
  · rw [if_pos hk]
    have : d.drop k = [] := by rw [List.drop_eq_nil_iff]; omega
    rw [this]
    exact By.nil _ _
  · rw [if_neg hk]
    exact h.drop k
theorem own_of_block {w w' : World} {base n size : Nat} {e : TypeId} {v : Value} {xs : List Value} (h : w.ownsRow base e size v n xs) (hk : ∀ g, base ≤ g → v.ownBlock = some g → g < w.heap.size → w'.heap[g]? = w.heap[g]?) : w'.ownsRow base e size v n xs := by
  obtain ⟨hl, (⟨rfl, rfl⟩ | ⟨g, cap, cur, rfl, h1, h2, h3⟩)⟩ := h
  · exact ⟨hl, .inl ⟨rfl, rfl⟩⟩
  · exact ⟨hl, .inr ⟨g, cap, cur, rfl, h1, (hk g h1 rfl (blk_lt h2)).trans h2, h3⟩⟩
theorem own_below {w w' : World} {base n size : Nat} {e : TypeId} {v : Value} {xs : List Value} (h : w.ownsRow base e size v n xs) (hb : Below w.heap.size w w') : w'.ownsRow base e size v n xs := own_of_block h fun g _ _ hg => hb.block g hg
theorem own_base {w : World} {base base' n size : Nat} {e : TypeId} {v : Value} {xs : List Value} (h : w.ownsRow base e size v n xs) (hb : base' ≤ base) : w.ownsRow base' e size v n xs := by
  obtain ⟨hl, (⟨rfl, rfl⟩ | ⟨g, cap, cur, rfl, h1, h2⟩)⟩ := h
  · exact ⟨hl, .inl ⟨rfl, rfl⟩⟩
  · exact ⟨hl, .inr ⟨g, cap, cur, rfl, Nat.le_trans hb h1, h2⟩⟩
theorem clone_m (d : List Int) (A : Option Addr) (c m : Nat) (w : World) (hd : By w A d) (hm : d.length = m) (hn : m ≤ 2 ^ 40) :
    Calls Try.prog 43 #[.slice A m c] w fun e w' => ∃ v, e = .returned v ∧ w'.ownsRow w.heap.size 5 1 v d.length (d.map (Value.int .u8)) ∧ (v = .slice none 0 0 ↔ A = none) ∧ Below w.heap.size w w' := by
  subst hm
  exact clone_any d A c w hd hn
theorem It.grow' {B ob : Nat} {bs : List Int} {J : List Yv → World → Prop} {w0 W wr X : World} {pre : List Yv} {W0 : World} {rest : List Int} {A : Option Addr} {c f : Nat} (h : It B bs J w0 W wr pre W0 rest A c f) (hk : Keep (fun b => ¬ b = ob) wr X) (h1 : w0.heap.size ≤ ob) (h2 : W0.heap.size ≤ ob) (h3 : ob ≠ B) : It B bs J w0 W X pre W0 rest A c f :=
  ⟨h.j, h.size, ⟨h.keep.frame.trans hk.frame, fun b hb hlt => (hk.low b (by omega) (Nat.lt_of_lt_of_le hlt h.keep.size)).trans (h.keep.low b hb hlt)⟩, blk_keep hk (by omega) h.box, h.dat, h.fuel, h.cap, h.max, h.len, h.eq, h.below.trans (hk.below (fun b hb => by omega) h.below.size)⟩
/-- What the clone has left. -/
structure Cl (ob : Nat) (k : Int) (D : List Int) (X1 : World) (A : Option Addr) (c : Nat) (X : World) : Prop where
  keep : Keep (fun b => ¬ b = ob) X1 X
  row : X.ownsRow X1.heap.size 5 1 (.slice A D.length c) D.length (D.map (Value.int .u8))
  o : X.heap[ob]? = some (.cells #[.int .u8 k, .slice A D.length c] 36 (0, 0))
theorem Cl.of {ob : Nat} {k : Int} {D : List Int} {X1 X2 : World} {A : Option Addr} {c : Nat} (hb : Below X1.heap.size X1 X2) (hr : X2.ownsRow X1.heap.size 5 1 (.slice A D.length c) D.length (D.map (Value.int .u8))) (ho : X2.heap[ob]? = some (.cells #[.int .u8 k, .slice none 0 0] 36 (0, 0))) (hob : ob < X1.heap.size) :
    Cl ob k D X1 A c (X2.setCell ⟨ob, 1, none⟩ (.slice A D.length c)) :=
  ⟨(Keep.of_below hb).setCell (by simp) _ _, own_of_block hr (fun g hg _ hlt => Below.heap_setCell X2 ⟨ob, 1, none⟩ _ g (by show g ≠ ob; omega)), by simpa using blk_set ho 1 (.slice A D.length c)⟩
theorem Cl.by {ob : Nat} {k : Int} {D : List Int} {X1 X : World} {A : Option Addr} {c : Nat} (h : Cl ob k D X1 A c X) (hr : ∀ x ∈ D, 0 ≤ x ∧ x ≤ 255) : By X A D := by
  obtain ⟨A', c', e, _, _, hb⟩ := By.of_own' h.row hr
  cases e
  exact hb
theorem drop2 {a b : Int} {q : List Int} {s : Nat} (h : 2 ≤ s) : (a :: b :: q).drop s = q.drop (s - 2) := by
  obtain ⟨t, rfl⟩ : ∃ t, s = t + 2 := ⟨s - 2, by omega⟩
  rfl
theorem max_m (x0 : Int) (d : List Int) (A : Option Addr) (c m : Nat) (w : World) (hd : By w A (x0 :: d)) (hm : (x0 :: d).length = m) (hn : m ≤ 2 ^ 40) :
    Calls Try.prog 54 #[.slice A m c] w fun e w' => e = .returned (.int .u8 (mx x0 d)) ∧ Below w.heap.size w w' := by
  subst hm
  exact max_any x0 d A c w hd (by simp at hn; omega)

set_option maxRecDepth 100000 in
set_option maxHeartbeats 4000000 in
theorem options_yields (n B : Nat) (bs : List Int) (A : Option Addr) (c : Nat) (w0 w : World) (hd : By w0 A bs) (hb : Below w0.heap.size w0 w) (hB0 : w0.heap.size ≤ B) (hlen : bs.length ≤ 2 ^ 40) (hcap : bs.length ≤ c) (hmax : c ≤ maxLen)
    (hB : w.heap[B]? = some (.cells #[.slice A bs.length c] 22 (0, 0))) :
    Yields n Try.prog 53 #[.pointer (some ⟨B, 0, none⟩)] Yv.enc Yv.Own (fun ys => ys.map Yv.op = yl bs.length bs) (fun ys => ∃ r, ys.map Yv.op ++ r = yl bs.length bs) (fun b => b < w0.heap.size ∨ b = B) (fun b => b = B) w := by
  intro l J Jx W hW hY h0
  have hBlt := blk_lt hB
  refine callsIn_of_wp Try.func53 rfl trivial ?_ rfl
  simp only [Try.ntmps53, List.size_toArray, List.length_cons, List.length_nil, Nat.reduceAdd, Nat.reduceSub, Array.replicate_succ, Array.replicate_zero, List.push_toArray, List.append_toArray, List.nil_append, List.cons_append]
  have HB := Lib.hid hB
  have HY := Lib.hid hY
  clear hY hB
  gi_wp2_with fail
  gi_loopw [] (fun wr => ∃ pre W0 rest A c f, It B bs J w0 W wr pre W0 rest A c f) (fun wr => boxLen B wr)
  case atStart => exact ⟨[], W, bs, A, c, bs.length, h0, Nat.le_refl _, Keep.refl _ _, blk_below hW HB.out, hd, Nat.le_refl _, hcap, hmax, hlen, rfl, hb.trans (hW.mono hb.size)⟩
  case round =>
    obtain ⟨pre, W0, rest, A', c', f, hI⟩ := hrel
    have c0 := blk_cell hI.box 0
    simp at c0
    have hBr := blk_lt hI.box
    have HI := Lib.hid hI
    clear hI
    cases rest with
    | nil =>
      gi_wp2_with fail
      have hI := HI.out
      refine bodyPost_end (results_none rfl _ _ _) rfl ?_
      exact ⟨⟨_, rfl⟩, pre, W0, hI.keep, .inl ⟨by have := hI.eq; cases f <;> simpa [yl] using this, hI.j⟩⟩
    | cons k r =>
      obtain ⟨g, hg⟩ : ∃ g, f = g + 1 := ⟨f - 1, by have := HI.out.fuel; simp at this; omega⟩
      subst hg
      obtain ⟨bb, off, rfl, hbb, hcc⟩ := (HI.out.dat.below HI.out.below).mem (by simp)
      have q0 := hcc 0 k rfl
      rw [Nat.add_zero] at q0
      obtain ⟨m, hm⟩ : ∃ m, (k :: r).length = m := ⟨_, rfl⟩
      rw [hm] at c0
      have hm1 : m = r.length + 1 := by rw [← hm]; rfl
      have hm0 : (0 : Int) < m := by omega
      have hm40 : m ≤ 2 ^ 40 := by rw [← hm]; exact HI.out.len
      have hk := HI.out.dat.rng k (by simp)
      have HM := Lib.hid hm
      have HM1 := Lib.hid hm1
      have HC := Lib.hid hcc
      clear hcc hm hm1
      gi_upto_region 4 with fail
      obtain ⟨X0, hX0⟩ : ∃ X0, wr.alloc (Obj.cells #[Value.int IntKind.u8 k, Value.slice none 0 0] 36) = X0 := ⟨_, rfl⟩
      have hBX : Below wr.heap.size wr X0 := by rw [← hX0]; exact (Below.refl _ _).alloc (Nat.le_refl _) _
      have ho : X0.heap[wr.heap.size]? = some (.cells #[.int .u8 k, .slice none 0 0] 36 (0, 0)) := by rw [← hX0]; exact heap_alloc_last _ _
      rw [hX0]
      clear hX0
      have HI0 := Lib.hid (HI.out.grow hBX)
      have hlen0 := boxLen_of c0
      have hob := blk_lt ho
      obtain ⟨ob, hobe⟩ : ∃ ob, wr.heap.size = ob := ⟨_, rfl⟩
      have hoB : ob ≠ B := by omega
      have hWob : W0.heap.size ≤ ob := by rw [← hobe]; exact HI.out.keep.size
      replace c0 := kc hBX c0
      replace q0 := kc hBX q0
      have HC := Lib.hid (fun i x (hi : (k :: r)[i]? = some x) => kc hBX (HC.out i x hi))
      have o0 := blk_cell ho 0
      have o1 := blk_cell ho 1
      simp at o0 o1
      have fo := blk_free ho 1
      have HO := Lib.hid ho
      clear ho
      rw [hobe] at hob o0 o1 fo HO ⊢
      clear HI hBX hBr hbb
      have hBr := blk_lt HI0.out.box
      have hbb := cell_lt q0
      by_cases hk0 : k = 0
      · subst hk0
        obtain ⟨q, hq⟩ : ∃ q, decide (0 < mx 0 r) = q := ⟨_, rfl⟩
        gi_wp2_with fail
        refine wide_call ((max_m 0 r (some ⟨bb, off, none⟩) c' m _ (HI0.out.dat.below HI0.out.below) HM.out hm40).mono ?_)
        rintro e X ⟨rfl, hbX⟩
        have HIX := Lib.hid (HI0.out.grow hbX)
        clear o0 o1 fo
        cases q
        · have he : yl (g + 1) (0 :: r) = [] := by simp [yl]; simpa using hq
          gi_wp2_with fail
          refine bodyPost_ret (results_none rfl _ _ _) rfl ?_
          exact ⟨⟨_, rfl⟩, pre, W0, HIX.out.keep, .inl ⟨by have := HIX.out.eq; rw [he] at this; simpa using this, HIX.out.j⟩⟩
        · have hq2 : 0 < mx 0 r := by simpa using hq
          have he : yl (g + 1) (0 :: r) = [(62, (0, []))] := by simp [yl, hq2]
          obtain ⟨fn, tmps, assign, body, hy, hR⟩ := HY.out pre ⟨62, 0, [], none, 0⟩ W0 _ HIX.out.size HIX.out.j HIX.out.keep ⟨World.ownsRow_nil _ _ _ _, by decide, by simp⟩ (HIX.out.sp ⟨62, 0, [], none, 0⟩ _ he)
          dsimp only [Yv.enc, List.length_nil] at hy
          gi_wp2_with fail
          refine ⟨fun h => (by cases h), hR.mono ?_⟩
          rintro e W3 (⟨rfl, hJ4, hK⟩ | ⟨rfl, hJx4⟩)
          · gi_wp2_with fail
            refine bodyPost_ret (results_none rfl _ _ _) rfl ?_
            exact ⟨⟨_, rfl⟩, HIX.out.endT ⟨62, 0, [], none, 0⟩ he hJ4⟩
          · gi_wp2_with fail
            refine bodyPost_ret (results_none rfl _ _ _) rfl ?_
            exact ⟨⟨_, rfl⟩, HIX.out.endF ⟨62, 0, [], none, 0⟩ [] he hJx4⟩
      have b0 : (k == 0) = false := by simpa using hk0
      by_cases hk1 : k = 1
      · subst hk1
        have he : yl (g + 1) (1 :: r) = (Yv.op ⟨0, 1, [], none, 0⟩) :: yl g r := by simp [yl, Yv.op]
        gi_wp2_with fail
        refine wide_call ((right_any 1 [] none 0 _ (by decide) (By.nil _ _) (by decide)).mono ?_)
        rintro e X ⟨rfl, hbX⟩
        rw [show rightS (1, []) = true from rfl]
        have HIX := Lib.hid (HI0.out.grow hbX)
        replace o0 := kc hbX o0
        replace o1 := kc hbX o1
        replace c0 := kc hbX c0
        clear q0 fo HO
        obtain ⟨fn, tmps, assign, body, hy, hR⟩ := HY.out pre ⟨0, 1, [], none, 0⟩ W0 _ HIX.out.size HIX.out.j HIX.out.keep ⟨World.ownsRow_nil _ _ _ _, by decide, by simp⟩ (HIX.out.sp ⟨0, 1, [], none, 0⟩ _ he)
        dsimp only [Yv.enc, List.length_nil] at hy
        have hob2 := cell_lt o0
        gi_wp2_with fail
        refine ⟨fun h => (by cases h), hR.mono ?_⟩
        rintro e W3 (⟨rfl, hJ4, hK⟩ | ⟨rfl, hJx4⟩)
        · have hbx := blk_keep hK (.inr rfl) HIX.out.box
          have c3 := blk_cell hbx 0
          simp at c3
          rw [HM1.out.symm] at c3
          have f3 := blk_free hbx 0
          have hB3 := blk_lt hbx
          have hm1 : (1 : Int) ≤ m := by omega
          have hmc : (m : Int) ≤ c' := by have := HIX.out.cap; rw [HM.out] at this; omega
          clear hbx c0 o0 o1 hy hR
          gi_wp2_with fail
          have e1 : m - 1 = r.length := by rw [HM1.out]; rfl
          rw [e1]
          have hN := HIX.out.next ⟨0, 1, [], none, 0⟩ he hK hJ4 hB0 (HIX.out.dat.cut 1 c' HIX.out.cap) (by simp) (c' := c' - 1) (by have := HIX.out.cap; simp at this; omega) (by have := HIX.out.max; omega)
          exact ⟨⟨_, W3, r, _, c' - 1, g, hN⟩, by rw [hN.left, hlen0, HM1.out]; simp⟩
        · gi_wp2_with fail
          refine bodyPost_ret (results_none rfl _ _ _) rfl ?_
          exact ⟨⟨_, rfl⟩, HIX.out.endF ⟨0, 1, [], none, 0⟩ _ he hJx4⟩
      have b1 : (k == 1) = false := by simpa using hk1
      cases r with
      | nil =>
        have hm2 : decide ((m : Int) < 2) = true := by have := HM1.out; simp at this; simp; omega
        have he : yl (g + 1) [k] = [(60, (0, []))] := by simp [yl, hk0, hk1]
        obtain ⟨fn, tmps, assign, body, hy, hR⟩ := HY.out pre ⟨60, 0, [], none, 0⟩ W0 _ HI0.out.size HI0.out.j HI0.out.keep ⟨World.ownsRow_nil _ _ _ _, by decide, by simp⟩ (HI0.out.sp ⟨60, 0, [], none, 0⟩ _ he)
        dsimp only [Yv.enc, List.length_nil] at hy
        clear o1 fo
        gi_wp2_with fail
        refine ⟨fun h => (by cases h), hR.mono ?_⟩
        rintro e W3 (⟨rfl, hJ4, hK⟩ | ⟨rfl, hJx4⟩)
        · gi_wp2_with fail
          refine bodyPost_ret (results_none rfl _ _ _) rfl ?_
          exact ⟨⟨_, rfl⟩, HI0.out.endT ⟨60, 0, [], none, 0⟩ he hJ4⟩
        · gi_wp2_with fail
          refine bodyPost_ret (results_none rfl _ _ _) rfl ?_
          exact ⟨⟨_, rfl⟩, HI0.out.endF ⟨60, 0, [], none, 0⟩ [] he hJx4⟩
      | cons z q =>
        have hm2 : decide ((m : Int) < 2) = false := by have := HM1.out; simp at this; simp; omega
        have hm1' : (1 : Int) < m := by have := HM1.out; simp at this; omega
        have q1 := HC.out 1 z rfl
        have hn := HI0.out.dat.rng z (by simp)
        by_cases hn2 : z < 2
        · have d2 : decide (z < 2) = true := by simpa using hn2
          have he : yl (g + 1) (k :: z :: q) = [(61, (0, []))] := by simp [yl, hk0, hk1, hn2]
          obtain ⟨fn, tmps, assign, body, hy, hR⟩ := HY.out pre ⟨61, 0, [], none, 0⟩ W0 _ HI0.out.size HI0.out.j HI0.out.keep ⟨World.ownsRow_nil _ _ _ _, by decide, by simp⟩ (HI0.out.sp ⟨61, 0, [], none, 0⟩ _ he)
          dsimp only [Yv.enc, List.length_nil] at hy
          clear o1 fo
          gi_wp2_with fail
          refine ⟨fun h => (by cases h), hR.mono ?_⟩
          rintro e W3 (⟨rfl, hJ4, hK⟩ | ⟨rfl, hJx4⟩)
          · gi_wp2_with fail
            refine bodyPost_ret (results_none rfl _ _ _) rfl ?_
            exact ⟨⟨_, rfl⟩, HI0.out.endT ⟨61, 0, [], none, 0⟩ he hJ4⟩
          · gi_wp2_with fail
            refine bodyPost_ret (results_none rfl _ _ _) rfl ?_
            exact ⟨⟨_, rfl⟩, HI0.out.endF ⟨61, 0, [], none, 0⟩ [] he hJx4⟩
        obtain ⟨s, rfl⟩ : ∃ s : Nat, z = s := ⟨z.toNat, by omega⟩
        have d2 : decide ((s : Int) < 2) = false := by simpa using hn2
        have hw : IntKind.i64.wrap (s : Int) = s := IntWalk.i64_in _ (by omega)
        have hmq : m = q.length + 2 := by have := HM1.out; simpa using this
        have HMQ := Lib.hid hmq
        have h2s : (2 : Int) ≤ s := by omega
        clear hmq
        gi_upto_region 12 with fail
        gi_cut [51] from 6 (fun v wx => v = .bool (decide (m < s)) ∧ Below X0.heap.size X0 wx)
        case first =>
          clear o0 o1 fo
          have hmx : Try.prog.follows .mixedOrders = true := by kernel_rfl
          have hbr : Below X0.heap.size X0 X0.drew := (Below.refl _ _).drew
          have Hbr := Lib.hid hbr
          clear hbr
          gi_region_with_o (fail)
          all_goals
            gi_wp2_with fail
            gi_meet
            exact ⟨rfl, Hbr.out⟩
        obtain ⟨rfl, hbc⟩ := hcut
        obtain ⟨X1, hX1⟩ : ∃ X, X = wc := ⟨_, rfl⟩
        subst hX1
        have HI1 := Lib.hid (HI0.out.grow hbc)
        replace c0 := kc hbc c0
        replace q1 := kc hbc q1
        replace o0 := kc hbc o0
        replace o1 := kc hbc o1
        have HO1 := Lib.hid (blk_below hbc HO.out)
        have hob1 := cell_lt o0
        have hbb1 := cell_lt q1
        have hBr1 := cell_lt c0
        replace hob1 : ob < X1.heap.size := hob1
        replace hbb1 : bb < X1.heap.size := hbb1
        replace hBr1 : B < X1.heap.size := hBr1
        clear hbc q0 fo HO HI0 HC hob hbb hBr d2 hm2
        by_cases hn3 : m < s
        · have d3 : decide (m < s) = true := by simpa using hn3
          rw [d3]
          have hmq := HMQ.out
          have he : yl (g + 1) (k :: (s : Int) :: q) = [(60, (0, []))] := by simp only [yl, hk0, hk1, hn2, if_false]; rw [if_pos (by omega)]
          obtain ⟨fn, tmps, assign, body, hy, hR⟩ := HY.out pre ⟨60, 0, [], none, 0⟩ W0 _ HI1.out.size HI1.out.j HI1.out.keep ⟨World.ownsRow_nil _ _ _ _, by decide, by simp⟩ (HI1.out.sp ⟨60, 0, [], none, 0⟩ _ he)
          dsimp only [Yv.enc, List.length_nil] at hy
          clear hmq
          gi_wp2_with fail
          refine ⟨fun h => (by cases h), hR.mono ?_⟩
          rintro e W3 (⟨rfl, hJ4, hK⟩ | ⟨rfl, hJx4⟩)
          · gi_wp2_with fail
            refine bodyPost_ret (results_none rfl _ _ _) rfl ?_
            exact ⟨⟨_, rfl⟩, HI1.out.endT ⟨60, 0, [], none, 0⟩ he hJ4⟩
          · gi_wp2_with fail
            refine bodyPost_ret (results_none rfl _ _ _) rfl ?_
            exact ⟨⟨_, rfl⟩, HI1.out.endF ⟨60, 0, [], none, 0⟩ [] he hJx4⟩
        have d3 : decide (m < s) = false := by simpa using hn3
        rw [d3]
        clear d3
        have hsm : (s : Int) ≤ m := by omega
        have hsc : (s : Int) ≤ c' := by have := HI1.out.cap; rw [HM.out] at this; omega
        obtain ⟨D, hD⟩ : ∃ D, q.take (s - 2) = D := ⟨_, rfl⟩
        have HDl : Hid (D.length = s - 2) := Lib.hid (by rw [← hD, List.length_take]; have := HMQ.out; omega)
        have HDr : Hid (∀ x ∈ D, 0 ≤ x ∧ x ≤ 255) := Lib.hid (fun x hx => HI1.out.dat.rng x (by rw [← hD] at hx; simp [List.mem_of_mem_take hx]))
        have HDb : Hid (By X1 (if c' = 2 then some ⟨bb, off, none⟩ else some ⟨bb, off + 2, none⟩) D) := Lib.hid (by rw [← hD]; exact ((HI1.out.dat.below HI1.out.below).cut 2 c' HI1.out.cap).take (s - 2))
        have HD := Lib.hid hD
        clear hD
        have hs2 : ((s : Int) - 2).toNat = s - 2 := by omega
        have hsm0 := hsm
        have Hmq : Hid (m = q.length + 1 + 1) := Lib.hid (by have := HMQ.out; omega)
        have HDl62 : Hid (D.length < 2 ^ 62) := Lib.hid (by have := HDl.out; omega)
        have hW0ob : W0.heap.size ≤ ob := by have := hWob; omega
        have hw0ob : w0.heap.size ≤ ob := by have := hb.size; have := hW.size; have := HI1.out.size; omega
        have hW0X1 : W0.heap.size ≤ X1.heap.size := by omega
        by_cases hc2 : c' = 2
        · subst hc2
          have hby := HDb.out
          rw [if_pos rfl] at hby
          have Hby := Lib.hid hby
          clear hby
          have Hlen := Lib.hid hlen0
          clear hsm0 hm0 hm1' hw hlen0
          gi_wp2_with fail
          refine wide_call ((clone_m D (some ⟨bb, off, none⟩) (0) (s - 2) _ Hby.out HDl.out (by omega)).mono ?_)
          rintro e X2 ⟨v, rfl, hrow, hnil, hb2⟩
          obtain ⟨A1, c1, rfl, hc1, hc1m, hBy⟩ := By.of_own' hrow HDr.out
          have hcl := Cl.of (k := k) hb2 hrow (blk_below hb2 HO1.out) hob1
          have ho2 := blk_below hb2 HO1.out
          have o0' := blk_cell ho2 0
          have o1' := blk_cell ho2 1
          simp at o0' o1'
          have fo' := blk_free ho2 1
          have hob2 := blk_lt ho2
          have HCl := Lib.hid hcl
          clear hrow hnil hBy hcl ho2 c0 q1 o0 o1 hb2 hc1 hc1m
          obtain ⟨rq, hrq⟩ : ∃ rq, rightS (k, D) = rq := ⟨_, rfl⟩
          have Hrq := Lib.hid hrq
          clear hrq
          gi_wp2_with fail
          refine wide_call ((right_any k D A1 c1 _ hk (HCl.out.by HDr.out) HDl62.out).mono ?_)
          rintro e X4 ⟨rfl, hb4⟩
          rw [Hrq.out]
          clear o0' o1' fo' hob2
          have HI4 := Lib.hid ((HI1.out.grow' HCl.out.keep hw0ob hW0ob hoB).grow hb4)
          have ho4 := blk_below hb4 HCl.out.o
          have o0 := blk_cell ho4 0
          have o1 := blk_cell ho4 1
          simp at o0 o1
          have hob4 := blk_lt ho4
          have HR4 := Lib.hid (own_base (own_below HCl.out.row hb4) hW0X1)
          clear ho4 hb4
          have hrq := Hrq.out
          cases rq
          · have he : yl (g + 1) (k :: (s : Int) :: q) = [(61, (k, D))] := by
              have hn4 : ¬ ((q.length : Int) + 2 < (s : Int)) := by have := HMQ.out; omega
              have hn5 : ¬ ((s : Int) < 2) := by omega
              simp only [yl, hk0, hk1, hn5, hn4, hs2, if_false]
              rw [HD.out, hrq]
              rfl
            obtain ⟨fn, tmps, assign, body, hy, hR⟩ := HY.out pre ⟨61, k, D, A1, c1⟩ W0 _ HI4.out.size HI4.out.j HI4.out.keep ⟨HR4.out, hk, HDr.out⟩ (HI4.out.sp ⟨61, k, D, A1, c1⟩ _ he)
            dsimp only [Yv.enc] at hy
            clear hrq
            gi_wp2_with fail
            refine ⟨fun h => (by cases h), hR.mono ?_⟩
            rintro e W3 (⟨rfl, hJ4, hK⟩ | ⟨rfl, hJx4⟩)
            · gi_wp2_with fail
              refine bodyPost_ret (results_none rfl _ _ _) rfl ?_
              exact ⟨⟨_, rfl⟩, HI4.out.endT ⟨61, k, D, A1, c1⟩ he hJ4⟩
            · gi_wp2_with fail
              refine bodyPost_ret (results_none rfl _ _ _) rfl ?_
              exact ⟨⟨_, rfl⟩, HI4.out.endF ⟨61, k, D, A1, c1⟩ [] he hJx4⟩
          · have he : yl (g + 1) (k :: (s : Int) :: q) = (Yv.op ⟨0, k, D, A1, c1⟩) :: yl g (q.drop (s - 2)) := by
              have hn4 : ¬ ((q.length : Int) + 2 < (s : Int)) := by have := HMQ.out; omega
              have hn5 : ¬ ((s : Int) < 2) := by omega
              simp only [yl, hk0, hk1, hn5, hn4, hs2, if_false]
              rw [HD.out, if_pos hrq]
              rfl
            obtain ⟨fn, tmps, assign, body, hy, hR⟩ := HY.out pre ⟨0, k, D, A1, c1⟩ W0 _ HI4.out.size HI4.out.j HI4.out.keep ⟨HR4.out, hk, HDr.out⟩ (HI4.out.sp ⟨0, k, D, A1, c1⟩ _ he)
            dsimp only [Yv.enc] at hy
            clear hrq
            gi_wp2_with fail
            refine ⟨fun h => (by cases h), hR.mono ?_⟩
            rintro e W3 (⟨rfl, hJ4, hK⟩ | ⟨rfl, hJx4⟩)
            · have hbx := blk_keep hK (.inr rfl) HI4.out.box
              have c3 := blk_cell hbx 0
              simp at c3
              rw [← Hmq.out] at c3
              have f3 := blk_free hbx 0
              have hB3 := blk_lt hbx
              clear hbx o0 o1 hy hR
              gi_wp2_with fail
              have e1 : m - s = (q.drop (s - 2)).length := by rw [List.length_drop]; have := HMQ.out; omega
              have hby9 := HI4.out.dat.cut s (2) HI4.out.cap
              rw [drop2 (by omega)] at hby9
              rw [if_pos (by omega)] at hby9
              have hN := HI4.out.next ⟨0, k, D, A1, c1⟩ he hK hJ4 hB0 hby9 (by simp only [List.length_cons, List.length_drop]; omega) (c' := 2 - s) (by rw [← e1]; have := HI4.out.cap; simp only [List.length_cons] at this; have := HMQ.out; omega) (by have := HI4.out.max; omega)
              rw [e1]
              exact ⟨⟨_, W3, _, _, 2 - s, g, hN⟩, by rw [hN.left, Hlen.out, ← e1]; have := HMQ.out; omega⟩
            · gi_wp2_with fail
              refine bodyPost_ret (results_none rfl _ _ _) rfl ?_
              exact ⟨⟨_, rfl⟩, HI4.out.endF ⟨0, k, D, A1, c1⟩ _ he hJx4⟩
        · have hby := HDb.out
          rw [if_neg hc2] at hby
          have Hby := Lib.hid hby
          clear hby
          have Hlen := Lib.hid hlen0
          clear hsm0 hm0 hm1' hw hlen0
          gi_wp2_with fail
          refine wide_call ((clone_m D (some ⟨bb, off + 2, none⟩) (c' - 2) (s - 2) _ Hby.out HDl.out (by omega)).mono ?_)
          rintro e X2 ⟨v, rfl, hrow, hnil, hb2⟩
          obtain ⟨A1, c1, rfl, hc1, hc1m, hBy⟩ := By.of_own' hrow HDr.out
          have hcl := Cl.of (k := k) hb2 hrow (blk_below hb2 HO1.out) hob1
          have ho2 := blk_below hb2 HO1.out
          have o0' := blk_cell ho2 0
          have o1' := blk_cell ho2 1
          simp at o0' o1'
          have fo' := blk_free ho2 1
          have hob2 := blk_lt ho2
          have HCl := Lib.hid hcl
          clear hrow hnil hBy hcl ho2 c0 q1 o0 o1 hb2 hc1 hc1m
          obtain ⟨rq, hrq⟩ : ∃ rq, rightS (k, D) = rq := ⟨_, rfl⟩
          have Hrq := Lib.hid hrq
          clear hrq
          gi_wp2_with fail
          refine wide_call ((right_any k D A1 c1 _ hk (HCl.out.by HDr.out) HDl62.out).mono ?_)
          rintro e X4 ⟨rfl, hb4⟩
          rw [Hrq.out]
          clear o0' o1' fo' hob2
          have HI4 := Lib.hid ((HI1.out.grow' HCl.out.keep hw0ob hW0ob hoB).grow hb4)
          have ho4 := blk_below hb4 HCl.out.o
          have o0 := blk_cell ho4 0
          have o1 := blk_cell ho4 1
          simp at o0 o1
          have hob4 := blk_lt ho4
          have HR4 := Lib.hid (own_base (own_below HCl.out.row hb4) hW0X1)
          clear ho4 hb4
          have hrq := Hrq.out
          cases rq
          · have he : yl (g + 1) (k :: (s : Int) :: q) = [(61, (k, D))] := by
              have hn4 : ¬ ((q.length : Int) + 2 < (s : Int)) := by have := HMQ.out; omega
              have hn5 : ¬ ((s : Int) < 2) := by omega
              simp only [yl, hk0, hk1, hn5, hn4, hs2, if_false]
              rw [HD.out, hrq]
              rfl
            obtain ⟨fn, tmps, assign, body, hy, hR⟩ := HY.out pre ⟨61, k, D, A1, c1⟩ W0 _ HI4.out.size HI4.out.j HI4.out.keep ⟨HR4.out, hk, HDr.out⟩ (HI4.out.sp ⟨61, k, D, A1, c1⟩ _ he)
            dsimp only [Yv.enc] at hy
            clear hrq
            gi_wp2_with fail
            refine ⟨fun h => (by cases h), hR.mono ?_⟩
            rintro e W3 (⟨rfl, hJ4, hK⟩ | ⟨rfl, hJx4⟩)
            · gi_wp2_with fail
              refine bodyPost_ret (results_none rfl _ _ _) rfl ?_
              exact ⟨⟨_, rfl⟩, HI4.out.endT ⟨61, k, D, A1, c1⟩ he hJ4⟩
            · gi_wp2_with fail
              refine bodyPost_ret (results_none rfl _ _ _) rfl ?_
              exact ⟨⟨_, rfl⟩, HI4.out.endF ⟨61, k, D, A1, c1⟩ [] he hJx4⟩
          · have he : yl (g + 1) (k :: (s : Int) :: q) = (Yv.op ⟨0, k, D, A1, c1⟩) :: yl g (q.drop (s - 2)) := by
              have hn4 : ¬ ((q.length : Int) + 2 < (s : Int)) := by have := HMQ.out; omega
              have hn5 : ¬ ((s : Int) < 2) := by omega
              simp only [yl, hk0, hk1, hn5, hn4, hs2, if_false]
              rw [HD.out, if_pos hrq]
              rfl
            obtain ⟨fn, tmps, assign, body, hy, hR⟩ := HY.out pre ⟨0, k, D, A1, c1⟩ W0 _ HI4.out.size HI4.out.j HI4.out.keep ⟨HR4.out, hk, HDr.out⟩ (HI4.out.sp ⟨0, k, D, A1, c1⟩ _ he)
            dsimp only [Yv.enc] at hy
            clear hrq
            gi_wp2_with fail
            refine ⟨fun h => (by cases h), hR.mono ?_⟩
            rintro e W3 (⟨rfl, hJ4, hK⟩ | ⟨rfl, hJx4⟩)
            · have hbx := blk_keep hK (.inr rfl) HI4.out.box
              have c3 := blk_cell hbx 0
              simp at c3
              rw [← Hmq.out] at c3
              have f3 := blk_free hbx 0
              have hB3 := blk_lt hbx
              clear hbx o0 o1 hy hR
              gi_wp2_with fail
              have e1 : m - s = (q.drop (s - 2)).length := by rw [List.length_drop]; have := HMQ.out; omega
              have hby9 := HI4.out.dat.cut s (c') HI4.out.cap
              rw [drop2 (by omega)] at hby9
              have hN := HI4.out.next ⟨0, k, D, A1, c1⟩ he hK hJ4 hB0 hby9 (by simp only [List.length_cons, List.length_drop]; omega) (c' := c' - s) (by rw [← e1]; have := HI4.out.cap; simp only [List.length_cons] at this; have := HMQ.out; omega) (by have := HI4.out.max; omega)
              rw [e1]
              exact ⟨⟨_, W3, _, _, c' - s, g, hN⟩, by rw [hN.left, Hlen.out, ← e1]; have := HMQ.out; omega⟩
            · gi_wp2_with fail
              refine bodyPost_ret (results_none rfl _ _ _) rfl ?_
              exact ⟨⟨_, rfl⟩, HI4.out.endF ⟨0, k, D, A1, c1⟩ _ he hJx4⟩

end Go.Proofs.Ytjfnnclbfaakkaa

namespace Go.Proofs.Ytjfnnclbfaakkaa
open Go.RowKit
set_option linter.unusedVariables false
set_option linter.unusedSimpArgs false

theorem info36 : (Try.prog.info? 36).map (fun i => (i.zero, i.size, i.bytes)) = some (some (.agg #[.int .u8 0, .slice none 0 0]), 2, 32) := by kernel_rfl
theorem info5b : (Try.prog.info? 5).map (fun i => (i.zero, i.size, i.bytes)) = some (some (.int .u8 0), 1, 1) := by kernel_rfl

/-- An option whose data lie in a block of their own. -/
structure OpOwn (n : Nat) (W : World) (cs : List Value) (o : Op1) : Prop where
  kind : 0 ≤ o.1 ∧ o.1 ≤ 255
  rng : ∀ x ∈ o.2, 0 ≤ x ∧ x ≤ 255
  mem : ∃ v, cs = [.int .u8 o.1, v] ∧ W.ownsRow n 5 1 v o.2.length (o.2.map (Value.int .u8))
theorem OpOwn.opv {n : Nat} {W : World} {cs : List Value} {o : Op1} (h : OpOwn n W cs o) : OpV W cs o := by
  obtain ⟨v, rfl, hr⟩ := h.mem
  obtain ⟨A, c, rfl, h1, h2, h3, h4⟩ := By.of_own2 hr h.rng
  exact ⟨h.kind, A, c, rfl, h1, h2, h3, h4⟩
/-- All blocks of bytes from n on are kept. -/
def KeepB (n : Nat) (W W' : World) : Prop := ∀ g F, n ≤ g → W.heap[g]? = some (.cells F 5 (0, 0)) → W'.heap[g]? = W.heap[g]?
theorem KeepB.mono {n n' : Nat} {W W' : World} (h : KeepB n W W') (hn : n ≤ n') : KeepB n' W W' := fun g F hg hF => h g F (Nat.le_trans hn hg) hF
theorem KeepB.trans {n : Nat} {X Y Z : World} (h : KeepB n X Y) (k : KeepB n Y Z) : KeepB n X Z := fun g F hg hF => (k g F hg ((h g F hg hF).trans hF)).trans (h g F hg hF)
theorem KeepB.of_keep {n : Nat} {L : Nat → Prop} {X Y : World} (h : Keep L X Y) (hL : ∀ b, n ≤ b → L b) : KeepB n X Y := fun g F hg hF => h.low g (hL g hg) (blk_lt hF)
theorem KeepB.of_below {n : Nat} {X Y : World} (h : Below X.heap.size X Y) : KeepB n X Y := fun g F hg hF => h.block g (blk_lt hF)
theorem KeepB.of_grown {n : Nat} {X Y : World} {v : Value} {e : TypeId} {m k size : Nat} {xs : List Value} (h : X.grownBy Y v.ownBlock) (hr : X.ownsRow m e size v k xs) (he : e ≠ 5) : KeepB n X Y := fun g F hg hF => by
  refine h.block g (blk_lt hF) fun e1 => ?_
  obtain ⟨_, (⟨rfl, _⟩ | ⟨g', cap, cur, rfl, _, h2, _⟩)⟩ := hr
  · cases e1
  · cases e1
    rw [h2] at hF
    cases hF
    exact he rfl
theorem own_keepB {n : Nat} {W W' : World} {v : Value} {k : Nat} {xs : List Value} (h : W.ownsRow n 5 1 v k xs) (hk : KeepB n W W') : W'.ownsRow n 5 1 v k xs := by
  obtain ⟨hl, (⟨rfl, rfl⟩ | ⟨g, cap, cur, rfl, h1, h2, h3⟩)⟩ := h
  · exact ⟨hl, .inl ⟨rfl, rfl⟩⟩
  · exact ⟨hl, .inr ⟨g, cap, cur, rfl, h1, (hk g cur h1 h2).trans h2, h3⟩⟩
theorem OpOwn.keep {n : Nat} {W W' : World} {cs : List Value} {o : Op1} (h : OpOwn n W cs o) (hk : KeepB n W W') : OpOwn n W' cs o := by
  obtain ⟨v, e, hr⟩ := h.mem
  exact ⟨h.kind, h.rng, v, e, own_keepB hr hk⟩

inductive Owns (n : Nat) (W : World) : List (List Value) → List Op1 → Prop
  | nil : Owns n W [] []
  | cons {cs : List Value} {o : Op1} {css : List (List Value)} {l : List Op1} : OpOwn n W cs o → Owns n W css l → Owns n W (cs :: css) (o :: l)
theorem Owns.keep {n : Nat} {W W' : World} {css : List (List Value)} {l : List Op1} (h : Owns n W css l) (hk : KeepB n W W') : Owns n W' css l := by
  induction h with
  | nil => exact .nil
  | cons h1 _ ih => exact .cons (h1.keep hk) ih
theorem Owns.push {n : Nat} {W : World} {css : List (List Value)} {l : List Op1} (h : Owns n W css l) {cs : List Value} {o : Op1} (h1 : OpOwn n W cs o) : Owns n W (css ++ [cs]) (l ++ [o]) := by
  induction h with
  | nil => exact .cons h1 .nil
  | cons h2 _ ih => exact .cons h2 ih
theorem Owns.opvs {n : Nat} {W : World} {css : List (List Value)} {l : List Op1} (h : Owns n W css l) : OpVs W css l := by
  induction h with
  | nil => exact .nil
  | cons h1 _ ih => exact .cons h1.opv ih
/-- The block of an option's data. -/
def blkOf (cs : List Value) : Option Nat := (cs.getD 1 undef).ownBlock
theorem Owns.lt {n : Nat} {W : World} {css : List (List Value)} {l : List Op1} (h : Owns n W css l) : ∀ cs ∈ css, ∀ g, blkOf cs = some g → n ≤ g ∧ g < W.heap.size := by
  induction h with
  | nil => simp
  | cons h1 _ ih =>
    intro cs hcs g hg
    rcases List.mem_cons.1 hcs with rfl | h2
    · obtain ⟨v, rfl, hr⟩ := h1.mem
      exact hr.lt g hg
    · exact ih cs h2 g hg

/-- A slice that is a list of options: its row, and all data, lie in blocks of their own, none below n. -/
structure Got (n : Nat) (W : World) (v : Value) (css : List (List Value)) (l : List Op1) : Prop where
  row : W.ownsRow n 36 2 v l.length css.flatten
  each : Owns n W css l
  ord : css.Pairwise fun a b => ∀ g h, blkOf a = some g → blkOf b = some h → g < h
theorem Got.nil (n : Nat) (W : World) : Got n W (.slice none 0 0) [] [] := ⟨World.ownsRow_nil _ _ _ _, .nil, .nil⟩
theorem Got.keep {n : Nat} {W W' : World} {v : Value} {css : List (List Value)} {l : List Op1} (h : Got n W v css l) (hk : ∀ g, n ≤ g → g < W.heap.size → W'.heap[g]? = W.heap[g]?) : Got n W' v css l :=
  ⟨own_of_block h.row fun g hg _ hlt => hk g hg hlt, h.each.keep fun g F hg hF => hk g hg (blk_lt hF), h.ord⟩
theorem Got.below {n : Nat} {W W' : World} {v : Value} {css : List (List Value)} {l : List Op1} (h : Got n W v css l) (hb : Below W.heap.size W W') : Got n W' v css l := h.keep fun g _ hlt => hb.block g hlt
theorem Got.base {n m : Nat} {W : World} {v : Value} {css : List (List Value)} {l : List Op1} (h : Got n W v css l) (hm : m ≤ n) : Got m W v css l := by
  refine ⟨own_base h.row hm, ?_, h.ord⟩
  have := h.each
  clear h
  induction this with
  | nil => exact .nil
  | cons h1 _ ih =>
    refine .cons ?_ ih
    obtain ⟨v, e, hr⟩ := h1.mem
    exact ⟨h1.kind, h1.rng, v, e, own_base hr hm⟩
theorem Got.push {n : Nat} {W0 W1 : World} {v v' : Value} {css : List (List Value)} {l : List Op1} (h : Got n W0 v css l) (hk : KeepB n W0 W1) (x : Yv) (hn : n ≤ W0.heap.size) (hx : x.Own W0.heap.size W1)
    (hr : W1.ownsRow n 36 2 v' (l.length + 1) (css.flatten ++ [.int .u8 x.k, .slice x.A x.d.length x.c])) : Got n W1 v' (css ++ [[.int .u8 x.k, .slice x.A x.d.length x.c]]) (l ++ [(x.k, x.d)]) := by
  refine ⟨by simpa using hr, (h.each.keep hk).push ⟨hx.kind, hx.rng, _, rfl, own_base hx.row hn⟩, ?_⟩
  rw [List.pairwise_append]
  refine ⟨h.ord, by simp, fun a ha b hb g g' hg hg' => ?_⟩
  simp only [List.mem_singleton] at hb
  subst hb
  have h1 := (h.each.lt a ha g hg).2
  have h2 := (hx.row.lt g' hg').1
  omega
theorem Got.ops {n : Nat} {W : World} {v : Value} {css : List (List Value)} {l : List Op1} (h : Got n W v css l) : ∃ A c, v = .slice A l.length c ∧ l.length ≤ c ∧ c ≤ maxLen ∧ Ops W A l := Ops.of_own h.row h.each.opvs rfl

/-- How often a group was met: once, or never. -/
def cnt (acc : List Op1) (j : Int) : Int := if acc.any (fun p => grp p.1 == j) then 1 else 0
theorem cnt_push (acc : List Op1) (o : Op1) (j : Int) : cnt (acc ++ [o]) j = if grp o.1 = j then 1 else cnt acc j := by
  unfold cnt
  rw [List.any_append]
  by_cases h : grp o.1 = j
  · rw [if_pos h]
    have : (List.any [o] fun p => grp p.1 == j) = true := by simp [h]
    rw [this, Bool.or_true]
    rfl
  · rw [if_neg h]
    have : (List.any [o] fun p => grp p.1 == j) = false := by simp [h]
    rw [this, Bool.or_false]
structure Met (acc : List Op1) (M : Array Value) : Prop where
  size : M.size = 4
  get : ∀ j : Nat, 0 < j → j < 4 → M[j]? = some (.int .i64 (cnt acc j))
theorem Met.nil : Met [] #[.int .i64 0, .int .i64 0, .int .i64 0, .int .i64 0] := ⟨rfl, fun j h1 h2 => by
  rcases (by omega : j = 1 ∨ j = 2 ∨ j = 3) with rfl | rfl | rfl <;> rfl⟩
theorem Met.push0 {acc : List Op1} {M : Array Value} (h : Met acc M) (o : Op1) (ho : grp o.1 = 0) : Met (acc ++ [o]) M := ⟨h.size, fun j h1 h2 => by
  rw [h.get j h1 h2]
  have : (0 : Int) ≠ j := by omega
  rw [cnt_push, ho, if_neg this]⟩
theorem Met.push {acc : List Op1} {M : Array Value} (h : Met acc M) (o : Op1) {g : Nat} (ho : grp o.1 = g) (h4 : g < 4) : Met (acc ++ [o]) (M.setIfInBounds g (.int .i64 1)) := ⟨by simp [h.size], fun j h1 h2 => by
  by_cases hj : g = j
  · subst hj
    rw [cnt_push, ho, if_pos rfl]
    simp [h.size, h4]
  · rw [Array.getElem?_setIfInBounds_ne hj, h.get j h1 h2]
    have : (g : Int) ≠ j := by omega
    rw [cnt_push, ho, if_neg this]⟩
theorem cell_two_new (w : World) (x y : Value) (t : TypeId) : ∀ j u, [x, y][j]? = some u → (w.alloc (.cells #[x, y] t)).cell? ((⟨w.heap.size, 0, none⟩ : Addr).add j) = some u := by
  intro j u hj
  rw [Go.WideShapes.add_plain]
  match j, hj with
  | 0, hj =>
    simp at hj
    subst hj
    exact blk_cell (heap_alloc_last w (.cells #[x, y] t)) 0
  | 1, hj =>
    simp at hj
    subst hj
    exact blk_cell (heap_alloc_last w (.cells #[x, y] t)) 1
theorem yl_len : ∀ (f : Nat) (b : List Int), (yl f b).length ≤ f
  | 0, _ => by simp [yl]
  | f + 1, [] => by simp [yl]
  | f + 1, k :: r => by
    unfold yl
    split
    · split <;> simp
    · split
      · simpa using yl_len f r
      · split
        · simp
        · rename_i n q
          split
          · simp
          · split
            · simp
            · split
              · simpa using yl_len f _
              · simp
theorem grp_cases (k : Int) : grp k = 0 ∨ grp k = 1 ∨ grp k = 2 ∨ grp k = 3 := by
  unfold grp
  repeat' split
  all_goals simp

end Go.Proofs.Ytjfnnclbfaakkaa

namespace Go.Proofs.Ytjfnnclbfaakkaa
open Go.RowKit
set_option linter.unusedVariables false
set_option linter.unusedSimpArgs false

/-- The mark of an index of a slice. -/
def mkS (k i : Int) : Int := 1000003 * (k + 7) + i
/-- The mark as a byte. -/
def mbS (k i : Int) : Int := mkS k i * 11400714819323198485 % 2 ^ 64 / 2 ^ 56
theorem mbS_rng (k i : Int) : 0 ≤ mbS k i ∧ mbS k i ≤ 255 := by
  unfold mbS
  omega
theorem mark_any (k i : Int) (w : World) (hk : 0 ≤ k ∧ k ≤ 2 ^ 20) (hi : 0 ≤ i ∧ i ≤ 2 ^ 50) : Calls Try.prog 63 #[.int .i64 k, .int .i64 i] w fun e w' => e = .returned (.int .i64 (mkS k i)) ∧ w' = w := by
  have h1 : IntKind.i64.wrap (k + 7) = k + 7 := IntWalk.i64_in _ (by omega)
  have h2 : IntKind.i64.wrap (1000003 * (k + 7)) = 1000003 * (k + 7) := IntWalk.i64_in _ (by omega)
  have h3 : IntKind.i64.wrap (1000003 * (k + 7) + i) = 1000003 * (k + 7) + i := IntWalk.i64_in _ (by omega)
  unfold mkS
  go_enter Try.func63, Try.ntmps63
  go_wp2_with fail
  go_ret
  exact ⟨rfl, rfl⟩
theorem markByte_any (k i : Int) (w : World) (hk : 0 ≤ k ∧ k ≤ 2 ^ 20) (hi : 0 ≤ i ∧ i ≤ 2 ^ 50) : Calls Try.prog 49 #[.int .i64 k, .int .i64 i] w fun e w' => e = .returned (.int .u8 (mbS k i)) ∧ w' = w := by
  have hr := mbS_rng k i
  obtain ⟨r, hr'⟩ : ∃ r, mbS k i = r := ⟨_, rfl⟩
  have HR := Lib.hid hr'
  rw [hr'] at hr ⊢
  obtain ⟨m, hm⟩ : ∃ m, mkS k i = m := ⟨_, rfl⟩
  have hmr : 0 ≤ m ∧ m < 2 ^ 62 := by rw [← hm]; unfold mkS; omega
  have HM := Lib.hid hm
  have h1 : IntKind.u64.wrap m = m := IntWalk.u64_in _ (by omega)
  have h4 : IntKind.u8.wrap r = r := IntWalk.u8_in _ (by omega)
  clear hr' hm
  go_enter Try.func49, Try.ntmps49
  go_wp2_with fail
  refine (mark_any k i _ hk hi).mono ?_
  rintro e Y ⟨rfl, hY⟩
  rw [hY, HM.out]
  clear hY
  go_wp2_with fail
  have hval : IntKind.u64.wrap (m * 11400714819323198485) / 72057594037927936 % 256 = r := by
    rw [← HR.out]
    unfold mbS
    rw [HM.out]
    have : IntKind.u64.wrap (m * 11400714819323198485) = m * 11400714819323198485 % 2 ^ 64 := rfl
    rw [this]
    omega
  rw [hval]
  go_ret
  exact ⟨rfl, rfl⟩

end Go.Proofs.Ytjfnnclbfaakkaa

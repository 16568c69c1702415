/-
  Plain lemmas, of no program: a value of a type that is made of integers and bools alone (structs and arrays of them, nested) is a list of cells, each of its kind; a variable that reads as a datum made of integers, bools and strings holds just these cells. No conditions.
-/
import Derived.OpenShut
import Derived.Deep.Slices
import Derived.ChangeSame
import Derived.LaidLaws
import Derived.WalkKit
import Derived.ProofKit
namespace Go.Proofs.Ytjfnnclbfaakkaa
open Go.ChangeShapes Go.WideShapes Go.RowKit

/-- What a cell of a kind holds ('none': a bool). -/
def Fits (k : Option IntKind) (v : Value) : Prop :=
  match k with
  | some k => ∃ n, v = .int k n ∧ (Lit.int k n).wf = true
  | none => ∃ b, v = .bool b
def All2 : List (Option IntKind) → List Value → Prop
  | [], [] => True
  | k :: ks, v :: vs => Fits k v ∧ All2 ks vs
  | _, _ => False
theorem all2_nil {vs : List Value} (h : All2 [] vs) : vs = [] := by
  cases vs with
  | nil => rfl
  | cons v vs => exact absurd h (by simp [All2])
theorem all2_cons {k : Option IntKind} {ks : List (Option IntKind)} {vs : List Value} (h : All2 (k :: ks) vs) : ∃ v r, vs = v :: r ∧ Fits k v ∧ All2 ks r := by
  cases vs with
  | nil => exact absurd h (by simp [All2])
  | cons v vs => exact ⟨v, vs, rfl, h.1, h.2⟩
theorem all2_int {k : IntKind} {ks : List (Option IntKind)} {vs : List Value} (h : All2 (some k :: ks) vs) : ∃ (n : Int) (r : List Value), vs = .int k n :: r ∧ (Lit.int k n).wf = true ∧ All2 ks r := by
  obtain ⟨v, r, rfl, ⟨n, rfl, hn⟩, hr⟩ := all2_cons h
  exact ⟨n, r, rfl, hn, hr⟩
theorem all2_bool {ks : List (Option IntKind)} {vs : List Value} (h : All2 (none :: ks) vs) : ∃ (b : Bool) (r : List Value), vs = .bool b :: r ∧ All2 ks r := by
  obtain ⟨v, r, rfl, ⟨n, rfl⟩, hr⟩ := all2_cons h
  exact ⟨n, r, rfl, hr⟩
theorem all2_append {a b : List (Option IntKind)} {x y : List Value} (h : All2 a x) (k : All2 b y) : All2 (a ++ b) (x ++ y) := by
  induction a generalizing x with
  | nil =>
    have := all2_nil h
    subst this
    exact k
  | cons c a ih =>
    obtain ⟨v, r, rfl, hv, hr⟩ := all2_cons h
    exact ⟨hv, ih hr⟩

/-- The kinds of a struct's cells: its fields lie one behind the other. -/
def kindsF (P : Program) (total : Nat) (g : TypeId → Option (List (Option IntKind))) : List Field → Nat → Option (List (Option IntKind))
  | [], o => if o = total then some [] else none
  | f :: r, o => if f.offset = o then (g f.type).bind fun ks => (kindsF P total g r (o + P.cellsOf f.type)).map fun rest => ks ++ rest else none
/-- The kinds of a type's cells. -/
def kinds (P : Program) : Nat → TypeId → Option (List (Option IntKind))
  | 0, _ => none
  | fuel + 1, t =>
    match P.underlying t with
    | some .bool => some [none]
    | some (.int k) => some [some k]
    | some (.array n e) => if P.cellsOf t = n * P.cellsOf e then (kinds P fuel e).map fun ks => (List.replicate n ks).flatten else none
    | some (.struct fs) => kindsF P (P.cellsOf t) (kinds P fuel) fs.toList 0
    | _ => none

section
variable {H : Type} {enc : TypeId × Value → H} {P : Program} {w : World} {base : Nat} {spare : Nat → Bool} {held : Bool}

theorem take_split {α : Type} (l : List α) (o c : Nat) : l.drop o = (l.drop o).take c ++ l.drop (o + c) := by
  rw [← List.drop_drop, List.take_append_drop]

theorem kindsF_all (total n : Nat) (g : TypeId → Option (List (Option IntKind))) (cs : List Value) (hcs : cs.length = total)
    (ih : ∀ t cs x ks, g t = some ks → DataW.trod enc P w base spare held n t cs = some x → All2 ks cs) :
    ∀ (fs : List Field) (o : Nat) (ks : List (Option IntKind)) (xs : List (DataW H × List MemPlace)), kindsF P total g fs o = some ks → xs.length = fs.length →
      (∀ (i : Nat) (f : Field), fs[i]? = some f → DataW.trod enc P w base spare held n f.type ((cs.drop f.offset).take (P.cellsOf f.type)) = xs[i]?) → All2 ks (cs.drop o) := by
  intro fs
  induction fs with
  | nil =>
    intro o ks xs hk _ _
    unfold kindsF at hk
    split at hk
    · rename_i ho
      cases hk
      rw [List.drop_eq_nil_of_le (by omega)]
      trivial
    · cases hk
  | cons f r ihr =>
    intro o ks xs hk hl hf
    unfold kindsF at hk
    split at hk
    · rename_i ho
      rw [Option.bind_eq_some_iff] at hk
      obtain ⟨k1, hk1, hk2⟩ := hk
      rw [Option.map_eq_some_iff] at hk2
      obtain ⟨k2, hk2, rfl⟩ := hk2
      cases xs with
      | nil => simp at hl
      | cons y ys =>
        have h0 := hf 0 f rfl
        rw [ho] at h0
        rw [take_split cs o (P.cellsOf f.type)]
        exact all2_append (ih _ _ y _ hk1 (by simpa using h0)) (ihr _ _ ys hk2 (by simpa using hl) (fun i f' hf' => by simpa using hf (i + 1) f' (by simpa using hf')))
    · cases hk

theorem kindsA_all (n : Nat) (e : TypeId) (ks : List (Option IntKind)) (ih : ∀ cs x, DataW.trod enc P w base spare held n e cs = some x → All2 ks cs) :
    ∀ (m : Nat) (cs : List Value), cs.length = m * P.cellsOf e → (∀ i, i < m → ∃ x, DataW.trod enc P w base spare held n e ((cs.drop (i * P.cellsOf e)).take (P.cellsOf e)) = some x) → All2 (List.replicate m ks).flatten cs := by
  intro m
  induction m with
  | zero =>
    intro cs hl _
    have : cs = [] := List.eq_nil_of_length_eq_zero (by simpa using hl)
    subst this
    trivial
  | succ m ihm =>
    intro cs hl h
    rw [List.replicate_succ, List.flatten_cons]
    have e1 := take_split cs 0 (P.cellsOf e)
    simp only [List.drop_zero, Nat.zero_add] at e1
    rw [e1]
    obtain ⟨x, hx⟩ := h 0 (by omega)
    simp only [Nat.zero_mul, List.drop_zero] at hx
    refine all2_append (ih _ _ hx) (ihm _ (by rw [List.length_drop, hl, Nat.succ_mul]; omega) fun i hi => ?_)
    obtain ⟨y, hy⟩ := h (i + 1) (by omega)
    refine ⟨y, ?_⟩
    rw [List.drop_drop]
    rw [Nat.succ_mul, Nat.add_comm] at hy
    exact hy

/-- A value of such a type: cell for cell of its kind. -/
theorem kinds_all : ∀ (fuel m : Nat) (t : TypeId) (cs : List Value) (x : DataW H × List MemPlace) (ks : List (Option IntKind)), kinds P fuel t = some ks →
    DataW.trod enc P w base spare held m t cs = some x → All2 ks cs := by
  intro fuel
  induction fuel with
  | zero => intro m t cs x ks hk; simp [kinds] at hk
  | succ fuel ih =>
    intro m t cs x ks hk h
    unfold kinds at hk
    split at hk
    · rename_i hu
      obtain ⟨b, rfl, _⟩ := DataW.trod_bool hu h
      cases hk
      exact ⟨⟨b, rfl⟩, trivial⟩
    · rename_i k hu
      obtain ⟨b, rfl, _, hb⟩ := DataW.trod_int hu h
      cases hk
      exact ⟨⟨b, rfl, hb⟩, trivial⟩
    · rename_i n e hu
      split at hk
      · rename_i hc
        rw [Option.map_eq_some_iff] at hk
        obtain ⟨k1, hk1, rfl⟩ := hk
        obtain ⟨xs, m', rfl, _, hl, hxl, hi⟩ := DataW.trod_array hu h
        refine kindsA_all m' e k1 (fun cs x hx => ih m' e cs x k1 hk1 hx) n cs (by rw [hl, hc]) fun i hin => ?_
        rw [hi i hin]
        exact ⟨xs[i]'(by omega), List.getElem?_eq_getElem (by omega)⟩
      · cases hk
    · rename_i fs hu
      obtain ⟨xs, m', rfl, _, hl, hxl, hi⟩ := DataW.trod_struct hu h
      have := kindsF_all (P.cellsOf t) m' (kinds P fuel) cs hl (fun t cs x ks hks hx => ih m' t cs x ks hks hx) fs.toList 0 ks xs hk (by simpa using hxl) (fun i f hf => hi i f (by simpa using hf))
      simpa using this
    · cases hk

theorem okWide_array {r : Reach} {b0 : Nat} {t e : TypeId} {n : Nat} {v : Value} (ht : P.underlying t = some (.array n e)) (h : Value.okWide P w r b0 t v) : ∃ cs, v = .agg cs ∧ cs.size = P.cellsOf t := by
  simp only [Value.okWide, ht] at h
  obtain ⟨cs, h1, h2, _⟩ := h
  exact ⟨cs, h1, h2⟩

/-- A struct or an array by value. -/
theorem open_flat {r : Reach} {b0 fuel : Nat} {t : TypeId} {v : Value} {d : DataW H} {p : List MemPlace} {ks : List (Option IntKind)}
    (hs : (∃ fs, P.underlying t = some (.struct fs)) ∨ ∃ n e, P.underlying t = some (.array n e)) (hk : kinds P fuel t = some ks)
    (hv : Value.okWide P w r b0 t v) (h : DataW.Trod enc P w base spare held t v d p) : ∃ cs : List Value, v = .agg cs.toArray ∧ All2 ks cs := by
  obtain ⟨m, hf⟩ := h
  have ha := kinds_all fuel m t v.cells.toList _ ks hk hf
  rcases hs with ⟨fs, hu⟩ | ⟨n, e, hu⟩
  · obtain ⟨cs, rfl, _⟩ := okWide_struct hu hv
    exact ⟨cs.toList, by simp, by simpa [Value.cells] using ha⟩
  · obtain ⟨cs, rfl, _⟩ := okWide_array hu hv
    exact ⟨cs.toList, by simp, by simpa [Value.cells] using ha⟩
end

/-! ### A variable that reads as a datum -/
mutual
/-- The cells of a datum made of integers, bools and strings. -/
def flatD {H : Type} : DataW H → List Value
  | .lit (.int k n) => [.int k n]
  | .lit (.bool b) => [.bool b]
  | .lit (.string s) => [.string ⟨s.toArray⟩]
  | .agg l => flatDs l
  | _ => []
def flatDs {H : Type} : List (DataW H) → List Value
  | [] => []
  | d :: r => flatD d ++ flatDs r
end
def flatF (P : Program) (total : Nat) (g : TypeId → Bool) : List Field → Nat → Bool
  | [], o => o == total
  | f :: r, o => f.offset == o && g f.type && flatF P total g r (o + P.cellsOf f.type)
def flatB (P : Program) : Nat → TypeId → Bool
  | 0, _ => false
  | fuel + 1, t =>
    match P.underlying t with
    | some .bool => true
    | some (.int _) => true
    | some .string => true
    | some (.array n e) => P.cellsOf t == n * P.cellsOf e && flatB P fuel e
    | some (.struct fs) => flatF P (P.cellsOf t) (flatB P fuel) fs.toList 0
    | _ => false

section
variable {H : Type} {enc : TypeId × Value → H} {P : Program} {w : World} {base : Nat} {spare : Nat → Bool} {held : Bool}

theorem flatF_all (total n : Nat) (g : TypeId → Bool) (cs : List Value) (hcs : cs.length = total)
    (ih : ∀ t cs x, g t = true → DataW.trod enc P w base spare held n t cs = some x → cs = flatD x.1) :
    ∀ (fs : List Field) (o : Nat) (xs : List (DataW H × List MemPlace)), flatF P total g fs o = true → xs.length = fs.length →
      (∀ (i : Nat) (f : Field), fs[i]? = some f → DataW.trod enc P w base spare held n f.type ((cs.drop f.offset).take (P.cellsOf f.type)) = xs[i]?) → cs.drop o = flatDs (xs.map (·.1)) := by
  intro fs
  induction fs with
  | nil =>
    intro o xs hk hl _
    simp only [flatF, beq_iff_eq] at hk
    have : xs = [] := List.eq_nil_of_length_eq_zero (by simpa using hl)
    subst this
    rw [List.drop_eq_nil_of_le (by omega)]
    rfl
  | cons f r ihr =>
    intro o xs hk hl hf
    simp only [flatF, Bool.and_eq_true, beq_iff_eq] at hk
    obtain ⟨⟨ho, hg⟩, hr⟩ := hk
    cases xs with
    | nil => simp at hl
    | cons y ys =>
      have h0 := hf 0 f rfl
      rw [ho] at h0
      rw [take_split cs o (P.cellsOf f.type)]
      simp only [List.map_cons, flatDs]
      rw [← ih _ _ y hg (by simpa using h0), ← ihr _ ys hr (by simpa using hl) (fun i f' hf' => by simpa using hf (i + 1) f' (by simpa using hf'))]

theorem flatA_all (n : Nat) (e : TypeId) (ih : ∀ cs x, DataW.trod enc P w base spare held n e cs = some x → cs = flatD x.1) :
    ∀ (m : Nat) (cs : List Value) (xs : List (DataW H × List MemPlace)), cs.length = m * P.cellsOf e → xs.length = m →
      (∀ i, i < m → DataW.trod enc P w base spare held n e ((cs.drop (i * P.cellsOf e)).take (P.cellsOf e)) = xs[i]?) → cs = flatDs (xs.map (·.1)) := by
  intro m
  induction m with
  | zero =>
    intro cs xs hl hx _
    have : cs = [] := List.eq_nil_of_length_eq_zero (by simpa using hl)
    subst this
    have : xs = [] := List.eq_nil_of_length_eq_zero hx
    subst this
    rfl
  | succ m ihm =>
    intro cs xs hl hx h
    cases xs with
    | nil => simp at hx
    | cons y ys =>
      have e1 := take_split cs 0 (P.cellsOf e)
      simp only [List.drop_zero, Nat.zero_add] at e1
      have h0 := h 0 (by omega)
      simp only [Nat.zero_mul, List.drop_zero] at h0
      simp only [List.map_cons, flatDs]
      rw [e1, ← ih _ y (by simpa using h0)]
      congr 1
      refine ihm _ ys (by rw [List.length_drop, hl, Nat.succ_mul]; omega) (by simpa using hx) fun i hi => ?_
      have hy := h (i + 1) (by omega)
      rw [List.drop_drop]
      rw [Nat.succ_mul, Nat.add_comm] at hy
      simpa using hy

theorem flat_all : ∀ (fuel m : Nat) (t : TypeId) (cs : List Value) (x : DataW H × List MemPlace), flatB P fuel t = true → DataW.trod enc P w base spare held m t cs = some x → cs = flatD x.1 := by
  intro fuel
  induction fuel with
  | zero => intro m t cs x hk; simp [flatB] at hk
  | succ fuel ih =>
    intro m t cs x hk h
    unfold flatB at hk
    split at hk
    · rename_i hu
      obtain ⟨b, rfl, rfl⟩ := DataW.trod_bool hu h
      rfl
    · rename_i k hu
      obtain ⟨b, rfl, rfl, hb⟩ := DataW.trod_int hu h
      rfl
    · rename_i hu
      obtain ⟨b, rfl, rfl, hb⟩ := DataW.trod_string hu h
      simp [flatD]
    · rename_i n e hu
      simp only [Bool.and_eq_true, beq_iff_eq] at hk
      obtain ⟨xs, m', rfl, rfl, hl, hxl, hi⟩ := DataW.trod_array hu h
      exact flatA_all m' e (fun cs x hx => ih m' e cs x hk.2 hx) n cs xs (by rw [hl, hk.1]) hxl hi
    · rename_i fs hu
      obtain ⟨xs, m', rfl, rfl, hl, hxl, hi⟩ := DataW.trod_struct hu h
      have := flatF_all (P.cellsOf t) m' (flatB P fuel) cs hl (fun t cs x hg hx => ih m' t cs x hg hx) fs.toList 0 xs hk (by simpa using hxl) (fun i f hf => hi i f (by simpa using hf))
      rw [flatD]
      simpa using this
    · cases hk
end
end Go.Proofs.Ytjfnnclbfaakkaa

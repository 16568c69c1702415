/-
  Plain lemmas, of no program: a region that draws its order is walked once for each of its operations, under a condition that says what the operations that are done have left; behind them its forced tail goes as a plain list. Conditions: those of the theorems.
-/
import Derived.StillTail
import Derived.Below
import Derived.Deep.MidRow
namespace Go.Proofs.Ytjfnnclbfaakkaa
open Go.RowKit

/-- J at the normal end, Q elsewhere. -/
def Pass (Q : Exit → Act → World → Prop) (J : Act → World → Prop) : Exit → Act → World → Prop
  | .normal, a, w => J a w
  | e, a, w => Q e a w

section
variable {P : Program} {ops : Array Oper} {md : Region.Mode} {Q : Exit → Act → World → Prop}

theorem letsOut_pass {J : Act → World → Prop} (h : LetsOut (Pass Q J)) : LetsOut Q := by
  obtain ⟨a, w, h⟩ := h
  exact ⟨a, w, h⟩
theorem upon_pass {o : Oper} {a : Act} {J : Act → World → Prop} {r : Result Next} (h : o.upon P a (wpList P ops (Pass Q J) []) (Pass Q J) r) : o.upon P a J Q r := by
  cases r with
  | ok n w' =>
    cases n <;> simp only [Oper.upon] at h ⊢
    case value v => exact h
    case skip => exact h
    case defer d => exact h
    case enter f args =>
      refine Calls.mono h fun e w'' he => ?_
      cases e with
      | returned v => exact he
      | panicked c => exact he
      | outgrown => exact letsOut_pass he
    case row row args => exact Rows.mono h fun u w'' he => he
  | halt x w' => cases x <;> simp only [Oper.upon] at h ⊢ <;> exact h
theorem wpOp_of_list {i : Nat} {o : Oper} {a : Act} {w : World} {J : Act → World → Prop} (ho : ops[i]? = some o) (h : wpList P ops (Pass Q J) [o] a w) : wpOp P ops Q i J a w := by
  unfold wpOp
  simp only [ho]
  unfold wpList at h
  split
  · rename_i hw
    rw [if_pos hw] at h
    exact h.imp upon_pass fun ⟨h1, h2⟩ => ⟨h1, letsOut_pass h2⟩
  · rename_i hw
    rw [if_neg hw] at h
    exact h

/-- Every edge that binds leads back. -/
def acycB (md : Region.Mode) (ops : Array Oper) : Bool := (List.range ops.size).all fun i => ((ops[i]?).map fun o => o.after.all fun e => !Region.binds md e || decide (e.on < i)).getD true
theorem acycB_spec (h : acycB md ops = true) {i : Nat} {o : Oper} (ho : ops[i]? = some o) : ∀ e ∈ o.after, Region.binds md e = true → e.on < i := by
  intro e he hb
  have hi : i < ops.size := (Array.getElem?_eq_some_iff.1 ho).1
  have h1 := List.all_eq_true.1 h i (List.mem_range.2 hi)
  rw [ho] at h1
  simp only [Option.map_some, Option.getD_some] at h1
  have h2 := Array.all_eq_true_iff_forall_mem.1 h1 e he
  simpa [hb] using h2
/-- While one is not done, the least of these may come up. -/
theorem ready_ne (h : acycB md ops = true) {listed : Array Bool} (hs : listed.size = ops.size) : ∀ (i : Nat), i < ops.size → listed.getD i false = false → Region.ready md ops listed ≠ [] := by
  intro i
  induction i using Nat.strongRecOn with
  | _ i ih =>
    intro hi hl h0
    have ho := Array.getElem?_eq_getElem hi
    by_cases hall : ∀ e ∈ (ops[i]).after, Region.binds md e = true → listed.getD e.on false = true
    · have : i ∈ Region.ready md ops listed := mem_ready.2 ⟨getD_in (by omega) hl, _, ho, hall⟩
      rw [h0] at this
      cases this
    · simp only [Classical.not_forall] at hall
      obtain ⟨e, he, hb, hn⟩ := hall
      have hlt := acycB_spec h ho e he hb
      exact ih e.on hlt (by omega) (by simpa using hn) h0

/-- The edges that the walk leans on. -/
def preB (md : Region.Mode) (ops : Array Oper) (n : Nat) (pre : List (List Nat)) : Bool :=
  (List.range n).all fun i => (pre.getD i []).all fun j => Region.waitsFor md ops i j

def firstN (n m : Nat) : Array Bool := (List.replicate n true ++ List.replicate m false).toArray
def invB (md : Region.Mode) (ops : Array Oper) (n : Nat) (pre : List (List Nat)) : Bool :=
  decide (n < ops.size) && Region.sinkB md ops n && Region.chainB md ops n && acycB md ops && preB md ops n pre && Region.seqB md ops (ops.size - n) n (firstN n (ops.size - n))

theorem done_set {listed : Array Bool} {i : Nat} (hi : i < listed.size) : (fun j => (listed.setIfInBounds i true).getD j false = true) = fun j => listed.getD j false = true ∨ j = i := by
  funext j
  apply propext
  by_cases hij : i = j
  · subst hij
    simp [hi]
  · rw [getD_set_ne false hij]
    constructor
    · exact .inl
    · rintro (h | h)
      · exact h
      · exact absurd h.symm hij

theorem first_of {n m : Nat} {listed : Array Bool} (hs : listed.size = n + m) (h1 : ∀ j, j < n → listed.getD j false = true) (h2 : ∀ j, n ≤ j → j < n + m → listed.getD j true = false) : listed = firstN n m := by
  apply Array.ext
  · simp [firstN, hs]
  · intro j hj hj'
    simp only [firstN, List.getElem_toArray]
    rcases Nat.lt_or_ge j n with h | h
    · rw [List.getElem_append_left (by simpa using h)]
      have := h1 j h
      simpa [hj] using this
    · rw [List.getElem_append_right (by simpa using h)]
      have := h2 j h (by omega)
      simpa [hj] using this

theorem count_set {listed : Array Bool} {i : Nat} (hi : i < listed.size) (h : listed.getD i false = false) {n : Nat} (hn : i < n) :
    ((List.range n).filter fun j => !(listed.getD j false)).length = ((List.range n).filter fun j => !((listed.setIfInBounds i true).getD j false)).length + 1 := by
  induction n with
  | zero => omega
  | succ n ih =>
    rw [List.range_succ, List.filter_append, List.filter_append, List.length_append, List.length_append]
    by_cases hin : i < n
    · rw [ih hin]
      have : (listed.setIfInBounds i true).getD n false = listed.getD n false := getD_set_ne false (by omega)
      simp only [List.filter_cons, List.filter_nil, this]
      omega
    · have hin' : i = n := by omega
      subst hin'
      have e : ((List.range i).filter fun j => !(listed.getD j false)) = (List.range i).filter fun j => !((listed.setIfInBounds i true).getD j false) := by
        apply List.filter_congr
        intro j hj
        have := List.mem_range.1 hj
        rw [getD_set_ne false (by omega)]
      rw [e]
      have h3 : (listed.setIfInBounds i true).getD i false = true := by simp [hi]
      simp only [List.filter_cons, List.filter_nil, h, h3]
      simp

variable {l : List Oper}

theorem wpAny_of_inv {n : Nat} {pre : List (List Nat)} {I : (Nat → Prop) → Act → World → Prop} (hB : invB md l.toArray n pre = true)
    (step : ∀ (i : Nat) (o : Oper) (D : Nat → Prop) (a : Act) (w : World), l[i]? = some o → i < n → ¬ D i → (∀ j ∈ pre.getD i [], D j) → I D a w → wpList P l.toArray (Pass Q (I fun j => D j ∨ j = i)) [o] a w)
    (fin : ∀ (D : Nat → Prop) (a : Act) (w : World), (∀ j, j < n → D j) → I D a w → wpList P l.toArray Q (l.drop n) a w) :
    ∀ (f : Nat) (listed : Array Bool) (a : Act) (w : World), HeadInv md l.toArray n listed → ((List.range n).filter fun j => !(listed.getD j false)).length = f → I (fun j => listed.getD j false = true) a w →
      wpAny P md l.toArray Q (f + (l.length - n)) listed a w := by
  simp only [invB, Bool.and_eq_true, decide_eq_true_eq] at hB
  obtain ⟨⟨⟨⟨⟨hn, hs⟩, hc⟩, hac⟩, hpre⟩, hseq⟩ := hB
  have hsz : l.toArray.size = l.length := by simp
  intro f
  induction f with
  | zero =>
    intro listed a w inv hf hI
    have hall : ∀ j, j < n → listed.getD j false = true := by
      intro j hj
      have := List.filter_eq_nil_iff.1 (List.eq_nil_of_length_eq_zero hf) j (List.mem_range.2 hj)
      simpa using this
    have he : listed = firstN n (l.length - n) := first_of (by rw [inv.size]; simp at hn ⊢; omega) hall fun j h1 h2 => inv.tail j h1 (by simp at hn ⊢; omega)
    have hfin := fin _ a w hall hI
    have hdl : (l.drop n).length = l.length - n := by simp
    have := wpAny_of_seq (md := md) (Q' := Q) (l.drop n) n listed a w (fun j => by simp [List.getElem?_drop]) (by rw [hdl, he]; rw [hsz] at hseq; exact hseq) hfin
    rw [hdl] at this
    rw [Nat.zero_add]
    exact this
  | succ f ih =>
    intro listed a w inv hf hI
    have hex : ∃ i, i < n ∧ listed.getD i false = false := by
      have hne : ((List.range n).filter fun j => !(listed.getD j false)) ≠ [] := fun h => by rw [h] at hf; cases hf
      obtain ⟨i, hi⟩ := List.exists_mem_of_ne_nil _ hne
      rw [List.mem_filter, List.mem_range] at hi
      exact ⟨i, hi.1, by simpa using hi.2⟩
    obtain ⟨i0, hi0, hl0⟩ := hex
    rw [show f + 1 + (l.length - n) = (f + (l.length - n)) + 1 by omega]
    refine ⟨fun h0 => absurd h0 (ready_ne hac inv.size i0 (by omega) hl0), fun i hi => ?_⟩
    have hin : i < n := by
      rcases Nat.lt_or_ge i n with h | h
      · exact h
      · exact absurd hi (tail_waits hs hc hn inv _ i0 rfl hi0 (getD_in (by rw [inv.size]; omega) hl0) i h)
    obtain ⟨hun, o, ho, hall⟩ := mem_ready.1 hi
    have hun' := getD_both hun
    have hD : ∀ j ∈ pre.getD i [], listed.getD j false = true := by
      intro j hj
      have h1 := List.all_eq_true.1 (List.all_eq_true.1 hpre i (List.mem_range.2 hin)) j hj
      obtain ⟨o', ho', e, he, hb, hon⟩ := Region.waitsFor_spec h1
      have : o' = o := Option.some.inj (ho'.symm.trans ho)
      subst this
      rw [← hon]
      exact hall e he hb
    have hst := step i o (fun j => listed.getD j false = true) a w (by simpa using ho) hin (by simp only [hun']; exact Bool.false_ne_true) hD hI
    refine wpOp_mono (fun a' w' hI' => ?_) (wpOp_of_list ho hst)
    have hisz : i < listed.size := by rw [inv.size]; omega
    rw [← done_set hisz] at hI'
    refine ih _ a' w' (inv.set hi hin) ?_ hI'
    have := count_set hisz hun' hin
    omega

theorem drew_eq (w : World) : { w with drawn := w.drawn + 1 } = w.drew := rfl

/-- A region that draws its order: one walk an operation, under the condition I, then the tail as a plain list. -/
theorem wp_region_inv {id : Nat} {a : Act} {w : World} (n : Nat) (pre : List (List Nat)) (I : (Nat → Prop) → Act → World → Prop) (hm : P.follows .mixedOrders = true) (hB : invB .any l.toArray n pre = true)
    (h0 : I (fun _ => False) a w.drew)
    (step : ∀ (i : Nat) (o : Oper) (D : Nat → Prop) (a : Act) (w : World), l[i]? = some o → i < n → ¬ D i → (∀ j ∈ pre.getD i [], D j) → I D a w → wpList P l.toArray (Pass Q (I fun j => D j ∨ j = i)) [o] a w)
    (fin : ∀ (D : Nat → Prop) (a : Act) (w : World), (∀ j, j < n → D j) → I D a w → wpList P l.toArray Q (l.drop n) a w) :
    (Code.region id l.toArray true).wp P Q a w := by
  refine wp_region_any hm ?_
  have hn : n < l.length := by
    simp only [invB, Bool.and_eq_true, decide_eq_true_eq] at hB
    simpa using hB.1.1.1.1.1
  have inv0 : HeadInv .any l.toArray n (Array.replicate l.toArray.size false) :=
    ⟨by simp, fun j oj _ hl => (by rw [getD_replicate_false] at hl; cases hl), fun t _ ht => getD_in (by simpa using ht) (getD_replicate_false _ _)⟩
  have e0 : (fun j => (Array.replicate l.toArray.size false).getD j false = true) = fun _ => False := by
    funext j
    rw [getD_replicate_false]
    simp
  have hcount : ((List.range n).filter fun j => !((Array.replicate l.toArray.size false).getD j false)).length = n := by
    rw [List.filter_eq_self.2]
    · simp
    · intro j _
      rw [getD_replicate_false]
      rfl
  have := wpAny_of_inv (md := .any) hB step fin n _ a w.drew inv0 hcount (by rw [e0]; exact h0)
  rw [show n + (l.length - n) = l.toArray.size by simp; omega] at this
  exact this

/-- All of a list are done. -/
def AllD (D : Nat → Prop) : List Nat → Prop
  | [] => True
  | j :: r => D j ∧ AllD D r
theorem allD_of {D : Nat → Prop} : ∀ (l : List Nat), (∀ j ∈ l, D j) → AllD D l
  | [], _ => trivial
  | j :: r, h => ⟨h j (by simp), allD_of r fun k hk => h k (by simp [hk])⟩
/-- Each operation of the head keeps the condition. -/
def Steps (P : Program) (ops : Array Oper) (Q : Exit → Act → World → Prop) (I : (Nat → Prop) → Act → World → Prop) (pre : List (List Nat)) : Nat → List Oper → Prop
  | _, [] => True
  | i, o :: r => (∀ (D : Nat → Prop) (a : Act) (w : World), ¬ D i → AllD D (pre.getD i []) → I D a w → wpList P ops (Pass Q (I fun j => D j ∨ j = i)) [o] a w) ∧ Steps P ops Q I pre (i + 1) r
theorem steps_at {I : (Nat → Prop) → Act → World → Prop} {pre : List (List Nat)} : ∀ (l : List Oper) (k : Nat), Steps P ops Q I pre k l → ∀ (i : Nat) (o : Oper), l[i]? = some o →
    ∀ (D : Nat → Prop) (a : Act) (w : World), ¬ D (k + i) → AllD D (pre.getD (k + i) []) → I D a w → wpList P ops (Pass Q (I fun j => D j ∨ j = k + i)) [o] a w
  | [], _, _, i, o, h => by simp at h
  | o :: r, k, hs, 0, o', h => by
    obtain rfl : o = o' := by simpa using h
    exact hs.1
  | o :: r, k, hs, i + 1, o', h => by
    have := steps_at r (k + 1) hs.2 i o' (by simpa using h)
    rwa [show k + 1 + i = k + (i + 1) by omega] at this
theorem or_keep {D : Nat → Prop} {k i : Nat} {p : Prop} (h : D k → p) (hk : k ≠ i) : D k ∨ k = i → p := fun h' => h (h'.resolve_right hk)
theorem or_keep2 {D : Nat → Prop} {k k' i : Nat} {p : Prop} (h : D k → D k' → p) (hk : k ≠ i) (hk' : k' ≠ i) : D k ∨ k = i → D k' ∨ k' = i → p := fun h1 h2 => h (h1.resolve_right hk) (h2.resolve_right hk')
/-- The same, its steps one by one. -/
theorem wp_region_steps {id : Nat} {a : Act} {w : World} (n : Nat) (pre : List (List Nat)) (I : (Nat → Prop) → Act → World → Prop) (hm : P.follows .mixedOrders = true) (hB : invB .any l.toArray n pre = true)
    (h0 : I (fun _ => False) a w.drew) (step : Steps P l.toArray Q I pre 0 (l.take n))
    (fin : ∀ (D : Nat → Prop) (a : Act) (w : World), (∀ j, j < n → D j) → I D a w → wpList P l.toArray Q (l.drop n) a w) :
    (Code.region id l.toArray true).wp P Q a w :=
  wp_region_inv n pre I hm hB h0 (fun i o D a w ho hi hn hp hI => by
    have := steps_at _ 0 step i o (by rw [List.getElem?_take]; simp [hi, ho]) D a w
    rw [Nat.zero_add] at this
    exact this hn (allD_of _ hp) hI) fin
/-- A variable that the region has made. -/
def Made (B n : Nat) (v : Value) (w : World) : Prop := ∃ b, v = .pointer (some ⟨b, 0, none⟩) ∧ B ≤ b ∧ w.there b 0 n
theorem there_lt {w : World} {b n : Nat} (h : w.there b 0 (n + 1)) : b < w.heap.size := by
  obtain ⟨v, hv⟩ := Option.isSome_iff_exists.1 (h 0 (by omega)).1
  rw [Nat.zero_add] at hv
  rcases Nat.lt_or_ge b w.heap.size with hlt | hge
  · exact hlt
  · unfold World.cell? at hv
    rw [Array.getElem?_eq_none hge] at hv
    cases hv
theorem rangeAt_below {w w' : World} {b o : Nat} {cs : List Value} (hb : Below w.heap.size w w') (hlt : b < w.heap.size) (h : w.rangeAt b o cs) : w'.rangeAt b o cs := fun j v hv => (hb.cell (p := ⟨b, o + j, none⟩) hlt).trans (h j v hv)
theorem Made.below {B n : Nat} {v : Value} {w w' : World} (h : Made B (n + 1) v w) (hb : Below w.heap.size w w') : Made B (n + 1) v w' := by
  obtain ⟨b, rfl, hle, ht⟩ := h
  have hlt := there_lt ht
  refine ⟨b, rfl, hle, fun j hj => ?_⟩
  rw [hb.cell (p := ⟨b, 0 + j, none⟩) hlt, hb.frozen (p := ⟨b, 0 + j, none⟩) hlt]
  exact ht j hj
theorem Made.ne {B n : Nat} {v : Value} {w : World} (h : Made B (n + 1) v w) : v ≠ .pointer (some ⟨w.heap.size, 0, none⟩) := by
  obtain ⟨b, rfl, hle, ht⟩ := h
  have hlt := there_lt ht
  intro e
  have : b = w.heap.size := by injection e with e; injection e with e; injection e
  omega
end
end Go.Proofs.Ytjfnnclbfaakkaa

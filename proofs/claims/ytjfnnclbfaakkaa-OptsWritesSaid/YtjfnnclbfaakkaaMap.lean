/-
  The contract of shapes: a new map of function values. No conditions.
-/
import Derived.Test.YtjfnnclbfaakkaaStamp
import Derived.Test.YtjfnnclbfaakkaaData
import Derived.Maps.OwnSet
namespace Go.Proofs.Ytjfnnclbfaakkaa
open Go.RowKit
set_option linter.unusedVariables false
set_option linter.unusedSimpArgs false

/-- How an element that is a function value reads: by its number; none: -1. -/
def fnElem : Value → Option (DataW Unit × List MemPlace)
  | .func (.func n) x y => if x.size = 0 ∧ y.size = 0 then some (.lit (.int .i64 n), []) else none
  | .nilFunc => some (.lit (.int .i64 (-1)), [])
  | _ => none
theorem fnElem_nil : fnElem .nilFunc = some (.lit (.int .i64 (-1)), []) := rfl
theorem fnElem_mk (n : Nat) : fnElem (.func (.func n) #[] #[]) = some (.lit (.int .i64 n), []) := rfl
theorem fnElem_inv {v : Value} {n : Nat} {ps : List MemPlace} (h : fnElem v = some (.lit (.int .i64 n), ps)) (hn : 0 < n) : v = .func (.func n) #[] #[] := by
  unfold fnElem at h
  split at h
  · split at h
    · rename_i h2
      obtain ⟨h2, h3⟩ := h2
      have h4 := Array.eq_empty_of_size_eq_zero h2
      have h5 := Array.eq_empty_of_size_eq_zero h3
      subst h4 h5
      simp at h
      rw [Int.ofNat_inj.1 h.1]
    · cases h
  · simp at h
  · cases h
theorem ownsMap_below {w w' : World} {P : Program} {k : TypeId} {R : Value → Option (DataW Unit × List MemPlace)} {b n : Nat} {D : DataW Unit} (h : w.ownsMap P k R b n D) (hb : Below w.heap.size w w') : w'.ownsMap P k R b n D := by
  have hlt := h.lt
  obtain ⟨es, clock, h1, h2⟩ := h
  exact ⟨es, clock, (hb.block b hlt).trans h1, h2⟩

theorem fnElem_inv0 {v : Value} {ps : List MemPlace} (h : fnElem v = some (.lit (.int .i64 (-1)), ps)) : v = .nilFunc := by
  unfold fnElem at h
  split at h
  · split at h
    · simp at h
    · cases h
  · rfl
  · cases h

/-- The map of shapes. -/
def shapesD : DataW Unit := (((((DataW.map []).put (.int .u8 7) (.lit (.int .i64 55))).put (.int .u8 131) (.lit (.int .i64 55))).put (.int .u8 137) (.lit (.int .i64 55))).put (.int .u8 148) (.lit (.int .i64 56))).put (.int .u8 68) (.lit (.int .i64 57))

/-- A key's store in a literal of a map. -/
theorem wpList_insert_own {H : Type} {P : Program} (w : World) {ops : Array Oper} {rest : List Oper} {o : Oper} {a : Act} {Q : Exit → Act → World → Prop}
    (hg : o.guard = none) (m x v : Operand) (t : TypeId) (hop : o.op = Op.insert t m x v)
    (k e : TypeId) (K : Go.Maps.Keyed P k) (ht : P.underlying t = some (.map k e)) (R : Value → Option (DataW H × List MemPlace)) (b n : Nat) (D : DataW H)
    (hm : a.eval m = .map (some b)) (hown : w.ownsMap P k R b n D) (hn : n < maxLen) (key val : Value) (kl : Lit) (hx : a.eval x = key) (hv : a.eval v = val) (hkey : keyOf P k key = some kl)
    (d : DataW H) (ps : List MemPlace) (hval : R val = some (d, ps))
    (hK : ∀ w', w'.ownsMap P k R b (n + 1) (D.put kl d) → w.grownBy w' (some b) → wpList P ops Q rest (a.put o.dst undef) w') :
    wpList P ops Q (o :: rest) a w := by
  refine wpList_plain hg fun K' hK' => ?_
  obtain ⟨w', hrun, r1, r2⟩ := hown.update K ht hn hkey hval
  unfold Oper.wp
  simp [execOp, hop, hm, hx, hv, hrun, Result.andThen]
  exact hK' _ _ (hK w' r1 r2)

theorem lt_maxLen {n : Nat} (h : n < 100) : n < maxLen := by
  unfold maxLen
  omega
set_option maxRecDepth 100000 in
theorem shapes_any (w : World) : Calls Try.prog 36 #[] w fun e w' => ∃ b, e = .returned (.map (some b)) ∧ w'.ownsMap Try.prog 5 fnElem b 5 shapesD ∧ Below w.heap.size w w' := by
  have hmm := @run_makeMap Try.prog
  have O := World.ownsMap_made w Try.prog 5 fnElem
  obtain ⟨w0, hw0⟩ : ∃ w0, w.alloc (.map #[] 0) = w0 := ⟨_, rfl⟩
  have hB : Below w.heap.size w w0 := by rw [← hw0]; exact (Below.refl _ _).alloc (Nat.le_refl _) _
  have hz : w.heap.size < w0.heap.size := by rw [← hw0]; simp
  rw [hw0] at O
  go_enter Try.func36, Try.ntmps36
  go_wp2_with (refine wpList_insert_own _ rfl _ _ _ 76 rfl 5 23 (Maps.int_keyed Try.underlying5) Try.underlying76 fnElem w.heap.size _ _ rfl (by assumption) (lt_maxLen (by decide)) _ _ _ rfl rfl (Maps.keyOf_int_mk Try.underlying5 (WalkArith.wf_u8 (by decide))) _ _ (fnElem_mk _) ?_; intro wx hox hgx; replace hB := Below.grown hB hgx hB.size (by intro k hk; cases hk; exact Nat.le_refl _))
  go_ret
  exact ⟨_, rfl, hox, hB⟩


/-- The function value of a kind. -/
def fv (k : Int) : Value := if k = 7 ∨ k = 131 ∨ k = 137 then .func (.func 55) #[] #[] else if k = 148 then .func (.func 56) #[] #[] else if k = 68 then .func (.func 57) #[] #[] else .nilFunc
def isS (k : Int) : Bool := k == 7 || k == 131 || k == 137 || k == 148 || k == 68
def fnum (k : Int) : Int := if k = 7 ∨ k = 131 ∨ k = 137 then 55 else if k = 148 then 56 else if k = 68 then 57 else -1
theorem at_shapes (k : Int) : shapesD.atKey (.int .u8 k) (.lit (.int .i64 (-1))) = .lit (.int .i64 (fnum k)) ∧ Maps.has shapesD (.int .u8 k) = isS k := by
  by_cases h1 : k = 7
  · subst h1; exact ⟨rfl, rfl⟩
  by_cases h2 : k = 131
  · subst h2; exact ⟨rfl, rfl⟩
  by_cases h3 : k = 137
  · subst h3; exact ⟨rfl, rfl⟩
  by_cases h4 : k = 148
  · subst h4; exact ⟨rfl, rfl⟩
  by_cases h5 : k = 68
  · subst h5; exact ⟨rfl, rfl⟩
  have hD : shapesD = .map [(.int .u8 7, .lit (.int .i64 55)), (.int .u8 68, .lit (.int .i64 57)), (.int .u8 131, .lit (.int .i64 55)), (.int .u8 137, .lit (.int .i64 55)), (.int .u8 148, .lit (.int .i64 56))] := rfl
  have e : ∀ c : Int, k ≠ c → (Lit.int .u8 c).sameKey (.int .u8 k) = false := fun c hc => by
    simp [Lit.sameKey]; omega
  rw [hD]
  constructor
  · simp [DataW.atKey, e 7 h1, e 131 h2, e 137 h3, e 148 h4, e 68 h5, fnum, h1, h2, h3, h4, h5]
  · simp [Maps.has, e 7 h1, e 131 h2, e 137 h3, e 148 h4, e 68 h5, isS, h1, h2, h3, h4, h5]
theorem look_shape {w : World} {b n : Nat} (h : w.ownsMap Try.prog 5 fnElem b n shapesD) (k : Int) (h0 : 0 ≤ k) (h1 : k ≤ 255) : (Instr.lookup 76 (.map (some b)) (.int .u8 k) true).run Try.prog w = .ok (.tuple #[fv k, .bool (isS k)]) w := by
  obtain ⟨v, ps, hr, hv⟩ := h.look_ok (Maps.int_keyed Try.underlying5) Try.underlying76 (z := .nilFunc) (by kernel_rfl) fnElem_nil (Maps.keyOf_int_mk Try.underlying5 (a := k) (WalkArith.wf_u8 (by omega)))
  rw [(at_shapes k).1] at hv
  rw [(at_shapes k).2] at hr
  rw [hr]
  have : v = fv k := by
    unfold fnum at hv
    unfold fv
    split at hv
    · rename_i hh
      rw [if_pos hh]
      exact fnElem_inv (n := 55) hv (by decide)
    · rename_i hh
      rw [if_neg hh]
      split at hv
      · rename_i hh
        rw [if_pos hh]
        exact fnElem_inv (n := 56) hv (by decide)
      · rename_i hh
        rw [if_neg hh]
        split at hv
        · rename_i hh
          rw [if_pos hh]
          exact fnElem_inv (n := 57) hv (by decide)
        · rename_i hh
          rw [if_neg hh]
          exact fnElem_inv0 hv
  rw [this]

end Go.Proofs.Ytjfnnclbfaakkaa

/-
  The contracts of package stream's Answer and kinds, and of its four small functions: each call returns what the plain function gives; conditions: the ranges of the arguments, and, for Answer, that the map of answers lies as the program's text lays it.
-/
import Derived.Test.YtjmcpgagbjmfgaaDoorRows
import Derived.WalkKit
import Derived.WalkSpells
import Derived.WalkLawsBesides
import Derived.Laws.EntriesVeiled
import Derived.Deep.QuietTactic
import Derived.BigQuiet
import Derived.Lib.Hide
import Derived.Handy
import Derived.Maps.OwnSet
import Derived.Test.YtjmcpgagbjmfgaaDoorWide
namespace Go.Proofs.YtjmcpgagbjmfgaaDoor
open Go.RowKit
set_option linter.unusedVariables false

/-- The type that answers a type; and whether there is one. -/
def ans (t : Int) : Int := if t = 13 then 14 else if t = 17 then 18 else 0
def isq (t : Int) : Bool := t == 8 || t == 13 || t == 17

/-- The map of answers, as it lies. -/
def answersD : DataW Unit := .map [(.int .u8 8, .lit (.int .u8 0)), (.int .u8 13, .lit (.int .u8 14)), (.int .u8 17, .lit (.int .u8 18))]
structure Ans (w : World) : Prop where
  mem : ∃ b, w.cell? ⟨0, 0, none⟩ = some (.map (some b)) ∧ b < w.heap.size ∧ ∃ n, w.ownsMap Tryd.prog 5 (plainElem Tryd.prog 5) b n answersD

theorem Ans.below {w w' : World} (h : Ans w) (hb : Below w.heap.size w w') : Ans w' := by
  obtain ⟨b, h1, h2, n, es, clock, h3, h4⟩ := h.mem
  exact ⟨b, (hb.cell (p := ⟨0, 0, none⟩) (cell_lt h1)).trans h1, Nat.lt_of_lt_of_le h2 hb.size, n, es, clock, (hb.block b h2).trans h3, h4⟩
theorem Ans.drewN {w : World} (h : Ans w) (n : Nat) : Ans (w.drewN n) := h.below (below_drewN (Below.refl _ _) n)
theorem Ans.drew {w : World} (h : Ans w) : Ans w.drew := h.below (Below.refl _ _).drew
theorem Ans.alloc {w : World} (h : Ans w) (o : Obj) : Ans (w.alloc o) := h.below ((Below.refl _ _).alloc (Nat.le_refl _) o)

theorem at_answers (t : Int) : answersD.atKey (.int .u8 t) (.lit (.int .u8 0)) = .lit (.int .u8 (ans t)) ∧ Maps.has answersD (.int .u8 t) = isq t := by
  by_cases h8 : t = 8
  · subst h8; exact ⟨rfl, rfl⟩
  by_cases h13 : t = 13
  · subst h13; exact ⟨rfl, rfl⟩
  by_cases h17 : t = 17
  · subst h17; exact ⟨rfl, rfl⟩
  have e : ∀ c : Int, t ≠ c → (Lit.int .u8 c).sameKey (.int .u8 t) = false := fun c hc => by
    simp [Lit.sameKey]; omega
  constructor
  · simp [answersD, DataW.atKey, e 8 h8, e 13 h13, e 17 h17, ans, h13, h17]
  · simp [answersD, Maps.has, e 8 h8, e 13 h13, e 17 h17, isq, h8, h13, h17]

theorem Ans.look {w : World} (h : Ans w) (t : Int) (ht : 0 ≤ t) (ht1 : t ≤ 255) : ∃ b, w.cell? ⟨0, 0, none⟩ = some (.map (some b)) ∧ (Instr.lookup 69 (.map (some b)) (.int .u8 t) true).run Tryd.prog w = .ok (.tuple #[.int .u8 (ans t), .bool (isq t)]) w := by
  obtain ⟨b, h1, h2, n, h3⟩ := h.mem
  obtain ⟨v, ps, hr, hv⟩ := h3.look_ok (Maps.int_keyed Tryd.underlying5) Tryd.underlying69 (z := .int .u8 0) (by kernel_rfl) (plainElem_int Tryd.underlying5 (by decide)) (Maps.keyOf_int_mk Tryd.underlying5 (a := t) (WalkArith.wf_u8 (by omega)))
  rw [(at_answers t).1] at hv
  rw [(at_answers t).2] at hr
  obtain ⟨c, rfl, hc, _⟩ := plainElem_int_inv Tryd.underlying5 hv
  simp at hc
  obtain ⟨rfl, _⟩ := hc
  exact ⟨b, h1, hr⟩

theorem answer_any (t : Int) (w : World) (ht : 0 ≤ t) (ht1 : t ≤ 255) (h : Ans w) :
    Calls Tryd.prog 15 #[.int .u8 t] w fun e w' => e = .returned (.tuple #[.int .u8 (ans t), .bool (isq t)]) ∧ w = w' := by
  obtain ⟨b, h1, h2⟩ := h.look t ht ht1
  clear h
  go_enter Tryd.func15, Tryd.ntmps15
  go_wp2
  go_ret2
  exact ⟨rfl, rfl⟩

/-- What a packet says, to this package. -/
structure Fa (F : Array Value) (kind typ : Int) : Prop where
  size : F.size = 19
  ckind : F[5]? = some (.int .u8 kind)
  ctype : F[7]? = some (.int .u8 typ)
  bk : 0 ≤ kind ∧ kind ≤ 255
  bt : 0 ≤ typ ∧ typ ≤ 255

theorem kinds1_any (F : Array Value) (w : World) : Calls Tryd.prog 25 #[.agg F] w fun e w' => e = .returned (.bool true) ∧ w.alloc (.cells F 29) = w' := by
  go_enter Tryd.func25, Tryd.ntmps25
  go_wp2
  go_ret
  exact ⟨rfl, rfl⟩

theorem kinds2_any (F : Array Value) (k s t d kind typ : Int) (w : World) (h : Fa F kind typ) : Calls Tryd.prog 26 #[.agg #[.int .u8 k, .int .u8 s, .int .u8 t], .int .u8 d, .agg F] w fun e w' => e = .returned (.bool (kind == 2)) ∧ (w.alloc (.cells #[.int .u8 k, .int .u8 s, .int .u8 t] 23)).alloc (.cells F 29) = w' := by
  have f1 := h.ckind
  clear h
  go_enter Tryd.func26, Tryd.ntmps26
  go_wp2
  go_ret
  exact ⟨rfl, rfl⟩

theorem kinds3_any (F : Array Value) (kind typ : Int) (w : World) (h : Fa F kind typ) (hA : Ans w) : Calls Tryd.prog 27 #[.agg F] w fun e w' => e = .returned (.bool (isq typ)) ∧ w.alloc (.cells F 29) = w' := by
  have f1 := h.ctype
  have f2 := h.bt
  obtain ⟨f3, f4⟩ := f2
  clear h
  go_enter Tryd.func27, Tryd.ntmps27
  go_wp2_with fail
  refine (answer_any typ _ f3 f4 (hA.alloc _)).mono ?_
  rintro e w' ⟨rfl, rfl⟩
  go_wp2_with fail
  go_ret
  exact ⟨rfl, rfl⟩

/-- What is allowed in a flow of queries. -/
def allowsQ (t d kind typ : Int) : Bool := if d = 0 then kind == 3 && typ == t else kind == 4 && typ == ans t

set_option maxHeartbeats 400000 in
theorem kinds4_any (F : Array Value) (k s t d kind typ : Int) (w : World) (h : Fa F kind typ) (hA : Ans w) (ht : 0 ≤ t) (ht1 : t ≤ 255) : Calls Tryd.prog 28 #[.agg #[.int .u8 k, .int .u8 s, .int .u8 t], .int .u8 d, .agg F] w fun e w' => e = .returned (.bool (allowsQ t d kind typ)) ∧ (w.alloc (.cells #[.int .u8 k, .int .u8 s, .int .u8 t] 23)).alloc (.cells F 29) = w' := by
  have f1 := h.ctype
  have f2 := h.ckind
  clear h
  by_cases hd : d = 0
  · subst hd
    have e : allowsQ t 0 kind typ = (kind == 3 && typ == t) := by simp [allowsQ]
    rw [e]
    clear e
    cases hk : kind == 3
    all_goals
      go_enter Tryd.func28, Tryd.ntmps28
      go_wp2_with fail
      go_ret
      exact ⟨by simp, rfl⟩
  · have e : allowsQ t d kind typ = (kind == 4 && typ == ans t) := by simp [allowsQ, hd]
    rw [e]
    clear e
    have hd0 : (d == 0) = false := by simpa using hd
    clear hd
    cases hk : kind == 4
    all_goals
      go_enter Tryd.func28, Tryd.ntmps28
      go_wp2_with fail
      refine (answer_any t _ ht ht1 ((hA.alloc _).alloc _)).mono ?_
      rintro e w' ⟨rfl, rfl⟩
      go_wp2_with fail
      go_ret
      exact ⟨by simp, rfl⟩

theorem kindsF_any (n : Int) (w : World) (h2 : (n == 2) = false) (h3 : (n == 3) = false) : Calls Tryd.prog 24 #[.int .u8 n] w fun e w' => e = .returned (.tuple #[.agg #[.nilFunc, .nilFunc], .bool false]) ∧ w.alloc (.cells #[.nilFunc, .nilFunc] 66) = w' := by
  go_enter Tryd.func24, Tryd.ntmps24
  go_wp2_with fail
  exact bodyPost_ret (v := .tuple #[.agg #[.nilFunc, .nilFunc], .bool false]) (by simp [results, Tryd.results24, go_sem]) rfl ⟨rfl, rfl⟩
theorem kindsU_any (w : World) : Calls Tryd.prog 24 #[.int .u8 2] w fun e w' => e = .returned (.tuple #[.agg #[.func (.func 25) #[] #[], .func (.func 26) #[] #[]], .bool true]) ∧ w.alloc (.cells #[.func (.func 25) #[] #[], .func (.func 26) #[] #[]] 66) = w' := by
  go_enter Tryd.func24, Tryd.ntmps24
  go_wp2_with fail
  exact bodyPost_ret (v := .tuple #[.agg #[.func (.func 25) #[] #[], .func (.func 26) #[] #[]], .bool true]) (by simp [results, Tryd.results24, go_sem]) rfl ⟨rfl, rfl⟩
theorem kindsQ_any (w : World) : Calls Tryd.prog 24 #[.int .u8 3] w fun e w' => e = .returned (.tuple #[.agg #[.func (.func 27) #[] #[], .func (.func 28) #[] #[]], .bool true]) ∧ w.alloc (.cells #[.func (.func 27) #[] #[], .func (.func 28) #[] #[]] 66) = w' := by
  go_enter Tryd.func24, Tryd.ntmps24
  go_wp2_with fail
  exact bodyPost_ret (v := .tuple #[.agg #[.func (.func 27) #[] #[], .func (.func 28) #[] #[]], .bool true]) (by simp [results, Tryd.results24, go_sem]) rfl ⟨rfl, rfl⟩

/-- May a packet open a flow? Which one? -/
def opens (kind typ : Int) : Bool := kind == 2 || kind == 3 && isq typ
def typOf (kind typ : Int) : Int := if kind = 3 then typ else 0

/-- A flow's cells. -/
def fl (k s t : Int) : Value := .agg #[.int .u8 k, .int .u8 s, .int .u8 t]

theorem info29 : (Tryd.prog.info? 29).map (·.size) = some 19 := by kernel_rfl

end Go.Proofs.YtjmcpgagbjmfgaaDoor

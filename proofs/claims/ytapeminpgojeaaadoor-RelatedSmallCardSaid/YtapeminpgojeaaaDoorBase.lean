/-
  The contracts of package related's Kind, Heard and Lookup, of package addr's Turn and of package stream's Answer: each call returns what the plain function gives; conditions: the ranges of the arguments, and that the two package maps lie as the program's text lays them.
-/
import Derived.Test.YtapeminpgojeaaaDoorRows
import Derived.WalkKit
import Derived.WalkSpells
import Derived.WalkLawsBesides
import Derived.Laws.EntriesVeiled
import Derived.Deep.QuietTactic
import Derived.BigQuiet
import Derived.Lib.Hide
import Derived.Handy
import Derived.Maps.OwnSet
import Derived.Test.YtapeminpgojeaaaDoorWide
namespace Go.Proofs.YtapeminpgojeaaaDoor
open Go.RowKit
set_option linter.unusedVariables false

/-! ### The two maps -/
def ans (t : Int) : Int := if t = 13 then 14 else if t = 17 then 18 else 0
def isq (t : Int) : Bool := t == 8 || t == 13 || t == 17
/-- The kinds of a protocol's packets, in both directions. -/
def ko (p : Int) : Int := if p = 1 then 3 else if p = 6 then 1 else if p = 17 then 2 else 0
def kr (p : Int) : Int := if p = 1 then 4 else if p = 6 then 1 else if p = 17 then 2 else 0
def known (p : Int) : Bool := p == 1 || p == 6 || p == 17

def answersD : DataW Unit := .map [(.int .u8 8, .lit (.int .u8 0)), (.int .u8 13, .lit (.int .u8 14)), (.int .u8 17, .lit (.int .u8 18))]
def kindsD : DataW Unit := .map [(.int .u8 1, .agg [.lit (.int .u8 3), .lit (.int .u8 4)]), (.int .u8 6, .agg [.lit (.int .u8 1), .lit (.int .u8 1)]), (.int .u8 17, .agg [.lit (.int .u8 2), .lit (.int .u8 2)])]
/-- How an array of two bytes reads. -/
def twoRead (v : Value) : Option (DataW Unit × List MemPlace) :=
  match v with
  | .agg cs => match cs.toList with
    | [.int .u8 a, .int .u8 b] => some (.agg [.lit (.int .u8 a), .lit (.int .u8 b)], [])
    | _ => none
  | _ => none
theorem twoRead_inv {v : Value} {a b : Int} {ps : List MemPlace} (h : twoRead v = some (.agg [.lit (.int .u8 a), .lit (.int .u8 b)], ps)) : v = .agg #[.int .u8 a, .int .u8 b] := by
  unfold twoRead at h
  split at h
  · rename_i cs
    split at h
    · rename_i x y hc
      simp at h
      obtain ⟨⟨rfl, rfl⟩, _⟩ := h
      cases cs
      simp at hc
      rw [hc]
    · cases h
  · cases h

structure Tabs (w : World) : Prop where
  kin : ∃ b, w.cell? ⟨0, 0, none⟩ = some (.map (some b)) ∧ b < w.heap.size ∧ ∃ n, w.ownsMap Tryd.prog 5 twoRead b n kindsD
  ans : ∃ b, w.cell? ⟨1, 0, none⟩ = some (.map (some b)) ∧ b < w.heap.size ∧ ∃ n, w.ownsMap Tryd.prog 5 (plainElem Tryd.prog 5) b n answersD

theorem Tabs.below {w w' : World} (h : Tabs w) (hb : Below w.heap.size w w') : Tabs w' := by
  obtain ⟨⟨b, h1, h2, n, es, clock, h3, h4⟩, ⟨b', h1', h2', n', es', clock', h3', h4'⟩⟩ := h
  exact ⟨⟨b, (hb.cell (p := ⟨0, 0, none⟩) (cell_lt h1)).trans h1, Nat.lt_of_lt_of_le h2 hb.size, n, es, clock, (hb.block b h2).trans h3, h4⟩,
    ⟨b', (hb.cell (p := ⟨1, 0, none⟩) (cell_lt h1')).trans h1', Nat.lt_of_lt_of_le h2' hb.size, n', es', clock', (hb.block b' h2').trans h3', h4'⟩⟩
/-- .. where all that lay below n₀ lies, and the maps lay there. -/
theorem Tabs.alloc {w : World} (h : Tabs w) (o : Obj) : Tabs (w.alloc o) := h.below ((Below.refl _ _).alloc (Nat.le_refl _) o)
theorem Tabs.drew {w : World} (h : Tabs w) : Tabs w.drew := h.below (Below.refl _ _).drew
theorem Tabs.drewN {w : World} (h : Tabs w) (n : Nat) : Tabs (w.drewN n) := h.below (below_drewN (Below.refl _ _) n)

theorem at_answers (t : Int) : answersD.atKey (.int .u8 t) (.lit (.int .u8 0)) = .lit (.int .u8 (ans t)) ∧ Maps.has answersD (.int .u8 t) = isq t := by
  by_cases h8 : t = 8
  · subst h8; exact ⟨rfl, rfl⟩
  by_cases h13 : t = 13
  · subst h13; exact ⟨rfl, rfl⟩
  by_cases h17 : t = 17
  · subst h17; exact ⟨rfl, rfl⟩
  have e : ∀ c : Int, t ≠ c → (Lit.int .u8 c).sameKey (.int .u8 t) = false := fun c hc => by
    simp [Lit.sameKey]; omega
  constructor
  · simp [answersD, DataW.atKey, e 8 h8, e 13 h13, e 17 h17, ans, h13, h17]
  · simp [answersD, Maps.has, e 8 h8, e 13 h13, e 17 h17, isq, h8, h13, h17]
theorem at_kinds (t : Int) : kindsD.atKey (.int .u8 t) (.agg [.lit (.int .u8 0), .lit (.int .u8 0)]) = .agg [.lit (.int .u8 (ko t)), .lit (.int .u8 (kr t))] ∧ Maps.has kindsD (.int .u8 t) = known t := by
  by_cases h1 : t = 1
  · subst h1; exact ⟨rfl, rfl⟩
  by_cases h6 : t = 6
  · subst h6; exact ⟨rfl, rfl⟩
  by_cases h17 : t = 17
  · subst h17; exact ⟨rfl, rfl⟩
  have e : ∀ c : Int, t ≠ c → (Lit.int .u8 c).sameKey (.int .u8 t) = false := fun c hc => by
    simp [Lit.sameKey]; omega
  constructor
  · simp [kindsD, DataW.atKey, e 1 h1, e 6 h6, e 17 h17, ko, kr, h1, h6, h17]
  · simp [kindsD, Maps.has, e 1 h1, e 6 h6, e 17 h17, known, h1, h6, h17]

theorem Tabs.look {w : World} (h : Tabs w) (t : Int) (ht : 0 ≤ t ∧ t ≤ 255) : ∃ b, w.cell? ⟨1, 0, none⟩ = some (.map (some b)) ∧ (Instr.lookup 70 (.map (some b)) (.int .u8 t) true).run Tryd.prog w = .ok (.tuple #[.int .u8 (Go.Proofs.YtapeminpgojeaaaDoor.ans t), .bool (isq t)]) w := by
  obtain ⟨b, h1, h2, n, h3⟩ := h.ans
  obtain ⟨v, ps, hr, hv⟩ := h3.look_ok (Maps.int_keyed Tryd.underlying5) Tryd.underlying70 (z := .int .u8 0) (by kernel_rfl) (plainElem_int Tryd.underlying5 (by decide)) (Maps.keyOf_int_mk Tryd.underlying5 (a := t) (WalkArith.wf_u8 (by omega)))
  rw [(at_answers t).1] at hv
  rw [(at_answers t).2] at hr
  obtain ⟨c, rfl, hc, _⟩ := plainElem_int_inv Tryd.underlying5 hv
  simp at hc
  obtain ⟨rfl, _⟩ := hc
  exact ⟨b, h1, hr⟩
theorem Tabs.kinds {w : World} (h : Tabs w) (t : Int) (ht : 0 ≤ t ∧ t ≤ 255) : ∃ b, w.cell? ⟨0, 0, none⟩ = some (.map (some b)) ∧ ∀ W, Below w.heap.size w W → (Instr.lookup 65 (.map (some b)) (.int .u8 t) true).run Tryd.prog W = .ok (.tuple #[.agg #[.int .u8 (ko t), .int .u8 (kr t)], .bool (known t)]) W := by
  obtain ⟨b, h1, h2, n, h3⟩ := h.kin
  refine ⟨b, h1, fun W hW => ?_⟩
  have h3' : W.ownsMap Tryd.prog 5 twoRead b n kindsD := by
    obtain ⟨es, clock, g1, g2⟩ := h3
    exact ⟨es, clock, (hW.block b h2).trans g1, g2⟩
  obtain ⟨v, ps, hr, hv⟩ := h3'.look_ok (Maps.int_keyed Tryd.underlying5) Tryd.underlying65 (z := .agg #[.int .u8 0, .int .u8 0]) (by kernel_rfl) (zd := .agg [.lit (.int .u8 0), .lit (.int .u8 0)]) (zp := []) rfl (Maps.keyOf_int_mk Tryd.underlying5 (a := t) (WalkArith.wf_u8 (by omega)))
  rw [(at_kinds t).1] at hv
  rw [(at_kinds t).2] at hr
  obtain rfl := twoRead_inv hv
  exact hr

theorem answer_any (t : Int) (w : World) (ht : 0 ≤ t ∧ t ≤ 255) (h : Tabs w) :
    Calls Tryd.prog 27 #[.int .u8 t] w fun e w' => e = .returned (.tuple #[.int .u8 (ans t), .bool (isq t)]) ∧ w = w' := by
  obtain ⟨b, h1, h2⟩ := h.look t ht
  clear h
  go_enter Tryd.func27, Tryd.ntmps27
  go_wp2
  go_ret2
  exact ⟨rfl, rfl⟩

/-- Errors of a type are heard. -/
def hrd (t : Int) : Bool := t == 3 || t == 11 || t == 12
theorem heard_any (t : Int) (w : World) (ht : 0 ≤ t ∧ t ≤ 255) (h : Tabs w) :
    Calls Tryd.prog 19 #[.int .u8 t] w fun e w' => e = .returned (.bool (hrd t)) ∧ w = w' := by
  have HA := Lib.hid (answer_any t w ht h)
  have hq : isq t = true → hrd t = false := by
    intro hq
    simp [isq] at hq
    rcases hq with (rfl | rfl) | rfl <;> rfl
  unfold hrd at *
  generalize isq t = q at *
  clear h ht
  cases q
  · clear hq
    cases h3 : t == 3
    · cases h11 : t == 11
      · cases h12 : t == 12
        all_goals
          go_enter Tryd.func19, Tryd.ntmps19
          go_wp2_with fail
          refine HA.out.mono ?_
          rintro e w' ⟨rfl, rfl⟩
          go_wp2_with fail
          go_ret
          exact ⟨rfl, rfl⟩
      · go_enter Tryd.func19, Tryd.ntmps19
        go_wp2_with fail
        refine HA.out.mono ?_
        rintro e w' ⟨rfl, rfl⟩
        go_wp2_with fail
        go_ret
        exact ⟨rfl, rfl⟩
    · go_enter Tryd.func19, Tryd.ntmps19
      go_wp2_with fail
      refine HA.out.mono ?_
      rintro e w' ⟨rfl, rfl⟩
      go_wp2_with fail
      go_ret
      exact ⟨rfl, rfl⟩
  · rw [hq rfl]
    clear hq
    go_enter Tryd.func19, Tryd.ntmps19
    go_wp2_with fail
    refine HA.out.mono ?_
    rintro e w' ⟨rfl, rfl⟩
    go_wp2_with fail
    go_ret
    exact ⟨rfl, rfl⟩

theorem turn_any (p s d sp dp : Int) (w : World) :
    Calls Tryd.prog 17 #[.agg #[.int .u8 p, .int .u32 s, .int .u32 d, .int .u16 sp, .int .u16 dp]] w fun e w' => e = .returned (.agg #[.int .u8 p, .int .u32 d, .int .u32 s, .int .u16 dp, .int .u16 sp]) ∧ (w.alloc (.cells #[.int .u8 p, .int .u32 d, .int .u32 s, .int .u16 dp, .int .u16 sp] 25)).alloc (.cells #[.int .u8 p, .int .u32 d, .int .u32 s, .int .u16 dp, .int .u16 sp] 25) = w' := by
  go_enter Tryd.func17, Tryd.ntmps17
  go_wp2
  exact bodyPost_ret (v := .agg #[.int .u8 p, .int .u32 d, .int .u32 s, .int .u16 dp, .int .u16 sp]) (by simp [results, Tryd.results17, go_sem]) rfl ⟨rfl, rfl⟩

/-- The kind in a direction; whether there is one. -/
def kd (p d : Int) : Int := if d = 0 then ko p else if d = 1 then kr p else 0
def kok (p d : Int) : Bool := known p && decide (d ≤ 1)
theorem not_known {p : Int} (h : known p = false) : ko p = 0 ∧ kr p = 0 := by
  simp [known] at h
  simp [ko, kr, h]

theorem kind_any (p s d sp dp dir : Int) (w : World) (hp : 0 ≤ p ∧ p ≤ 255) (hd : 0 ≤ dir ∧ dir ≤ 255) (h : Tabs w) :
    Calls Tryd.prog 18 #[.agg #[.int .u8 p, .int .u32 s, .int .u32 d, .int .u16 sp, .int .u16 dp], .int .u8 dir] w fun e w' => e = .returned (.tuple #[.int .u8 (kd p dir), .bool (kok p dir)]) ∧
      (w.alloc (.cells #[.int .u8 p, .int .u32 s, .int .u32 d, .int .u16 sp, .int .u16 dp] 25)).alloc (.cells #[.int .u8 (ko p), .int .u8 (kr p)] 63) = w' := by
  obtain ⟨b, h1, h2⟩ := h.kinds p hp
  have hz := cell_lt h1
  have hl := fun o : Obj => h2 (w.alloc o) ((Below.refl _ _).alloc (Nat.le_refl _) o)
  clear h h2
  have hnk := @not_known p
  unfold kd kok
  generalize known p = k at *
  generalize ko p = x at *
  generalize kr p = y at *
  by_cases h0 : dir = 0
  · subst h0
    cases k
    · obtain ⟨rfl, rfl⟩ := hnk rfl
      clear hnk
      go_enter Tryd.func18, Tryd.ntmps18
      go_wp2
      go_ret2
      exact ⟨rfl, rfl⟩
    · clear hnk
      go_enter Tryd.func18, Tryd.ntmps18
      go_wp2
      go_ret2
      exact ⟨rfl, rfl⟩
  · by_cases h1 : dir = 1
    · subst h1
      cases k
      · obtain ⟨rfl, rfl⟩ := hnk rfl
        clear hnk
        go_enter Tryd.func18, Tryd.ntmps18
        go_wp2
        go_ret2
        exact ⟨rfl, rfl⟩
      · clear hnk
        go_enter Tryd.func18, Tryd.ntmps18
        go_wp2
        go_ret2
        exact ⟨rfl, rfl⟩
    · have h2 : 1 < dir := by omega
      have e1 : (if dir = 0 then x else if dir = 1 then y else 0) = 0 := by rw [if_neg h0, if_neg h1]
      have e2 : (k && decide (dir ≤ 1)) = false := by rw [decide_eq_false (by omega), Bool.and_false]
      rw [e1, e2]
      clear e1 e2 hnk h0 h1
      cases k
      all_goals
        go_enter Tryd.func18, Tryd.ntmps18
        go_wp2
        go_ret2
        exact ⟨rfl, rfl⟩

end Go.Proofs.YtapeminpgojeaaaDoor

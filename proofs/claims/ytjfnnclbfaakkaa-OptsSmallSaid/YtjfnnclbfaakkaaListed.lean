/-
  The contract of package opts' listed; a general structure for drawn regions; a row of bytes that is written. Conditions: the option lies.
-/
import Derived.Test.YtjfnnclbfaakkaaWSpec
import Derived.Test.YtjfnnclbfaakkaaPre
import Derived.Deep.DeepCutAuto
namespace Go.Proofs.Ytjfnnclbfaakkaa
open Go.RowKit
set_option linter.unusedVariables false
set_option linter.unusedSimpArgs false

/-- What the done operations of a region have left: of operation i's value P i says what it is. -/
structure Iq (w1 : World) (P : Nat → Value → World → Prop) (D : Nat → Prop) (g : Nat → Value) (w' : World) : Prop where
  b : Below w1.heap.size w1 w'
  e : ∀ i, D i → P i (g i) w'
theorem Iq.zero (w1 : World) (P : Nat → Value → World → Prop) (g : Nat → Value) : Iq w1 P (fun _ => False) g w1.drew := ⟨(Below.refl _ _).drew, fun _ h => h.elim⟩
theorem Iq.upd {w1 w' w'' : World} {P : Nat → Value → World → Prop} {g : Nat → Value} {D : Nat → Prop} (hP : ∀ i v X Y, P i v X → Below X.heap.size X Y → P i v Y) (h : Iq w1 P D g w') (i : Nat) (x : Value) (hb : Below w'.heap.size w' w'') (hx : P i x w'') : Iq w1 P (fun j => D j ∨ j = i) (fun j => if j = i then x else g j) w'' := by
  refine ⟨bthen h.b hb, fun j hj => ?_⟩
  show P j (if j = i then x else g j) w''
  by_cases hji : j = i
  · rw [if_pos hji, hji]
    exact hx
  · rw [if_neg hji]
    exact hP _ _ _ _ (h.e j (hj.resolve_right hji)) hb

/-- Is an option right, and has it addresses? -/
def listedS (o : Op1) : Bool := grp o.1 % 2 == 1 && rightS o
theorem listed_any (k : Int) (d : List Int) (A : Option Addr) (c : Nat) (w : World) (hk : 0 ≤ k ∧ k ≤ 255) (hd : By w A d) (hn : d.length < 2 ^ 62) :
    Calls Try.prog 42 #[.agg #[.int .u8 k, .slice A d.length c]] w fun e w' => e = .returned (.bool (listedS (k, d))) ∧ Below w.heap.size w w' := by
  have hb : Below w.heap.size w (w.alloc (Obj.cells #[.int .u8 k, .slice A d.length c] 36)) := (Below.refl _ _).alloc (Nat.le_refl _) _
  have HB := Lib.hid hb
  have HD := Lib.hid hd
  obtain ⟨r, hr⟩ : ∃ r, listedS (k, d) = r := ⟨_, rfl⟩
  rw [hr]
  have HR := Lib.hid hr
  clear hb hd hr
  go_enter Try.func42, Try.ntmps42
  go_wp2_with fail
  refine (group_any k _).mono ?_
  rintro e V' ⟨rfl, hVV⟩
  rw [hVV]
  clear hVV
  have no : (hg : grp k % 2 = 0) → r = false := fun hg => by rw [← HR.out]; simp [listedS, hg]
  have yes : (hg : grp k % 2 = 1) → r = rightS (k, d) := fun hg => by rw [← HR.out]; simp [listedS, hg]
  rcases grp_cases k with hg | hg | hg | hg
  · have h := no (by rw [hg]; rfl)
    subst h
    rw [hg]
    clear hg no yes HR
    go_wp2_with fail
    go_ret
    exact ⟨rfl, HB.out⟩
  · have h := yes (by rw [hg]; rfl)
    subst h
    rw [hg]
    clear hg no yes HR
    go_wp2_with fail
    refine (right_any k d A c _ hk (HD.out.below HB.out) hn).mono ?_
    rintro e w' ⟨rfl, hb⟩
    have H2 := Lib.hid (bthen HB.out hb)
    clear hb
    go_wp2_with fail
    go_ret
    exact ⟨rfl, H2.out⟩
  · have h := no (by rw [hg]; rfl)
    subst h
    rw [hg]
    clear hg no yes HR
    go_wp2_with fail
    go_ret
    exact ⟨rfl, HB.out⟩
  · have h := yes (by rw [hg]; rfl)
    subst h
    rw [hg]
    clear hg no yes HR
    go_wp2_with fail
    refine (right_any k d A c _ hk (HD.out.below HB.out) hn).mono ?_
    rintro e w' ⟨rfl, hb⟩
    have H2 := Lib.hid (bthen HB.out hb)
    clear hb
    go_wp2_with fail
    go_ret
    exact ⟨rfl, H2.out⟩

/-- A byte of an own row is written. -/
theorem own_set {w : World} {base g n cap : Nat} {d : List Int} (h : w.ownsRow base 5 1 (.slice (some ⟨g, 0, none⟩) n cap) n (d.map (Value.int .u8))) {j : Nat} (hj : j < n) (x : Int) :
    (w.setCell ⟨g, j, none⟩ (.int .u8 x)).ownsRow base 5 1 (.slice (some ⟨g, 0, none⟩) n cap) n ((d.set j x).map (Value.int .u8)) := by
  obtain ⟨hl, (⟨h1, _⟩ | ⟨g', cap', cur, h0, h1, h2, h3, h4, h5, h6⟩)⟩ := h
  · cases h1
  · cases h0
    refine ⟨by simpa using hl, .inr ⟨g, cap, cur.setIfInBounds j (.int .u8 x), rfl, h1, blk_set h2 j _, h3, h4, by simpa using h5, ?_⟩⟩
    rw [Array.toList_setIfInBounds, List.take_set, h6, List.map_set]

end Go.Proofs.Ytjfnnclbfaakkaa

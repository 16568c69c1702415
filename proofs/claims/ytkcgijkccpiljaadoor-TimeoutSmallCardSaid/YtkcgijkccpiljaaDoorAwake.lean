/-
  The names of classes as they lie in the package's variable; the contracts of timeout.Name and of the laws' own 'awake' (the examples of the chapter): it returns true, and writes nothing that was there.
-/
import Derived.Test.YtkcgijkccpiljaaDoorMath
import Derived.ProofKit
import Derived.LaidMore
import Derived.MakeChecks
namespace Go.Proofs.YtkcgijkccpiljaaDoor
open Go.ChangeShapes Go.WideShapes Go.ChangeAt Go.RowKit
set_option linter.unusedVariables false

def nam : List ByteArray := [⟨#[116, 99, 112, 45, 111, 112, 101, 110, 105, 110, 103]⟩, ⟨#[116, 99, 112, 45, 111, 112, 101, 110]⟩, ⟨#[116, 99, 112, 45, 99, 108, 111, 115, 105, 110, 103]⟩, ⟨#[116, 99, 112, 45, 119, 97, 105, 116]⟩, ⟨#[116, 99, 112, 45, 114, 101, 115, 101, 116]⟩, ⟨#[117, 100, 112, 45, 111, 110, 101]⟩, ⟨#[117, 100, 112, 45, 98, 111, 116, 104]⟩, ⟨#[113, 117, 101, 114, 121, 45, 111, 110, 101]⟩, ⟨#[113, 117, 101, 114, 121, 45, 98, 111, 116, 104]⟩]
def nm (i : Nat) : ByteArray := nam.getD i ByteArray.empty
structure Tab (w : World) : Prop where
  size : 1 ≤ w.heap.size
  names : ∀ i, i < 9 → w.cell? ⟨0, i, none⟩ = some (.string (nm i))
theorem Tab.below {w w' : World} (h : Tab w) (hb : Below w.heap.size w w') : Tab w' := by
  have h2 := h.size
  exact ⟨Nat.le_trans h2 hb.size, fun i hi => (hb.cell (p := ⟨0, i, none⟩) (show 0 < w.heap.size by omega)).trans (h.names i hi)⟩
theorem Tab.drewN {w : World} (h : Tab w) (n : Nat) : Tab (w.drewN n) := h.below (below_drewN (Below.refl _ _) n)
theorem Tab.drew {w : World} (h : Tab w) : Tab w.drew := h.below (Below.refl _ _).drew
theorem Tab.alloc {w : World} (h : Tab w) (o : Obj) : Tab (w.alloc o) := h.below ((Below.refl _ _).alloc (Nat.le_refl _) o)

def laidL : List (String × DataW Unit) := [("baffle/timeout.names", Rows.laid_baffle_timeout_names)]
theorem gNam : Tryd.prog.globalNamed "baffle/timeout.names" = some 0 := by kernel_rfl
theorem tNam : (Tryd.prog.globals[0]?).map (·.type) = some 67 := by kernel_rfl
theorem flat_nam : flatD (Rows.laid_baffle_timeout_names : DataW Unit) = nam.map fun s => Value.string s := by kernel_rfl

set_option maxRecDepth 100000 in
theorem tab_of_laid {W : World} (h : laidMetH Tryd.prog laidL W) : Tab W := by
  rw [MakeChecks.laidMetH_plain _ _ _ (by kernel_rfl)] at h
  obtain ⟨ps, ⟨g1, t1, cs1, f1, p1, q1, hg1, ht1, hv1, hd1, _, _⟩, _, _⟩ := h
  obtain rfl := Option.some.inj (gNam.symm.trans hg1)
  obtain rfl := Option.some.inj (tNam.symm.trans ht1)
  have e1 := flat_all 8 _ _ _ _ (by kernel_rfl) hd1
  simp only [] at e1
  rw [flat_nam] at e1
  have c1 : ∀ i, i < 9 → W.cell? ⟨0, i, none⟩ = some (.string (nm i)) := fun i hi => by
    rw [World.var?_cell hg1 hv1 i, ← Array.getElem?_toList, e1, List.getElem?_map, nm, List.getD_eq_getElem?_getD, List.getElem?_eq_getElem (show i < nam.length from hi)]
    rfl
  exact ⟨cell_lt (c1 0 (by decide)), c1⟩

/-- The name of a class, and the error. -/
def nmi (x : Int) : ByteArray := if 9 ≤ x then ⟨#[]⟩ else nm x.toNat
def nme (x : Int) : Int := if 9 ≤ x then 2 else 0

theorem name_any (x : Int) (w : World) (hx : 0 ≤ x) (hT : Tab w) : Calls Tryd.prog 20 #[.int .u8 x] w fun e w' => e = .returned (.tuple #[.string (nmi x), .int .i64 (nme x)]) ∧ w' = w := by
  by_cases h : 9 ≤ x
  · have e : nmi x = ⟨#[]⟩ := by rw [nmi, if_pos h]
    have e2 : nme x = 2 := by rw [nme, if_pos h]
    rw [e, e2]
    clear e e2
    go_enter Tryd.func20, Tryd.ntmps20
    go_wp2
    go_ret2
    exact ⟨rfl, rfl⟩
  · have e : nmi x = nm x.toNat := by rw [nmi, if_neg h]
    have e2 : nme x = 0 := by rw [nme, if_neg h]
    rw [e, e2]
    clear e e2
    have hc := hT.names x.toNat (by omega)
    go_enter Tryd.func20, Tryd.ntmps20
    go_wp2
    go_ret2
    exact ⟨rfl, rfl⟩

/-- A block of integers. -/
def Ints (w : World) (b : Nat) (l : List Int) : Prop := ∀ i, i < l.length → w.cell? ⟨b, i, none⟩ = some (.int .i64 (l.getD i 0))
theorem Ints.below {w w' : World} {b : Nat} {l : List Int} (h : Ints w b l) (hb : Below w.heap.size w w') : Ints w' b l := fun i hi => (hb.cell (cell_lt (h i hi))).trans (h i hi)
theorem Ints.new (w : World) (l : List Int) (t : TypeId) {b : Nat} {cs : Array Value} (hb : b = w.heap.size) (hcs : cs = (l.map fun z => Value.int .i64 z).toArray) : Ints (w.alloc (.cells cs t)) b l := by
  intro i hi
  subst hb hcs
  simp [List.getElem?_eq_getElem hi]

def ex1 : List Int := [100, 10, 100, 0, 100, 20, 50, 0, 100, 29, 5, 0, 100, 30, 0, 2, 7, 25, 1, 0, 2, 29, 1, 0]
def ex2 : List Int := [50, 20, 51, 19, 100, 10, 1, 29]

set_option maxRecDepth 100000 in
set_option maxHeartbeats 2000000 in
theorem awake_any (w : World) (hT : Tab w) : Calls Tryd.prog 14 #[] w fun e w' => e = .returned (.bool true) ∧ Below w.heap.size w w' := by
  have s1 : sclE 100 10 30 10 = (100, 0) := by decide +kernel
  have s2 : sclE 100 10 30 20 = (50, 0) := by decide +kernel
  have s3 : sclE 100 10 30 29 = (5, 0) := by decide +kernel
  have s4 : sclE 100 10 30 30 = (0, 2) := by decide +kernel
  have s5 : sclE 7 10 30 25 = (1, 0) := by decide +kernel
  have s6 : sclE 2 10 30 29 = (1, 0) := by decide +kernel
  have m1 : mstE 100 10 30 50 = (20, 0) := by decide +kernel
  have m2 : mstE 100 10 30 51 = (19, 0) := by decide +kernel
  have m3 : mstE 100 10 30 100 = (10, 0) := by decide +kernel
  have m4 : mstE 100 10 30 1 = (29, 0) := by decide +kernel
  have n5 : nmi 5 = ⟨#[117, 100, 112, 45, 111, 110, 101]⟩ := by decide +kernel
  have e5 : nme 5 = 0 := by decide +kernel
  have d5 : dln 5 7 = (12, 0) := by decide +kernel
  have HT := Lib.hid hT
  clear hT
  go_enter Tryd.func14, Tryd.ntmps14
  go_wp2_with fail
  go_loopw [23] (fun i wr => ∃ k : Nat, k ≤ 6 ∧ i = .int .i64 k ∧ Hid (Ints wr w.heap.size [10, 30]) ∧ Hid (Ints wr (w.heap.size + 1) ex1) ∧ Below w.heap.size w wr) (fun i _ => 6 - (intOf i).toNat)
  case atStart =>
    refine ⟨0, Nat.zero_le _, rfl, ?_, ?_, ?_⟩
    · exact (Ints.new w [10, 30] 23 rfl rfl).below ((Below.refl _ _).alloc (Nat.le_refl _) _)
    · exact Ints.new _ ex1 61 (by simp) rfl
    · exact ((Below.refl _ _).alloc (Nat.le_refl _) _).alloc (by simp) _
  case round =>
    obtain ⟨k, hk, rfl, hA, hB, hb⟩ := hrel
    have a0 := hA.out 0 (by decide)
    have a1 := hA.out 1 (by decide)
    have hz := cell_lt a0
    have hz2 := cell_lt (hB.out 0 (by decide))
    simp only at hz hz2
    by_cases hk6 : k = 6
    · subst hk6
      clear hz2 hB
      simp at a0 a1
      have e6 : ((6 : Nat) : Int) = 6 := rfl
      rw [e6]
      clear e6
      go_wp2_with fail
      go_loopw [53] (fun i wr2 => ∃ k : Nat, k ≤ 4 ∧ i = .int .i64 k ∧ Hid (Ints wr2 w.heap.size [10, 30]) ∧ Hid (Ints wr2 wr.heap.size ex2) ∧ Below w.heap.size w wr2) (fun i _ => 4 - (intOf i).toNat)
      case atStart =>
        refine ⟨0, Nat.zero_le _, rfl, ?_, ?_, ?_⟩
        · exact hA.out.below ((Below.refl _ _).alloc (Nat.le_refl _) _)
        · exact Ints.new _ ex2 63 rfl rfl
        · exact hb.alloc hb.size _
      case round =>
        have hbs := hb.size
        clear hA a0 a1 hz
        obtain ⟨k, hk, rfl, hA, hB, hb2⟩ := hrel
        have a0 := hA.out 0 (by decide)
        have a1 := hA.out 1 (by decide)
        have hz := cell_lt a0
        have hz2 := cell_lt (hB.out 0 (by decide))
        simp only at hz hz2
        by_cases hk4 : k = 4
        · subst hk4
          have hT2 := Lib.hid (HT.out.below hb2)
          clear hA hB hz2 a0 a1
          go_wp2_with fail
          refine (name_any _ _ (by omega) hT2.out).mono ?_
          rintro e w1 ⟨rfl, rfl⟩
          go_wp2_with fail
          refine (deadline_any _ _ _).mono ?_
          rintro e w2 ⟨rfl, rfl⟩
          go_wp2_with fail
          go_ret
          exact ⟨rfl, hb2⟩
        · have b0 := hB.out (2 * k) (by simp [ex2]; omega)
          have b1 := hB.out (2 * k + 1) (by simp [ex2]; omega)
          have hk' : k = 0 ∨ k = 1 ∨ k = 2 ∨ k = 3 := by omega
          rcases hk' with rfl | rfl | rfl | rfl
          all_goals
            simp [ex2] at b0 b1 a0 a1
            go_wp2_with fail
            refine (most_any _ _ _ _ _).mono ?_
            rintro e w1 ⟨rfl, hb1⟩
            obtain ⟨hc, hf⟩ := bcell hb1
            go_wp2_with fail
            go_roundw
            case rel => exact ⟨_, by decide, rfl, hA.out.below (bthen ((Below.refl _ _).alloc (Nat.le_refl _) _) hb1), hB.out.below (bthen ((Below.refl _ _).alloc (Nat.le_refl _) _) hb1), bthen hb2 (bthen ((Below.refl _ _).alloc (Nat.le_refl _) _) hb1)⟩
            case measure => simp [intOf]
    · have b0 := hB.out (4 * k) (by simp [ex1]; omega)
      have b1 := hB.out (4 * k + 1) (by simp [ex1]; omega)
      have b2 := hB.out (4 * k + 2) (by simp [ex1]; omega)
      have b3 := hB.out (4 * k + 3) (by simp [ex1]; omega)
      have hk' : k = 0 ∨ k = 1 ∨ k = 2 ∨ k = 3 ∨ k = 4 ∨ k = 5 := by omega
      rcases hk' with rfl | rfl | rfl | rfl | rfl | rfl
      all_goals
        simp [ex1] at b0 b1 b2 b3 a0 a1
        go_wp2_with fail
        refine (Scaled_any _ _ _ _ _).mono ?_
        rintro e w1 ⟨rfl, hb1⟩
        obtain ⟨hc, hf⟩ := bcell hb1
        go_wp2_with fail
        go_roundw
        case rel => exact ⟨_, by decide, rfl, hA.out.below (bthen ((Below.refl _ _).alloc (Nat.le_refl _) _) hb1), hB.out.below (bthen ((Below.refl _ _).alloc (Nat.le_refl _) _) hb1), bthen hb (bthen ((Below.refl _ _).alloc (Nat.le_refl _) _) hb1)⟩
        case measure => simp [intOf]

end Go.Proofs.YtkcgijkccpiljaaDoor

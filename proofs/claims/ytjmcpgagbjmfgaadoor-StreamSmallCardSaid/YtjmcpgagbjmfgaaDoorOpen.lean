/-
  The contracts of stream.Open, Right, Step and Name.
-/
import Derived.Test.YtjmcpgagbjmfgaaDoorBase
namespace Go.Proofs.YtjmcpgagbjmfgaaDoor
open Go.RowKit
set_option linter.unusedVariables false

theorem Fa.hi {F : Array Value} {kind typ : Int} (h : Fa F kind typ) : (Tryd.prog.info? 29).map (·.size) = some F.toList.length := by rw [info29]; simp [h.size]

set_option maxHeartbeats 400000 in
theorem openU_any (F : Array Value) (typ : Int) (w : World) (h : Fa F 2 typ) :
    Calls Tryd.prog 13 #[.agg F] w fun e w' => e = .returned (.tuple #[fl 2 1 0, .bool true]) ∧ Below w.heap.size w w' := by
  have f1 := h.ckind
  have f2 := h.ctype
  have Hi := Lib.hid h.hi
  have Hh := Lib.hid h
  clear h
  go_enter Tryd.func13, Tryd.ntmps13
  go_wp2_with fail
  refine (kindsU_any _).mono ?_
  rintro e w' ⟨rfl, rfl⟩
  go_wp2_with (refine wpList_load_wide 29 _ rfl (by rfl) _ _ rfl F _ Tryd.underlying29 rfl Hi.out ?_ ?_; · (repeat (first | exact range_new _ _ _ | refine World.rangeAt_alloc ?_ _)))
  refine (kinds1_any F _).mono ?_
  rintro e w' ⟨he, rfl⟩
  
  subst he
  go_wp2_with fail
  exact bodyPost_ret (v := .tuple #[fl 2 1 0, .bool true]) (by simp [results, Tryd.results13, go_sem, fl]) rfl ⟨rfl, by (repeat' (first | exact Below.refl _ _ | refine Below.setCell ?_ (by simp <;> omega) _ | refine Below.alloc ?_ (by simp <;> omega) _))⟩

set_option maxHeartbeats 400000 in
theorem openQ_yes (F : Array Value) (typ : Int) (w : World) (h : Fa F 3 typ) (hq : Hid (isq typ = true)) (hA : Hid (Ans w)) :
    Calls Tryd.prog 13 #[.agg F] w fun e w' => e = .returned (.tuple #[fl 3 1 typ, .bool true]) ∧ Below w.heap.size w w' := by
  have f1 := h.ckind
  have f2 := h.ctype
  have Hi := Lib.hid h.hi
  have Hh := Lib.hid h
  clear h
  go_enter Tryd.func13, Tryd.ntmps13
  go_wp2_with fail
  refine (kindsQ_any _).mono ?_
  rintro e w' ⟨rfl, rfl⟩
  go_wp2_with (refine wpList_load_wide 29 _ rfl (by rfl) _ _ rfl F _ Tryd.underlying29 rfl Hi.out ?_ ?_; · (repeat (first | exact range_new _ _ _ | refine World.rangeAt_alloc ?_ _)))
  refine (kinds3_any F 3 typ _ Hh.out (((hA.out.alloc _).alloc _).alloc _ |>.alloc _)).mono ?_
  rintro e w' ⟨he, rfl⟩
  rw [hq.out] at he
  subst he
  go_wp2_with fail
  exact bodyPost_ret (v := .tuple #[fl 3 1 typ, .bool true]) (by simp [results, Tryd.results13, go_sem, fl]) rfl ⟨rfl, by (repeat' (first | exact Below.refl _ _ | refine Below.setCell ?_ (by simp <;> omega) _ | refine Below.alloc ?_ (by simp <;> omega) _))⟩

set_option maxHeartbeats 400000 in
theorem openQ_no (F : Array Value) (typ : Int) (w : World) (h : Fa F 3 typ) (hq : Hid (isq typ = false)) (hA : Hid (Ans w)) :
    Calls Tryd.prog 13 #[.agg F] w fun e w' => e = .returned (.tuple #[fl 0 0 0, .bool false]) ∧ Below w.heap.size w w' := by
  have f1 := h.ckind
  have f2 := h.ctype
  have Hi := Lib.hid h.hi
  have Hh := Lib.hid h
  clear h
  go_enter Tryd.func13, Tryd.ntmps13
  go_wp2_with fail
  refine (kindsQ_any _).mono ?_
  rintro e w' ⟨rfl, rfl⟩
  go_wp2_with (refine wpList_load_wide 29 _ rfl (by rfl) _ _ rfl F _ Tryd.underlying29 rfl Hi.out ?_ ?_; · (repeat (first | exact range_new _ _ _ | refine World.rangeAt_alloc ?_ _)))
  refine (kinds3_any F 3 typ _ Hh.out (((hA.out.alloc _).alloc _).alloc _ |>.alloc _)).mono ?_
  rintro e w' ⟨he, rfl⟩
  rw [hq.out] at he
  subst he
  go_wp2_with fail
  exact bodyPost_ret (v := .tuple #[fl 0 0 0, .bool false]) (by simp [results, Tryd.results13, go_sem, fl]) rfl ⟨rfl, by (repeat' (first | exact Below.refl _ _ | refine Below.setCell ?_ (by simp <;> omega) _ | refine Below.alloc ?_ (by simp <;> omega) _))⟩

set_option maxHeartbeats 400000 in
theorem openF_any (F : Array Value) (kind typ : Int) (w : World) (h : Fa F kind typ) (h2 : (kind == 2) = false) (h3 : (kind == 3) = false) :
    Calls Tryd.prog 13 #[.agg F] w fun e w' => e = .returned (.tuple #[fl 0 0 0, .bool false]) ∧ Below w.heap.size w w' := by
  have f1 := h.ckind
  have f2 := h.ctype
  have Hi := Lib.hid h.hi
  have Hh := Lib.hid h
  clear h
  go_enter Tryd.func13, Tryd.ntmps13
  go_wp2_with fail
  refine (kindsF_any _ _ h2 h3).mono ?_
  rintro e w' ⟨rfl, rfl⟩
  go_wp2_with (refine wpList_load_wide 29 _ rfl (by rfl) _ _ rfl F _ Tryd.underlying29 rfl Hi.out ?_ ?_; · (repeat (first | exact range_new _ _ _ | refine World.rangeAt_alloc ?_ _)))
  exact bodyPost_ret (v := .tuple #[fl 0 0 0, .bool false]) (by simp [results, Tryd.results13, go_sem, fl]) rfl ⟨rfl, by (repeat' (first | exact Below.refl _ _ | refine Below.setCell ?_ (by simp <;> omega) _ | refine Below.alloc ?_ (by simp <;> omega) _))⟩

end Go.Proofs.YtjmcpgagbjmfgaaDoor

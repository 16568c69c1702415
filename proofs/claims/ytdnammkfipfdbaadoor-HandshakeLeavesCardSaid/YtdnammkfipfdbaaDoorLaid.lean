/-
  What the rows' condition on the package's variables gives: the table of steps and the names lie as the program's text lays them.
-/
import Derived.Test.YtdnammkfipfdbaaDoorBase
import Derived.ProofKit
import Derived.LaidMore
import Derived.MakeChecks
namespace Go.Proofs.YtdnammkfipfdbaaDoor
open Go.ChangeShapes Go.WideShapes Go.ChangeAt Go.RowKit

def laidL : List (String × DataW Unit) := [("baffle/handshake.table", Rows.laid_baffle_handshake_table), ("baffle/handshake.names", Rows.laid_baffle_handshake_names)]
theorem gTab : Tryd.prog.globalNamed "baffle/handshake.table" = some 0 := by kernel_rfl
theorem gNam : Tryd.prog.globalNamed "baffle/handshake.names" = some 1 := by kernel_rfl
theorem tTab : (Tryd.prog.globals[0]?).map (·.type) = some 56 := by kernel_rfl
theorem tNam : (Tryd.prog.globals[1]?).map (·.type) = some 57 := by kernel_rfl

theorem flat_tab : flatD (Rows.laid_baffle_handshake_table : DataW Unit) = tab.map fun z => Value.int .u8 z := by kernel_rfl
theorem flat_nam : flatD (Rows.laid_baffle_handshake_names : DataW Unit) = nam.map fun s => Value.string s := by kernel_rfl

set_option maxRecDepth 100000 in
theorem tab_of_laid {W : World} (h : laidMetH Tryd.prog laidL W) : Tab W := by
  rw [MakeChecks.laidMetH_plain _ _ _ (by kernel_rfl)] at h
  obtain ⟨ps, ⟨g0, t0, cs0, f0, p0, q0, hg0, ht0, hv0, hd0, ⟨g1, t1, cs1, f1, p1, q1, hg1, ht1, hv1, hd1, _, _⟩, _⟩, _, _⟩ := h
  obtain rfl := Option.some.inj (gTab.symm.trans hg0)
  obtain rfl := Option.some.inj (gNam.symm.trans hg1)
  obtain rfl := Option.some.inj (tTab.symm.trans ht0)
  obtain rfl := Option.some.inj (tNam.symm.trans ht1)
  have e0 := flat_all 8 _ _ _ _ (by kernel_rfl) hd0
  have e1 := flat_all 8 _ _ _ _ (by kernel_rfl) hd1
  simp only [] at e0 e1
  rw [flat_tab] at e0
  rw [flat_nam] at e1
  have c0 : ∀ i, i < 108 → W.cell? ⟨0, i, none⟩ = some (.int .u8 (tab.getD i 0)) := fun i hi => by
    rw [World.var?_cell hg0 hv0 i, ← Array.getElem?_toList, e0, List.getElem?_map, List.getD_eq_getElem?_getD, List.getElem?_eq_getElem (show i < tab.length from hi)]
    rfl
  have c1 : ∀ i, i < 9 → W.cell? ⟨1, i, none⟩ = some (.string (nm i)) := fun i hi => by
    rw [World.var?_cell hg1 hv1 i, ← Array.getElem?_toList, e1, List.getElem?_map, nm, List.getD_eq_getElem?_getD, List.getElem?_eq_getElem (show i < nam.length from hi)]
    rfl
  exact ⟨cell_lt (c1 0 (by decide)), c0, c1⟩

end Go.Proofs.YtdnammkfipfdbaaDoor

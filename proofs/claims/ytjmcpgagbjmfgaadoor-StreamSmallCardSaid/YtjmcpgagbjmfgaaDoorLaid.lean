/-
  What the rows' condition on the package's variable gives: the map of answers lies as the program's text lays it; and from an argument's cells to what a packet says.
-/
import Derived.Test.YtjmcpgagbjmfgaaDoorBase
import Derived.ProofKit
import Derived.LaidMore
import Derived.MakeChecks
import Derived.WideKeyElems2
namespace Go.Proofs.YtjmcpgagbjmfgaaDoor
open Go.ChangeShapes Go.WideShapes Go.ChangeAt Go.RowKit

def laidL : List (String × DataW Unit) := [("baffle/stream.answers", Rows.laid_baffle_stream_answers)]
theorem gAns : Tryd.prog.globalNamed "baffle/stream.answers" = some 0 := by kernel_rfl
theorem tAns : (Tryd.prog.globals[0]?).map (·.type) = some 69 := by kernel_rfl

set_option maxRecDepth 100000 in
theorem ans_of_laid {W : World} (h : laidMetH Tryd.prog laidL W) : Ans W := by
  rw [MakeChecks.laidMetH_plain _ _ _ (by kernel_rfl)] at h
  obtain ⟨ps, ⟨g0, t0, cs0, f0, p0, q0, hg0, ht0, hv0, hd0, _⟩, _, _⟩ := h
  obtain rfl := Option.some.inj (gAns.symm.trans hg0)
  obtain rfl := Option.some.inj (tAns.symm.trans ht0)
  rcases WideElems.open_map Tryd.underlying69 hd0 with ⟨_, hx⟩ | ⟨b, es, clock, n, _, hcs, hb, _, F, hx⟩
  · exact absurd (congrArg Prod.fst hx) (by simp [Rows.laid_baffle_stream_answers])
  · have hx1 := congrArg Prod.fst hx
    have hown := World.ownsMap_of_fit (R := plainElem Tryd.prog 5) hb F (fun x _ z hz => elemAt_plainElem_int Tryd.underlying5 hz)
    simp only [] at hx1
    rw [← hx1] at hown
    have hc := World.var?_cell hg0 hv0 0
    have hb' : b < W.heap.size := (Array.getElem?_eq_some_iff.1 hb).1
    refine ⟨b, ?_, hb', _, hown⟩
    rw [hc, ← Array.getElem?_toList, hcs]
    rfl

theorem fa_of {cs : List Value} (h : All2 [some .u8, some .u32, some .u32, some .u16, some .u16, some .u8, some .u8, some .u8, some .u8, some .u32, some .u32, some .i64, some .i64, some .u8, some .u32, some .u32, some .u16, some .u16, some .u8] cs) : ∃ kind typ, Fa cs.toArray kind typ := by
  obtain ⟨n0, r0, rfl, w0, h0⟩ := all2_int h
  obtain ⟨n1, r1, rfl, w1, h1⟩ := all2_int h0
  obtain ⟨n2, r2, rfl, w2, h2⟩ := all2_int h1
  obtain ⟨n3, r3, rfl, w3, h3⟩ := all2_int h2
  obtain ⟨n4, r4, rfl, w4, h4⟩ := all2_int h3
  obtain ⟨n5, r5, rfl, w5, h5⟩ := all2_int h4
  obtain ⟨n6, r6, rfl, w6, h6⟩ := all2_int h5
  obtain ⟨n7, r7, rfl, w7, h7⟩ := all2_int h6
  obtain ⟨n8, r8, rfl, w8, h8⟩ := all2_int h7
  obtain ⟨n9, r9, rfl, w9, h9⟩ := all2_int h8
  obtain ⟨n10, r10, rfl, w10, h10⟩ := all2_int h9
  obtain ⟨n11, r11, rfl, w11, h11⟩ := all2_int h10
  obtain ⟨n12, r12, rfl, w12, h12⟩ := all2_int h11
  obtain ⟨n13, r13, rfl, w13, h13⟩ := all2_int h12
  obtain ⟨n14, r14, rfl, w14, h14⟩ := all2_int h13
  obtain ⟨n15, r15, rfl, w15, h15⟩ := all2_int h14
  obtain ⟨n16, r16, rfl, w16, h16⟩ := all2_int h15
  obtain ⟨n17, r17, rfl, w17, h17⟩ := all2_int h16
  obtain ⟨n18, r18, rfl, w18, h18⟩ := all2_int h17
  obtain rfl := all2_nil h18
  exact ⟨n5, n7, rfl, rfl, rfl, bounds_u8 w5, bounds_u8 w7⟩

theorem three_of {cs : List Value} (h : All2 [some .u8, some .u8, some .u8] cs) : ∃ a b c : Int, cs = [.int .u8 a, .int .u8 b, .int .u8 c] ∧ (0 ≤ a ∧ a ≤ 255) ∧ (0 ≤ b ∧ b ≤ 255) ∧ (0 ≤ c ∧ c ≤ 255) := by
  obtain ⟨n0, r0, rfl, w0, h0⟩ := all2_int h
  obtain ⟨n1, r1, rfl, w1, h1⟩ := all2_int h0
  obtain ⟨n2, r2, rfl, w2, h2⟩ := all2_int h1
  obtain rfl := all2_nil h2
  exact ⟨n0, n1, n2, rfl, bounds_u8 w0, bounds_u8 w1, bounds_u8 w2⟩

end Go.Proofs.YtjmcpgagbjmfgaaDoor

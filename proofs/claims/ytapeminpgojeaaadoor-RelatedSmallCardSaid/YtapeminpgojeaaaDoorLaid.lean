/-
  What the rows' condition on the two package maps gives: they lie as the program's text lays them; and from an argument's cells to a flow and to what a packet says.
-/
import Derived.Test.YtapeminpgojeaaaDoorLook
import Derived.ProofKit
import Derived.LaidMore
import Derived.MakeChecks
import Derived.WideKeyElems2
namespace Go.Proofs.YtapeminpgojeaaaDoor
open Go.ChangeShapes Go.WideShapes Go.ChangeAt Go.RowKit

def laidL : List (String × DataW Unit) := [("baffle/stream.answers", Rows.laid_baffle_stream_answers), ("baffle/related.kinds", Rows.laid_baffle_related_kinds)]
theorem gAns : Tryd.prog.globalNamed "baffle/stream.answers" = some 1 := by kernel_rfl
theorem tAns : (Tryd.prog.globals[1]?).map (·.type) = some 70 := by kernel_rfl
theorem gKin : Tryd.prog.globalNamed "baffle/related.kinds" = some 0 := by kernel_rfl
theorem tKin : (Tryd.prog.globals[0]?).map (·.type) = some 65 := by kernel_rfl
theorem cells63 : Tryd.prog.cellsOf 63 = 2 := by kernel_rfl
theorem cells5 : Tryd.prog.cellsOf 5 = 1 := by kernel_rfl

theorem elemAt_two {enc : TypeId × Value → Unit} {W : World} {base : Nat} {sp : Nat → Bool} {held : Bool} {m : Nat} {v : Value} {z : DataW Unit × List MemPlace}
    (h : WideElems.elemAt enc Tryd.prog W base sp held m 63 v = some z) : twoRead v = some z := by
  unfold WideElems.elemAt at h
  split at h
  · rename_i hf
    cases v with
    | agg cs =>
      simp only [Value.cells] at h
      obtain ⟨xs, m', rfl, rfl, hl, hxl, hi⟩ := DataW.trod_array Tryd.underlying63 h
      rw [cells63] at hl
      have h0 := hi 0 (by omega)
      have h1 := hi 1 (by omega)
      rw [cells5] at h0 h1
      match hcs : cs.toList, hl with
      | [c0, c1], _ =>
        rw [hcs] at h0 h1
        simp at h0 h1
        match xs, hxl with
        | [x0, x1], _ =>
          obtain ⟨a, e0, h0', _⟩ := DataW.trod_int Tryd.underlying5 (show DataW.trod enc Tryd.prog W base sp held m' 5 [c0] = some x0 from h0)
          obtain ⟨b, e1, h1', _⟩ := DataW.trod_int Tryd.underlying5 (show DataW.trod enc Tryd.prog W base sp held m' 5 [c1] = some x1 from h1)
          have e0 := (List.cons.inj e0).1
          have e1 := (List.cons.inj e1).1
          subst e0 e1 h0' h1'
          unfold twoRead
          simp only [hcs]
          rfl
    | _ => simp [Value.formed, Tryd.underlying63] at hf
  · cases h

set_option maxRecDepth 100000 in
theorem tabs_of_laid {W : World} (h : laidMetH Tryd.prog laidL W) : Tabs W := by
  rw [MakeChecks.laidMetH_plain _ _ _ (by kernel_rfl)] at h
  obtain ⟨ps, ⟨g0, t0, cs0, f0, p0, q0, hg0, ht0, hv0, hd0, ⟨g1, t1, cs1, f1, p1, q1, hg1, ht1, hv1, hd1, _, _⟩, _⟩, _, _⟩ := h
  obtain rfl := Option.some.inj (gAns.symm.trans hg0)
  obtain rfl := Option.some.inj (gKin.symm.trans hg1)
  obtain rfl := Option.some.inj (tAns.symm.trans ht0)
  obtain rfl := Option.some.inj (tKin.symm.trans ht1)
  constructor
  · rcases WideElems.open_map Tryd.underlying65 hd1 with ⟨_, hx⟩ | ⟨b, es, clock, n, _, hcs, hb, _, F, hx⟩
    · exact absurd (congrArg Prod.fst hx) (by simp [Rows.laid_baffle_related_kinds])
    · have hx1 := congrArg Prod.fst hx
      have hown := World.ownsMap_of_fit (R := twoRead) hb F (fun x _ z hz => elemAt_two hz)
      simp only [] at hx1
      rw [← hx1] at hown
      have hc := World.var?_cell hg1 hv1 0
      have hb' : b < W.heap.size := (Array.getElem?_eq_some_iff.1 hb).1
      refine ⟨b, ?_, hb', _, hown⟩
      rw [hc, ← Array.getElem?_toList, hcs]
      rfl
  · rcases WideElems.open_map Tryd.underlying70 hd0 with ⟨_, hx⟩ | ⟨b, es, clock, n, _, hcs, hb, _, F, hx⟩
    · exact absurd (congrArg Prod.fst hx) (by simp [Rows.laid_baffle_stream_answers])
    · have hx1 := congrArg Prod.fst hx
      have hown := World.ownsMap_of_fit (R := plainElem Tryd.prog 5) hb F (fun x _ z hz => elemAt_plainElem_int Tryd.underlying5 hz)
      simp only [] at hx1
      rw [← hx1] at hown
      have hc := World.var?_cell hg0 hv0 0
      have hb' : b < W.heap.size := (Array.getElem?_eq_some_iff.1 hb).1
      refine ⟨b, ?_, hb', _, hown⟩
      rw [hc, ← Array.getElem?_toList, hcs]
      rfl

theorem all2_one : ∀ {ks : List (Option IntKind)} {cs : List Value}, All2 ks cs → (cs.all fun c => c.oneCell') = true := by
  intro ks
  induction ks with
  | nil => intro cs h; rw [all2_nil h]; rfl
  | cons k ks ih =>
    intro cs h
    obtain ⟨v, r, rfl, hv, hr⟩ := all2_cons h
    rw [List.all_cons, ih hr, Bool.and_true]
    cases k with
    | none => obtain ⟨b, rfl⟩ := hv; rfl
    | some k => obtain ⟨n, rfl, _⟩ := hv; rfl

theorem fa_of {cs : List Value} (h : All2 [some .u8, some .u32, some .u32, some .u16, some .u16, some .u8, some .u8, some .u8, some .u8, some .u32, some .u32, some .i64, some .i64, some .u8, some .u32, some .u32, some .u16, some .u16, some .u8] cs) :
    ∃ dst kind typ qp qs qd qsp qdp qk, Fa cs.toArray dst kind typ qp qs qd qsp qdp qk := by
  have hone := all2_one h
  obtain ⟨n0, r0, rfl, w0, h0⟩ := all2_int h
  obtain ⟨n1, r1, rfl, w1, h1⟩ := all2_int h0
  obtain ⟨n2, r2, rfl, w2, h2⟩ := all2_int h1
  obtain ⟨n3, r3, rfl, w3, h3⟩ := all2_int h2
  obtain ⟨n4, r4, rfl, w4, h4⟩ := all2_int h3
  obtain ⟨n5, r5, rfl, w5, h5⟩ := all2_int h4
  obtain ⟨n6, r6, rfl, w6, h6⟩ := all2_int h5
  obtain ⟨n7, r7, rfl, w7, h7⟩ := all2_int h6
  obtain ⟨n8, r8, rfl, w8, h8⟩ := all2_int h7
  obtain ⟨n9, r9, rfl, w9, h9⟩ := all2_int h8
  obtain ⟨n10, r10, rfl, w10, h10⟩ := all2_int h9
  obtain ⟨n11, r11, rfl, w11, h11⟩ := all2_int h10
  obtain ⟨n12, r12, rfl, w12, h12⟩ := all2_int h11
  obtain ⟨n13, r13, rfl, w13, h13⟩ := all2_int h12
  obtain ⟨n14, r14, rfl, w14, h14⟩ := all2_int h13
  obtain ⟨n15, r15, rfl, w15, h15⟩ := all2_int h14
  obtain ⟨n16, r16, rfl, w16, h16⟩ := all2_int h15
  obtain ⟨n17, r17, rfl, w17, h17⟩ := all2_int h16
  obtain ⟨n18, r18, rfl, w18, h18⟩ := all2_int h17
  obtain rfl := all2_nil h18
  exact ⟨n2, n5, n7, n13, n14, n15, n16, n17, n18, rfl, by simpa using hone, rfl, rfl, rfl, rfl, rfl, rfl, rfl, rfl, rfl, bounds_u8 w5, bounds_u8 w7, bounds_u8 w13, bounds_u8 w18, bounds_u32 w2, bounds_u32 w14, bounds_u32 w15, bounds_u16 w16, bounds_u16 w17⟩

theorem key_of {cs : List Value} (h : All2 [some .u8, some .u32, some .u32, some .u16, some .u16] cs) : ∃ p s d sp dp : Int, cs = [.int .u8 p, .int .u32 s, .int .u32 d, .int .u16 sp, .int .u16 dp] ∧ (0 ≤ p ∧ p ≤ 255) ∧ (0 ≤ s ∧ s ≤ 4294967295) ∧ (0 ≤ d ∧ d ≤ 4294967295) ∧ (0 ≤ sp ∧ sp ≤ 65535) ∧ (0 ≤ dp ∧ dp ≤ 65535) := by
  obtain ⟨n0, r0, rfl, w0, h0⟩ := all2_int h
  obtain ⟨n1, r1, rfl, w1, h1⟩ := all2_int h0
  obtain ⟨n2, r2, rfl, w2, h2⟩ := all2_int h1
  obtain ⟨n3, r3, rfl, w3, h3⟩ := all2_int h2
  obtain ⟨n4, r4, rfl, w4, h4⟩ := all2_int h3
  obtain rfl := all2_nil h4
  exact ⟨n0, n1, n2, n3, n4, rfl, bounds_u8 w0, bounds_u32 w1, bounds_u32 w2, bounds_u16 w3, bounds_u16 w4⟩
theorem flow_of {cs : List Value} (h : All2 [some .u8, some .u32, some .u32, some .u16, some .u16, some .u8] cs) : ∃ p s d sp dp side : Int, cs = [.int .u8 p, .int .u32 s, .int .u32 d, .int .u16 sp, .int .u16 dp, .int .u8 side] ∧ (0 ≤ p ∧ p ≤ 255) ∧ (0 ≤ s ∧ s ≤ 4294967295) ∧ (0 ≤ d ∧ d ≤ 4294967295) ∧ (0 ≤ sp ∧ sp ≤ 65535) ∧ (0 ≤ dp ∧ dp ≤ 65535) ∧ (0 ≤ side ∧ side ≤ 255) := by
  obtain ⟨n0, r0, rfl, w0, h0⟩ := all2_int h
  obtain ⟨n1, r1, rfl, w1, h1⟩ := all2_int h0
  obtain ⟨n2, r2, rfl, w2, h2⟩ := all2_int h1
  obtain ⟨n3, r3, rfl, w3, h3⟩ := all2_int h2
  obtain ⟨n4, r4, rfl, w4, h4⟩ := all2_int h3
  obtain ⟨n5, r5, rfl, w5, h5⟩ := all2_int h4
  obtain rfl := all2_nil h5
  exact ⟨n0, n1, n2, n3, n4, n5, rfl, bounds_u8 w0, bounds_u32 w1, bounds_u32 w2, bounds_u16 w3, bounds_u16 w4, bounds_u8 w5⟩

end Go.Proofs.YtapeminpgojeaaaDoor

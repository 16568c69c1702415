/-
  The contracts of package opts' Find and Routed. Conditions: the options lie, and are not too many for the model.
-/
import Derived.Test.YtjfnnclbfaakkaaBackP
import Derived.Test.YtjfnnclbfaakkaaListed
import Derived.BigQuiet
import Derived.BigRegion
import Derived.Deep.CutBlock
namespace Go.Proofs.Ytjfnnclbfaakkaa
open Go.RowKit
set_option linter.unusedVariables false
set_option linter.unusedSimpArgs false

/-- What Find returns: is it there, and what. -/
def fnS (l : List Op1) (kind : Int) : Bool × Op1 := ((findS l kind).isSome, (findS l kind).getD (0, []))
theorem fnS_some {l : List Op1} {kind : Int} {j : Nat} {o : Op1} (hj : l[j]? = some o) (hk : o.1 = kind) (hm : ∀ i, i < j → ∀ p, l[i]? = some p → p.1 ≠ kind) : fnS l kind = (true, o) := by
  unfold fnS
  rw [findS_first hj hk hm]
  rfl
theorem fnS_none {l : List Op1} {kind : Int} (hm : ∀ (i : Nat) (p : Op1), l[i]? = some p → p.1 ≠ kind) : fnS l kind = (false, (0, [])) := by
  unfold fnS
  rw [findS_none hm]
  rfl

set_option maxRecDepth 100000 in
set_option maxHeartbeats 4000000 in
theorem find_any (l : List Op1) (A : Option Addr) (c : Nat) (kind : Int) (w : World) (hl : Ops w A l) (hn : l.length ≤ 2 ^ 40) (hlb : ∀ o ∈ l, o.2.length ≤ 2 ^ 40) :
    Calls Try.prog 25 #[.slice A l.length c, .int .u8 kind] w fun e w' => ∃ v, e = .returned (.tuple #[.agg #[.int .u8 (fnS l kind).2.1, v], .bool (fnS l kind).1]) ∧ w'.ownsRow w.heap.size 5 1 v (fnS l kind).2.2.length ((fnS l kind).2.2.map (Value.int .u8)) ∧ Below w.heap.size w w' := by
  obtain ⟨n, hN⟩ : ∃ n, l.length = n := ⟨_, rfl⟩
  rw [hN]
  have HN := Lib.hid hN
  have HL := Lib.hid hl
  have HLB := Lib.hid hlb
  obtain ⟨RES, hRES⟩ : ∃ r, fnS l kind = r := ⟨_, rfl⟩
  rw [hRES]
  have HRES := Lib.hid hRES
  rw [hN] at hn
  obtain ⟨X0, hX0⟩ : ∃ X0, w.alloc (Obj.cells #[Value.int IntKind.u8 0, Value.slice none 0 0] 36) = X0 := ⟨_, rfl⟩
  have hB0 : Below w.heap.size w X0 := by rw [← hX0]; exact (Below.refl _ _).alloc (Nat.le_refl _) _
  have h0 : X0.heap[w.heap.size]? = some (.cells #[.int .u8 0, .slice none 0 0] 36 (0, 0)) := by
    rw [← hX0]
    exact heap_alloc_last _ _
  have HB0 := Lib.hid hB0
  have HH0 := Lib.hid h0
  have hX := Lib.hid hX0
  clear hN hl hlb hRES hB0 h0 hX0
  go_enter Try.func25, Try.ntmps25
  go_upto_region 1 with fail
  rw [hX.out]
  go_wp2_with fail
  go_loopw [10] (fun i wr => ∃ k : Nat, k ≤ n ∧ i = .int .i64 k ∧ (∀ j, j < k → ∀ p, l[j]? = some p → p.1 ≠ kind) ∧ Below X0.heap.size X0 wr) (fun i _ => n - (intOf i).toNat)
  case atStart => exact ⟨0, by omega, rfl, fun j hj => absurd hj (by omega), Below.refl _ _⟩
  case round =>
    obtain ⟨k, hk, rfl, hmet, hb⟩ := hrel
    have HMET := Lib.hid hmet
    clear hmet
    have HB := Lib.hid (HB0.out.trans (hb.mono HB0.out.size))
    have HBX := Lib.hid hb
    have hh := blk_below hb HH0.out
    have HHR := Lib.hid hh
    have r0 := blk_cell hh 0
    have r1 := blk_cell hh 1
    simp at r0 r1
    have fr := blk_free hh 0
    have fr1 := blk_free hh 1
    have hlr := blk_lt hh
    clear hb hh
    by_cases hkl : k < n
    · obtain ⟨b, o, rfl, hbl⟩ := (HL.out.below HB.out).pos (by rw [HN.out]; omega)
      obtain ⟨⟨kd, d⟩, hx⟩ : ∃ x, l[k]? = some x := ⟨l[k]'(by rw [HN.out]; omega), List.getElem?_eq_getElem _⟩
      obtain ⟨A1, n1, x0, x1, hc1, hc1m, by1, hk0, hk1, hnil⟩ := HL.out.at hx
      simp only at x0 x1 hc1 by1 hk0 hk1
      replace x0 := kc HB.out x0
      replace x1 := kc HB.out x1
      have hbl := cell_lt x0
      replace hbl : b < wr.heap.size := hbl
      have t1 : decide ((k : Int) < n) = true := by simp; omega
      have hpos : (k : Int) < n := by omega
      have HX := Lib.hid hx
      have HBw := Lib.hid (by1.below (HB.out.alloc HB.out.size (Obj.cells #[Value.int IntKind.u8 kd, Value.slice A1 d.length n1] 36)))
      have hdl : d.length ≤ 2 ^ 40 := HLB.out _ (List.mem_of_getElem? hx)
      have HDL := Lib.hid hdl
      clear hx by1 hnil hdl hk0 hk1
      by_cases hkk : kd = kind
      · subst hkk
        have HRR : Hid (RES = (true, (kd, d))) := by show _ = _; rw [← HRES.out]; exact fnS_some HX.out rfl HMET.out
        go_wp2_with fail
        refine (clone_any d A1 n1 _ HBw.out HDL.out).mono ?_
        rintro e Y ⟨v, rfl, hrow, hnil, hbY⟩
        have HROW := Lib.hid hrow
        have hbY2 := HB.out.trans ((((Below.refl _ _).alloc (Nat.le_refl _) (Obj.cells #[Value.int IntKind.u8 kd, Value.slice A1 d.length n1] 36)).trans (hbY.mono (by simp))).mono HB.out.size)
        have HBY := Lib.hid hbY2
        have hh := blk_below hbY (show (wr.alloc (Obj.cells #[Value.int IntKind.u8 kd, Value.slice A1 d.length n1] 36)).heap[w.heap.size]? = _ from (Below.heap_alloc _ _ _ (by omega)).trans HHR.out)
        have HHY := Lib.hid hh
        clear r0 r1 fr fr1 hlr hrow hnil hbY hbY2 x0 x1
        have r0 := blk_cell hh 0
        have r1 := blk_cell hh 1
        simp at r0 r1
        have fr := blk_free hh 0
        have fr1 := blk_free hh 1
        have hlr := blk_lt hh
        clear hh
        obtain ⟨A5, c5, hv⟩ := own_form HROW.out
        subst hv
        go_wp2_with fail
        have hres := HRR.out
        subst hres
        have hset := blk_set (blk_set HHY.out 0 (.int .u8 kd)) 1 (.slice A5 d.length c5)
        have s0 := blk_cell hset 0
        have s1 := blk_cell hset 1
        simp at s0 s1
        refine bodyPost_ret (v := .tuple #[.agg #[.int .u8 kd, .slice A5 d.length c5], .bool true]) (by simp [results, Try.results25, go_sem, s0, s1]) rfl ?_
        refine ⟨_, rfl, ?_, (HBY.out.setCell (p := ⟨w.heap.size, 0, none⟩) (Nat.le_refl _) _).setCell (p := ⟨w.heap.size, 1, none⟩) (Nat.le_refl _) _⟩
        refine own_base (own_of_block HROW.out fun g hg e _ => ?_) (by simp; have := HB.out.size; omega)
        have hgw : g ≠ w.heap.size := by
          simp at hg
          have := blk_lt HHR.out
          omega
        exact (Below.heap_setCell _ _ _ _ (by show g ≠ w.heap.size; exact hgw)).trans (Below.heap_setCell _ _ _ _ (by show g ≠ w.heap.size; exact hgw))
      · have e1 : (kd == kind) = false := by simpa using hkk
        have HKK := Lib.hid hkk
        clear hkk
        go_wp2_with fail
        exact ⟨⟨k + 1, by omega, by go_num, fun j hj p hp => by
          by_cases hjk : j < k
          · exact HMET.out j hjk p hp
          · obtain rfl : j = k := by omega
            have := HX.out.symm.trans hp
            cases this
            exact HKK.out, HBX.out.alloc HBX.out.size _⟩, by simp [intOf]; omega⟩
    · obtain rfl : k = n := by omega
      have t1 : decide ((k : Int) < k) = false := by simp
      have HRR : Hid (RES = (false, (0, []))) := by
        show _ = _
        rw [← HRES.out]
        refine fnS_none fun i p hp => HMET.out i ?_ p hp
        have := (List.getElem?_eq_some_iff.1 hp).1
        have := HN.out
        omega
      go_wp2_with fail
      have hres := HRR.out
      subst hres
      have hset := blk_set (blk_set HHR.out 0 (.int .u8 0)) 1 (.slice none 0 0)
      have s0 := blk_cell hset 0
      have s1 := blk_cell hset 1
      simp at s0 s1
      refine bodyPost_ret (v := .tuple #[.agg #[.int .u8 0, .slice none 0 0], .bool false]) (by simp [results, Try.results25, go_sem, s0, s1]) rfl ?_
      exact ⟨_, rfl, World.ownsRow_nil _ _ _ _, (HB.out.setCell (p := ⟨w.heap.size, 0, none⟩) (Nat.le_refl _) _).setCell (p := ⟨w.heap.size, 1, none⟩) (Nat.le_refl _) _⟩

end Go.Proofs.Ytjfnnclbfaakkaa

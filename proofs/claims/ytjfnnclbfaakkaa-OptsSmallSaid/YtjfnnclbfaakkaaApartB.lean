/-
  The contract of bafflekit's Apart function. Conditions: the slices lie in blocks of their own.
-/
import Derived.Test.YtjfnnclbfaakkaaNilF
import Derived.Maps.AppendAt
namespace Go.Proofs.Ytjfnnclbfaakkaa
open Go.RowKit
set_option linter.unusedVariables false
set_option linter.unusedSimpArgs false

set_option maxRecDepth 100000 in
set_option maxHeartbeats 4000000 in
theorem apartB52 {xs : List Ext} {L : List Sli} {A : Option Addr} {N cl B bb : Nat} {W : World} (hL : Lg L) (hN : L.length = N) (hrow : W.ownsRow B 22 1 (.slice A N cl) N (L.map Sli.v)) (hbl : ∀ (k : Nat) (s : Sli) (b : Nat), L[k]? = some s → s.g = some b → B ≤ b ∧ ∃ F, W.heap[b]? = some (.cells F 5 (0, 0)) ∧ F.size = s.c) (hB : B ≤ W.heap.size) (hbag : W.heap[bb]? = some (.cells #[.slice none 0 0, .slice none 0 0, .slice A N cl, .slice none 0 0, .slice none 0 0, .slice none 0 0, .slice none 0 0, .slice none 0 0, .slice none 0 0, .slice none 0 0, .slice none 0 0, .slice none 0 0, .slice none 0 0] 108 (0, 0))) (hxs : ∀ y ∈ xs, W.heap[y.b]? = some (.cells y.F y.t (0, 0))) (hxo : ∀ y ∈ xs, y.t ≠ 5 ∧ y.t ≠ 22) :
    Calls Try.prog 52 #[.pointer (some ⟨bb, 0, none⟩)] W fun e w' => e = .returned (.bool true) ∧ Below B W w' ∧ ∀ y ∈ xs, w'.heap[y.b]? = some (.cells y.F y.t (0, 0)) := by
  have HXS := Lib.hid hxs
  have HXO := Lib.hid hxo
  have HL := Lib.hid hL
  have HN := Lib.hid hN
  have HROW := Lib.hid hrow
  have HBL := Lib.hid hbl
  have HB := Lib.hid hB
  have HBAG := Lib.hid hbag
  have HBW := Lib.hid (Below.refl B W)
  have k0 := blk_cell hbag 0
  have k1 := blk_cell hbag 1
  have k2 := blk_cell hbag 2
  have k3 := blk_cell hbag 3
  have k4 := blk_cell hbag 4
  have k5 := blk_cell hbag 5
  have k6 := blk_cell hbag 6
  have k7 := blk_cell hbag 7
  have k8 := blk_cell hbag 8
  have k9 := blk_cell hbag 9
  have k10 := blk_cell hbag 10
  have k11 := blk_cell hbag 11
  have k12 := blk_cell hbag 12
  simp at k0 k1 k2 k3 k4 k5 k6 k7 k8 k9 k10 k11 k12
  have hlt := blk_lt hbag
  clear hL hN hrow hbl hB hbag hxs hxo
  go_enter Try.func52, Try.ntmps52
  go_wp2_with fail
  refine (flat65_nil _).mono ?_
  rintro e Y0 ⟨rfl, hb⟩
  replace HBAG := Lib.hid (blk_below hb HBAG.out)
  replace HXS := Lib.hid (fun y (hy : y ∈ xs) => blk_below hb (HXS.out y hy))
  replace HROW := Lib.hid (own_below HROW.out hb)
  replace HBL := Lib.hid (fun (k : Nat) (s : Sli) (b : Nat) (h1 : L[k]? = some s) (h2 : s.g = some b) => (show B ≤ b ∧ ∃ F, Y0.heap[b]? = some (.cells F 5 (0, 0)) ∧ F.size = s.c from by
    obtain ⟨h3, F, h4, h5⟩ := HBL.out k s b h1 h2
    exact ⟨h3, F, blk_below hb h4, h5⟩))
  replace HBW := Lib.hid (HBW.out.trans (hb.mono (Nat.le_trans HB.out HBW.out.size)))
  clear hb k0 k1 k2 k3 k4 k5 k6 k7 k8 k9 k10 k11 k12 hlt
  have k1 := blk_cell HBAG.out 1
  have k2 := blk_cell HBAG.out 2
  have k3 := blk_cell HBAG.out 3
  have k4 := blk_cell HBAG.out 4
  have k5 := blk_cell HBAG.out 5
  have k6 := blk_cell HBAG.out 6
  have k7 := blk_cell HBAG.out 7
  have k8 := blk_cell HBAG.out 8
  have k9 := blk_cell HBAG.out 9
  have k10 := blk_cell HBAG.out 10
  have k11 := blk_cell HBAG.out 11
  have k12 := blk_cell HBAG.out 12
  simp at k1 k2 k3 k4 k5 k6 k7 k8 k9 k10 k11 k12
  have hlt := blk_lt HBAG.out
  go_wp2_with fail
  refine (flat66_nil _).mono ?_
  rintro e Y1 ⟨rfl, hb⟩
  replace HBAG := Lib.hid (blk_below hb HBAG.out)
  replace HXS := Lib.hid (fun y (hy : y ∈ xs) => blk_below hb (HXS.out y hy))
  replace HROW := Lib.hid (own_below HROW.out hb)
  replace HBL := Lib.hid (fun (k : Nat) (s : Sli) (b : Nat) (h1 : L[k]? = some s) (h2 : s.g = some b) => (show B ≤ b ∧ ∃ F, Y1.heap[b]? = some (.cells F 5 (0, 0)) ∧ F.size = s.c from by
    obtain ⟨h3, F, h4, h5⟩ := HBL.out k s b h1 h2
    exact ⟨h3, F, blk_below hb h4, h5⟩))
  replace HBW := Lib.hid (HBW.out.trans (hb.mono (Nat.le_trans HB.out HBW.out.size)))
  clear hb k1 k2 k3 k4 k5 k6 k7 k8 k9 k10 k11 k12 hlt
  have k2 := blk_cell HBAG.out 2
  have k3 := blk_cell HBAG.out 3
  have k4 := blk_cell HBAG.out 4
  have k5 := blk_cell HBAG.out 5
  have k6 := blk_cell HBAG.out 6
  have k7 := blk_cell HBAG.out 7
  have k8 := blk_cell HBAG.out 8
  have k9 := blk_cell HBAG.out 9
  have k10 := blk_cell HBAG.out 10
  have k11 := blk_cell HBAG.out 11
  have k12 := blk_cell HBAG.out 12
  simp at k2 k3 k4 k5 k6 k7 k8 k9 k10 k11 k12
  have hlt := blk_lt HBAG.out
  go_wp2_with fail
  refine (flatB_any (x := ⟨bb, #[.slice none 0 0, .slice none 0 0, .slice A N cl, .slice none 0 0, .slice none 0 0, .slice none 0 0, .slice none 0 0, .slice none 0 0, .slice none 0 0, .slice none 0 0, .slice none 0 0, .slice none 0 0, .slice none 0 0], 108⟩ :: xs) HL.out HN.out HROW.out HBL.out (Nat.le_trans HB.out HBW.out.size) (fun y hy => by
    rcases List.mem_cons.1 hy with rfl | hy
    · exact HBAG.out
    · exact HXS.out y hy) (fun y hy => by
    rcases List.mem_cons.1 hy with rfl | hy
    · exact ⟨(by show (108 : TypeId) ≠ 5; decide), (by show (108 : TypeId) ≠ 22; decide)⟩
    · exact HXO.out y hy)).mono ?_
  rintro e Y2 ⟨rfl, hb, hx⟩
  replace HBAG := Lib.hid (hx _ (List.mem_cons_self))
  replace HXS := Lib.hid (fun y (hy : y ∈ xs) => hx y (List.mem_cons_of_mem _ hy))
  replace HBW := Lib.hid (HBW.out.trans hb)
  clear hb hx k2 k3 k4 k5 k6 k7 k8 k9 k10 k11 k12 hlt
  have k3 := blk_cell HBAG.out 3
  have k4 := blk_cell HBAG.out 4
  have k5 := blk_cell HBAG.out 5
  have k6 := blk_cell HBAG.out 6
  have k7 := blk_cell HBAG.out 7
  have k8 := blk_cell HBAG.out 8
  have k9 := blk_cell HBAG.out 9
  have k10 := blk_cell HBAG.out 10
  have k11 := blk_cell HBAG.out 11
  have k12 := blk_cell HBAG.out 12
  simp at k3 k4 k5 k6 k7 k8 k9 k10 k11 k12
  have hlt := blk_lt HBAG.out
  go_wp2_with fail
  refine (flat68_nil _).mono ?_
  rintro e Y3 ⟨rfl, hb⟩
  replace HBAG := Lib.hid (blk_below hb HBAG.out)
  replace HXS := Lib.hid (fun y (hy : y ∈ xs) => blk_below hb (HXS.out y hy))
  replace HBW := Lib.hid (HBW.out.trans (hb.mono (Nat.le_trans HB.out HBW.out.size)))
  clear hb k3 k4 k5 k6 k7 k8 k9 k10 k11 k12 hlt
  have k4 := blk_cell HBAG.out 4
  have k5 := blk_cell HBAG.out 5
  have k6 := blk_cell HBAG.out 6
  have k7 := blk_cell HBAG.out 7
  have k8 := blk_cell HBAG.out 8
  have k9 := blk_cell HBAG.out 9
  have k10 := blk_cell HBAG.out 10
  have k11 := blk_cell HBAG.out 11
  have k12 := blk_cell HBAG.out 12
  simp at k4 k5 k6 k7 k8 k9 k10 k11 k12
  have hlt := blk_lt HBAG.out
  go_wp2_with fail
  refine (flat69_nil _).mono ?_
  rintro e Y4 ⟨rfl, hb⟩
  replace HBAG := Lib.hid (blk_below hb HBAG.out)
  replace HXS := Lib.hid (fun y (hy : y ∈ xs) => blk_below hb (HXS.out y hy))
  replace HBW := Lib.hid (HBW.out.trans (hb.mono (Nat.le_trans HB.out HBW.out.size)))
  clear hb k4 k5 k6 k7 k8 k9 k10 k11 k12 hlt
  have k5 := blk_cell HBAG.out 5
  have k6 := blk_cell HBAG.out 6
  have k7 := blk_cell HBAG.out 7
  have k8 := blk_cell HBAG.out 8
  have k9 := blk_cell HBAG.out 9
  have k10 := blk_cell HBAG.out 10
  have k11 := blk_cell HBAG.out 11
  have k12 := blk_cell HBAG.out 12
  simp at k5 k6 k7 k8 k9 k10 k11 k12
  have hlt := blk_lt HBAG.out
  go_wp2_with fail
  refine (flat70_nil _).mono ?_
  rintro e Y5 ⟨rfl, hb⟩
  replace HBAG := Lib.hid (blk_below hb HBAG.out)
  replace HXS := Lib.hid (fun y (hy : y ∈ xs) => blk_below hb (HXS.out y hy))
  replace HBW := Lib.hid (HBW.out.trans (hb.mono (Nat.le_trans HB.out HBW.out.size)))
  clear hb k5 k6 k7 k8 k9 k10 k11 k12 hlt
  have k6 := blk_cell HBAG.out 6
  have k7 := blk_cell HBAG.out 7
  have k8 := blk_cell HBAG.out 8
  have k9 := blk_cell HBAG.out 9
  have k10 := blk_cell HBAG.out 10
  have k11 := blk_cell HBAG.out 11
  have k12 := blk_cell HBAG.out 12
  simp at k6 k7 k8 k9 k10 k11 k12
  have hlt := blk_lt HBAG.out
  go_wp2_with fail
  refine (flat71_nil _).mono ?_
  rintro e Y6 ⟨rfl, hb⟩
  replace HBAG := Lib.hid (blk_below hb HBAG.out)
  replace HXS := Lib.hid (fun y (hy : y ∈ xs) => blk_below hb (HXS.out y hy))
  replace HBW := Lib.hid (HBW.out.trans (hb.mono (Nat.le_trans HB.out HBW.out.size)))
  clear hb k6 k7 k8 k9 k10 k11 k12 hlt
  have k7 := blk_cell HBAG.out 7
  have k8 := blk_cell HBAG.out 8
  have k9 := blk_cell HBAG.out 9
  have k10 := blk_cell HBAG.out 10
  have k11 := blk_cell HBAG.out 11
  have k12 := blk_cell HBAG.out 12
  simp at k7 k8 k9 k10 k11 k12
  have hlt := blk_lt HBAG.out
  go_wp2_with fail
  refine (flat72_nil _).mono ?_
  rintro e Y7 ⟨rfl, hb⟩
  replace HBAG := Lib.hid (blk_below hb HBAG.out)
  replace HXS := Lib.hid (fun y (hy : y ∈ xs) => blk_below hb (HXS.out y hy))
  replace HBW := Lib.hid (HBW.out.trans (hb.mono (Nat.le_trans HB.out HBW.out.size)))
  clear hb k7 k8 k9 k10 k11 k12 hlt
  have k8 := blk_cell HBAG.out 8
  have k9 := blk_cell HBAG.out 9
  have k10 := blk_cell HBAG.out 10
  have k11 := blk_cell HBAG.out 11
  have k12 := blk_cell HBAG.out 12
  simp at k8 k9 k10 k11 k12
  have hlt := blk_lt HBAG.out
  go_wp2_with fail
  refine (flat73_nil _).mono ?_
  rintro e Y8 ⟨rfl, hb⟩
  replace HBAG := Lib.hid (blk_below hb HBAG.out)
  replace HXS := Lib.hid (fun y (hy : y ∈ xs) => blk_below hb (HXS.out y hy))
  replace HBW := Lib.hid (HBW.out.trans (hb.mono (Nat.le_trans HB.out HBW.out.size)))
  clear hb k8 k9 k10 k11 k12 hlt
  have k9 := blk_cell HBAG.out 9
  have k10 := blk_cell HBAG.out 10
  have k11 := blk_cell HBAG.out 11
  have k12 := blk_cell HBAG.out 12
  simp at k9 k10 k11 k12
  have hlt := blk_lt HBAG.out
  go_wp2_with fail
  refine (flat74_nil _).mono ?_
  rintro e Y9 ⟨rfl, hb⟩
  replace HBAG := Lib.hid (blk_below hb HBAG.out)
  replace HXS := Lib.hid (fun y (hy : y ∈ xs) => blk_below hb (HXS.out y hy))
  replace HBW := Lib.hid (HBW.out.trans (hb.mono (Nat.le_trans HB.out HBW.out.size)))
  clear hb k9 k10 k11 k12 hlt
  have k10 := blk_cell HBAG.out 10
  have k11 := blk_cell HBAG.out 11
  have k12 := blk_cell HBAG.out 12
  simp at k10 k11 k12
  have hlt := blk_lt HBAG.out
  go_wp2_with fail
  refine (flat75_nil _).mono ?_
  rintro e Y10 ⟨rfl, hb⟩
  replace HBAG := Lib.hid (blk_below hb HBAG.out)
  replace HXS := Lib.hid (fun y (hy : y ∈ xs) => blk_below hb (HXS.out y hy))
  replace HBW := Lib.hid (HBW.out.trans (hb.mono (Nat.le_trans HB.out HBW.out.size)))
  clear hb k10 k11 k12 hlt
  have k11 := blk_cell HBAG.out 11
  have k12 := blk_cell HBAG.out 12
  simp at k11 k12
  have hlt := blk_lt HBAG.out
  go_wp2_with fail
  refine (flat76_nil _).mono ?_
  rintro e Y11 ⟨rfl, hb⟩
  replace HBAG := Lib.hid (blk_below hb HBAG.out)
  replace HXS := Lib.hid (fun y (hy : y ∈ xs) => blk_below hb (HXS.out y hy))
  replace HBW := Lib.hid (HBW.out.trans (hb.mono (Nat.le_trans HB.out HBW.out.size)))
  clear hb k11 k12 hlt
  have k12 := blk_cell HBAG.out 12
  simp at k12
  have hlt := blk_lt HBAG.out
  go_wp2_with fail
  refine (flat77_nil _).mono ?_
  rintro e Y12 ⟨rfl, hb⟩
  replace HBAG := Lib.hid (blk_below hb HBAG.out)
  replace HXS := Lib.hid (fun y (hy : y ∈ xs) => blk_below hb (HXS.out y hy))
  replace HBW := Lib.hid (HBW.out.trans (hb.mono (Nat.le_trans HB.out HBW.out.size)))
  clear hb k12 hlt
  have hlt := blk_lt HBAG.out
  go_wp2_with fail
  go_ret
  exact ⟨rfl, HBW.out, HXS.out⟩

end Go.Proofs.Ytjfnnclbfaakkaa

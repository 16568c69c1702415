/-
  The walk of OptsWrong. Conditions: the small numbers lie.
-/
import Derived.Test.YtjfnnclbfaakkaaWrongB
import Derived.Test.YtjfnnclbfaakkaaWrongC
import Derived.Test.YtjfnnclbfaakkaaNest
namespace Go.Proofs.Ytjfnnclbfaakkaa
open Go.RowKit
set_option linter.unusedVariables false
set_option linter.unusedSimpArgs false

theorem Rd.take {w : World} {A : Option Addr} {size : Nat} {css : List (List Value)} (h1 : Rd w A size css) (k : Nat) : Rd w A size (css.take k) := by
  refine ⟨fun cs hcs => h1.each cs (List.mem_of_mem_take hcs), fun hne => ?_⟩
  obtain ⟨b, o, e, hlt, hc⟩ := h1.mem (by rintro rfl; simp at hne)
  refine ⟨b, o, e, hlt, fun i cs hi j v hv => hc i cs ?_ j v hv⟩
  rw [List.getElem?_take] at hi
  split at hi
  · exact hi
  · cases hi
theorem Smalls.take {w : World} {A : Option Addr} {l : List Sm} (h : Smalls w A l) (k : Nat) : Smalls w A (l.take k) := by
  obtain ⟨css, h1, h2, h3⟩ := h.mem
  refine ⟨fun x hx => h.ok x (List.mem_of_mem_take hx), css.take k, h1.take k, by simp [h2], fun i x hi => ?_⟩
  rw [List.getElem?_take] at hi
  split at hi
  · rename_i hik
    obtain ⟨Ai, ci, e, g1, g2⟩ := h3 i x hi
    exact ⟨Ai, ci, by rw [List.getElem?_take, if_pos hik]; exact e, g1, g2⟩
  · cases hi
theorem made_m (l : List Sm) (m : Nat) (A : Option Addr) (c : Nat) (w : World) (hm : l.length = m) (hl : Smalls w A l) (hcap : m ≤ c) (hmax : c ≤ maxLen) {al : List Op1} {bt : Int} (hM : madeS l = (al, bt)) :
    Calls Try.prog 15 #[.slice A m c] w fun e w' => ∃ A7 c7 css, e = .returned (.tuple #[.slice A7 al.length c7, .int .i64 bt]) ∧ Got w.heap.size w' (.slice A7 al.length c7) css al ∧ (A7 = none → al.length = 0 ∧ c7 = 0) ∧ al.length ≤ c7 ∧ c7 ≤ maxLen ∧ Ops w' A7 al ∧ Below w.heap.size w w' := by
  subst hm
  refine (made_any l A c w hl hcap hmax).mono ?_
  rintro e w' ⟨v, css, rfl, hG, hb⟩
  rw [hM] at hG ⊢
  simp only at hG ⊢
  obtain ⟨A7, c7, rfl, h1, h2, hO⟩ := hG.ops
  refine ⟨A7, c7, css, rfl, hG, ?_, h1, h2, hO, hb⟩
  rcases own_cases hG.row with ⟨e, h0, _⟩ | ⟨g, cap, e, _⟩
  · injection e with _ _ e3
    exact fun _ => ⟨h0, e3⟩
  · injection e with e1
    intro h
    rw [h] at e1
    cases e1
theorem read_m (bs : List Int) (m : Nat) (A : Option Addr) (c : Nat) (w : World) (hm : bs.length = m) (hd : By w A bs) (hcap : m ≤ c) (hmax : c ≤ maxLen) {e : Int} {rl : List Op1} (hr : readS bs = (e, rl)) :
    Calls Try.prog 17 #[.slice A m c] w fun r w' => ∃ A4 c4 css, r = .returned (.tuple #[.slice A4 rl.length c4, .int .i64 e]) ∧ Got w.heap.size w' (.slice A4 rl.length c4) css rl ∧ Below w.heap.size w w' := by
  subst hm
  refine (read_any bs A c w hd hcap hmax).mono ?_
  rintro r w' ⟨v, css, rfl, hG, hb⟩
  rw [hr] at hG ⊢
  simp only at hG ⊢
  obtain ⟨A4, c4, rfl, _⟩ := hG.ops
  exact ⟨A4, c4, css, rfl, hG, hb⟩
theorem right_no {k : Int} {d : List Int} {A : Option Addr} {c : Nat} {w : World} (hk : 0 ≤ k ∧ k ≤ 255) (hd : By w A d) (hn : d.length ≤ 300) (hw : rightS (k, d) = false) : Calls Try.prog 19 #[.agg #[.int .u8 k, .slice A d.length c]] w fun e w' => e = .returned (.bool false) ∧ Below w.heap.size w w' := by
  have h := right_any k d A c w hk hd (by omega)
  rw [hw] at h
  exact h

theorem opvs_rng {w : World} {css : List (List Value)} {l : List Op1} (h : OpVs w css l) : ∀ o ∈ l, (0 ≤ o.1 ∧ o.1 ≤ 255) ∧ ∀ x ∈ o.2, 0 ≤ x ∧ x ≤ 255 := by
  induction h with
  | nil => simp
  | cons h1 _ ih =>
    intro o ho
    rcases List.mem_cons.1 ho with rfl | h2
    · obtain ⟨A, c, _, _, _, hb, _⟩ := h1.mem
      exact ⟨h1.kind, hb.rng⟩
    · exact ih o h2
theorem Ops.rng {w : World} {A : Option Addr} {l : List Op1} (h : Ops w A l) : ∀ o ∈ l, (0 ≤ o.1 ∧ o.1 ≤ 255) ∧ ∀ x ∈ o.2, 0 ≤ x ∧ x ≤ 255 := by
  obtain ⟨css, _, h2⟩ := h.mem
  exact opvs_rng h2

set_option maxRecDepth 100000 in
set_option maxHeartbeats 8000000 in
theorem wrong_any (l : List Sm) (A : Option Addr) (c : Nat) (way nn : Int) (w : World) (hl : Smalls w A l) (hcap : l.length ≤ c) (hmax : c ≤ maxLen) (hy : 0 ≤ way ∧ way ≤ 255) (hnn : 0 ≤ nn ∧ nn ≤ 255) :
    Calls Try.prog 9 #[.slice A l.length c, .int .u8 way, .int .u8 nn] w fun e w' => e = .returned (.bool true) ∧ Below w.heap.size w w' := by
  obtain ⟨m, hm⟩ : ∃ m, min l.length 2 = m := ⟨_, rfl⟩
  have hlm : (l.take m).length = m := by rw [List.length_take]; omega
  have hsm := hl.take m
  obtain ⟨M, hM⟩ : ∃ M, madeS (l.take m) = M := ⟨_, rfl⟩
  have hinv := MdInv.made hsm.ok
  rw [hM] at hinv
  obtain ⟨al, bt⟩ := M
  obtain ⟨hgood, hbt, hb40⟩ := hinv
  simp only at hgood hbt hb40
  obtain ⟨hw, _, _, hle, _, h40, _⟩ := back_plain hgood (by omega)
  obtain ⟨zs, hz, _, _, _⟩ := pad_form (flat al)
  obtain ⟨nb, hnb⟩ : ∃ nb, (flat al).length = nb := ⟨_, rfl⟩
  obtain ⟨ob, hob⟩ : ∃ ob, padS (flat al) = ob := ⟨_, rfl⟩
  rw [hob] at hw hz hle h40
  rw [hnb] at hbt hle
  have htk : ob.take nb = flat al := by rw [hz, ← hnb, List.take_left']; rfl
  subst hbt
  obtain ⟨n7, hn7⟩ : ∃ n7, al.length = n7 := ⟨_, rfl⟩
  have hn740 : n7 ≤ 40 := by have := flat_count al; omega
  obtain ⟨k8, hk8⟩ : ∃ k8, way % 8 = k8 := ⟨_, rfl⟩
  have hk80 : 0 ≤ k8 ∧ k8 ≤ 7 := by omega
  have htm : way.tmod 8 = k8 := by rw [Int.tmod_eq_emod_of_nonneg hy.1]; exact hk8
  have hkw : IntKind.u8.wrap k8 = k8 := IntWalk.u8_in _ (by omega)
  have HGD := Lib.hid hgood
  have HR := Lib.hid (good_right al [] hgood)
  have HM := Lib.hid hM
  have HW := Lib.hid hw
  have HOB := Lib.hid hob
  have HTK := Lib.hid htk
  have HNB := Lib.hid hnb
  have HN7 := Lib.hid hn7
  have HSM := Lib.hid hsm
  have HLM := Lib.hid hlm
  have HMAX := Lib.hid hmax
  obtain ⟨n, hN⟩ : ∃ n, l.length = n := ⟨_, rfl⟩
  rw [hN] at hcap hm ⊢
  have hmn : m ≤ n := by omega
  have hmin1 : (if 2 < n then (2 : Int) else n) = m := by split <;> omega
  have hmin2 : (if (2 : Int) < n then (2 : Int) else n) = m := by split <;> omega
  have hm0 : (0 : Int) ≤ m := by omega
  have hmc : (m : Int) ≤ c := by omega
  have HCAP := Lib.hid (show m ≤ c by omega)
  have H38 : Hid (∀ o ∈ al, o.2.length ≤ 2 ^ 40) := fun o ho => by have := right_len (HR.out o ho); omega
  clear hM hgood hw hob htk hn7 hsm hlm hl hmax hcap hN hz hk8 hnb hm
  go_enter Try.func9, Try.ntmps9
  go_wp2_with fail
  refine (awake_any _).mono ?_
  rintro e Y1 ⟨rfl, hb1⟩
  have HB1 := Lib.hid hb1
  have HL1 := Lib.hid (HSM.out.below hb1)
  clear hb1
  go_wp2_with fail
  refine (made_m (l.take m) m A c _ HLM.out HL1.out HCAP.out HMAX.out HM.out).mono ?_
  rintro e Y2 ⟨A7, c7, css, rfl, hG, hA7, h7a, h7b, hO2, hb2⟩
  rw [HN7.out] at hA7 h7a ⊢
  have HB2 := Lib.hid (HB1.out.trans (hb2.mono HB1.out.size))
  have HA7 := Lib.hid hA7
  have HO2 := Lib.hid hO2
  clear hmin1 hmin2 hG hA7 hO2 hb2 HL1 HB1
  go_upto_block 0 with fail
  have h9 := heap_alloc_last Y2 (Obj.cells #[Value.int IntKind.u8 0, Value.slice none 0 0] 36)
  obtain ⟨b9, hb9⟩ : ∃ b, Y2.heap.size = b := ⟨_, rfl⟩
  have HB9 := Lib.hid hb9
  rw [hb9] at h9 ⊢
  obtain ⟨X0, hX0⟩ : ∃ X, Y2.alloc (Obj.cells #[Value.int IntKind.u8 0, Value.slice none 0 0] 36) = X := ⟨_, rfl⟩
  have hbX0 : Below Y2.heap.size Y2 X0 := by rw [← hX0]; exact (Below.refl _ _).alloc (Nat.le_refl _) _
  rw [hX0] at h9 ⊢
  refine sw_any _ (by kernel_rfl) _ h9 hnn.1 hnn.2 hk80.1 hk80.2 ?_
  intro y46 y47 y48 y49 y50 y51 y52 y53 y54 y55 y56 y57 y58 y59 y60 y61 y62 y63 y64 y65 y66 y67 y68 y69 y70 y71 y72 y73 y74 y75 y76 y77 y78 y79 y80 y81 y82 y83 y84 y85 y86 y87 y88 y89 y90 y91 y92 y93 y94 y95 y96 y97 y98 y99 y100 y101 kd d A9 c9 X1 hS
  have hbX1 : Below Y2.heap.size Y2 X1 := hbX0.trans (hS.keep.below (fun b hb => by show b ≠ b9; omega) hbX0.size)
  have HS := Lib.hid hS
  have HO3 := Lib.hid (HO2.out.below hbX1)
  have HB3 := Lib.hid (HB2.out.trans (hbX1.mono HB2.out.size))
  clear h9 hX0 hbX0 hS hbX1 HO2 HB2 hb9
  go_upto_region 20 with fail
  refine reg20_any _ (by kernel_rfl) _ HS.out.obj HS.out.bys HS.out.cap HS.out.max HS.out.nil HS.out.kind HS.out.len HS.out.wrong HO3.out HN7.out (by omega) HA7.out H38.out ?_
  intro y102 y103 y104 y105 y106 y107 y108 y109 y110 y111 A12 c12 X2 hb
  have o9 := blk_below hb HS.out.obj
  have HO9 := Lib.hid o9
  have HBY := Lib.hid (HS.out.bys.below hb)
  have HO4 := Lib.hid (HO3.out.below hb)
  have HB4 := Lib.hid (HB3.out.trans (hb.mono HB3.out.size))
  have k0 := blk_cell o9 0
  have k1 := blk_cell o9 1
  simp at k0 k1
  have hl9 := blk_lt o9
  clear o9 hb HO3 HB3
  go_wp2_with fail
  refine (right_no HS.out.kind HBY.out HS.out.len HS.out.wrong).mono ?_
  rintro e X3 ⟨rfl, hb⟩
  replace HO9 := Lib.hid (blk_below hb HO9.out)
  replace HBY := Lib.hid (HBY.out.below hb)
  replace HO4 := Lib.hid (HO4.out.below hb)
  replace HB4 := Lib.hid (HB4.out.trans (hb.mono HB4.out.size))
  have k0 := blk_cell HO9.out 0
  have k1 := blk_cell HO9.out 1
  simp at k0 k1
  have hl9 := blk_lt HO9.out
  clear hb
  go_wp2_with fail
  refine (route_any kd d A9 c9 _ HS.out.kind HBY.out (by have := HS.out.len; omega) HS.out.cap).mono ?_
  rintro e X4 ⟨v5, v6, rfl, _, hb⟩
  rw [route_no HS.out.wrong]
  simp only
  replace HO9 := Lib.hid (blk_below hb HO9.out)
  replace HBY := Lib.hid (HBY.out.below hb)
  replace HO4 := Lib.hid (HO4.out.below hb)
  replace HB4 := Lib.hid (HB4.out.trans (hb.mono HB4.out.size))
  have k0 := blk_cell HO9.out 0
  have k1 := blk_cell HO9.out 1
  simp at k0 k1
  have hl9 := blk_lt HO9.out
  clear hb
  go_wp2_with fail
  refine (record_any kd d A9 c9 1 _ HS.out.kind HBY.out (by have := HS.out.len; omega) (by decide)).mono ?_
  rintro e X5 ⟨v7, rfl, hrow7, hb⟩
  rw [rec_no HS.out.wrong] at hrow7 ⊢
  simp only at hrow7 ⊢
  obtain ⟨A17, c17, rfl⟩ := own_form hrow7
  simp only [List.length_nil]
  replace HO9 := Lib.hid (blk_below hb HO9.out)
  replace HBY := Lib.hid (HBY.out.below hb)
  replace HO4 := Lib.hid (HO4.out.below hb)
  replace HB4 := Lib.hid (HB4.out.trans (hb.mono HB4.out.size))
  have k0 := blk_cell HO9.out 0
  have k1 := blk_cell HO9.out 1
  simp at k0 k1
  have hl9 := blk_lt HO9.out
  clear hb hrow7
  obtain ⟨ld, hld⟩ : ∃ ld, d.length = ld := ⟨_, rfl⟩
  have HLD := Lib.hid hld
  have hld3 : ld ≤ 300 := by rw [← hld]; exact HS.out.len
  rw [hld] at k1 HO9
  clear hld
  go_upto_region 28 with fail
  obtain ⟨X6, hX6⟩ : ∃ X, X5.alloc (Obj.cells #[Value.int IntKind.u8 0, Value.slice A17 0 c17] 36) = X := ⟨_, rfl⟩
  have hb : Below X5.heap.size X5 X6 := by rw [← hX6]; exact (Below.refl _ _).alloc (Nat.le_refl _) _
  rw [hX6]
  replace HO9 := Lib.hid (blk_below hb HO9.out)
  replace HBY := Lib.hid (HBY.out.below hb)
  replace HO4 := Lib.hid (HO4.out.below hb)
  replace HB4 := Lib.hid (HB4.out.trans (hb.mono HB4.out.size))
  have k0 := blk_cell HO9.out 0
  have k1 := blk_cell HO9.out 1
  simp at k0 k1
  have hl9 := blk_lt HO9.out
  clear hb hX6
  have hwz1 : IntKind.i64.wrap ((nb : Int) + 2) = (nb : Int) + 2 := IntWalk.i64_in _ (by omega)
  have hwz2 : IntKind.i64.wrap ((nb : Int) + 2 + ld) = (nb : Int) + 2 + ld := IntWalk.i64_in _ (by omega)
  obtain ⟨z1, hz1⟩ : ∃ z, decide (1 < k8) = z := ⟨_, rfl⟩
  obtain ⟨z2, hz2⟩ : ∃ z, (k8 != 6) = z := ⟨_, rfl⟩
  obtain ⟨z3, hz3⟩ : ∃ z, decide (nb + 2 + ld ≤ 40) = z := ⟨_, rfl⟩
  have hz3' : decide ((nb : Int) + 2 + ld ≤ 40) = z3 := by
    rw [← hz3]
    by_cases h : nb + 2 + ld ≤ 40
    · rw [decide_eq_true h]; exact decide_eq_true (by omega)
    · rw [decide_eq_false h]; exact decide_eq_false (by omega)
  have HZ1 := Lib.hid hz1
  have HZ2 := Lib.hid hz2
  have HZ3 := Lib.hid hz3
  go_cut [157] (fun v157 wx => v157 = .bool (z1 && z2 && z3) ∧ wx = X6)
  case first =>
    cases z1
    · go_wp2_with fail
      go_meet
      exact ⟨rfl, rfl⟩
    · cases z2
      · go_wp2_with fail
        go_meet
        exact ⟨rfl, rfl⟩
      · go_wp2_with fail
        go_meet
        exact ⟨rfl, rfl⟩
  obtain ⟨rfl, hwc⟩ := hcut
  rw [hwc]
  clear hwc hwz1 hwz2 hz1 hz2 hz3 hz3'
  obtain ⟨z, hz⟩ : ∃ z, (z1 && z2 && z3) = z := ⟨_, rfl⟩
  rw [hz]
  have HZ := Lib.hid hz
  clear hz
  go_upto_if 157 with fail
  go_cut [] (fun wx => Below X6.heap.size X6 wx)
  case first =>
    cases z
    · go_wp2_with fail
      go_meet
      exact Below.refl _ _
    · have hz := HZ.out
      rw [← HZ1.out, ← HZ2.out, ← HZ3.out, Bool.and_eq_true, Bool.and_eq_true, decide_eq_true_eq, decide_eq_true_eq, bne_iff_ne] at hz
      obtain ⟨⟨hz1, hz2⟩, hz3⟩ := hz
      have hkd2 := HS.out.two hz1 hz2
      obtain ⟨bd, rfl⟩ := HS.out.ptr hz1
      clear hz1 hz2
      go_wp2_with fail
      refine (write_m al n7 A7 c7 _ HN7.out HO4.out (by omega) H38.out HW.out).mono ?_
      rintro e Z1 ⟨A20, c20, rfl, hrow, hb⟩
      have hrng : ∀ x ∈ ob, 0 ≤ x ∧ x ≤ 255 := by rw [← HOB.out]; exact pad_rng (flat_rng HO4.out.rng HR.out)
      obtain ⟨A', c', e20, hc20, hc20m, hby20, hnil20⟩ := By.of_own2 hrow hrng
      cases e20
      obtain ⟨lo, hlo⟩ : ∃ lo, ob.length = lo := ⟨_, rfl⟩
      rw [hlo] at hc20 hle ⊢
      have HLO := Lib.hid hlo
      have HBY20 := Lib.hid hby20
      have HNIL := Lib.hid hnil20
      have o9 := blk_below hb HO9.out
      have HO9' := Lib.hid o9
      have HD9 := Lib.hid (HBY.out.below hb)
      have HBZ := Lib.hid hb
      clear hrow hrng hby20 hnil20 o9 hb hlo
      go_upto_region 30 with fail
      refine reg30_any _ (by kernel_rfl) _ HO9'.out HD9.out HLD.out HS.out.kind (by omega) HBY20.out HLO.out HNB.out HTK.out hle hc20 hz3 HNIL.out ?_
      intro y163 y164 y165 y166 y167 y168 y169 y170 y171 y172 y173 y174 y175 y176 y177 y178 g22 cp22 Z2 hby22 hcp22 hcp22m hb
      have hrw : readS (flat al ++ bytesO (kd, d)) = (61, []) := read_wrong HGD.out HS.out.wrong (by show kd ≠ 0; omega) (by show kd ≠ 1; omega) (by
        unfold bytesO
        rw [if_neg (by show ¬ kd = 1; omega), List.length_append, HNB.out]
        simp only [List.length_cons, HLD.out]
        omega)
      have hln : (flat al ++ bytesO (kd, d)).length = nb + 2 + ld := by
        unfold bytesO
        rw [if_neg (by show ¬ kd = 1; omega), List.length_append, HNB.out]
        simp only [List.length_cons, HLD.out]
        omega
      have HRW := Lib.hid hrw
      have HLN := Lib.hid hln
      have HBY22 := Lib.hid hby22
      replace HBZ := Lib.hid (HBZ.out.trans (hb.mono HBZ.out.size))
      clear hrw hln hby22 hb
      go_wp2_with fail
      refine (read_m (flat al ++ bytesO (kd, d)) (nb + 2 + ld) (some ⟨g22, 0, none⟩) cp22 _ HLN.out HBY22.out hcp22 hcp22m HRW.out).mono ?_
      rintro e Z3 ⟨A23, c23, css23, rfl, _, hb⟩
      replace HBZ := Lib.hid (HBZ.out.trans (hb.mono HBZ.out.size))
      simp only [List.length_nil]
      clear hb
      go_wp2_with fail
      go_meet
      exact HBZ.out
  have HB7 := Lib.hid (HB4.out.trans (hcut.mono HB4.out.size))
  obtain ⟨X7, hX7⟩ : ∃ X, X = wc := ⟨_, rfl⟩
  subst hX7
  clear hcut HB4 HBY HO4 HO9 k0 k1 hl9
  go_upto_region 35 with fail
  have h4 := heap_alloc_last X7 (Obj.cells #[Value.int IntKind.u8 4] 5)
  have h25 := heap_alloc_last (X7.alloc (Obj.cells #[Value.int IntKind.u8 4] 5)) (Obj.cells #[Value.int IntKind.u8 131, Value.slice (some ⟨X7.heap.size, 0, none⟩) 1 1] 36)
  have h4' := (Below.heap_alloc (X7.alloc (Obj.cells #[Value.int IntKind.u8 4] 5)) (Obj.cells #[Value.int IntKind.u8 131, Value.slice (some ⟨X7.heap.size, 0, none⟩) 1 1] 36) X7.heap.size (by simp)).trans h4
  have hbX8 : Below X7.heap.size X7 ((X7.alloc (Obj.cells #[Value.int IntKind.u8 4] 5)).alloc (Obj.cells #[Value.int IntKind.u8 131, Value.slice (some ⟨X7.heap.size, 0, none⟩) 1 1] 36)) := ((Below.refl _ _).alloc (Nat.le_refl _) _).alloc (by simp) _
  obtain ⟨X8, hX8⟩ : ∃ X, (X7.alloc (Obj.cells #[Value.int IntKind.u8 4] 5)).alloc (Obj.cells #[Value.int IntKind.u8 131, Value.slice (some ⟨X7.heap.size, 0, none⟩) 1 1] 36) = X := ⟨_, rfl⟩
  obtain ⟨b4, hb4⟩ : ∃ b, X7.heap.size = b := ⟨_, rfl⟩
  obtain ⟨b25, hb25⟩ : ∃ b, b4 + 1 = b := ⟨_, rfl⟩
  rw [World.size_alloc] at h25
  rw [hb4] at h25 h4' hX8 ⊢
  rw [hX8] at h25 h4' ⊢
  rw [hb25] at h25 ⊢
  rw [hb4, hX8] at hbX8
  have hs8 : X7.heap.size ≤ X8.heap.size := by have := blk_lt h4'; omega
  have HB8 := Lib.hid (HB7.out.trans ((show Below X7.heap.size X7 X8 by rw [hb4]; exact hbX8).mono HB7.out.size))
  have H4 := Lib.hid h4'
  have H25 := Lib.hid h25
  have k0 := blk_cell h25 0
  have k1 := blk_cell h25 1
  simp at k0 k1
  have hl25 := blk_lt h25
  have hl4 := blk_lt h4'
  clear h4 h4' h25 hbX8 hX8 hs8 HB7
  go_wp2_with fail
  have hopsN : ∀ Z : World, Below X8.heap.size X8 Z → Z.heap[X8.heap.size]? = some (.cells #[.int .u8 4] 5 (0, 0)) → Ops (Z.alloc (.cells #[.int .u8 131, .slice (some ⟨b4, 0, none⟩) 1 1, .int .u8 137, .slice (some ⟨X8.heap.size, 0, none⟩) 1 1] 36)) (some ⟨Z.heap.size, 0, none⟩) [(131, [4]), (137, [4])] := fun Z hb h8 => by
    have hz : Below Z.heap.size Z (Z.alloc (.cells #[.int .u8 131, .slice (some ⟨b4, 0, none⟩) 1 1, .int .u8 137, .slice (some ⟨X8.heap.size, 0, none⟩) 1 1] 36)) := (Below.refl _ _).alloc (Nat.le_refl _) _
    exact Ops.blk (css := [[.int .u8 131, .slice (some ⟨b4, 0, none⟩) 1 1], [.int .u8 137, .slice (some ⟨X8.heap.size, 0, none⟩) 1 1]]) (heap_alloc_last _ _) (.cons ⟨by decide, some ⟨b4, 0, none⟩, 1, rfl, by simp, lt_maxLen' (by decide), By.below (by_blk (blk_below hb H4.out) rfl (by decide)) hz, by simp⟩ (.cons ⟨by decide, some ⟨X8.heap.size, 0, none⟩, 1, rfl, by simp, lt_maxLen' (by decide), By.below (by_blk h8 rfl (by decide)) hz, by simp⟩ .nil))
  have hops := hopsN (X8.alloc (Obj.cells #[Value.int IntKind.u8 4] 5)) ((Below.refl _ _).alloc (Nat.le_refl _) _) (heap_alloc_last _ _)
  rw [World.size_alloc] at hops
  have hbX : Below X8.heap.size X8 ((X8.alloc (Obj.cells #[Value.int IntKind.u8 4] 5)).alloc (.cells #[.int .u8 131, .slice (some ⟨b4, 0, none⟩) 1 1, .int .u8 137, .slice (some ⟨X8.heap.size, 0, none⟩) 1 1] 36)) := ((Below.refl _ _).alloc (Nat.le_refl _) _).alloc (by simp) _
  refine (write_m [(131, [4]), (137, [4])] 2 (some ⟨X8.heap.size + 1, 0, none⟩) 2 _ rfl hops (by decide) (by decide) (show writeS [(131, [4]), (137, [4])] = (63, []) by decide +kernel)).mono ?_
  rintro e X9 ⟨A26, c26, rfl, _, hb⟩
  have hb' := hbX.trans (hb.mono hbX.size)
  have h25 := blk_below hb' H25.out
  have h4 := blk_below hb' H4.out
  have HB9' := Lib.hid (HB8.out.trans (hb'.mono HB8.out.size))
  simp only [List.length_nil]
  clear hopsN hops hbX hb hb' k0 k1 hl25 hl4 H25 H4
  go_upto_region 36 with fail
  refine reg36_any _ (by kernel_rfl) _ h25 h4 hnn.1 hnn.2 ?_
  intro y202 y203 y204 y205 y206 y207 y208 y209 y210 y211 y212 A28 c28 X10 hb
  have HB10 := Lib.hid (HB9'.out.trans (hb.mono HB9'.out.size))
  clear h25 h4 hb
  obtain ⟨mm, hmm⟩ : ∃ mm : Nat, 41 + nn = mm := ⟨(41 + nn).toNat, by omega⟩
  have hmk := mk_bytes .i64 (41 + nn) mm hmm (by omega)
  have hw41 : IntKind.i64.wrap (41 + nn) = 41 + nn := IntWalk.i64_in _ (by omega)
  have hmm4 : 41 ≤ mm ∧ mm ≤ 300 := by omega
  have HRM := Lib.hid (show readS (List.replicate mm 0) = (3, []) by unfold readS; rw [if_pos (by rw [List.length_replicate]; omega)])
  clear hmm
  go_wp2_with fail
  refine (read_m (List.replicate mm 0) mm (some ⟨X10.heap.size, 0, none⟩) mm _ (by simp) (by_blk (heap_alloc_last _ _) (by simp) (rep_rng mm)) (Nat.le_refl _) (lt_maxLen' (by omega)) HRM.out).mono ?_
  rintro e X11 ⟨A30, c30, css30, rfl, _, hb⟩
  have HB11 := Lib.hid (HB10.out.trans ((bthen ((Below.refl X10.heap.size X10).alloc (Nat.le_refl _) _) hb).mono HB10.out.size))
  clear hb
  go_wp2_with fail
  go_ret
  exact ⟨rfl, HB11.out⟩

theorem optsWrong_walk (A : Option Addr) (l : List Sm) (cap : Nat) (way nn : Int) (w : World) (hle : l.length ≤ cap) (hmx : cap ≤ maxLen) (hsm : Smalls w A l) (hy : 0 ≤ way ∧ way ≤ 255) (hnn : 0 ≤ nn ∧ nn ≤ 255) :
    Calls Try.prog 9 #[.slice A l.length cap, .int .u8 way, .int .u8 nn] w fun e w' => e = .returned (.bool true) ∧ Below w.heap.size w w' := wrong_any l A cap way nn w hsm hle hmx hy hnn

end Go.Proofs.Ytjfnnclbfaakkaa

/-
  The walk of OptsCut. Conditions: the small numbers lie.
-/
import Derived.Test.YtjfnnclbfaakkaaBack
namespace Go.Proofs.Ytjfnnclbfaakkaa
open Go.RowKit
set_option linter.unusedVariables false
set_option linter.unusedSimpArgs false

set_option maxRecDepth 100000 in
set_option maxHeartbeats 4000000 in
theorem cut_any (l : List Sm) (A : Option Addr) (c : Nat) (at0 : Int) (w : World) (hl : Smalls w A l) (hcap : l.length ≤ c) (hmax : c ≤ maxLen) (ha : 0 ≤ at0 ∧ at0 ≤ 255) :
    Calls Try.prog 6 #[.slice A l.length c, .int .u8 at0] w fun e w' => e = .returned (.bool true) ∧ Below w.heap.size w w' := by
  have hinv := MdInv.made hl.ok
  obtain ⟨M, hM⟩ : ∃ M, madeS l = M := ⟨_, rfl⟩
  have HM := Lib.hid hM
  rw [hM] at hinv
  obtain ⟨al, bt⟩ := M
  obtain ⟨hgood, hbt, hb40⟩ := hinv
  simp only at hgood hbt hb40
  obtain ⟨hw, hrd, h4, hle, hlt, h40, hz⟩ := back_plain hgood (by omega)
  obtain ⟨nb, hnb⟩ : ∃ nb, (flat al).length = nb := ⟨_, rfl⟩
  rw [hnb] at hbt hle hlt hz
  subst hbt
  have hal40 : al.length ≤ 40 := by have := flat_count al; omega
  have HGD := Lib.hid hgood
  have HR := Lib.hid (good_right al [] hgood)
  have HNB := Lib.hid hnb
  obtain ⟨ob, hob⟩ : ∃ ob, padS (flat al) = ob := ⟨_, rfl⟩
  rw [hob] at hw hrd h4 hle hlt h40 hz
  have HW := Lib.hid hw
  have HOB := Lib.hid hob
  have HL := Lib.hid hl
  have HMAX := Lib.hid hmax
  have HCAP := Lib.hid hcap
  obtain ⟨kk, hkk⟩ : ∃ kk : Nat, at0 % ((nb : Int) + 1) = kk := ⟨(at0 % ((nb : Int) + 1)).toNat, by have := Int.emod_nonneg at0 (b := (nb : Int) + 1) (by omega); omega⟩
  have hkn : kk ≤ nb := by have := Int.emod_lt_of_pos at0 (b := (nb : Int) + 1) (by omega); omega
  have htm : at0.tmod ((nb : Int) + 1) = kk := by rw [Int.tmod_eq_emod_of_nonneg ha.1]; exact hkk
  obtain ⟨bs, hbs⟩ : ∃ bs, ob.take kk = bs := ⟨_, rfl⟩
  have hbl : bs.length = kk := by rw [← hbs, List.length_take]; omega
  obtain ⟨⟨er, rl⟩, hRD⟩ : ∃ R, readS bs = R := ⟨_, rfl⟩
  have HRD := Lib.hid hRD
  have HBS := Lib.hid hbs
  have HTM := Lib.hid htm
  subst hbl
  clear hM hgood hw hrd hz hob hnb hl hmax hcap hkk htm hbs hRD h4 hlt
  go_enter Try.func6, Try.ntmps6
  go_wp2_with fail
  refine (awake_any _).mono ?_
  rintro e Y1 ⟨rfl, hb1⟩
  have HB1 := Lib.hid hb1
  have HL1 := Lib.hid (HL.out.below hb1)
  clear hb1
  go_wp2_with fail
  refine (made_any l A c _ HL1.out HCAP.out HMAX.out).mono ?_
  rintro e Y2 ⟨v2, css, rfl, hG, hb2⟩
  rw [HM.out] at hG ⊢
  have HB2 := Lib.hid (HB1.out.trans (hb2.mono HB1.out.size))
  obtain ⟨A2, c2, rfl, h2a, h2b, hO2⟩ := hG.ops
  simp only at hO2 h2a
  have hrng : ∀ x ∈ ob, 0 ≤ x ∧ x ≤ 255 := by rw [← HOB.out]; exact pad_rng (flat_rng hG.each.rng HR.out)
  have HRNG := Lib.hid hrng
  have HO2 := Lib.hid hO2
  have H38 : Hid (∀ o ∈ al, o.2.length ≤ 2 ^ 40) := fun o ho => by have := right_len (HR.out o ho); omega
  clear hG hb2 hO2 hrng HB1 HL1
  go_wp2_with fail
  refine (write_any al A2 c2 _ HO2.out (by omega) H38.out).mono ?_
  rintro e Y3 ⟨v3, rfl, hrow, hb3⟩
  rw [HW.out] at hrow ⊢
  have HB3 := Lib.hid (HB2.out.trans (hb3.mono HB2.out.size))
  have HO3 := Lib.hid (HO2.out.below hb3)
  obtain ⟨A3, c3, rfl⟩ := own_form hrow
  simp only at hrow
  obtain ⟨hby3, hc3a, hc3b⟩ := By.of_own3 hrow rfl HRNG.out
  have hbyt := hby3.take bs.length
  rw [HBS.out] at hbyt
  have HBY3 := Lib.hid hbyt
  have HC3b := Lib.hid hc3b
  clear hrow hb3 hby3 hbyt hc3b HB2 HO2
  have e0 : ((0 : Int) != 0) = false := rfl
  have t5 : decide (ob.length < nb) = false := by simp; omega
  have t5' : decide ((ob.length : Int) < nb) = false := by simp; omega
  have hw1 : IntKind.i64.wrap ((nb : Int) + 1) = (nb : Int) + 1 := IntWalk.i64_in _ (by omega)
  have hwa : IntKind.i64.wrap at0 = at0 := IntWalk.i64_in _ (by omega)
  have hne : (((nb : Int) + 1) == 0) = false := by simp; omega
  have htm := HTM.out
  have hwk : IntKind.i64.wrap (bs.length : Int) = (bs.length : Int) := IntWalk.i64_in _ (by omega)
  have s1 : (0 : Int) ≤ bs.length := by omega
  have s2 : (bs.length : Int) ≤ c3 := by omega
  go_wp2_with fail
  refine (read_any bs A3 c3 _ HBY3.out (by omega) HC3b.out).mono ?_
  rintro e Y4 ⟨v4, css4, rfl, hG4, hb4⟩
  rw [HRD.out] at hG4 ⊢
  have HB4 := Lib.hid (HB3.out.trans (hb4.mono HB3.out.size))
  have HO4 := Lib.hid (HO3.out.below hb4)
  obtain ⟨A4, c4, rfl, _, _, hO4'⟩ := hG4.ops
  simp only at hO4'
  have HO4' := Lib.hid hO4'
  obtain ⟨na, hna⟩ : ∃ na, al.length = na := ⟨_, rfl⟩
  rw [hna] at hal40 h2a ⊢
  have HNA := Lib.hid hna
  clear hG4 hb4 hO4' HB3 HO3 HBY3 e0 t5 t5' hw1 hwa hne htm hwk s1 s2 hna
  go_upto_region 10 with fail
  go_loopw [12, 13] (fun v12 v13 wx => ∃ n : Nat, n ≤ na ∧ v12 = .int .i64 n ∧ v13 = .int .i64 ((flat (al.take n)).length : Nat) ∧ (n = 0 ∨ (flat (al.take (n - 1))).length < bs.length) ∧ wx = Y4) (fun v _ _ => na - (intOf v).toNat)
  case atStart => exact ⟨0, by omega, rfl, rfl, .inl rfl, rfl⟩
  case round =>
    obtain ⟨n, hn, rfl, rfl, hpv, hwr⟩ := hrel
    subst hwr
    have HPV := Lib.hid hpv
    obtain ⟨en, hen⟩ : ∃ en, (flat (al.take n)).length = en := ⟨_, rfl⟩
    have hen40 : en ≤ nb := by
      rw [← hen, ← HNB.out]
      conv => rhs; rw [← List.take_append_drop n al, flat_append, List.length_append]
      omega
    have HEN := Lib.hid hen
    rw [hen]
    clear hpv hen
    by_cases hgo : n < na ∧ en < bs.length
    · obtain ⟨hnl, hek⟩ := hgo
      obtain ⟨b, o, rfl, hbl⟩ := HO4.out.pos (by rw [HNA.out]; omega)
      obtain ⟨⟨kd, d⟩, hx⟩ : ∃ x, al[n]? = some x := ⟨al[n]'(by rw [HNA.out]; omega), List.getElem?_eq_getElem _⟩
      obtain ⟨A1, n1, x0, x1, hc1, hc1m, by1, hk0, hk1, hnil⟩ := HO4.out.at hx
      simp only at x0 x1 hc1 by1 hk0 hk1
      have hbl := cell_lt x0
      replace hbl : b < wr.heap.size := hbl
      have hdl : d.length ≤ 38 := right_len (HR.out _ (List.mem_of_getElem? hx))
      have hE : (flat (al.take (n + 1))).length = en + (bytesO (kd, d)).length := by rw [flat_take_succ hx, List.length_append, HEN.out]
      have hpv' : n + 1 = 0 ∨ (flat (al.take (n + 1 - 1))).length < bs.length := .inr (by rw [Nat.add_sub_cancel, HEN.out]; exact hek)
      have HE := Lib.hid hE
      have HPV' := Lib.hid hpv'
      have t1 : decide ((n : Int) < na) = true := by simp; omega
      have t1' : decide (n < na) = true := by simp; omega
      have t2 : decide ((en : Int) < bs.length) = true := by simp; omega
      have t2' : decide (en < bs.length) = true := by simp; omega
      have hpos : (n : Int) < na := by omega
      have hwe : IntKind.i64.wrap ((en : Int) + 1) = (en : Int) + 1 := IntWalk.i64_in _ (by omega)
      have hwd : IntKind.i64.wrap (1 + (d.length : Int)) = 1 + (d.length : Int) := IntWalk.i64_in _ (by omega)
      have hws : IntKind.i64.wrap ((en : Int) + 1 + (1 + (d.length : Int))) = (en : Int) + 1 + (1 + (d.length : Int)) := IntWalk.i64_in _ (by omega)
      clear hx by1 hnil hE hpv'
      by_cases hk1' : kd = 1
      · subst hk1'
        have hE1 : (flat (al.take (n + 1))).length = en + 1 := by rw [HE.out]; rfl
        have HE1 := Lib.hid hE1
        clear hE1
        go_wp2_with fail
        exact ⟨⟨n + 1, by omega, by go_num, by rw [HE1.out]; rfl, HPV'.out, by trivial⟩, by simp [intOf]; omega⟩
      · have hE1 : (flat (al.take (n + 1))).length = en + 1 + (1 + d.length) := by
          rw [HE.out]
          unfold bytesO
          rw [if_neg hk1']
          simp only [List.length_cons]
          omega
        have HE1 := Lib.hid hE1
        have ek : (kd != 1) = true := by simpa using hk1'
        clear hE1 hk1'
        go_wp2_with fail
        exact ⟨⟨n + 1, by omega, by go_num, by rw [HE1.out]; congr 1, HPV'.out, by trivial⟩, by simp [intOf]; omega⟩
    · have hxx : n = al.length ∨ bs.length ≤ (flat (al.take n)).length := by
        rw [HNA.out, HEN.out]
        omega
      have hpl := cut_plain HGD.out (by rw [HNB.out]; omega) (k := bs.length) (n := n) (by rw [HNB.out]; omega) (by rw [HNA.out]; exact hn) hxx HPV.out
      rw [HOB.out, HBS.out, HRD.out, HEN.out] at hpl
      by_cases heq : en = bs.length
      · rw [if_pos heq] at hpl
        injection hpl with he hr
        subst he
        have hrl : rl.length = n := by rw [hr, List.length_take, HNA.out]; omega
        have HRL := Lib.hid hr
        have hops := HO4.out.take n
        rw [← hr] at hops
        have HO6 := Lib.hid hops
        have H38' : Hid (∀ o ∈ rl, o.2.length ≤ 2 ^ 40) := fun o ho => H38.out o (by rw [hr] at ho; exact List.mem_of_mem_take ho)
        subst heq
        subst hrl
        have t2 : decide ((bs.length : Int) < bs.length) = false := by simp
        have t2' : decide (bs.length < bs.length) = false := by simp
        have t3 : ((bs.length : Int) == bs.length) = true := by simp
        have s1 : (0 : Int) ≤ rl.length := by omega
        have s2 : (rl.length : Int) ≤ c2 := by omega
        clear hgo hxx hr hops
        by_cases hnl : rl.length < na
        · have t1 : decide ((rl.length : Int) < na) = true := by simp; omega
          have t1' : decide (rl.length < na) = true := by simp; omega
          go_wp2_with fail
          refine (sameL_any rl rl A4 A2 c4 c2 _ HO4'.out HO6.out (by omega) (by omega) H38'.out H38'.out).mono ?_
          rintro e Y5 ⟨rfl, hb5⟩
          rw [decide_eq_true (rfl : rl = rl)]
          have HB5 := Lib.hid (HB4.out.trans (hb5.mono HB4.out.size))
          clear hb5
          go_wp2_with fail
          go_ret
          exact ⟨rfl, HB5.out⟩
        · have t1 : decide ((rl.length : Int) < na) = false := by simp; omega
          have t1' : decide (rl.length < na) = false := by simp; omega
          go_wp2_with fail
          refine (sameL_any rl rl A4 A2 c4 c2 _ HO4'.out HO6.out (by omega) (by omega) H38'.out H38'.out).mono ?_
          rintro e Y5 ⟨rfl, hb5⟩
          rw [decide_eq_true (rfl : rl = rl)]
          have HB5 := Lib.hid (HB4.out.trans (hb5.mono HB4.out.size))
          clear hb5
          go_wp2_with fail
          go_ret
          exact ⟨rfl, HB5.out⟩
      · rw [if_neg heq] at hpl
        injection hpl with he hr
        subst he hr
        have t3 : ((en : Int) == bs.length) = false := by simp; omega
        clear hxx
        by_cases hnl : n < na
        · have t1 : decide ((n : Int) < na) = true := by simp; omega
          have t1' : decide (n < na) = true := by simp; omega
          have t2 : decide ((en : Int) < bs.length) = false := by simp; omega
          have t2' : decide (en < bs.length) = false := by simp; omega
          clear hgo
          go_wp2_with fail
          go_ret
          exact ⟨rfl, HB4.out⟩
        · have t1 : decide ((n : Int) < na) = false := by simp; omega
          have t1' : decide (n < na) = false := by simp; omega
          clear hgo
          go_wp2_with fail
          go_ret
          exact ⟨rfl, HB4.out⟩

theorem optsCut_walk (A : Option Addr) (l : List Sm) (cap : Nat) (at0 : Int) (w : World) (hle : l.length ≤ cap) (hmx : cap ≤ maxLen) (hsm : Smalls w A l) (ha : 0 ≤ at0 ∧ at0 ≤ 255) :
    Calls Try.prog 6 #[.slice A l.length cap, .int .u8 at0] w fun e w' => e = .returned (.bool true) ∧ Below w.heap.size w w' := cut_any l A cap at0 w hsm hle hmx ha

end Go.Proofs.Ytjfnnclbfaakkaa

/-
  The walk of OptsAgain. Conditions: the bytes lie.
-/
import Derived.Test.YtjfnnclbfaakkaaAwake
import Derived.Test.YtjfnnclbfaakkaaAgainP
import Derived.Test.YtjfnnclbfaakkaaArgs
namespace Go.Proofs.Ytjfnnclbfaakkaa
open Go.RowKit
set_option linter.unusedVariables false
set_option linter.unusedSimpArgs false

set_option maxRecDepth 100000 in
set_option maxHeartbeats 8000000 in
theorem again_any (bs : List Int) (A : Option Addr) (c : Nat) (w : World) (hd : By w A bs) (hcap : bs.length ≤ c) (hmax : c ≤ maxLen) :
    Calls Try.prog 5 #[.slice A bs.length c] w fun e w' => e = .returned (.bool true) ∧ Below w.heap.size w w' := by
  have HD := Lib.hid hd
  have HMAX := Lib.hid hmax
  have HCAP := Lib.hid hcap
  obtain ⟨RD, hRD⟩ : ∃ r, readS bs = r := ⟨_, rfl⟩
  have HRD := Lib.hid hRD
  clear hd hmax hcap hRD
  go_enter Try.func5, Try.ntmps5
  go_wp2_with fail
  refine (awake_any _).mono ?_
  rintro e Y1 ⟨rfl, hb1⟩
  have HB1 := Lib.hid hb1
  have HD1 := Lib.hid (HD.out.below hb1)
  clear hb1
  go_wp2_with fail
  refine (read_any bs A c _ HD1.out HCAP.out HMAX.out).mono ?_
  rintro e Y2 ⟨v2, css, rfl, hG, hb2⟩
  rw [HRD.out] at hG ⊢
  have HB2 := Lib.hid (HB1.out.trans (hb2.mono HB1.out.size))
  have HD2 := Lib.hid (HD1.out.below hb2)
  obtain ⟨A2, c2, rfl, _, _, hO2⟩ := hG.ops
  have HO2 := Lib.hid hO2
  clear hG hO2 hb2 HB1 HD1
  by_cases h60 : 60 < bs.length
  · have d60 : decide ((60 : Int) < bs.length) = true := by simp; omega
    go_wp2_with fail
    go_ret
    exact ⟨rfl, HB2.out⟩
  have d60 : decide ((60 : Int) < bs.length) = false := by simp; omega
  by_cases he : RD.1 = 0
  · have hpl := again_plain (bs := bs) HD.out.rng (by rw [HRD.out]; exact he)
    rw [HRD.out] at hpl
    obtain ⟨hl40, hl38, hw0, hw40, hget⟩ := hpl
    have HG := Lib.hid hget
    obtain ⟨l, hl⟩ : ∃ l, RD.2 = l := ⟨_, rfl⟩
    rw [hl] at HG HO2 hl40 hl38 hw0 hw40 ⊢
    rw [he]
    have H38 := Lib.hid hl38
    have Hw0 := Lib.hid hw0
    have Hw40 := Lib.hid hw40
    clear hl he hget hl38 hw0 hw40
    go_wp2_with fail
    refine (write_any l A2 c2 _ HO2.out (by omega) (fun o ho => by have := H38.out o ho; omega)).mono ?_
    rintro e Y3 ⟨v3, rfl, hrow, hb3⟩
    rw [Hw0.out]
    have HB3 := Lib.hid (HB2.out.trans (hb3.mono HB2.out.size))
    have HD3 := Lib.hid (HD2.out.below hb3)
    have hw40 := Hw40.out
    obtain ⟨ob, hob⟩ : ∃ ob, (writeS l).2 = ob := ⟨_, rfl⟩
    rw [hob] at hrow hw40 HG
    obtain ⟨A3, c3, rfl⟩ := own_form hrow
    have HR := Lib.hid hrow
    have hrng : ∀ x ∈ ob, 0 ≤ x ∧ x ≤ 255 := fun x hx => by
      obtain ⟨i, hi, e⟩ := List.getElem_of_mem hx
      have h1 := HG.out i
      have h2 : ob.getD i 0 = x := by rw [List.getD_eq_getElem?_getD, List.getElem?_eq_getElem hi, e]; rfl
      rw [← h2, ← h1]
      exact By.getD HD.out i
    have HRNG := Lib.hid hrng
    have d40 : decide ((40 : Int) < ob.length) = false := by simp; omega
    obtain ⟨mxl, hmxl⟩ : ∃ m : Nat, max bs.length ob.length = m := ⟨_, rfl⟩
    have hif : (if bs.length < ob.length then (ob.length : Int) else bs.length) = mxl := by
      rw [← hmxl]
      split <;> omega
    clear hrow hb3 hob hrng HB2 HD2 HO2
    go_wp2_with fail
    go_loopw [48] (fun i wr => ∃ k : Nat, k ≤ mxl ∧ i = .int .i64 k ∧ Below Y3.heap.size Y3 wr) (fun i _ => mxl - (intOf i).toNat)
    case atStart => exact ⟨0, by omega, rfl, Below.refl _ _⟩
    case round =>
      obtain ⟨k, hk, rfl, hb⟩ := hrel
      have HB := Lib.hid hb
      have HBS := Lib.hid (HD3.out.below hb)
      have hrow := own_below HR.out hb
      obtain ⟨A3', c3', e3, _, _, hO3⟩ := By.of_own' hrow HRNG.out
      cases e3
      have HOB := Lib.hid hO3
      clear hb hrow hO3
      by_cases hkl : k < mxl
      · have t1 : decide ((k : Int) < mxl) = true := by simp; omega
        have hxy := HG.out k
        have hbx := By.getD HBS.out k
        obtain ⟨x, hx⟩ : ∃ x, bs.getD k 0 = x := ⟨_, rfl⟩
        have hy : ob.getD k 0 = x := by rw [← hx]; exact hxy.symm
        have hne : (x != x) = false := by simp
        by_cases h1 : k < bs.length
        · have q1 := getD_some h1
          rw [hx] at q1
          obtain ⟨b, o, rfl, hbl, hc⟩ := HBS.out.pos (by omega)
          have c1 := hc k x q1
          have hp1 : (k : Int) < bs.length := by omega
          have t2 : decide ((k : Int) < bs.length) = true := by simp; omega
          by_cases h2 : k < ob.length
          · have q2 := getD_some h2
            rw [hy] at q2
            obtain ⟨b', o', rfl, hbl', hc'⟩ := HOB.out.pos (by omega)
            have c2' := hc' k x q2
            have hp2 : (k : Int) < ob.length := by omega
            have t3 : decide ((k : Int) < ob.length) = true := by simp; omega
            clear hc hc' q1 q2 hx hy hxy hbx
            go_wp2_with fail
            exact ⟨⟨k + 1, by omega, by go_num, HB.out⟩, by simp [intOf]; omega⟩
          · have hx0 : x = 0 := by
              rw [← hy, List.getD_eq_getElem?_getD, List.getElem?_eq_none (by omega)]
              rfl
            subst hx0
            have t3 : decide ((k : Int) < ob.length) = false := by simp; omega
            clear hc q1 hx hy hxy hbx
            go_wp2_with fail
            exact ⟨⟨k + 1, by omega, by go_num, HB.out⟩, by simp [intOf]; omega⟩
        · have hx0 : x = 0 := by
            rw [← hx, List.getD_eq_getElem?_getD, List.getElem?_eq_none (by omega)]
            rfl
          subst hx0
          have t2 : decide ((k : Int) < bs.length) = false := by simp; omega
          have h2 : k < ob.length := by omega
          have q2 := getD_some h2
          rw [hy] at q2
          obtain ⟨b', o', rfl, hbl', hc'⟩ := HOB.out.pos (by omega)
          have c2' := hc' k 0 q2
          have hp2 : (k : Int) < ob.length := by omega
          have t3 : decide ((k : Int) < ob.length) = true := by simp; omega
          clear hc' q2 hx hy hxy hbx
          go_wp2_with fail
          exact ⟨⟨k + 1, by omega, by go_num, HB.out⟩, by simp [intOf]; omega⟩
      · obtain rfl : k = mxl := by omega
        have t1 : decide ((k : Int) < k) = false := by simp
        go_wp2_with fail
        go_ret
        exact ⟨rfl, HB3.out.trans (HB.out.mono HB3.out.size)⟩
  · have herr := again_err (bs := bs) (by rw [HRD.out]; exact he)
    rw [HRD.out] at herr
    rw [herr]
    have e1 : (RD.1 != 0) = true := by simpa using he
    clear he herr
    go_wp2_with fail
    go_ret
    exact ⟨rfl, HB2.out⟩

theorem optsAgain_walk (A : Option Addr) (d : List Int) (n cap : Nat) (w : World) (hl : n = d.length) (hle : n ≤ cap) (hmx : cap ≤ maxLen) (hnil : A = none → n = 0 ∧ cap = 0) (hby : By w A d) :
    Calls Try.prog 5 #[.slice A n cap] w fun e w' => e = .returned (.bool true) ∧ Below w.heap.size w w' := by
  subst hl
  exact again_any d A cap w hby hle hmx

end Go.Proofs.Ytjfnnclbfaakkaa

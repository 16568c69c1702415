/-
  The walk of OptsBack. Conditions: the small numbers lie.
-/
import Derived.Test.YtjfnnclbfaakkaaAwake
import Derived.Test.YtjfnnclbfaakkaaBackP
import Derived.Test.YtjfnnclbfaakkaaNest
import Derived.Deep.LoopGhost
namespace Go.Proofs.Ytjfnnclbfaakkaa
open Go.RowKit
set_option linter.unusedVariables false
set_option linter.unusedSimpArgs false

theorem Owns.rng {n : Nat} {W : World} {css : List (List Value)} {l : List Op1} (h : Owns n W css l) : ∀ o ∈ l, (0 ≤ o.1 ∧ o.1 ≤ 255) ∧ ∀ x ∈ o.2, 0 ≤ x ∧ x ≤ 255 := by
  induction h with
  | nil => simp
  | cons h1 _ ih =>
    intro o ho
    rcases List.mem_cons.1 ho with rfl | h2
    · exact ⟨h1.kind, h1.rng⟩
    · exact ih o h2
theorem bytesO_rng {o : Op1} (hk : 0 ≤ o.1 ∧ o.1 ≤ 255) (hd : ∀ x ∈ o.2, 0 ≤ x ∧ x ≤ 255) (hr : o.2.length ≤ 253) : ∀ x ∈ bytesO o, 0 ≤ x ∧ x ≤ 255 := by
  unfold bytesO
  intro x hx
  rcases List.mem_cons.1 hx with rfl | hx
  · exact hk
  · split at hx
    · cases hx
    · rcases List.mem_cons.1 hx with rfl | hx
      · omega
      · exact hd x hx
theorem flat_rng {l : List Op1} (h : ∀ o ∈ l, (0 ≤ o.1 ∧ o.1 ≤ 255) ∧ ∀ x ∈ o.2, 0 ≤ x ∧ x ≤ 255) (hr : ∀ o ∈ l, rightS o = true) : ∀ x ∈ flat l, 0 ≤ x ∧ x ≤ 255 := by
  intro x hx
  unfold flat at hx
  obtain ⟨b, hb, hxb⟩ := List.mem_flatten.1 hx
  obtain ⟨o, ho, rfl⟩ := List.mem_map.1 hb
  have := right_len (hr o ho)
  exact bytesO_rng (h o ho).1 (h o ho).2 (by omega) x hxb
theorem pad_rng {d : List Int} (h : ∀ x ∈ d, 0 ≤ x ∧ x ≤ 255) : ∀ x ∈ padS d, 0 ≤ x ∧ x ≤ 255 := by
  intro x hx
  unfold padS at hx
  rcases List.mem_append.1 hx with hx | hx
  · exact h x hx
  · have := (List.mem_replicate.1 hx).2
    omega
theorem By.of_own3 {w : World} {base n c : Nat} {e : TypeId} {A : Option Addr} {d : List Int} (h : w.ownsRow base e 1 (.slice A n c) n (d.map (Value.int .u8))) (hn : n = d.length) (hr : ∀ x ∈ d, 0 ≤ x ∧ x ≤ 255) : By w A d ∧ n ≤ c ∧ c ≤ maxLen := by
  subst hn
  obtain ⟨A', c', e, h1, h2, h3⟩ := By.of_own' h hr
  cases e
  exact ⟨h3, h1, h2⟩

set_option maxRecDepth 100000 in
set_option maxHeartbeats 4000000 in
theorem back_any (l : List Sm) (A : Option Addr) (c : Nat) (w : World) (hl : Smalls w A l) (hcap : l.length ≤ c) (hmax : c ≤ maxLen) :
    Calls Try.prog 4 #[.slice A l.length c] w fun e w' => e = .returned (.bool true) ∧ Below w.heap.size w w' := by
  have hinv := MdInv.made hl.ok
  obtain ⟨M, hM⟩ : ∃ M, madeS l = M := ⟨_, rfl⟩
  have HM := Lib.hid hM
  rw [hM] at hinv
  obtain ⟨al, bt⟩ := M
  obtain ⟨hgood, hbt, hb40⟩ := hinv
  simp only at hgood hbt hb40
  obtain ⟨hw, hrd, h4, hle, hlt, h40, hz⟩ := back_plain hgood (by omega)
  obtain ⟨nb, hnb⟩ : ∃ nb, (flat al).length = nb := ⟨_, rfl⟩
  rw [hnb] at hbt hle hlt hz
  subst hbt
  have hal40 : al.length ≤ 40 := by have := flat_count al; omega
  have HGD := Lib.hid hgood
  have HR := Lib.hid (good_right al [] hgood)
  obtain ⟨ob, hob⟩ : ∃ ob, padS (flat al) = ob := ⟨_, rfl⟩
  rw [hob] at hw hrd h4 hle hlt h40 hz
  have HW := Lib.hid hw
  have HRD := Lib.hid hrd
  have HZ := Lib.hid hz
  have HOB := Lib.hid hob
  have HL := Lib.hid hl
  have HMAX := Lib.hid hmax
  have HCAP := Lib.hid hcap
  clear hM hgood hw hrd hz hob hnb hl hmax hcap
  go_enter Try.func4, Try.ntmps4
  go_wp2_with fail
  refine (awake_any _).mono ?_
  rintro e Y1 ⟨rfl, hb1⟩
  have HB1 := Lib.hid hb1
  have HL1 := Lib.hid (HL.out.below hb1)
  clear hb1
  go_wp2_with fail
  refine (made_any l A c _ HL1.out HCAP.out HMAX.out).mono ?_
  rintro e Y2 ⟨v2, css, rfl, hG, hb2⟩
  rw [HM.out] at hG ⊢
  have HB2 := Lib.hid (HB1.out.trans (hb2.mono HB1.out.size))
  obtain ⟨A2, c2, rfl, h2a, h2b, hO2⟩ := hG.ops
  simp only at hO2 h2a
  have hrng : ∀ x ∈ ob, 0 ≤ x ∧ x ≤ 255 := by rw [← HOB.out]; exact pad_rng (flat_rng hG.each.rng HR.out)
  have HRNG := Lib.hid hrng
  have HO2 := Lib.hid hO2
  have H38 : Hid (∀ o ∈ al, o.2.length ≤ 2 ^ 40) := fun o ho => by have := right_len (HR.out o ho); omega
  clear hG hb2 hO2 hrng HB1 HL1
  go_wp2_with fail
  refine (write_any al A2 c2 _ HO2.out (by omega) H38.out).mono ?_
  rintro e Y3 ⟨v3, rfl, hrow, hb3⟩
  rw [HW.out] at hrow ⊢
  have HB3 := Lib.hid (HB2.out.trans (hb3.mono HB2.out.size))
  have HO3 := Lib.hid (HO2.out.below hb3)
  obtain ⟨A3, c3, rfl⟩ := own_form hrow
  simp only at hrow
  have hA3 : c3 ≠ 0 → ∃ g, A3 = some ⟨g, 0, none⟩ := by
    rcases own_cases hrow with ⟨e, _⟩ | ⟨g, cc, e, _⟩
    · injection e with _ _ e3; exact fun h => absurd e3 h
    · injection e with e1; exact fun _ => ⟨g, e1⟩
  have HA3 := Lib.hid hA3
  clear hA3
  obtain ⟨hby3, hc3a, hc3b⟩ := By.of_own3 hrow rfl HRNG.out
  have HBY3 := Lib.hid hby3
  have HC3b := Lib.hid hc3b
  clear hrow hb3 hby3 hc3b HB2 HO2
  go_wp2_with fail
  refine (read_any ob A3 c3 _ HBY3.out hc3a HC3b.out).mono ?_
  rintro e Y4 ⟨v4, css4, rfl, hG4, hb4⟩
  rw [HRD.out] at hG4 ⊢
  have HB4 := Lib.hid (HB3.out.trans (hb4.mono HB3.out.size))
  have HO4 := Lib.hid (HO3.out.below hb4)
  have HBY4 := Lib.hid (HBY3.out.below hb4)
  obtain ⟨A4, c4, rfl, _, _, hO4'⟩ := hG4.ops
  simp only at hO4'
  have HO4' := Lib.hid hO4'
  clear hG4 hb4 hO4' HB3 HO3 HBY3
  have e0 : ((0 : Int) != 0) = false := rfl
  have t4 : ((ob.length : Int).tmod 4 != 0) = false := by
    have : (ob.length : Int).tmod 4 = 0 := by rw [Int.tmod_eq_emod_of_nonneg (by omega)]; omega
    rw [this]; rfl
  have t5 : decide ((ob.length : Int) < nb) = false := by simp; omega
  have t5' : decide (ob.length < nb) = false := by simp; omega
  have t6 : decide ((nb : Int) + 4 ≤ ob.length) = false := by simp; omega
  have hw4 : IntKind.i64.wrap ((nb : Int) + 4) = (nb : Int) + 4 := IntWalk.i64_in _ (by omega)
  go_wp2_with fail
  refine (sameL_any al al A4 A2 c4 c2 _ HO4'.out HO4.out (by omega) (by omega) H38.out H38.out).mono ?_
  rintro e Y5 ⟨rfl, hb5⟩
  rw [decide_eq_true (rfl : al = al)]
  have HB5 := Lib.hid (HB4.out.trans (hb5.mono HB4.out.size))
  have HO5 := Lib.hid (HO4.out.below hb5)
  have HBY5 := Lib.hid (HBY4.out.below hb5)
  clear hb5 HB4 HO4 HBY4 HO4'
  obtain ⟨na, hna⟩ : ∃ na, al.length = na := ⟨_, rfl⟩
  rw [hna] at hal40 h2a ⊢
  have HNA := Lib.hid hna
  clear hna
  go_upto_region 9 with fail
  clear e0 t4 t5 t5' t6 hw4
  go_loopw [10, 61] (fun _ i wr => ∃ k : Nat, k ≤ na ∧ i = .int .i64 k ∧ Below Y5.heap.size Y5 wr) (fun _ i _ => na - (intOf i).toNat)
  case atStart => exact ⟨0, by omega, rfl, Below.refl _ _⟩
  case round =>
    obtain ⟨k, hk, rfl, hb⟩ := hrel
    have HB := Lib.hid hb
    clear hb
    by_cases hkl : k < na
    · obtain ⟨b, o, rfl, hbl⟩ := (HO5.out.below HB.out).pos (by rw [HNA.out]; omega)
      obtain ⟨⟨kd, d⟩, hx⟩ : ∃ x, al[k]? = some x := ⟨al[k]'(by rw [HNA.out]; omega), List.getElem?_eq_getElem _⟩
      obtain ⟨A1, n1, x0, x1, hc1, hc1m, by1, hk0, hk1, hnil⟩ := HO5.out.at hx
      simp only at x0 x1 hc1 by1 hk0 hk1
      replace x0 := kc HB.out x0
      replace x1 := kc HB.out x1
      have hbl := cell_lt x0
      replace hbl : b < wr.heap.size := hbl
      have t1 : decide ((k : Int) < na) = true := by simp; omega
      have hpos : (k : Int) < na := by omega
      have hba : Below wr.heap.size wr (wr.alloc (Obj.cells #[Value.int IntKind.u8 kd, Value.slice A1 d.length n1] 36)) := (Below.refl _ _).alloc (Nat.le_refl _) _
      have HBA := Lib.hid hba
      have HBw := Lib.hid ((by1.below HB.out).below hba)
      have hdl := H38.out _ (List.mem_of_getElem? hx)
      simp only at hdl
      have hri := HR.out _ (List.mem_of_getElem? hx)
      have HRI := Lib.hid hri
      clear hx by1 hnil hba hri
      go_wp2_with fail
      refine (right_any kd d A1 n1 _ ⟨hk0, hk1⟩ HBw.out (by omega)).mono ?_
      rintro e X1 ⟨rfl, hb1⟩
      rw [HRI.out]
      have HB1 := Lib.hid (HB.out.trans ((HBA.out.trans (hb1.mono (by simp))).mono HB.out.size))
      clear hb1 x0 x1
      go_wp2_with fail
      exact ⟨⟨k + 1, by omega, by go_num, HB1.out⟩, by simp [intOf]; omega⟩
    · obtain rfl : k = na := by omega
      have t1 : decide ((k : Int) < k) = false := by simp
      obtain ⟨V, hV⟩ : ∃ X, X = wr := ⟨_, rfl⟩
      subst hV
      have hbyV := HBY5.out.below HB.out
      have HBV := Lib.hid hbyV
      have HB6 := Lib.hid (HB5.out.trans (HB.out.mono HB5.out.size))
      clear hbyV
      have s1 : (nb : Int) ≤ ob.length := by omega
      have s2 : (ob.length : Int) ≤ c3 := by omega
      by_cases hcn : c3 = nb
      · subst hcn
        have hol : ob.length = c3 := by omega
        rw [hol]
        clear hol
        go_upto_region 15 with fail
        go_loopw [73] (fun i wx => i = .int .i64 0 ∧ wx = V) (fun _ _ => 0)
        case atStart => exact ⟨rfl, rfl⟩
        case round =>
          obtain ⟨rfl, hwr⟩ := hrel
          subst hwr
          have t2 : decide ((0 : Int) < 0) = false := by simp
          go_wp2_with fail
          go_ret
          exact ⟨rfl, HB6.out⟩
      · obtain ⟨g, rfl⟩ := HA3.out (by omega)
        obtain ⟨mm, hmm⟩ : ∃ mm, ob.length - nb = mm := ⟨_, rfl⟩
        have hmm40 : mm ≤ 40 := by omega
        go_upto_region 15 with fail
        have HMM := Lib.hid hmm
        clear hmm
        go_loopw [12, 73] (fun _ i wx => ∃ k : Nat, k ≤ mm ∧ i = .int .i64 k ∧ wx = V) (fun _ i _ => mm - (intOf i).toNat)
        case atStart => exact ⟨0, by omega, rfl, rfl⟩
        case round =>
          obtain ⟨k', hk', rfl, hwr⟩ := hrel
          subst hwr
          by_cases hkl' : k' < mm
          · have t2 : decide ((k' : Int) < mm) = true := by simp; omega
            have q1 := getD_some (d := ob) (i := nb + k') (by have := HMM.out; omega)
            rw [HZ.out _ (by omega)] at q1
            have hc1 := HBV.out.cell q1
            have hp : (k' : Int) < mm := by omega
            rw [Nat.zero_add] at hc1
            clear q1
            go_wp2_with fail
            exact ⟨⟨k' + 1, by omega, by go_num, by trivial⟩, by simp [intOf]; omega⟩
          · obtain rfl : k' = mm := by omega
            have t2 : decide ((k' : Int) < k') = false := by simp
            go_wp2_with fail
            go_ret
            exact ⟨rfl, HB6.out⟩

theorem optsBack_walk (A : Option Addr) (l : List Sm) (cap : Nat) (w : World) (hle : l.length ≤ cap) (hmx : cap ≤ maxLen) (hsm : Smalls w A l) :
    Calls Try.prog 4 #[.slice A l.length cap] w fun e w' => e = .returned (.bool true) ∧ Below w.heap.size w w' := back_any l A cap w hsm hle hmx

end Go.Proofs.Ytjfnnclbfaakkaa

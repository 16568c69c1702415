/-
  The contracts of SameBytes, same and Same. Conditions: what is compared lies.
-/
import Derived.Test.YtjfnnclbfaakkaaPre
import Derived.BigQuiet
namespace Go.Proofs.Ytjfnnclbfaakkaa
open Go.RowKit
set_option linter.unusedVariables false
set_option linter.unusedSimpArgs false

theorem take_next {d e : List Int} {k : Nat} {x y : Int} (h : d.take k = e.take k) (hx : d[k]? = some x) (hy : e[k]? = some y) (hxy : x = y) : d.take (k + 1) = e.take (k + 1) := by
  rw [List.take_add_one, List.take_add_one, h, hx, hy, hxy]

set_option maxRecDepth 100000 in
set_option maxHeartbeats 4000000 in
theorem sameBytes_any (d e : List Int) (A B : Option Addr) (c c2 : Nat) (w : World) (hd : By w A d) (he : By w B e) (hn : d.length ≤ 2 ^ 40) (hm : e.length ≤ 2 ^ 40) :
    Calls Try.prog 33 #[.slice A d.length c, .slice B e.length c2] w fun r w' => r = .returned (.bool (decide (d = e))) ∧ Below w.heap.size w w' := by
  by_cases hl : d.length = e.length
  · have h1 : ((d.length : Int) != e.length) = false := by simp; omega
    obtain ⟨n, hN⟩ : ∃ n, d.length = n := ⟨_, rfl⟩
    have hN2 : e.length = n := by omega
    rw [hN, hN2] at h1 ⊢
    have HN := Lib.hid hN
    have HN2 := Lib.hid hN2
    have HD := Lib.hid hd
    have HE := Lib.hid he
    obtain ⟨q, hq⟩ : ∃ q, decide (d = e) = q := ⟨_, rfl⟩
    rw [hq]
    have HQ := Lib.hid hq
    rw [hN] at hn
    clear hN hN2 hd he hl hq hm
    go_enter Try.func33, Try.ntmps33
    go_wp2_with fail
    go_loopw [5] (fun i wr => ∃ k : Nat, k ≤ n ∧ i = .int .i64 k ∧ d.take k = e.take k ∧ Below w.heap.size w wr) (fun i _ => n - (intOf i).toNat)
    case atStart => exact ⟨0, by omega, rfl, by simp, Below.refl _ _⟩
    case round =>
      obtain ⟨k, hk, rfl, hf, hb⟩ := hrel
      by_cases hkl : k < n
      · obtain ⟨b, o, rfl, hbl, hc⟩ := (HD.out.below hb).pos (by rw [HN.out]; omega)
        obtain ⟨b2, o2, rfl, hbl2, hc2⟩ := (HE.out.below hb).pos (by rw [HN2.out]; omega)
        obtain ⟨x, hx⟩ : ∃ x, d[k]? = some x := ⟨d[k]'(by rw [HN.out]; omega), List.getElem?_eq_getElem _⟩
        obtain ⟨y, hy⟩ : ∃ y, e[k]? = some y := ⟨e[k]'(by rw [HN2.out]; omega), List.getElem?_eq_getElem _⟩
        have q0 := hc k x hx
        have q1 := hc2 k y hy
        have d1 : decide ((k : Int) < n) = true := by simp; omega
        have hpos : (k : Int) < n := by omega
        have HF := Lib.hid hf
        have HX := Lib.hid hx
        have HY := Lib.hid hy
        have HB := Lib.hid hb
        clear hc hc2 hf hx hy hb
        go_upto_region 6 with fail
        go_quiet (fail)
        by_cases hxy : x = y
        · have e1 : (x != y) = false := by simp [hxy]
          go_wp2_with fail
          exact ⟨⟨k + 1, by omega, by go_num, take_next HF.out HX.out HY.out hxy, below_drewN HB.out nq⟩, by simp [intOf]; omega⟩
        · have e1 : (x != y) = true := by simp [hxy]
          go_wp2_with fail
          go_ret
          have hqf : q = false := by
            rw [← HQ.out, decide_eq_false_iff_not]
            intro h
            have h3 := HX.out
            rw [h, HY.out] at h3
            exact hxy (Option.some.inj h3).symm
          subst hqf
          exact ⟨rfl, below_drewN HB.out nq⟩
      · obtain rfl : k = n := by omega
        have d1 : decide ((k : Int) < k) = false := by simp
        have hqt : q = true := by
          rw [← HQ.out, decide_eq_true_eq]
          rw [List.take_of_length_le (by rw [HN.out]; exact Nat.le_refl _), List.take_of_length_le (by rw [HN2.out]; exact Nat.le_refl _)] at hf
          exact hf
        subst hqt
        clear hf
        go_wp2_with fail
        go_ret
        exact ⟨rfl, hb⟩
  · have h1 : ((d.length : Int) != e.length) = true := by simp; omega
    have hq : decide (d = e) = false := decide_eq_false (fun h => hl (by rw [h]))
    rw [hq]
    clear hq hl
    go_enter Try.func33, Try.ntmps33
    go_wp2_with fail
    go_ret
    exact ⟨rfl, Below.refl _ _⟩

/-- Options are the same. -/
theorem same_any (o p : Op1) (A B : Option Addr) (c c2 : Nat) (w : World) (hd : By w A o.2) (he : By w B p.2) (hn : o.2.length ≤ 2 ^ 40) (hm : p.2.length ≤ 2 ^ 40) :
    Calls Try.prog 26 #[.agg #[.int .u8 o.1, .slice A o.2.length c], .agg #[.int .u8 p.1, .slice B p.2.length c2]] w fun r w' => r = .returned (.bool (decide (o = p))) ∧ Below w.heap.size w w' := by
  obtain ⟨k, d⟩ := o
  obtain ⟨k2, e⟩ := p
  have HD := Lib.hid hd
  have HE := Lib.hid he
  simp only at hn hm HD HE ⊢
  clear hd he
  have hb : ∀ (W : World), Below w.heap.size w ((w.alloc (Obj.cells #[.int .u8 k, .slice A d.length c] 36)).alloc (Obj.cells #[.int .u8 k2, .slice B e.length c2] 36)) := fun _ => ((Below.refl _ _).alloc (Nat.le_refl _) _).alloc (by simp) _
  have HB := Lib.hid (hb w)
  clear hb
  by_cases hk : k = k2
  · have e1 : (k == k2) = true := by simpa using hk
    have hq : decide ((k, d) = (k2, e)) = decide (d = e) := decide_eq_decide.2 (by simp [hk])
    rw [hq]
    clear hq hk
    go_enter Try.func26, Try.ntmps26
    go_wp2_with fail
    refine (sameBytes_any d e A B c c2 _ (HD.out.below HB.out) (HE.out.below HB.out) hn hm).mono ?_
    rintro r w' ⟨rfl, hb⟩
    have hb2 := bthen HB.out hb
    clear hb
    go_wp2_with fail
    go_ret
    exact ⟨rfl, hb2⟩
  · have e1 : (k == k2) = false := by simpa using hk
    have hq : decide ((k, d) = (k2, e)) = false := decide_eq_false (by simp [hk])
    rw [hq]
    clear hq hk
    go_enter Try.func26, Try.ntmps26
    go_wp2_with fail
    go_ret
    exact ⟨rfl, HB.out⟩

end Go.Proofs.Ytjfnnclbfaakkaa

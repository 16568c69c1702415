/-
  The contract of the reference's Right. Conditions: the option lies.
-/
import Derived.Test.YtjfnnclbfaakkaaRefA
namespace Go.Proofs.Ytjfnnclbfaakkaa
open Go.RowKit
set_option linter.unusedVariables false
set_option linter.unusedSimpArgs false

theorem right_rt {k : Int} {d : List Int} (hk : k = 7 ∨ k = 131 ∨ k = 137) (h : d.length ≤ 38) : rightS (k, d) = adr d.length (d.getD 0 0) := by
  have e1 : rightS (k, d) = (adr d.length (d.getD 0 0) && decide (d.length ≤ 38)) := by rcases hk with rfl | rfl | rfl <;> rfl
  rw [e1, decide_eq_true h, Bool.and_true]
theorem right_st {d : List Int} (h : d.length ≤ 38) : rightS (68, d) = stm d.length (d.getD 0 0) (d.getD 1 0) := by
  have e1 : rightS (68, d) = (stm d.length (d.getD 0 0) (d.getD 1 0) && decide (d.length ≤ 38)) := rfl
  rw [e1, decide_eq_true h, Bool.and_true]
theorem adr_ptr {n : Nat} {x : Int} (hn : 0 < n) (h : ((n : Int) - 1) % 4 = 0) : adr n x = ptrS x 4 (((n : Int) - 1) / 4) 4 := by
  unfold adr ptrS
  rw [Bool.eq_iff_iff]
  simp only [Bool.and_eq_true, decide_eq_true_eq, beq_iff_eq]
  omega
theorem adr_no {n : Nat} {x : Int} (h : ((n : Int) - 1) % 4 ≠ 0) : adr n x = false := by
  unfold adr
  have : (n % 4 == 1) = false := by simp; omega
  rw [this]
  rfl
theorem stm_ptr {n : Nat} {x y s : Int} (hn : 2 ≤ n) (hs : ssz y = s) (hs2 : s = 4 ∨ s = 8) (h : ((n : Int) - 2) % s = 0) : stm n x y = ptrS x 5 (((n : Int) - 2) / s) s := by
  unfold stm ptrS
  rw [hs, Bool.eq_iff_iff]
  rcases hs2 with rfl | rfl
  · simp only [Bool.and_eq_true, decide_eq_true_eq, beq_iff_eq, bne_iff_ne]
    omega
  · simp only [Bool.and_eq_true, decide_eq_true_eq, beq_iff_eq, bne_iff_ne]
    omega
theorem stm_no {n : Nat} {x y s : Int} (hs : ssz y = s) (h : ((n : Int) - 2) % s ≠ 0) : stm n x y = false := by
  unfold stm
  rw [hs]
  have : (((n : Int) - 2) % s == 0) = false := by simpa using h
  rw [this]
  simp

set_option maxRecDepth 100000 in
set_option maxHeartbeats 4000000 in
theorem refRight_any (k : Int) (d : List Int) (A : Option Addr) (c : Nat) (w : World) (hk : 0 ≤ k ∧ k ≤ 255) (hd : By w A d) (hn : d.length ≤ 2 ^ 40) :
    Calls Try.prog 40 #[.agg #[.int .u8 k, .slice A d.length c]] w fun e w' => e = .returned (.bool (rightS (k, d))) ∧ Below w.heap.size w w' := by
  obtain ⟨r, hr⟩ : ∃ r, rightS (k, d) = r := ⟨_, rfl⟩
  rw [hr]
  obtain ⟨n, hN⟩ : ∃ n, d.length = n := ⟨_, rfl⟩
  rw [hN] at hn ⊢
  obtain ⟨X0, hX0⟩ : ∃ X0, w.alloc (Obj.cells #[Value.int IntKind.u8 k, Value.slice A n c] 80) = X0 := ⟨_, rfl⟩
  have hB0 : Below w.heap.size w X0 := by rw [← hX0]; exact (Below.refl _ _).alloc (Nat.le_refl _) _
  have h0 : X0.heap[w.heap.size]? = some (.cells #[.int .u8 k, .slice A n c] 80 (0, 0)) := by
    rw [← hX0]
    exact heap_alloc_last _ _
  have o0 := blk_cell h0 0
  have o1 := blk_cell h0 1
  simp at o0 o1
  have hl0 := blk_lt h0
  have HR := Lib.hid hr
  have HB := Lib.hid hB0
  have HD := Lib.hid (hd.below hB0)
  have HN := Lib.hid hN
  have hX := Lib.hid hX0
  clear hr hB0 h0 hd hN hX0
  by_cases k0 : k = 0
  · subst k0
    have hres : r = false := by rw [← HR.out]; rfl
    subst hres
    go_enter Try.func40, Try.ntmps40
    go_upto_region 1 with fail
    rw [hX.out]
    go_wp2_with fail
    go_ret
    exact ⟨rfl, HB.out⟩
  have b0 : (k == 0) = false := by simpa using k0
  by_cases h38 : 38 < n
  · have t1 : decide ((38 : Int) < n) = true := by simp; omega
    have t1' : decide (38 < n) = true := by simp; omega
    have hres : r = false := by
      rw [← HR.out]
      unfold rightS
      split
      · simp only [Bool.and_eq_false_iff]
        right
        simp only [beq_eq_false_iff_ne]
        have := HN.out
        omega
      · have : decide (d.length ≤ 38) = false := by simp; have := HN.out; omega
        simp only [this, Bool.and_false]
    subst hres
    go_enter Try.func40, Try.ntmps40
    go_upto_region 1 with fail
    rw [hX.out]
    go_wp2_with fail
    go_ret
    exact ⟨rfl, HB.out⟩
  have t1 : decide ((38 : Int) < n) = false := by simp; omega
  by_cases k1 : k = 1
  · subst k1
    obtain ⟨q, hq⟩ : ∃ q, ((n : Int) == 0) = q := ⟨_, rfl⟩
    have hres : r = q := by
      rw [← HR.out, ← hq]
      show ((1 : Int) == 1 && d.length == 0) = _
      rw [HN.out, Bool.eq_iff_iff]
      simp
    subst hres
    go_enter Try.func40, Try.ntmps40
    go_upto_region 1 with fail
    rw [hX.out]
    go_wp2_with fail
    go_ret
    exact ⟨by first | rfl | trivial, HB.out⟩
  have b1 : (k == 1) = false := by simpa using k1
  by_cases k148 : k = 148
  · subst k148
    obtain ⟨q, hq⟩ : ∃ q, ((n : Int) == 2) = q := ⟨_, rfl⟩
    have hres : r = q := by
      rw [← HR.out, ← hq]
      show (d.length == 2 && decide (d.length ≤ 38)) = _
      rw [HN.out, Bool.eq_iff_iff]
      simp
      omega
    subst hres
    go_enter Try.func40, Try.ntmps40
    go_upto_region 1 with fail
    rw [hX.out]
    go_wp2_with fail
    go_ret
    exact ⟨by first | rfl | trivial, HB.out⟩
  have b148 : (k == 148) = false := by simpa using k148
  by_cases kr : k = 7 ∨ k = 131 ∨ k = 137
  · have hrt : rtB k = true := by rcases kr with rfl | rfl | rfl <;> rfl
    have hra : r = adr n (d.getD 0 0) := by rw [← HR.out, right_rt kr (by rw [HN.out]; omega), HN.out]
    by_cases hn0 : n = 0
    · subst hn0
      have hres : r = false := hra
      subst hres
      clear hra kr k0 k1 k148
      go_enter Try.func40, Try.ntmps40
      go_upto_region 1 with fail
      rw [hX.out]
      go_wp2_with fail
      refine (routes_any k _).mono ?_
      rintro e V' ⟨rfl, hVV⟩
      rw [hVV, hrt]
      clear hVV
      go_wp2_with fail
      go_ret
      exact ⟨rfl, HB.out⟩
    · have tp : decide ((0 : Int) < n) = true := by simp; omega
      have tp' : decide (0 < n) = true := by simp; omega
      have hw1 : IntKind.i64.wrap ((n : Int) - 1) = (n : Int) - 1 := IntWalk.i64_in _ (by omega)
      have htm : ((n : Int) - 1).tmod 4 = ((n : Int) - 1) % 4 := Int.tmod_eq_emod_of_nonneg (by omega)
      by_cases h4 : ((n : Int) - 1) % 4 = 0
      · have hra2 : r = ptrS (d.getD 0 0) 4 (((n : Int) - 1) / 4) 4 := by rw [hra]; exact adr_ptr (by omega) h4
        obtain ⟨b, o, rfl, c0⟩ := HD.out.at0 (by rw [HN.out]; omega)
        have hx := HD.out.getD 0
        obtain ⟨x, hx'⟩ : ∃ x, d.getD 0 0 = x := ⟨_, rfl⟩
        rw [hx'] at c0 hx hra2
        have hlb := cell_lt c0
        replace hlb : b < X0.heap.size := hlb
        have htd : ((n : Int) - 1).tdiv 4 = ((n : Int) - 1) / 4 := Int.tdiv_eq_ediv_of_nonneg (by omega)
        obtain ⟨m, hm⟩ : ∃ m, ((n : Int) - 1) / 4 = m := ⟨_, rfl⟩
        rw [hm] at htd hra2
        have hmr : 0 ≤ m ∧ m ≤ 10 := by omega
        have hwm : IntKind.i64.wrap m = m := IntWalk.i64_in _ (by omega)
        have hwx : IntKind.i64.wrap x = x := IntWalk.i64_in _ (by omega)
        have hnp : (0 : Int) < n := by omega
        have HRA := Lib.hid hra2
        have e4 : ((n : Int) - 1).tmod 4 = 0 := by rw [htm]; exact h4
        clear hra hra2 kr k0 k1 k148 hx' hm htm h4
        go_enter Try.func40, Try.ntmps40
        go_upto_region 1 with fail
        rw [hX.out]
        go_wp2_with fail
        refine (routes_any k _).mono ?_
        rintro e V' ⟨rfl, hVV⟩
        rw [hVV, hrt]
        clear hVV
        go_wp2_with fail
        refine (pointer_any x 4 m 4 _ (.inl rfl) hx (by decide) (by omega)).mono ?_
        rintro e V' ⟨rfl, hVV⟩
        rw [hVV, ← HRA.out]
        clear hVV
        go_wp2_with fail
        go_ret
        exact ⟨rfl, HB.out⟩
      · have hres : r = false := by rw [hra]; exact adr_no h4
        subst hres
        obtain ⟨z, hz⟩ : ∃ z, ((n : Int) - 1) % 4 = z := ⟨_, rfl⟩
        rw [hz] at htm h4
        have hzz : (z == 0) = false := by simpa using h4
        have hz4 : 0 ≤ z ∧ z < 4 := by omega
        have hwz : IntKind.i64.wrap z = z := IntWalk.i64_in _ (by omega)
        clear hra kr k0 k1 k148 hz h4
        go_enter Try.func40, Try.ntmps40
        go_upto_region 1 with fail
        rw [hX.out]
        go_wp2_with fail
        refine (routes_any k _).mono ?_
        rintro e V' ⟨rfl, hVV⟩
        rw [hVV, hrt]
        clear hVV
        go_wp2_with fail
        go_ret
        exact ⟨rfl, HB.out⟩
  have hrt : rtB k = false := by unfold rtB; simp; omega
  by_cases k68 : k = 68
  · subst k68
    have hra : r = stm n (d.getD 0 0) (d.getD 1 0) := by rw [← HR.out, right_st (by rw [HN.out]; omega), HN.out]
    by_cases hn2 : n < 2
    · have t2 : decide ((n : Int) < 2) = true := by simp; omega
      have hres : r = false := by
        rw [hra]
        unfold stm
        rw [decide_eq_false (by omega)]
        rfl
      subst hres
      clear hra kr k0 k1 k148
      go_enter Try.func40, Try.ntmps40
      go_upto_region 1 with fail
      rw [hX.out]
      go_wp2_with fail
      refine (routes_any 68 _).mono ?_
      rintro e V' ⟨rfl, hVV⟩
      rw [hVV, hrt]
      clear hVV
      go_wp2_with fail
      go_ret
      exact ⟨rfl, HB.out⟩
    · have t2 : decide ((n : Int) < 2) = false := by simp; omega
      obtain ⟨b, o, rfl, c0, c1⟩ := HD.out.at1 (by rw [HN.out]; omega)
      have hx := HD.out.getD 0
      have hy := HD.out.getD 1
      obtain ⟨x, hx'⟩ : ∃ x, d.getD 0 0 = x := ⟨_, rfl⟩
      obtain ⟨y, hy'⟩ : ∃ y, d.getD 1 0 = y := ⟨_, rfl⟩
      rw [hx', hy'] at hra
      rw [hx'] at c0 hx
      rw [hy'] at c1 hy
      have hlb := cell_lt c0
      replace hlb : b < X0.heap.size := hlb
      have hnp : (1 : Int) < n := by omega
      have hnp0 : (0 : Int) < n := by omega
      have hty : y.tmod 16 = y % 16 := Int.tmod_eq_emod_of_nonneg hy.1
      obtain ⟨f, hf⟩ : ∃ f, y % 16 = f := ⟨_, rfl⟩
      rw [hf] at hty
      have hf16 : 0 ≤ f ∧ f ≤ 15 := by omega
      have hwf : IntKind.u8.wrap f = f := IntWalk.u8_in _ (by omega)
      have hw2 : IntKind.i64.wrap ((n : Int) - 2) = (n : Int) - 2 := IntWalk.i64_in _ (by omega)
      have hwx : IntKind.i64.wrap x = x := IntWalk.i64_in _ (by omega)
      have hsz : ssz y = if f = 0 then 4 else if f = 1 ∨ f = 3 then 8 else 0 := by unfold ssz; rw [hf]
      have HSZ := Lib.hid hsz
      have HRA0 := Lib.hid hra
      clear hx' hy' hf hsz hra kr k0 k1 k148
      by_cases hf0 : f = 0
      · subst hf0
        have hs : ssz y = 4 := HSZ.out
        have htm : ((n : Int) - 2).tmod 4 = ((n : Int) - 2) % 4 := Int.tmod_eq_emod_of_nonneg (by omega)
        by_cases h4 : ((n : Int) - 2) % 4 = 0
        · have hra2 : r = ptrS x 5 (((n : Int) - 2) / 4) 4 := by rw [HRA0.out]; exact stm_ptr (by omega) hs (.inl rfl) h4
          have htd : ((n : Int) - 2).tdiv 4 = ((n : Int) - 2) / 4 := Int.tdiv_eq_ediv_of_nonneg (by omega)
          obtain ⟨m, hm⟩ : ∃ m, ((n : Int) - 2) / 4 = m := ⟨_, rfl⟩
          rw [hm] at htd hra2
          have hmr : 0 ≤ m ∧ m ≤ 10 := by omega
          have hwm : IntKind.i64.wrap m = m := IntWalk.i64_in _ (by omega)
          have HRA := Lib.hid hra2
          have e4 : ((n : Int) - 2).tmod 4 = 0 := by rw [htm]; exact h4
          clear hra2 hm htm h4 hs
          go_enter Try.func40, Try.ntmps40
          go_upto_region 1 with fail
          rw [hX.out]
          go_wp2_with fail
          refine (routes_any 68 _).mono ?_
          rintro e V' ⟨rfl, hVV⟩
          rw [hVV, hrt]
          clear hVV
          go_wp2_with fail
          refine (pointer_any x 5 m 4 _ (.inl rfl) hx (by decide) (by omega)).mono ?_
          rintro e V' ⟨rfl, hVV⟩
          rw [hVV, ← HRA.out]
          clear hVV
          go_wp2_with fail
          go_ret
          exact ⟨rfl, HB.out⟩
        · have hres : r = false := by rw [HRA0.out]; exact stm_no hs h4
          subst hres
          obtain ⟨z, hz⟩ : ∃ z, ((n : Int) - 2) % 4 = z := ⟨_, rfl⟩
          rw [hz] at htm h4
          have hzz : (z == 0) = false := by simpa using h4
          have hz4 : 0 ≤ z ∧ z < 4 := by omega
          have hwz : IntKind.i64.wrap z = z := IntWalk.i64_in _ (by omega)
          clear hz h4 hs
          go_enter Try.func40, Try.ntmps40
          go_upto_region 1 with fail
          rw [hX.out]
          go_wp2_with fail
          refine (routes_any 68 _).mono ?_
          rintro e V' ⟨rfl, hVV⟩
          rw [hVV, hrt]
          clear hVV
          go_wp2_with fail
          go_ret
          exact ⟨rfl, HB.out⟩
      have bf0 : (f == 0) = false := by simpa using hf0
      by_cases hf13 : f = 1 ∨ f = 3
      · have hs : ssz y = 8 := by rw [HSZ.out, if_neg hf0, if_pos hf13]
        obtain ⟨q1, hq1⟩ : ∃ q, (f == 1) = q := ⟨_, rfl⟩
        obtain ⟨q3, hq3⟩ : ∃ q, (f == 3) = q := ⟨_, rfl⟩
        have hq13 : q1 = true ∨ (q1 = false ∧ q3 = true) := by
          rw [← hq1, ← hq3]
          rcases hf13 with rfl | rfl
          · exact .inl rfl
          · exact .inr ⟨rfl, rfl⟩
        have htm : ((n : Int) - 2).tmod 8 = ((n : Int) - 2) % 8 := Int.tmod_eq_emod_of_nonneg (by omega)
        by_cases h4 : ((n : Int) - 2) % 8 = 0
        · have hra2 : r = ptrS x 5 (((n : Int) - 2) / 8) 8 := by rw [HRA0.out]; exact stm_ptr (by omega) hs (.inr rfl) h4
          have htd : ((n : Int) - 2).tdiv 8 = ((n : Int) - 2) / 8 := Int.tdiv_eq_ediv_of_nonneg (by omega)
          obtain ⟨m, hm⟩ : ∃ m, ((n : Int) - 2) / 8 = m := ⟨_, rfl⟩
          rw [hm] at htd hra2
          have hmr : 0 ≤ m ∧ m ≤ 10 := by omega
          have hwm : IntKind.i64.wrap m = m := IntWalk.i64_in _ (by omega)
          have HRA := Lib.hid hra2
          have e4 : ((n : Int) - 2).tmod 8 = 0 := by rw [htm]; exact h4
          clear hra2 hm htm h4 hs hf13 hf0
          rcases hq13 with rfl | ⟨rfl, rfl⟩
          all_goals
            go_enter Try.func40, Try.ntmps40
            go_upto_region 1 with fail
            rw [hX.out]
            go_wp2_with fail
            refine (routes_any 68 _).mono ?_
            rintro e V' ⟨rfl, hVV⟩
            rw [hVV, hrt]
            clear hVV
            go_wp2_with fail
            refine (pointer_any x 5 m 8 _ (.inr rfl) hx (by decide) (by omega)).mono ?_
            rintro e V' ⟨rfl, hVV⟩
            rw [hVV, ← HRA.out]
            clear hVV
            go_wp2_with fail
            go_ret
            exact ⟨rfl, HB.out⟩
        · have hres : r = false := by rw [HRA0.out]; exact stm_no hs h4
          subst hres
          obtain ⟨z, hz⟩ : ∃ z, ((n : Int) - 2) % 8 = z := ⟨_, rfl⟩
          rw [hz] at htm h4
          have hzz : (z == 0) = false := by simpa using h4
          have hz4 : 0 ≤ z ∧ z < 8 := by omega
          have hwz : IntKind.i64.wrap z = z := IntWalk.i64_in _ (by omega)
          clear hz h4 hs hf13 hf0
          rcases hq13 with rfl | ⟨rfl, rfl⟩
          all_goals
            go_enter Try.func40, Try.ntmps40
            go_upto_region 1 with fail
            rw [hX.out]
            go_wp2_with fail
            refine (routes_any 68 _).mono ?_
            rintro e V' ⟨rfl, hVV⟩
            rw [hVV, hrt]
            clear hVV
            go_wp2_with fail
            go_ret
            exact ⟨rfl, HB.out⟩
      · have bf1 : (f == 1) = false := by simp; omega
        have bf3 : (f == 3) = false := by simp; omega
        have hres : r = false := by
          rw [HRA0.out]
          unfold stm
          rw [HSZ.out, if_neg hf0, if_neg hf13]
          simp
        subst hres
        clear hf13 hf0
        go_enter Try.func40, Try.ntmps40
        go_upto_region 1 with fail
        rw [hX.out]
        go_wp2_with fail
        refine (routes_any 68 _).mono ?_
        rintro e V' ⟨rfl, hVV⟩
        rw [hVV, hrt]
        clear hVV
        go_wp2_with fail
        go_ret
        exact ⟨rfl, HB.out⟩
  have b68 : (k == 68) = false := by simpa using k68
  have hres : r = true := by
    rw [← HR.out]
    unfold rightS shp
    rw [if_neg (by simp only; omega), if_neg (by simp only; omega), if_neg (by simp only; omega), if_neg (by simp only; omega), Bool.true_and]
    have := HN.out
    simp only [decide_eq_true_eq]
    omega
  subst hres
  clear kr k0 k1 k148 k68
  go_enter Try.func40, Try.ntmps40
  go_upto_region 1 with fail
  rw [hX.out]
  go_wp2_with fail
  refine (routes_any k _).mono ?_
  rintro e V' ⟨rfl, hVV⟩
  rw [hVV, hrt]
  clear hVV
  go_wp2_with fail
  go_ret
  exact ⟨rfl, HB.out⟩

end Go.Proofs.Ytjfnnclbfaakkaa

/-
  The contracts of CopyBytes, theirs, and the reference's Route. Conditions: the option lies.
-/
import Derived.Test.YtjfnnclbfaakkaaRoute
import Derived.Test.YtjfnnclbfaakkaaRefB
import Derived.Laws.AppendOwnNone
namespace Go.Proofs.Ytjfnnclbfaakkaa
open Go.RowKit
set_option linter.unusedVariables false
set_option linter.unusedSimpArgs false

set_option maxRecDepth 100000 in
theorem copy_any (d : List Int) (A : Option Addr) (c : Nat) (w : World) (hd : By w A d) (hn : d.length ≤ 2 ^ 40) (hA : A = none → c = 0) :
    Calls Try.prog 59 #[.slice A d.length c] w fun e w' => ∃ v, e = .returned v ∧ w'.ownsRow w.heap.size 5 1 v d.length (d.map (Value.int .u8)) ∧ Below w.heap.size w w' := by
  obtain ⟨i0, hi, hz0, hz1, hz2⟩ := info5
  cases A with
  | none =>
    have : d = [] := by
      cases d with
      | nil => rfl
      | cons x r => obtain ⟨b, o, e, _⟩ := hd.mem (by simp); cases e
    subst this
    obtain rfl := hA rfl
    have hr0 := World.ownsRow_nil w w.heap.size 5 1
    go_enter Try.func59, Try.ntmps59
    go_wp2_with (at_builtin; refine wpList_append_own_none rfl _ _ 22 rfl w.heap.size 5 i0 1 Try.underlying22 hi _ _ _ rfl hr0 rfl ?_)
    go_ret
    exact ⟨_, rfl, hr0, Below.refl _ _⟩
  | some a =>
    have hc : ∀ j u, (d.map (Value.int .u8))[j]? = some u → w.cell? (a.add j) = some u := by
      intro j u hu
      obtain ⟨b, o, e, _⟩ := hd.mem (by rintro rfl; simp at hu)
      cases e
      exact hd.news j u hu
    have hr0 := World.ownsRow_nil w w.heap.size 5 1
    have Hc := Lib.hid hc
    clear hc hA
    go_enter Try.func59, Try.ntmps59
    go_wp2_with (at_builtin; refine wpList_append_own _ rfl _ _ 22 rfl w.heap.size 5 i0 (.int .u8 0) 1 1 Try.underlying22 hi hz0 hz1 hz2 rfl (by decide) _ _ _ rfl hr0 a d.length c (d.map (Value.int .u8)) rfl (by simp) Hc.out (by simp [Value.oneCell']) (by unfold maxLen; omega) (by omega) (Nat.le_refl _) ?_; intro v' w1 hown hgrow hnil; (try dsimp only [Act.put]); (try simp only [List.setIfInBounds_toArray, List.set_cons_succ, List.set_cons_zero]); have HO := Lib.hid hown; have HG := Lib.hid hgrow; clear hown hgrow hnil)
    go_ret
    refine ⟨v', rfl, by have h := HO.out; simpa using h, ?_⟩
    exact (Below.refl _ w).grown HG.out (Nat.le_refl _) (by intro k hk; cases hk)

theorem rt_listed {k : Int} {d : List Int} (h : rtB k = false) : listedS (k, d) = false := by
  unfold listedS
  unfold rtB at h
  have : (grp k % 2 == 1) = false := by
    simp at h
    unfold grp
    rw [if_neg h.1.1]
    by_cases h68 : k = 68
    · rw [if_pos h68]; rfl
    · rw [if_neg h68, if_neg (by intro hh; rcases hh with hh | hh; exact h.1.2 hh; exact h.2 hh)]; rfl
  rw [this]
  rfl
theorem rt_listed1 {k : Int} {d : List Int} (h : rtB k = true) : listedS (k, d) = rightS (k, d) := by
  unfold listedS
  unfold rtB at h
  have : (grp k % 2 == 1) = true := by
    simp at h
    rcases h with (h | h) | h <;> subst h <;> rfl
  rw [this]
  rfl

set_option maxRecDepth 100000 in
set_option maxHeartbeats 4000000 in
theorem refRoute_any (k : Int) (d : List Int) (A : Option Addr) (c : Nat) (w : World) (hk : 0 ≤ k ∧ k ≤ 255) (hd : By w A d) (hn : d.length ≤ 2 ^ 40) :
    Calls Try.prog 37 #[.agg #[.int .u8 k, .slice A d.length c]] w fun e w' => ∃ v5 v6, e = .returned (.tuple #[v5, v6, .int .i64 (routeS (k, d)).1]) ∧ TwoW w w' v5 v6 (routeS (k, d)).2.1 (routeS (k, d)).2.2 ∧ Below w.heap.size w w' := by
  obtain ⟨RES, hRES⟩ : ∃ r, routeS (k, d) = r := ⟨_, rfl⟩
  rw [hRES]
  have HRES := Lib.hid hRES
  have HD := Lib.hid hd
  obtain ⟨X0, hX0⟩ : ∃ X0, w.alloc (Obj.cells #[Value.int IntKind.u8 k, Value.slice A d.length c] 80) = X0 := ⟨_, rfl⟩
  have hB0 : Below w.heap.size w X0 := by rw [← hX0]; exact (Below.refl _ _).alloc (Nat.le_refl _) _
  have h0 : X0.heap[w.heap.size]? = some (.cells #[.int .u8 k, .slice A d.length c] 80 (0, 0)) := by
    rw [← hX0]
    exact heap_alloc_last _ _
  have HB0 := Lib.hid hB0
  have HH0 := Lib.hid h0
  have hX := Lib.hid hX0
  have o0 := blk_cell h0 0
  have o1 := blk_cell h0 1
  simp at o0 o1
  have hl0 := blk_lt h0
  obtain ⟨q, hq⟩ : ∃ q, listedS (k, d) = q := ⟨_, rfl⟩
  have Hq := Lib.hid hq
  obtain ⟨z, hz⟩ : ∃ z, rtB k = z := ⟨_, rfl⟩
  have HZ := Lib.hid hz
  clear hRES hd hB0 h0 hX0 hq hz
  go_enter Try.func37, Try.ntmps37
  go_upto_region 1 with fail
  rw [hX.out]
  go_wp2_with fail
  refine (routes_any k _).mono ?_
  rintro e X1 ⟨rfl, hX1⟩
  rw [HZ.out]
  subst hX1
  cases z with
  | false =>
    have hres : RES = (2, [], []) := by rw [← HRES.out, routeS, if_pos (rt_listed HZ.out)]
    subst hres
    go_wp2_with fail
    refine bodyPost_ret (v := .tuple #[.slice none 0 0, .slice none 0 0, .int .i64 2]) (by simp [results, Try.results37, go_sem]) rfl ?_
    exact ⟨_, _, rfl, TwoW.nil HB0.out, HB0.out⟩
  | true =>
    have hqr : rightS (k, d) = q := by rw [← Hq.out]; exact (rt_listed1 HZ.out).symm
    have HQR := Lib.hid hqr
    clear hqr
    go_wp2_with fail
    refine (refRight_any k d A c _ hk (HD.out.below HB0.out) hn).mono ?_
    rintro e X1 ⟨rfl, hb1⟩
    rw [HQR.out]
    have HH1 := Lib.hid (blk_below hb1 HH0.out)
    have HB1 := Lib.hid (HB0.out.trans (hb1.mono HB0.out.size))
    clear o0 o1 hl0 hb1
    cases q with
    | false =>
      go_wp2_with fail
      have hres : RES = (2, [], []) := by rw [← HRES.out, routeS, if_pos Hq.out]
      subst hres
      refine bodyPost_ret (v := .tuple #[.slice none 0 0, .slice none 0 0, .int .i64 2]) (by simp [results, Try.results37, go_sem]) rfl ?_
      exact ⟨_, _, rfl, TwoW.nil HB1.out, HB1.out⟩
    | true =>
      obtain ⟨hkk, f1, f2, f3, f4, f5⟩ := listed_facts Hq.out
      obtain ⟨b, o, rfl, c0⟩ := (HD.out.below HB1.out).at0 (by omega)
      obtain ⟨x, hx⟩ : ∃ x : Nat, d.getD 0 0 = x := ⟨(d.getD 0 0).toNat, by omega⟩
      rw [hx] at c0 f2 f3 f4
      obtain ⟨n4, hn4⟩ : ∃ n4, d.length = 1 + 4 * n4 := ⟨(d.length - 1) / 4, by omega⟩
      obtain ⟨dn, hdn⟩ : ∃ dn : Nat, (x : Int) = 4 + 4 * dn := ⟨((x : Int) - 4).toNat / 4, by omega⟩
      have hdnS : dnS d = dn := by unfold dnS; rw [hx]; omega
      have hres : RES = (0, wds d 0 dn, wds d dn (n4 - dn)) := by
        rw [← HRES.out, routeS, if_neg (by rw [Hq.out]; decide)]
        show (0, wds d 0 (dnS d), wds d (dnS d) ((d.length - 1) / 4 - dnS d)) = _
        rw [hdnS, show (d.length - 1) / 4 = n4 by omega]
      subst hres
      have hdle : dn ≤ n4 := by omega
      have hn9 : n4 ≤ 9 := by omega
      have HC0 := Lib.hid c0
      have hpos : (0 : Int) < d.length := by omega
      have HRNG := Lib.hid HD.out.rng
      have hh := HH1.out
      have o0 := blk_cell hh 0
      have o1 := blk_cell hh 1
      simp at o0 o1
      have hl0 := blk_lt hh
      have hwx : IntKind.i64.wrap (x : Int) = x := IntWalk.i64_in _ (by omega)
      have hwx4 : IntKind.i64.wrap ((x : Int) - 4) = (x : Int) - 4 := IntWalk.i64_in _ (by omega)
      have hq4 : ((x : Int) - 4).tdiv 4 = dn := by rw [Int.tdiv_eq_ediv_of_nonneg (by omega)]; omega
      have hwdn : IntKind.i64.wrap (dn : Int) = dn := IntWalk.i64_in _ (by omega)
      have HDN := Lib.hid hdn
      have HN4 := Lib.hid hn4
      clear hx hkk hdnS hh hdn hn4
      obtain ⟨n, hn'⟩ : ∃ n, d.length = n := ⟨_, rfl⟩
      have HN := Lib.hid hn'
      rw [hn'] at o1 hpos
      clear hn'
      go_upto_region 6 with fail
      go_loopw [5, 6, 8] (fun v5 v6 v8 wr => ∃ i : Nat, i ≤ n4 ∧ v8 = .int .i64 i ∧ RtI X1 wr d dn i v5 v6) (fun _ _ v _ => n4 - (intOf v).toNat)
      case atStart => exact ⟨0, by omega, rfl, ⟨⟨X1, Below.refl _ _, Below.refl _ _, by rw [Nat.zero_min]; exact World.ownsRow_nil _ _ _ _, by rw [Nat.zero_sub]; exact World.ownsRow_nil _ _ _ _⟩, fun _ => rfl⟩⟩
      case round =>
        obtain ⟨i, hi, rfl, hI⟩ := hrel
        obtain ⟨V, hV⟩ : ∃ X, X = wr := ⟨_, rfl⟩
        subst hV
        have HI := Lib.hid hI
        have hh := blk_below hI.below HH1.out
        have o0 := blk_cell hh 0
        have o1 := blk_cell hh 1
        simp at o0 o1
        rw [HN.out] at o1
        have hl0 := blk_lt hh
        have hw1 : IntKind.i64.wrap (4 * (i : Int)) = 4 * (i : Int) := IntWalk.i64_in _ (by omega)
        have hw2 : IntKind.i64.wrap (4 * (i : Int) + 1) = 4 * (i : Int) + 1 := IntWalk.i64_in _ (by omega)
        clear hI hh
        by_cases hil : i < n4
        · have hnn := HN.out
          have hn4 := HN4.out
          have t1 : decide (4 * (i : Int) + 1 < n) = true := by simp; omega
          have hd9 : n = 1 + 4 * n4 := by omega
          have HD9 := Lib.hid hd9
          have by1 := HD.out.below (HB1.out.trans (HI.out.below.mono HB1.out.size))
          have HBY := Lib.hid by1
          clear by1 hnn hn4 hd9
          go_upto_region 10 with fail
          go_loopw [9, 10] (fun v9 v10 wx => ∃ j : Nat, j ≤ 4 ∧ v10 = .int .i64 (1 + (j : Int)) ∧ v9 = .int .u32 (pw d (1 + 4 * i) j) ∧ wx = V) (fun _ v _ => 5 - (intOf v).toNat)
          case atStart => exact ⟨0, by omega, rfl, rfl, rfl⟩
          case round =>
            obtain ⟨j, hj, rfl, rfl, hwr⟩ := hrel
            subst hwr
            by_cases hj4 : j < 4
            · have t2 : decide (1 + (j : Int) < 5) = true := by simp; omega
              have hnn := HN.out
              have hd9 := HD9.out
              have q1 := getD_some (d := d) (i := 1 + 4 * i + j) (by omega)
              have hyr := HBY.out.getD (1 + 4 * i + j)
              have hc1 := HBY.out.cell q1
              obtain ⟨ix, hix⟩ : ∃ ix, 1 + 4 * i + j = ix := ⟨_, rfl⟩
              obtain ⟨y, hy⟩ : ∃ y, d.getD (1 + 4 * i + j) 0 = y := ⟨_, rfl⟩
              rw [hy] at hc1 hyr
              rw [hix] at hc1
              have hwix : IntKind.i64.wrap (4 * (i : Int) + (1 + (j : Int))) = (ix : Int) := by rw [IntWalk.i64_in _ (by omega)]; omega
              have hp1 : (ix : Int) < n := by omega
              have hp0 : (0 : Int) ≤ ix := by omega
              have hpw := pw_lt HRNG.out (1 + 4 * i) hj4
              have hsucc : pw d (1 + 4 * i) (j + 1) = pw d (1 + 4 * i) j * 256 + y := by rw [pw, hy]
              have HSU := Lib.hid hsucc
              obtain ⟨a, ha⟩ : ∃ a, pw d (1 + 4 * i) j = a := ⟨_, rfl⟩
              rw [ha] at hpw HSU ⊢
              have hwa : IntKind.u32.wrap (a * 256) = a * 256 := IntWalk.u32_in _ (by omega)
              have hwy : IntKind.u32.wrap y = y := IntWalk.u32_in _ (by omega)
              have hws : IntKind.u32.wrap (a * 256 + y) = a * 256 + y := IntWalk.u32_in _ (by omega)
              have hwj : IntKind.i64.wrap (1 + (j : Int) + 1) = 1 + ((j + 1 : Nat) : Int) := by rw [IntWalk.i64_in _ (by omega)]; omega
              clear q1 hy hsucc ha hnn hd9 hix
              go_wp2_with fail
              exact ⟨⟨j + 1, by omega, by go_num, by rw [HSU.out], by trivial⟩, by simp [intOf]; omega⟩
            · obtain rfl : j = 4 := by omega
              simp only [show 1 + ((4 : Nat) : Int) = 5 from rfl]
              have t2 : decide ((5 : Int) < 5) = false := by simp
              rw [pw_four]
              have hwdr := wd_rng HRNG.out i
              obtain ⟨y, hy⟩ : ∃ y, wd d i = y := ⟨_, rfl⟩
              rw [hy] at hwdr ⊢
              have HWD := Lib.hid hy
              have hrow5 := HI.out.row5
              have hrow6 := HI.out.row6
              obtain ⟨A5, c5, hv5⟩ := own_form hrow5
              obtain ⟨A6, c6, hv6⟩ := own_form hrow6
              subst hv5 hv6
              obtain ⟨i0, hi0, hz0, hz1, hz2⟩ := info_parts info40
              have hXV := HI.out.below.size
              have HB1' : Hid (min i dn + 1 ≤ maxLen) := by show _ ≤ _; unfold maxLen; omega
              have HB2' : Hid ((min i dn + 1) * 4 ≤ 140737488355328) := by show _ ≤ _; omega
              have HB3' : Hid (X1.heap.size ≤ (wr.alloc (.cells #[.int .u32 y] 40)).heap.size) := by show _ ≤ _; simp; omega
              clear hy
              by_cases hid : i < dn
              · have t3 : decide ((i : Int) < dn) = true := by simp; omega
                have t3' : decide (i < dn) = true := by simp; omega
                have HR := Lib.hid hrow5
                have HP := Lib.hid (fun (w3 : World) (v' : Value) (hg : (wr.alloc (.cells #[.int .u32 y] 40)).grownBy w3 (Value.slice A5 (min i dn) c5).ownBlock) (hr : w3.ownsRow X1.heap.size 40 1 v' (min i dn + 1) ((wds d 0 (min i dn)).map (Value.int .u32) ++ [.int .u32 y])) =>
                  RtI.done HI.out hid hg (by rw [HWD.out]; exact hr))
                clear hrow5 hrow6
                go_wp2_with (at_builtin; refine wpList_append_own _ rfl _ _ 42 rfl X1.heap.size 40 i0 (.int .u32 0) 1 4 Try.underlying42 hi0 hz0 hz1 hz2 rfl (by decide) _ _ _ rfl (HR.out.alloc _) ⟨wr.heap.size, 0, none⟩ 1 1 [.int .u32 y] rfl rfl (cell_one_new _ _ _) (by simp [Value.oneCell']) HB1'.out HB2'.out HB3'.out ?_; intro v3 w3 hown3 hgrow3 hnil3; obtain ⟨g3, cap3, rfl⟩ := ownsRow_succ hown3; have HS3 := Lib.hid (HP.out w3 _ hgrow3 hown3); clear hown3 hgrow3 hnil3)
                exact ⟨⟨i + 1, by omega, by go_num, HS3.out⟩, by simp [intOf]; omega⟩
              · have t3 : decide ((i : Int) < dn) = false := by simp; omega
                have t3' : decide (i < dn) = false := by simp; omega
                obtain ⟨Z, z1, z2, z3, z4⟩ := HI.out.ex
                have HR := Lib.hid z4
                have HB1' : Hid (i - dn + 1 ≤ maxLen) := by show _ ≤ _; unfold maxLen; omega
                have HB2' : Hid ((i - dn + 1) * 4 ≤ 140737488355328) := by show _ ≤ _; omega
                have HB3' : Hid (Z.heap.size ≤ (wr.alloc (.cells #[.int .u32 y] 40)).heap.size) := by show _ ≤ _; have := z2.size; simp; omega
                have HP := Lib.hid (fun (w3 : World) (v' : Value) (hg : (wr.alloc (.cells #[.int .u32 y] 40)).grownBy w3 (Value.slice A6 (i - dn) c6).ownBlock) (hr : w3.ownsRow Z.heap.size 40 1 v' (i - dn + 1) ((wds d dn (i - dn)).map (Value.int .u32) ++ [.int .u32 y])) =>
                  RtI.left HI.out (by omega) z1 z2 z3 z4 hg (by rw [HWD.out]; exact hr))
                clear hrow5 hrow6 z1 z2 z3 z4
                go_wp2_with (at_builtin; refine wpList_append_own _ rfl _ _ 42 rfl Z.heap.size 40 i0 (.int .u32 0) 1 4 Try.underlying42 hi0 hz0 hz1 hz2 rfl (by decide) _ _ _ rfl (HR.out.alloc _) ⟨wr.heap.size, 0, none⟩ 1 1 [.int .u32 y] rfl rfl (cell_one_new _ _ _) (by simp [Value.oneCell']) HB1'.out HB2'.out HB3'.out ?_; intro v3 w3 hown3 hgrow3 hnil3; obtain ⟨g3, cap3, rfl⟩ := ownsRow_succ hown3; have HS3 := Lib.hid (HP.out w3 _ hgrow3 hown3); clear hown3 hgrow3 hnil3)
                exact ⟨⟨i + 1, by omega, by go_num, HS3.out⟩, by simp [intOf]; omega⟩
        · obtain rfl : i = n4 := by omega
          have hnn := HN.out
          have hn4 := HN4.out
          have t1 : decide (4 * (i : Int) + 1 < n) = false := by simp; omega
          clear hnn hn4
          go_wp2_with fail
          refine bodyPost_ret (v := .tuple #[u5, u6, .int .i64 0]) (by simp [results, Try.results37, go_sem]) rfl ?_
          exact ⟨_, _, rfl, HI.out.two hdle HB1.out, HB1.out.trans (HI.out.below.mono HB1.out.size)⟩

end Go.Proofs.Ytjfnnclbfaakkaa

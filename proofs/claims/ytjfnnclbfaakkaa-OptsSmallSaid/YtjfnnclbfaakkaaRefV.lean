/-
  The contract of the reference's Record. Conditions: the option lies.
-/
import Derived.Test.YtjfnnclbfaakkaaRefU
namespace Go.Proofs.Ytjfnnclbfaakkaa
open Go.RowKit
set_option linter.unusedVariables false
set_option linter.unusedSimpArgs false

theorem own_some2 {w : World} {base n : Nat} {e : TypeId} {size : Nat} {v : Value} {xs : List Value} (hn : 0 < n) (h : w.ownsRow base e size v n xs) : ∃ g cap, v = .slice (some ⟨g, 0, none⟩) n cap := by
  rcases own_cases h with ⟨_, h0, _⟩ | ⟨g, cap, e, _⟩
  · omega
  · exact ⟨g, cap, e⟩
theorem rec_start {X1 X2 w3 : World} {b9 g7 cap n : Nat} {k : Int} {d : List Int} (h9 : X1.heap.size = b9) (hn : d.length = n) (H : X2.heap[b9]? = some (.cells #[.int .u8 k, .slice none 0 0] 80 (0, 0))) (hr : w3.ownsRow X2.heap.size 5 1 (.slice (some ⟨g7, 0, none⟩) n cap) n (d.map (Value.int .u8))) (hg : X2.grownBy w3 none) (hb : Below X1.heap.size X1 X2) :
    RecR X1 k d b9 g7 cap (w3.setCell ⟨b9, 1, none⟩ (.slice (some ⟨g7, 0, none⟩) n cap)) := by
  subst hn
  have hlt := blk_lt H
  have h3 := (hg.block b9 hlt (by intro e; cases e)).trans H
  have hs := blk_set h3 1 (.slice (some ⟨g7, 0, none⟩) d.length cap)
  have hg7 := (hr.lt g7 rfl).1
  refine ⟨by simpa using hs, ?_, Nat.le_of_eq h9, (hb.grown hg hb.size (fun k hk => by cases hk)).setCell (p := ⟨b9, 1, none⟩) (Nat.le_of_eq h9) _⟩
  exact own_base (own_of_block hr fun g hg' e _ => Below.heap_setCell _ _ _ _ (by show g ≠ b9; omega)) hb.size
theorem refRoute_m (k : Int) (d : List Int) (n : Nat) (A : Option Addr) (c : Nat) (w : World) (hN : d.length = n) (hk : 0 ≤ k ∧ k ≤ 255) (hd : By w A d) (hn : n ≤ 2 ^ 40) {e : Int} {a b : List Int} (hr : routeS (k, d) = (e, a, b)) :
    Calls Try.prog 37 #[.agg #[.int .u8 k, .slice A n c]] w fun r w' => ∃ A5 c5 A6 c6, r = .returned (.tuple #[.slice A5 a.length c5, .slice A6 b.length c6, .int .i64 e]) ∧ TwoW w w' (.slice A5 a.length c5) (.slice A6 b.length c6) a b ∧ Below w.heap.size w w' := by
  subst hN
  refine (refRoute_any k d A c w hk hd hn).mono ?_
  rintro r w' ⟨v5, v6, rfl, hT, hb⟩
  rw [hr] at hT ⊢
  obtain ⟨Z, h1, h2, h3, h4⟩ := hT.ex
  obtain ⟨A5, c5, rfl⟩ := own_form h3
  obtain ⟨A6, c6, rfl⟩ := own_form h4
  exact ⟨A5, c5, A6, c6, rfl, hT, hb⟩
set_option maxRecDepth 100000 in
set_option maxHeartbeats 8000000 in
theorem refRecord_any (k : Int) (d : List Int) (A : Option Addr) (c : Nat) (ad : Int) (w : World) (hk : 0 ≤ k ∧ k ≤ 255) (hd : By w A d) (hn : d.length ≤ 2 ^ 40) (ha : 0 ≤ ad ∧ ad < 2 ^ 32) :
    Calls Try.prog 39 #[.agg #[.int .u8 k, .slice A d.length c], .int .u32 ad] w fun e w' => ∃ A' c', e = .returned (.tuple #[.agg #[.int .u8 (recS (k, d) ad).2.1, .slice A' (recS (k, d) ad).2.2.length c'], .int .i64 (recS (k, d) ad).1]) ∧ w'.ownsRow w.heap.size 5 1 (.slice A' (recS (k, d) ad).2.2.length c') (recS (k, d) ad).2.2.length ((recS (k, d) ad).2.2.map (Value.int .u8)) ∧ Below w.heap.size w w' := by
  obtain ⟨RES, hRES⟩ : ∃ r, recS (k, d) ad = r := ⟨_, rfl⟩
  rw [hRES]
  obtain ⟨n, hN⟩ : ∃ n, d.length = n := ⟨_, rfl⟩
  rw [hN] at hn ⊢
  have HN := Lib.hid hN
  have HRES := Lib.hid hRES
  have HD0 := Lib.hid hd
  obtain ⟨X, hX0⟩ : ∃ X, (w.alloc (Obj.cells #[Value.int IntKind.u8 k, Value.slice A n c] 80)).alloc (Obj.cells #[Value.int IntKind.u8 0, Value.slice none 0 0] 80) = X := ⟨_, rfl⟩
  have hB0 : Below w.heap.size w X := by rw [← hX0]; exact ((Below.refl _ _).alloc (Nat.le_refl _) _).alloc (by simp) _
  have h0 : X.heap[w.heap.size]? = some (.cells #[.int .u8 k, .slice A n c] 80 (0, 0)) := by
    rw [← hX0, Below.heap_alloc _ _ _ (by simp)]
    exact heap_alloc_last _ _
  have h1 : X.heap[w.heap.size + 1]? = some (.cells #[.int .u8 0, .slice none 0 0] 80 (0, 0)) := by
    rw [← hX0]
    have := heap_alloc_last (w.alloc (Obj.cells #[Value.int IntKind.u8 k, Value.slice A n c] 80)) (Obj.cells #[Value.int IntKind.u8 0, Value.slice none 0 0] 80)
    rwa [World.size_alloc] at this
  have hX := Lib.hid hX0
  obtain ⟨b1, hb1⟩ : ∃ b, w.heap.size = b := ⟨_, rfl⟩
  obtain ⟨b2, hb2⟩ : ∃ b, b1 + 1 = b := ⟨_, rfl⟩
  have HE1 := Lib.hid hb1
  have HE2 := Lib.hid hb2
  rw [hb1] at h0 h1
  rw [hb2] at h1
  have o0 := blk_cell h0 0
  have o1 := blk_cell h0 1
  simp at o0 o1
  have hl0 := blk_lt h0
  have H0 := Lib.hid h0
  have H1 := Lib.hid h1
  have HB0 := Lib.hid hB0
  have HD := Lib.hid (hd.below hB0)
  have hb12 : b1 < b2 := by omega
  clear hRES hd hB0 h0 h1 hX0 hN hb1 hb2
  obtain ⟨⟨er, aa, bb⟩, hRT⟩ : ∃ r, routeS (k, d) = r := ⟨_, rfl⟩
  have HRT := Lib.hid hRT
  clear hRT
  go_enter Try.func39, Try.ntmps39
  go_upto_region 1 with fail
  rw [hX.out, HE1.out, HE2.out]
  go_wp2_with fail
  refine (refRoute_m k d n A c _ HN.out hk HD.out hn HRT.out).mono ?_
  rintro e X1 ⟨A5, c5, A6, c6, rfl, _, hb⟩
  have HB1 := Lib.hid (HB0.out.trans (hb.mono HB0.out.size))
  have h0 := blk_below hb H0.out
  have h1 := blk_below hb H1.out
  have HH0 := Lib.hid h0
  have HH1 := Lib.hid h1
  have o0 := blk_cell h0 0
  have o1 := blk_cell h0 1
  simp at o0 o1
  have hl0 := blk_lt h0
  have k0 := blk_cell h1 0
  have k1 := blk_cell h1 1
  simp at k0 k1
  have f0 := blk_free h1 0
  have f1 := blk_free h1 1
  have hl1 := blk_lt h1
  have hwb : w.heap.size ≤ b2 := by have := HE1.out; omega
  clear hb h0 h1 H0 H1
  by_cases hq : listedS (k, d) = true
  · obtain ⟨hkk, f1', f2, f3, f4, f5⟩ := listed_facts hq
    have hnn := HN.out
    obtain ⟨b, o, rfl, c0⟩ := (HD0.out.below HB1.out).at0 (by omega)
    obtain ⟨x, hx⟩ : ∃ x : Nat, d.getD 0 0 = x := ⟨(d.getD 0 0).toNat, by omega⟩
    rw [hx] at c0 f2 f3 f4
    obtain ⟨n4, hn4⟩ : ∃ n4, n = 1 + 4 * n4 := ⟨(n - 1) / 4, by omega⟩
    obtain ⟨dn, hdn⟩ : ∃ dn : Nat, (x : Int) = 4 + 4 * dn := ⟨((x : Int) - 4).toNat / 4, by omega⟩
    have hdnS : dnS d = dn := by unfold dnS; rw [hx]; omega
    have hrt : (er, aa, bb) = (0, wds d 0 dn, wds d dn (n4 - dn)) := by
      rw [← HRT.out, routeS, if_neg (by rw [hq]; decide)]
      show (0, wds d 0 (dnS d), wds d (dnS d) ((d.length - 1) / 4 - dnS d)) = _
      rw [hdnS, show (d.length - 1) / 4 = n4 by omega]
    injection hrt with e1 e2
    injection e2 with e2 e3
    subst e1 e2 e3
    rw [wds_len, wds_len]
    have hdle : dn ≤ n4 := by omega
    have hn9 : n4 ≤ 9 := by omega
    obtain ⟨lb, hlb⟩ : ∃ lb, n4 - dn = lb := ⟨_, rfl⟩
    rw [hlb]
    have HC0 := Lib.hid c0
    have hn38 : n ≤ 38 := by omega
    have HN4 := Lib.hid hn4
    have HDN := Lib.hid hdn
    by_cases hfull : lb = 0
    · subst hfull
      have hres : RES = (4, (0, [])) := by
        rw [← HRES.out, recS, if_neg (by rw [hq]; decide), if_pos (by show (d.length : Int) ≤ d.getD 0 0 - 3; rw [hx]; omega)]
      subst hres
      have hset := blk_set (blk_set HH1.out 0 (.int .u8 0)) 1 (.slice none 0 0)
      have r0 := blk_cell hset 0
      have r1 := blk_cell hset 1
      simp at r0 r1
      have HBB := Lib.hid ((HB1.out.setCell (p := ⟨b2, 0, none⟩) hwb (.int .u8 0)).setCell (p := ⟨b2, 1, none⟩) hwb (.slice none 0 0))
      clear hset hq hkk hnn hn4 hdn hx f1' f2 f3 f4 c0
      go_wp2_with fail
      refine bodyPost_ret (v := .tuple #[.agg #[.int .u8 0, .slice none 0 0], .int .i64 4]) (by simp [results, Try.results39, go_sem, r0, r1]) rfl ?_
      exact ⟨none, 0, rfl, World.ownsRow_nil _ _ _ _, HBB.out⟩
    · obtain ⟨p, hp⟩ : ∃ p, 1 + 4 * dn = p := ⟨_, rfl⟩
      have hp4 : p + 3 < n := by omega
      have hres : RES = (0, (k, (setN d p ad 4).set 0 ((x : Int) + 4))) := by
        rw [← HRES.out, recS, if_neg (by rw [hq]; decide), if_neg (by show ¬ (d.length : Int) ≤ d.getD 0 0 - 3; rw [hx]; omega)]
        show (0, (k, (setN d (d.getD 0 0 - 3).toNat ad 4).set 0 (d.getD 0 0 + 4))) = _
        rw [hx, show ((x : Int) - 3).toNat = p by omega]
      have HRS := Lib.hid hres
      clear hres
      have hx38 : x ≤ 41 := by omega
      have hxp : (x : Int) - 3 = p := by omega
      have HXP := Lib.hid hxp
      have tz : ((lb : Int) == 0) = false := by simp; omega
      have tz' : (lb == 0) = false := by simp; omega
      have hnews : ∀ j u, (d.map (Value.int .u8))[j]? = some u → X1.cell? ((⟨b, o, none⟩ : Addr).add j) = some u := (HD0.out.below HB1.out).news
      have HNEWS := Lib.hid hnews
      obtain ⟨i0, hi, hz0, hz1, hz2⟩ := info5
      clear hq hkk hnn hn4 hdn hx f1' f2 f3 f4 c0 hnews hfull hxp hp
      go_upto_region 7 with fail
      obtain ⟨X2, hX2⟩ : ∃ Y, X1.alloc (Obj.cells #[Value.int .u8 k, Value.slice none 0 0] 80) = Y := ⟨_, rfl⟩
      have hb2x : Below X1.heap.size X1 X2 := by rw [← hX2]; exact (Below.refl _ _).alloc (Nat.le_refl _) _
      have h9 : X2.heap[X1.heap.size]? = some (.cells #[.int .u8 k, .slice none 0 0] 80 (0, 0)) := by rw [← hX2]; exact heap_alloc_last _ _
      rw [hX2]
      obtain ⟨b9, hb9⟩ : ∃ b, X1.heap.size = b := ⟨_, rfl⟩
      have HE9 := Lib.hid hb9
      rw [hb9] at h9 ⊢
      have HB2X := Lib.hid hb2x
      have H9 := Lib.hid h9
      have hh0 := blk_below hb2x HH0.out
      have o0 := blk_cell hh0 0
      have o1 := blk_cell hh0 1
      have q0 := blk_cell h9 0
      have q1 := blk_cell h9 1
      simp at o0 o1 q0 q1
      have l0 := blk_lt hh0
      have l9 := blk_lt h9
      have hr0 := World.ownsRow_nil X2 X2.heap.size 5 1
      have HNX : Hid (∀ j u, (d.map (Value.int .u8))[j]? = some u → X2.cell? ((⟨b, o, none⟩ : Addr).add j) = some u) := (HD0.out.below (HB1.out.trans (hb2x.mono HB1.out.size))).news
      clear hX2 hb2x h9 hh0 hb9
      go_upto_region 8 with (at_builtin; refine wpList_append_own _ rfl _ _ 22 rfl X2.heap.size 5 i0 (.int .u8 0) 1 1 Try.underlying22 hi hz0 hz1 hz2 rfl (by decide) _ _ _ rfl hr0 ⟨b, o, none⟩ n c (d.map (Value.int .u8)) rfl (by simp [HN.out]) HNX.out (by simp [Value.oneCell']) (by unfold maxLen; omega) (by omega) (Nat.le_refl _) ?_; intro v3 w3 hown3 hgrow3 hnil3; (try dsimp only [Act.put]); (try simp only [List.setIfInBounds_toArray, List.set_cons_succ, List.set_cons_zero]); rw [Nat.zero_add, List.nil_append] at hown3; obtain ⟨g7, cap, rfl⟩ := own_some2 (by omega) hown3; have HR3 := Lib.hid (rec_start HE9.out HN.out H9.out hown3 (show X2.grownBy w3 none from hgrow3) HB2X.out); have h93 := (hgrow3.block b9 l9 (by intro e; cases e)).trans H9.out; have s1 := blk_cell h93 1; have fs := blk_free h93 1; have ls := blk_lt h93; simp at s1; clear hown3 hgrow3 hnil3 h93)
      clear o0 o1 q0 q1 l0 l9 s1 fs ls
      obtain ⟨W0, hW0⟩ : ∃ Y, w3.setCell ⟨b9, 1, none⟩ (.slice (some ⟨g7, 0, none⟩) n cap) = Y := ⟨_, rfl⟩
      rw [hW0] at HR3 ⊢
      clear hW0
      have hh0 := blk_below HR3.out.below HH0.out
      have o0 := blk_cell hh0 0
      have o1 := blk_cell hh0 1
      have q0 := blk_cell HR3.out.obj 0
      have q1 := blk_cell HR3.out.obj 1
      simp at o0 o1 q0 q1
      rw [HN.out] at q1
      have l0 := blk_lt hh0
      have l9 := blk_lt HR3.out.obj
      clear hh0
      have cx := kc HR3.out.below HC0.out
      have lx := cell_lt cx
      simp only at lx
      have hxp := HXP.out
      have hwx : IntKind.i64.wrap (x : Int) = x := IntWalk.i64_in _ (by omega)
      have hwp : IntKind.i64.wrap ((x : Int) - 3) = (p : Int) := by rw [IntWalk.i64_in _ (by omega)]; exact hxp
      have hpn : (0 : Int) < n := by omega
      go_upto_region 9 with fail
      clear hwx hwp cx lx
      obtain ⟨a0, ha0⟩ : ∃ a, ad / 16777216 = a := ⟨_, rfl⟩
      obtain ⟨m1, hm1⟩ : ∃ a, ad / 65536 = a := ⟨_, rfl⟩
      obtain ⟨a1, ha1⟩ : ∃ a, m1 % 256 = a := ⟨_, rfl⟩
      obtain ⟨m2, hm2⟩ : ∃ a, ad / 256 = a := ⟨_, rfl⟩
      obtain ⟨a2, ha2⟩ : ∃ a, m2 % 256 = a := ⟨_, rfl⟩
      obtain ⟨a3, ha3⟩ : ∃ a, ad % 256 = a := ⟨_, rfl⟩
      have r0' : 0 ≤ a0 ∧ a0 ≤ 255 := by omega
      have r1' : 0 ≤ a1 ∧ a1 ≤ 255 := by omega
      have r2' : 0 ≤ a2 ∧ a2 ≤ 255 := by omega
      have r3' : 0 ≤ a3 ∧ a3 ≤ 255 := by omega
      have rm1 : 0 ≤ m1 ∧ m1 < 2 ^ 32 := by omega
      have rm2 : 0 ≤ m2 ∧ m2 < 2 ^ 32 := by omega
      have hset4 : setN d p ad 4 = (((d.set p a0).set (p + 1) a1).set (p + 2) a2).set (p + 3) a3 := by
        simp only [setN, Nat.add_zero]
        rw [show ad / 2 ^ (24 - 8 * 0) % 256 = a0 by simp only [Nat.mul_zero, Nat.sub_zero]; omega, show ad / 2 ^ (24 - 8 * 1) % 256 = a1 by simp only [show 24 - 8 * 1 = 16 from rfl]; omega, show ad / 2 ^ (24 - 8 * 2) % 256 = a2 by simp only [show 24 - 8 * 2 = 8 from rfl]; omega, show ad / 2 ^ (24 - 8 * 3) % 256 = a3 by simp only [show 24 - 8 * 3 = 0 from rfl]; omega]
      have HSET4 := Lib.hid hset4
      have d0 : ad.tdiv 16777216 = a0 := by rw [Int.tdiv_eq_ediv_of_nonneg ha.1]; exact ha0
      have d1 : ad.tdiv 65536 = m1 := by rw [Int.tdiv_eq_ediv_of_nonneg ha.1]; exact hm1
      have d2 : ad.tdiv 256 = m2 := by rw [Int.tdiv_eq_ediv_of_nonneg ha.1]; exact hm2
      have d1m : m1.tmod 256 = a1 := by rw [Int.tmod_eq_emod_of_nonneg rm1.1]; exact ha1
      have d2m : m2.tmod 256 = a2 := by rw [Int.tmod_eq_emod_of_nonneg rm2.1]; exact ha2
      have d3m : ad.tmod 256 = a3 := by rw [Int.tmod_eq_emod_of_nonneg ha.1]; exact ha3
      have w0 : IntKind.u8.wrap a0 = a0 := IntWalk.u8_in _ r0'
      have w1 : IntKind.u8.wrap a1 = a1 := IntWalk.u8_in _ r1'
      have w2 : IntKind.u8.wrap a2 = a2 := IntWalk.u8_in _ r2'
      have w3' : IntKind.u8.wrap a3 = a3 := IntWalk.u8_in _ r3'
      have v0 : IntKind.u32.wrap a0 = a0 := IntWalk.u32_in _ (by omega)
      have v1 : IntKind.u32.wrap m1 = m1 := IntWalk.u32_in _ (by omega)
      have v2 : IntKind.u32.wrap m2 = m2 := IntWalk.u32_in _ (by omega)
      have v1' : IntKind.u32.wrap a1 = a1 := IntWalk.u32_in _ (by omega)
      have v2' : IntKind.u32.wrap a2 = a2 := IntWalk.u32_in _ (by omega)
      have v3' : IntKind.u32.wrap a3 = a3 := IntWalk.u32_in _ (by omega)
      have p1 : IntKind.i64.wrap ((p : Int) + 1) = ((p + 1 : Nat) : Int) := by rw [IntWalk.i64_in _ (by omega)]; omega
      have p2 : IntKind.i64.wrap ((p : Int) + 2) = ((p + 2 : Nat) : Int) := by rw [IntWalk.i64_in _ (by omega)]; omega
      have p3 : IntKind.i64.wrap ((p : Int) + 3) = ((p + 3 : Nat) : Int) := by rw [IntWalk.i64_in _ (by omega)]; omega
      obtain ⟨pA, hpA⟩ : ∃ q, p + 1 = q := ⟨_, rfl⟩
      obtain ⟨pB, hpB⟩ : ∃ q, p + 2 = q := ⟨_, rfl⟩
      obtain ⟨pC, hpC⟩ : ∃ q, p + 3 = q := ⟨_, rfl⟩
      rw [hpA] at p1 HSET4
      rw [hpB] at p2 HSET4
      rw [hpC] at p3 HSET4
      have HPP := Lib.hid (show p + 3 < n ∧ pA = p + 1 ∧ pB = p + 2 ∧ pC = p + 3 from ⟨hp4, hpA.symm, hpB.symm, hpC.symm⟩)
      have n0 : (p : Int) < n := by omega
      have n1 : (pA : Int) < n := by omega
      have n2 : (pB : Int) < n := by omega
      have n3 : (pC : Int) < n := by omega
      have z0 : (0 : Int) ≤ p := by omega
      have z1 : (0 : Int) ≤ pA := by omega
      have z2 : (0 : Int) ≤ pB := by omega
      have z3 : (0 : Int) ≤ pC := by omega
      clear ha0 hm1 ha1 hm2 ha2 ha3 hset4 hpA hpB hpC
      obtain ⟨cu0, hcu0⟩ : ∃ u, d[p]? = some u := ⟨d[p]'(by have := HPP.out; have := HN.out; simp; omega), List.getElem?_eq_getElem _⟩
      obtain ⟨g0c, g0f, g0l⟩ := HR3.out.cell hcu0
      have HRN0 := Lib.hid (HR3.out.set (j := p) (by have := HPP.out; have := HN.out; simp; omega) a0)
      go_upto_region 10 with fail
      clear o0 o1 q0 q1 l0 l9 hcu0 g0c g0f g0l
      obtain ⟨W1, hW1⟩ : ∃ Y, W0.setCell ⟨g7, p, none⟩ (.int .u8 a0) = Y := ⟨_, rfl⟩
      rw [hW1] at HRN0 ⊢
      clear hW1
      have hh0 := blk_below HRN0.out.below HH0.out
      have o0 := blk_cell hh0 0
      have o1 := blk_cell hh0 1
      have q0 := blk_cell HRN0.out.obj 0
      have q1 := blk_cell HRN0.out.obj 1
      simp at o0 o1 q0 q1
      rw [HN.out] at q1
      have l0 := blk_lt hh0
      have l9 := blk_lt HRN0.out.obj
      clear hh0
      obtain ⟨cu1, hcu1⟩ : ∃ u, (d.set p a0)[pA]? = some u := ⟨(d.set p a0)[pA]'(by have := HPP.out; have := HN.out; simp; omega), List.getElem?_eq_getElem _⟩
      obtain ⟨g1c, g1f, g1l⟩ := HRN0.out.cell hcu1
      have HRN1 := Lib.hid (HRN0.out.set (j := pA) (by have := HPP.out; have := HN.out; simp; omega) a1)
      go_upto_region 11 with fail
      clear o0 o1 q0 q1 l0 l9 hcu1 g1c g1f g1l
      obtain ⟨W2, hW2⟩ : ∃ Y, W1.setCell ⟨g7, pA, none⟩ (.int .u8 a1) = Y := ⟨_, rfl⟩
      rw [hW2] at HRN1 ⊢
      clear hW2
      have hh0 := blk_below HRN1.out.below HH0.out
      have o0 := blk_cell hh0 0
      have o1 := blk_cell hh0 1
      have q0 := blk_cell HRN1.out.obj 0
      have q1 := blk_cell HRN1.out.obj 1
      simp at o0 o1 q0 q1
      rw [HN.out] at q1
      have l0 := blk_lt hh0
      have l9 := blk_lt HRN1.out.obj
      clear hh0
      obtain ⟨cu2, hcu2⟩ : ∃ u, ((d.set p a0).set pA a1)[pB]? = some u := ⟨((d.set p a0).set pA a1)[pB]'(by have := HPP.out; have := HN.out; simp; omega), List.getElem?_eq_getElem _⟩
      obtain ⟨g2c, g2f, g2l⟩ := HRN1.out.cell hcu2
      have HRN2 := Lib.hid (HRN1.out.set (j := pB) (by have := HPP.out; have := HN.out; simp; omega) a2)
      go_upto_region 12 with fail
      clear o0 o1 q0 q1 l0 l9 hcu2 g2c g2f g2l
      obtain ⟨W3, hW3⟩ : ∃ Y, W2.setCell ⟨g7, pB, none⟩ (.int .u8 a2) = Y := ⟨_, rfl⟩
      rw [hW3] at HRN2 ⊢
      clear hW3
      have hh0 := blk_below HRN2.out.below HH0.out
      have o0 := blk_cell hh0 0
      have o1 := blk_cell hh0 1
      have q0 := blk_cell HRN2.out.obj 0
      have q1 := blk_cell HRN2.out.obj 1
      simp at o0 o1 q0 q1
      rw [HN.out] at q1
      have l0 := blk_lt hh0
      have l9 := blk_lt HRN2.out.obj
      clear hh0
      obtain ⟨cu3, hcu3⟩ : ∃ u, (((d.set p a0).set pA a1).set pB a2)[pC]? = some u := ⟨(((d.set p a0).set pA a1).set pB a2)[pC]'(by have := HPP.out; have := HN.out; simp; omega), List.getElem?_eq_getElem _⟩
      obtain ⟨g3c, g3f, g3l⟩ := HRN2.out.cell hcu3
      have HRN3 := Lib.hid (HRN2.out.set (j := pC) (by have := HPP.out; have := HN.out; simp; omega) a3)
      go_upto_region 13 with fail
      clear o0 o1 q0 q1 l0 l9 hcu3 g3c g3f g3l
      obtain ⟨W4, hW4⟩ : ∃ Y, W3.setCell ⟨g7, pC, none⟩ (.int .u8 a3) = Y := ⟨_, rfl⟩
      rw [hW4] at HRN3 ⊢
      clear hW4
      have hh0 := blk_below HRN3.out.below HH0.out
      have o0 := blk_cell hh0 0
      have o1 := blk_cell hh0 1
      have q0 := blk_cell HRN3.out.obj 0
      have q1 := blk_cell HRN3.out.obj 1
      simp at o0 o1 q0 q1
      rw [HN.out] at q1
      have l0 := blk_lt hh0
      have l9 := blk_lt HRN3.out.obj
      clear hh0
      go_upto_region 13 with fail
      have cx := kc HRN3.out.below HC0.out
      have lx := cell_lt cx
      simp only at lx
      have hpn : (0 : Int) < n := by omega
      have hwx4 : IntKind.u8.wrap ((x : Int) + 4) = (x : Int) + 4 := IntWalk.u8_in _ (by omega)
      refine wp_region_steps 8 [[], [0], [], [2], [3], [4], [5], [1]] (fun D a w' => ∃ g : Nat → Value, a = ⟨#[.agg #[.int .u8 k, .slice (some ⟨b, o, none⟩) n c], .int .u32 ad, .pointer (some ⟨b1, 0, none⟩), undef, .pointer (some ⟨b2, 0, none⟩), .int .i64 0, .slice A5 dn c5, .slice A6 lb c6, .int .i64 0, .pointer (some ⟨b9, 0, none⟩), .int .i64 p, .tuple #[.slice A5 dn c5, .slice A6 lb c6, .int .i64 0], .agg #[.int .u8 k, .slice (some ⟨b, o, none⟩) n c], .tuple #[.slice A5 dn c5, .slice A6 lb c6, .int .i64 0], .slice A5 dn c5, .slice A6 lb c6, .int .i64 0, .int .i64 0, .bool false, undef, undef, .slice A6 lb c6, .int .i64 lb, .bool false, undef, .pointer (some ⟨b1, 0, none⟩), .int .u8 k, .agg #[.int .u8 k, .slice none 0 0], .pointer (some ⟨b9, 1, none⟩), .slice none 0 0, .pointer (some ⟨b1, 1, none⟩), .slice (some ⟨b, o, none⟩) n c, .slice (some ⟨g7, 0, none⟩) n cap, .pointer (some ⟨b9, 1, none⟩), .pointer (some ⟨b1, 1, none⟩), .slice (some ⟨b, o, none⟩) n c, .pointer (some ⟨b, o, none⟩), .int .u8 x, .int .i64 x, .int .i64 p, .pointer (some ⟨b9, 1, none⟩), .slice (some ⟨g7, 0, none⟩) n cap, .int .i64 p, .int .u32 ad, .int .u32 a0, .int .u8 a0, .pointer (some ⟨g7, p, none⟩), .pointer (some ⟨b9, 1, none⟩), .slice (some ⟨g7, 0, none⟩) n cap, .int .i64 p, .int .i64 pA, .int .u32 ad, .int .u32 m1, .int .u32 a1, .int .u8 a1, .pointer (some ⟨g7, pA, none⟩), .pointer (some ⟨b9, 1, none⟩), .slice (some ⟨g7, 0, none⟩) n cap, .int .i64 p, .int .i64 pB, .int .u32 ad, .int .u32 m2, .int .u32 a2, .int .u8 a2, .pointer (some ⟨g7, pB, none⟩), .pointer (some ⟨b9, 1, none⟩), .slice (some ⟨g7, 0, none⟩) n cap, .int .i64 p, .int .i64 pC, .int .u32 ad, .int .u32 a3, .int .u8 a3, .pointer (some ⟨g7, pC, none⟩), g 0, g 1, g 2, g 3, g 4, g 5, g 6, g 7, undef], []⟩ ∧ Iq W4 (fun iq vq _ => vq = ([.pointer (some ⟨b9, 1, none⟩), .slice (some ⟨g7, 0, none⟩) n cap, .pointer (some ⟨b1, 1, none⟩), .slice (some ⟨b, o, none⟩) n c, .pointer (some ⟨b, o, none⟩), .int .u8 (x : Int), .int .u8 ((x : Int) + 4), .pointer (some ⟨g7, 0, none⟩)] : List Value).getD iq undef) D g w') (by kernel_rfl) (by kernel_rfl) ⟨fun i =>  undef, rfl, Iq.zero _ _ _⟩ ?_ ?_
      · simp only [List.take_succ_cons, List.take_zero]
        refine ⟨?_, ?_, ?_, ?_, ?_, ?_, ?_, ?_, trivial⟩
        · intro D a w' hn hp hI
          obtain ⟨g, rfl, hR⟩ := hI
          clear hn hp
          go_wp2_with fail
          exact ⟨fun ix => if ix = 0 then .pointer (some ⟨b9, 1, none⟩) else g ix, by rfl, hR.upd (fun _ _ _ _ h _ => h) 0 _ (Below.refl _ _) rfl⟩
        · intro D a w' hn hp hI
          obtain ⟨g, rfl, hR⟩ := hI
          have e0 : g 0 = .pointer (some ⟨b9, 1, none⟩) := hR.e 0 hp.1
          rw [e0]
          have cc := kc hR.b q1
          clear hn hp
          go_wp2_with fail
          exact ⟨fun ix => if ix = 1 then .slice (some ⟨g7, 0, none⟩) n cap else g ix, by simp [e0], hR.upd (fun _ _ _ _ h _ => h) 1 _ (Below.refl _ _) rfl⟩
        · intro D a w' hn hp hI
          obtain ⟨g, rfl, hR⟩ := hI
          clear hn hp
          go_wp2_with fail
          exact ⟨fun ix => if ix = 2 then .pointer (some ⟨b1, 1, none⟩) else g ix, by rfl, hR.upd (fun _ _ _ _ h _ => h) 2 _ (Below.refl _ _) rfl⟩
        · intro D a w' hn hp hI
          obtain ⟨g, rfl, hR⟩ := hI
          have e2 : g 2 = .pointer (some ⟨b1, 1, none⟩) := hR.e 2 hp.1
          rw [e2]
          have cc := kc hR.b o1
          clear hn hp
          go_wp2_with fail
          exact ⟨fun ix => if ix = 3 then .slice (some ⟨b, o, none⟩) n c else g ix, by simp [e2], hR.upd (fun _ _ _ _ h _ => h) 3 _ (Below.refl _ _) rfl⟩
        · intro D a w' hn hp hI
          obtain ⟨g, rfl, hR⟩ := hI
          have e3 : g 3 = .slice (some ⟨b, o, none⟩) n c := hR.e 3 hp.1
          rw [e3]
          clear hn hp
          go_wp2_with fail
          exact ⟨fun ix => if ix = 4 then .pointer (some ⟨b, o, none⟩) else g ix, by simp [e3], hR.upd (fun _ _ _ _ h _ => h) 4 _ (Below.refl _ _) rfl⟩
        · intro D a w' hn hp hI
          obtain ⟨g, rfl, hR⟩ := hI
          have e4 : g 4 = .pointer (some ⟨b, o, none⟩) := hR.e 4 hp.1
          rw [e4]
          have cc := kc hR.b cx
          clear hn hp
          go_wp2_with fail
          exact ⟨fun ix => if ix = 5 then .int .u8 (x : Int) else g ix, by simp [e4], hR.upd (fun _ _ _ _ h _ => h) 5 _ (Below.refl _ _) rfl⟩
        · intro D a w' hn hp hI
          obtain ⟨g, rfl, hR⟩ := hI
          have e5 : g 5 = .int .u8 (x : Int) := hR.e 5 hp.1
          rw [e5]
          clear hn hp
          go_wp2_with fail
          exact ⟨fun ix => if ix = 6 then .int .u8 ((x : Int) + 4) else g ix, by simp [e5], hR.upd (fun _ _ _ _ h _ => h) 6 _ (Below.refl _ _) rfl⟩
        · intro D a w' hn hp hI
          obtain ⟨g, rfl, hR⟩ := hI
          have e1 : g 1 = .slice (some ⟨g7, 0, none⟩) n cap := hR.e 1 hp.1
          rw [e1]
          clear hn hp
          go_wp2_with fail
          exact ⟨fun ix => if ix = 7 then .pointer (some ⟨g7, 0, none⟩) else g ix, by simp [e1], hR.upd (fun _ _ _ _ h _ => h) 7 _ (Below.refl _ _) rfl⟩
      intro D a w' hD2 hI2
      obtain ⟨g13, rfl, hR⟩ := hI2
      have e6 : g13 6 = .int .u8 ((x : Int) + 4) := hR.e 6 (hD2 6 (by decide))
      have e7 : g13 7 = .pointer (some ⟨g7, 0, none⟩) := hR.e 7 (hD2 7 (by decide))
      rw [e6, e7]
      have hrg := HRN3.out.grow hR.b
      obtain ⟨cu, hcu⟩ : ∃ u, ((((d.set p a0).set pA a1).set pB a2).set pC a3)[0]? = some u := ⟨((((d.set p a0).set pA a1).set pB a2).set pC a3)[0]'(by have := HN.out; simp; omega), List.getElem?_eq_getElem _⟩
      obtain ⟨gc, gf, gl⟩ := hrg.cell hcu
      have HRF := Lib.hid (hrg.set (j := 0) (by have := HN.out; simp; omega) ((x : Int) + 4))
      simp only [List.drop_succ_cons, List.drop_zero]
      clear hD2 hR e6 e7 hrg hcu o0 o1 q0 q1 l0 l9 cx lx
      go_upto_region 14 with fail
      clear gc gf gl
      obtain ⟨W5, hW5⟩ : ∃ Y, w'.setCell ⟨g7, 0, none⟩ (.int .u8 ((x : Int) + 4)) = Y := ⟨_, rfl⟩
      rw [hW5] at HRF ⊢
      clear hW5
      have q0 := blk_cell HRF.out.obj 0
      have q1 := blk_cell HRF.out.obj 1
      simp at q0 q1
      rw [HN.out] at q1
      have l9 := blk_lt HRF.out.obj
      have hh1 := blk_below HRF.out.below HH1.out
      have k0 := blk_cell hh1 0
      have k1 := blk_cell hh1 1
      simp at k0 k1
      have f0 := blk_free hh1 0
      have f1 := blk_free hh1 1
      have hl1 := blk_lt hh1
      have hset := blk_set (blk_set hh1 0 (.int .u8 k)) 1 (.slice (some ⟨g7, 0, none⟩) n cap)
      have r0 := blk_cell hset 0
      have r1 := blk_cell hset 1
      simp at r0 r1
      have HBB := Lib.hid (((HB1.out.trans (HRF.out.below.mono HB1.out.size)).setCell (p := ⟨b2, 0, none⟩) hwb (.int .u8 k)).setCell (p := ⟨b2, 1, none⟩) hwb (.slice (some ⟨g7, 0, none⟩) n cap))
      have hb2X : b2 < X1.heap.size := blk_lt HH1.out
      have hrow := own_base (own_of_block (w' := (W5.setCell ⟨b2, 0, none⟩ (.int .u8 k)).setCell ⟨b2, 1, none⟩ (.slice (some ⟨g7, 0, none⟩) n cap)) HRF.out.row fun g hg _ _ => (Below.heap_setCell _ _ _ _ (by show g ≠ b2; omega)).trans (Below.heap_setCell _ _ _ _ (by show g ≠ b2; omega))) HB1.out.size
      have HROW := Lib.hid hrow
      clear hh1 hset hrow hb2X
      go_wp2_with fail
      refine bodyPost_ret (v := .tuple #[.agg #[.int .u8 k, .slice (some ⟨g7, 0, none⟩) n cap], .int .i64 0]) (by simp [results, Try.results39, go_sem, r0, r1]) rfl ?_
      obtain ⟨LST, hLST⟩ : ∃ l, (((((d.set p a0).set pA a1).set pB a2).set pC a3)).set 0 ((x : Int) + 4) = l := ⟨_, rfl⟩
      have hlen : LST.length = n := by rw [← hLST]; simp [HN.out]
      have hrw := HROW.out
      rw [hLST] at hrw
      rw [HRS.out, HSET4.out, hLST]
      exact ⟨some ⟨g7, 0, none⟩, cap, by show _ = Ending.returned (.tuple #[.agg #[.int .u8 k, .slice (some ⟨g7, 0, none⟩) LST.length cap], .int .i64 0]); rw [hlen], hrw, HBB.out⟩
  · have hqf : listedS (k, d) = false := by simpa using hq
    have hres : RES = (2, (0, [])) := by rw [← HRES.out, recS, if_pos hqf]
    have her : er = 2 := by
      have h := HRT.out
      rw [routeS, if_pos hqf] at h
      exact (Prod.mk.inj h).1.symm
    subst hres her
    have hset := blk_set (blk_set HH1.out 0 (.int .u8 0)) 1 (.slice none 0 0)
    have r0 := blk_cell hset 0
    have r1 := blk_cell hset 1
    simp at r0 r1
    have HBB := Lib.hid ((HB1.out.setCell (p := ⟨b2, 0, none⟩) hwb (.int .u8 0)).setCell (p := ⟨b2, 1, none⟩) hwb (.slice none 0 0))
    clear hset hq hqf
    go_wp2_with fail
    refine bodyPost_ret (v := .tuple #[.agg #[.int .u8 0, .slice none 0 0], .int .i64 2]) (by simp [results, Try.results39, go_sem, r0, r1]) rfl ?_
    exact ⟨none, 0, rfl, World.ownsRow_nil _ _ _ _, HBB.out⟩
end Go.Proofs.Ytjfnnclbfaakkaa

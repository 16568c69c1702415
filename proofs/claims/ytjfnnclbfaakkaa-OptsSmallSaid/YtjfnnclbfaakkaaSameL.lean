/-
  The contract of Same. Conditions: both lists lie.
-/
import Derived.Test.YtjfnnclbfaakkaaSame
import Derived.Test.YtjfnnclbfaakkaaPre
import Derived.Deep.DeepCutAuto
namespace Go.Proofs.Ytjfnnclbfaakkaa
open Go.RowKit
set_option linter.unusedVariables false
set_option linter.unusedSimpArgs false

/-- What the done operations of a region have left: operation i the value val i, in g i. -/
structure Iv (w1 : World) (val : Nat → Value) (D : Nat → Prop) (g : Nat → Value) (w' : World) : Prop where
  b : Below w1.heap.size w1 w'
  e : ∀ i, D i → g i = val i
theorem Iv.step {w1 w' w'' : World} {val g : Nat → Value} {D : Nat → Prop} (h : Iv w1 val D g w') (i : Nat) (x : Value) (hx : x = val i) (hb : Below w'.heap.size w' w'') : Iv w1 val (fun j => D j ∨ j = i) (fun j => if j = i then x else g j) w'' :=
  ⟨bthen h.b hb, fun j hj => by
    show (if j = i then x else g j) = val j
    by_cases hji : j = i
    · rw [if_pos hji, hx, hji]
    · rw [if_neg hji]
      exact h.e j (hj.resolve_right hji)⟩
theorem Iv.zero (w1 : World) (val g : Nat → Value) : Iv w1 val (fun _ => False) g w1.drew := ⟨(Below.refl _ _).drew, fun _ h => h.elim⟩

theorem takeO_next {d e : List Op1} {k : Nat} {x y : Op1} (h : d.take k = e.take k) (hx : d[k]? = some x) (hy : e[k]? = some y) (hxy : x = y) : d.take (k + 1) = e.take (k + 1) := by
  rw [List.take_add_one, List.take_add_one, h, hx, hy, hxy]

set_option maxRecDepth 100000 in
set_option maxHeartbeats 4000000 in
theorem sameL_any (d e : List Op1) (A B : Option Addr) (c c2 : Nat) (w : World) (hd : Ops w A d) (he : Ops w B e) (hn : d.length ≤ 2 ^ 40) (hm : e.length ≤ 2 ^ 40) (hdb : ∀ o ∈ d, o.2.length ≤ 2 ^ 40) (heb : ∀ o ∈ e, o.2.length ≤ 2 ^ 40) :
    Calls Try.prog 18 #[.slice A d.length c, .slice B e.length c2] w fun r w' => r = .returned (.bool (decide (d = e))) ∧ Below w.heap.size w w' := by
  by_cases hl : d.length = e.length
  · have h1 : ((d.length : Int) != e.length) = false := by simp; omega
    obtain ⟨n, hN⟩ : ∃ n, d.length = n := ⟨_, rfl⟩
    have hN2 : e.length = n := by omega
    rw [hN, hN2] at h1 ⊢
    have HN := Lib.hid hN
    have HN2 := Lib.hid hN2
    have HD := Lib.hid hd
    have HE := Lib.hid he
    have HDB := Lib.hid hdb
    have HEB := Lib.hid heb
    obtain ⟨q, hq⟩ : ∃ q, decide (d = e) = q := ⟨_, rfl⟩
    rw [hq]
    have HQ := Lib.hid hq
    rw [hN] at hn
    clear hN hN2 hd he hl hq hm hdb heb
    go_enter Try.func18, Try.ntmps18
    go_wp2_with fail
    go_loopw [13] (fun i wr => ∃ k : Nat, k ≤ n ∧ i = .int .i64 k ∧ d.take k = e.take k ∧ Below w.heap.size w wr) (fun i _ => n - (intOf i).toNat)
    case atStart => exact ⟨0, by omega, rfl, by simp, Below.refl _ _⟩
    case round =>
      obtain ⟨k, hk, rfl, hf, hb⟩ := hrel
      by_cases hkl : k < n
      · obtain ⟨b, o, rfl, hbl⟩ := (HD.out.below hb).pos (by rw [HN.out]; omega)
        obtain ⟨b2, o2, rfl, hbl2⟩ := (HE.out.below hb).pos (by rw [HN2.out]; omega)
        obtain ⟨⟨k1, d1⟩, hx⟩ : ∃ x, d[k]? = some x := ⟨d[k]'(by rw [HN.out]; omega), List.getElem?_eq_getElem _⟩
        obtain ⟨⟨k2, d2⟩, hy⟩ : ∃ y, e[k]? = some y := ⟨e[k]'(by rw [HN2.out]; omega), List.getElem?_eq_getElem _⟩
        obtain ⟨A1, n1, x0, x1, _, _, by1, _, _⟩ := (HD.out.below hb).at hx
        obtain ⟨A2, n2, y0, y1, _, _, by2, _, _⟩ := (HE.out.below hb).at hy
        have HS := Lib.hid (fun V (hV : Below wr.heap.size wr V) => same_any (k1, d1) (k2, d2) A1 A2 n1 n2 V (by1.below hV) (by2.below hV) (HDB.out _ (List.mem_of_getElem? hx)) (HEB.out _ (List.mem_of_getElem? hy)))
        simp only at x0 x1 y0 y1 HS
        obtain ⟨z, hz⟩ : ∃ z, decide ((k1, d1) = (k2, d2)) = z := ⟨_, rfl⟩
        rw [hz] at HS
        have HZ := Lib.hid hz
        have t1 : decide ((k : Int) < n) = true := by simp; omega
        have hpos : (k : Int) < n := by omega
        have HF := Lib.hid hf
        have HX := Lib.hid hx
        have HY := Lib.hid hy
        have HB := Lib.hid hb
        clear hf hx hy hb by1 by2 hz
        go_upto_region 6 with fail
        go_cut [25] from 16 (fun v wx => v = .bool (!z) ∧ Below wr.heap.size wr wx)
        case first =>
          refine wp_region_steps 9 [[], [], [0, 1], [2], [], [], [4, 5], [6], [3, 7]] (fun D a w' => ∃ g : Nat → Value, a = ⟨#[.slice (some ⟨b, o, none⟩) n c, .slice (some ⟨b2, o2, none⟩) n c2, undef, undef, u4, .int .i64 k, .slice (some ⟨b, o, none⟩) n c, .int .i64 n, .slice (some ⟨b2, o2, none⟩) n c2, .int .i64 n, .bool false, .slice (some ⟨b, o, none⟩) n c, .int .i64 n, .int .i64 k, .bool true, .int .i64 k, g 0, g 1, g 2, g 3, g 4, g 5, g 6, g 7, g 8, u25, u26], []⟩ ∧ Iv wr (fun i => ([.slice (some ⟨b, o, none⟩) n c, .int .i64 k, .pointer (some ⟨b, o + k * 2, none⟩), .agg #[.int .u8 k1, .slice A1 d1.length n1], .slice (some ⟨b2, o2, none⟩) n c2, .int .i64 k, .pointer (some ⟨b2, o2 + k * 2, none⟩), .agg #[.int .u8 k2, .slice A2 d2.length n2], .bool z] : List Value).getD i undef) D g w') (by kernel_rfl) (by kernel_rfl) ⟨fun i => if i = 0 then u16 else if i = 1 then u17 else if i = 2 then u18 else if i = 3 then u19 else if i = 4 then u20 else if i = 5 then u21 else if i = 6 then u22 else if i = 7 then u23 else if i = 8 then u24 else undef, rfl, Iv.zero wr _ _⟩ ?_ ?_
          · simp only [List.take_succ_cons, List.take_zero]
            refine ⟨?_, ?_, ?_, ?_, ?_, ?_, ?_, ?_, ?_, trivial⟩
            · intro D a w' hn hp hI
              obtain ⟨g, rfl, hR⟩ := hI
              clear hn hp
              go_wp2_with fail
              exact ⟨fun ix => if ix = 0 then .slice (some ⟨b, o, none⟩) n c else g ix, by rfl, hR.step 0 _ rfl (Below.refl _ _)⟩
            · intro D a w' hn hp hI
              obtain ⟨g, rfl, hR⟩ := hI
              clear hn hp
              go_wp2_with fail
              exact ⟨fun ix => if ix = 1 then .int .i64 k else g ix, by rfl, hR.step 1 _ rfl (Below.refl _ _)⟩
            · intro D a w' hn hp hI
              obtain ⟨g, rfl, hR⟩ := hI
              have e0 : g 0 = .slice (some ⟨b, o, none⟩) n c := hR.e 0 hp.1
              have e1 : g 1 = .int .i64 k := hR.e 1 hp.2.1
              rw [e0, e1]
              clear hn hp
              go_wp2_with fail
              exact ⟨fun ix => if ix = 2 then .pointer (some ⟨b, o + k * 2, none⟩) else g ix, by simp [e0, e1], hR.step 2 _ rfl (Below.refl _ _)⟩
            · intro D a w' hn hp hI
              obtain ⟨g, rfl, hR⟩ := hI
              have e2 : g 2 = .pointer (some ⟨b, o + k * 2, none⟩) := hR.e 2 hp.1
              rw [e2]
              have cc0 := kc hR.b x0
              have cc1 := kc hR.b x1
              clear hn hp
              go_wp2_with fail
              exact ⟨fun ix => if ix = 3 then .agg #[.int .u8 k1, .slice A1 d1.length n1] else g ix, by simp [e2], hR.step 3 _ rfl (Below.refl _ _)⟩
            · intro D a w' hn hp hI
              obtain ⟨g, rfl, hR⟩ := hI
              clear hn hp
              go_wp2_with fail
              exact ⟨fun ix => if ix = 4 then .slice (some ⟨b2, o2, none⟩) n c2 else g ix, by rfl, hR.step 4 _ rfl (Below.refl _ _)⟩
            · intro D a w' hn hp hI
              obtain ⟨g, rfl, hR⟩ := hI
              clear hn hp
              go_wp2_with fail
              exact ⟨fun ix => if ix = 5 then .int .i64 k else g ix, by rfl, hR.step 5 _ rfl (Below.refl _ _)⟩
            · intro D a w' hn hp hI
              obtain ⟨g, rfl, hR⟩ := hI
              have e4 : g 4 = .slice (some ⟨b2, o2, none⟩) n c2 := hR.e 4 hp.1
              have e5 : g 5 = .int .i64 k := hR.e 5 hp.2.1
              rw [e4, e5]
              clear hn hp
              go_wp2_with fail
              exact ⟨fun ix => if ix = 6 then .pointer (some ⟨b2, o2 + k * 2, none⟩) else g ix, by simp [e4, e5], hR.step 6 _ rfl (Below.refl _ _)⟩
            · intro D a w' hn hp hI
              obtain ⟨g, rfl, hR⟩ := hI
              have e6 : g 6 = .pointer (some ⟨b2, o2 + k * 2, none⟩) := hR.e 6 hp.1
              rw [e6]
              have cc0 := kc hR.b y0
              have cc1 := kc hR.b y1
              clear hn hp
              go_wp2_with fail
              exact ⟨fun ix => if ix = 7 then .agg #[.int .u8 k2, .slice A2 d2.length n2] else g ix, by simp [e6], hR.step 7 _ rfl (Below.refl _ _)⟩
            · intro D a w' hn hp hI
              obtain ⟨g, rfl, hR⟩ := hI
              have e3 : g 3 = .agg #[.int .u8 k1, .slice A1 d1.length n1] := hR.e 3 hp.1
              have e7 : g 7 = .agg #[.int .u8 k2, .slice A2 d2.length n2] := hR.e 7 hp.2.1
              rw [e3, e7]
              have hV := hR.b
              clear hn hp
              go_wp2_with fail
              refine (HS.out _ hV).mono ?_
              rintro e w'' ⟨rfl, hb9⟩
              go_wp2_with fail
              exact ⟨fun ix => if ix = 8 then .bool z else g ix, by simp [e3, e7], hR.step 8 _ rfl hb9⟩
          intro D a' w' hD hI
          obtain ⟨g, rfl, hR⟩ := hI
          have e8 : g 8 = .bool z := hR.e 8 (hD 8 (by decide))
          rw [e8]
          have HR := Lib.hid hR.b
          simp only [List.drop_succ_cons, List.drop_zero]
          clear hD hR e8 x0 x1 y0 y1
          go_wp2_with fail
          go_meet
          exact ⟨rfl, HR.out⟩
        obtain ⟨rfl, hbc⟩ := hcut
        obtain ⟨X1, hX1⟩ : ∃ X, X = wc := ⟨_, rfl⟩
        subst hX1
        have HBC := Lib.hid (bthen HB.out hbc)
        clear x0 x1 y0 y1 hbc
        cases z
        · go_wp2_with fail
          go_ret
          have hqf : q = false := by
            rw [← HQ.out, decide_eq_false_iff_not]
            intro h
            have h3 := HX.out
            rw [h, HY.out] at h3
            have h4 := HZ.out
            rw [decide_eq_false_iff_not] at h4
            exact h4 (Option.some.inj h3).symm
          subst hqf
          exact ⟨rfl, HBC.out⟩
        · go_wp2_with fail
          exact ⟨⟨k + 1, by omega, by go_num, takeO_next HF.out HX.out HY.out (of_decide_eq_true HZ.out), HBC.out⟩, by simp [intOf]; omega⟩
      · obtain rfl : k = n := by omega
        have d1 : decide ((k : Int) < k) = false := by simp
        have hqt : q = true := by
          rw [← HQ.out, decide_eq_true_eq]
          rw [List.take_of_length_le (by rw [HN.out]; exact Nat.le_refl _), List.take_of_length_le (by rw [HN2.out]; exact Nat.le_refl _)] at hf
          exact hf
        subst hqt
        clear hf
        go_wp2_with fail
        go_ret
        exact ⟨rfl, hb⟩
  · have h1 : ((d.length : Int) != e.length) = true := by simp; omega
    have hq : decide (d = e) = false := decide_eq_false (fun h => hl (by rw [h]))
    rw [hq]
    clear hq hl
    go_enter Try.func18, Try.ntmps18
    go_wp2_with fail
    go_ret
    exact ⟨rfl, Below.refl _ _⟩

end Go.Proofs.Ytjfnnclbfaakkaa

/-
  The contract of the second writing's Write. Conditions: the options lie.
-/
import Derived.Test.YtjfnnclbfaakkaaWrite
import Derived.Test.YtjfnnclbfaakkaaExc
import Derived.Laws.AppendOwnNone
import Derived.Maps.AppendAt
namespace Go.Proofs.Ytjfnnclbfaakkaa
open Go.RowKit
set_option linter.unusedVariables false
set_option linter.unusedSimpArgs false

theorem ex_num (l : List Op1) (k : Int) : (l.any fun p => exB p.1 k) = (decide (0 < grp k) && decide (0 < num l (grp k))) := by
  rw [ex_any]
  congr 1
  unfold num
  induction l with
  | nil => simp
  | cons p r ih =>
    rw [List.any_cons, List.filter_cons]
    cases h : (grp p.1 == grp k)
    · simpa using ih
    · simp
theorem wf_wrong_r {r : List Op1} : ∀ {out : List Int} {seen : List Op1} {tw : Bool}, (∃ o ∈ r, rightS o = false) → wf out seen tw r = (2, []) := by
  induction r with
  | nil => intro _ _ _ h; simp at h
  | cons p r ih =>
    intro out seen tw h
    cases hp : rightS p with
    | false => exact wf_no hp
    | true =>
      rw [wf_step hp]
      refine ih ?_
      obtain ⟨o, ho, h1⟩ := h
      rcases List.mem_cons.1 ho with rfl | ho
      · rw [hp] at h1; cases h1
      · exact ⟨o, ho, h1⟩
theorem wf_tw {r : List Op1} : ∀ {out : List Int} {seen : List Op1}, (∀ o ∈ r, rightS o = true) → wf out seen true r = (63, []) := by
  induction r with
  | nil => intro _ _ _; rfl
  | cons p r ih =>
    intro out seen h
    rw [wf_step (h p (by simp)), Bool.true_or]
    exact ih fun o ho => h o (by simp [ho])
theorem wf_hit {r : List Op1} : ∀ {out : List Int} {seen : List Op1} {tw : Bool} (j : Nat) (o : Op1), (∀ o ∈ r, rightS o = true) → r[j]? = some o → ((seen ++ r.take j).any fun q => exB q.1 o.1) = true → wf out seen tw r = (63, []) := by
  induction r with
  | nil => intro _ _ _ j o _ h; simp at h
  | cons p r ih =>
    intro out seen tw j o h hj he
    rw [wf_step (h p (by simp))]
    cases j with
    | zero =>
      simp at hj
      subst hj
      rw [List.take_zero, List.append_nil, ex_num] at he
      rw [he, Bool.or_true]
      exact wf_tw fun o ho => h o (by simp [ho])
    | succ j =>
      refine ih j o (fun o ho => h o (by simp [ho])) (by simpa using hj) ?_
      rw [List.append_assoc]
      simpa using he
theorem wf_good {r : List Op1} : ∀ {out : List Int} {seen : List Op1}, (∀ o ∈ r, rightS o = true) → (∀ (j : Nat) (o : Op1), r[j]? = some o → ((seen ++ r.take j).any fun q => exB q.1 o.1) = false) →
    wf out seen false r = if 40 < (out ++ r.flatMap bytesO).length then (3, []) else (0, padS (out ++ r.flatMap bytesO)) := by
  induction r with
  | nil => intro out seen _ _; simp [wf]
  | cons p r ih =>
    intro out seen h he
    have h0 := he 0 p rfl
    rw [List.take_zero, List.append_nil, ex_num] at h0
    rw [wf_step (h p (by simp)), h0, Bool.false_or, ih (fun o ho => h o (by simp [ho])) (fun j o hj => by
      have := he (j + 1) o (by simpa using hj)
      rw [List.append_assoc]
      simpa using this)]
    by_cases h40 : 40 < out.length
    · rw [if_pos h40, if_pos (by rw [List.length_append]; omega), if_pos (by rw [List.length_append]; omega)]
    · rw [if_neg h40, List.flatMap_cons, List.append_assoc]
theorem write_wrong_r {l : List Op1} {o : Op1} (h : o ∈ l) (hr : rightS o = false) : writeS l = (2, []) := wf_wrong_r ⟨o, h, hr⟩
theorem write_hit {l : List Op1} {j : Nat} {o : Op1} (h : ∀ o ∈ l, rightS o = true) (hj : l[j]? = some o) (he : ((l.take j).any fun q => exB q.1 o.1) = true) : writeS l = (63, []) := wf_hit j o h hj (by simpa using he)
theorem write_good_r {l : List Op1} (h : ∀ o ∈ l, rightS o = true) (he : ∀ (j : Nat) (o : Op1), l[j]? = some o → ((l.take j).any fun q => exB q.1 o.1) = false) :
    writeS l = if 40 < (l.flatMap bytesO).length then (3, []) else (0, padS (l.flatMap bytesO)) := by
  have := wf_good (out := []) (seen := []) h (by simpa using he)
  simpa [writeS] using this

theorem row_cast {W : World} {B m m' : Nat} {v : Value} {xs ys : List Value} (h : W.ownsRow B 5 1 v m xs) (h1 : xs = ys) (h2 : m = m') : W.ownsRow B 5 1 v m' ys := by
  subst h1 h2
  exact h
theorem flat_lenR {l : List Op1} (h : ∀ o ∈ l, rightS o = true) : (l.flatMap bytesO).length ≤ 40 * l.length := by
  induction l with
  | nil => simp
  | cons p r ih =>
    rw [List.flatMap_cons, List.length_append, List.length_cons]
    have := bytesO_len (h p (by simp))
    have := ih (fun o ho => h o (by simp [ho]))
    omega
theorem flat_takeR {l : List Op1} (h : ∀ o ∈ l, rightS o = true) (k : Nat) : ((l.take k).flatMap bytesO).length ≤ 40 * k := by
  have h1 := flat_lenR (l := l.take k) fun o ho => h o (List.mem_of_mem_take ho)
  have h2 : (l.take k).length ≤ k := by rw [List.length_take]; omega
  omega
theorem flat_succR {l : List Op1} {k : Nat} {o : Op1} (h : l[k]? = some o) : (l.take (k + 1)).flatMap bytesO = (l.take k).flatMap bytesO ++ bytesO o := by
  rw [List.take_add_one, h, List.flatMap_append]
  simp

set_option maxRecDepth 100000 in
set_option maxHeartbeats 4000000 in
theorem refWrite_any (l : List Op1) (A : Option Addr) (c : Nat) (w : World) (hl : Ops w A l) (hn : l.length ≤ 2 ^ 20) (hcap : l.length ≤ c) (hlb : ∀ o ∈ l, o.2.length ≤ 2 ^ 40) :
    Calls Try.prog 44 #[.slice A l.length c] w fun e w' => ∃ v, e = .returned (.tuple #[v, .int .i64 (writeS l).1]) ∧ w'.ownsRow w.heap.size 5 1 v (writeS l).2.length ((writeS l).2.map (Value.int .u8)) ∧ Below w.heap.size w w' := by
  obtain ⟨n, hN⟩ : ∃ n, l.length = n := ⟨_, rfl⟩
  rw [hN]
  have HN := Lib.hid hN
  have HL := Lib.hid hl
  have HLB := Lib.hid hlb
  obtain ⟨RES, hRES⟩ : ∃ r, writeS l = r := ⟨_, rfl⟩
  rw [hRES]
  have HRES := Lib.hid hRES
  rw [hN] at hn hcap
  clear hN hl hlb hRES
  obtain ⟨i0, hi, hz0, hz1, hz2⟩ := info_parts info5b
  have Hi := Lib.hid hi
  have Hz0 := Lib.hid hz0
  have Hz1 := Lib.hid hz1
  have Hz2 := Lib.hid hz2
  clear hi hz0 hz1 hz2
  go_enter Try.func44, Try.ntmps44
  go_wp2_with fail
  go_loopw [4] (fun i wr => ∃ k : Nat, k ≤ n ∧ i = .int .i64 k ∧ (∀ j, j < k → ∀ p, l[j]? = some p → rightS p = true) ∧ Below w.heap.size w wr) (fun i _ => n - (intOf i).toNat)
  case atStart => exact ⟨0, by omega, rfl, fun j hj => absurd hj (by omega), Below.refl _ _⟩
  case round =>
    obtain ⟨k, hk, rfl, hmet, hb⟩ := hrel
    have HMET := Lib.hid hmet
    have HB := Lib.hid hb
    clear hmet hb
    by_cases hkl : k < n
    · obtain ⟨b, o, rfl, hbl⟩ := (HL.out.below HB.out).pos (by rw [HN.out]; omega)
      obtain ⟨⟨kd, d⟩, hx⟩ : ∃ x, l[k]? = some x := ⟨l[k]'(by rw [HN.out]; omega), List.getElem?_eq_getElem _⟩
      obtain ⟨A1, n1, x0, x1, hc1, hc1m, by1, hk0, hk1, hnil⟩ := HL.out.at hx
      simp only at x0 x1 hc1 by1 hk0 hk1
      replace x0 := kc HB.out x0
      replace x1 := kc HB.out x1
      have hbl := cell_lt x0
      replace hbl : b < wr.heap.size := hbl
      have t1 : decide ((k : Int) < n) = true := by simp; omega
      have hpos : (k : Int) < n := by omega
      have hpos0 : (0 : Int) ≤ k := by omega
      have HX := Lib.hid hx
      have HBy := Lib.hid (by1.below HB.out)
      have HK := Lib.hid (And.intro hk0 hk1)
      have HDL := Lib.hid (HLB.out _ (List.mem_of_getElem? hx))
      obtain ⟨rt, hrt⟩ : ∃ r, rightS (kd, d) = r := ⟨_, rfl⟩
      have HRT := Lib.hid hrt
      clear hx by1 hnil hk0 hk1 hrt
      go_wp2_with fail
      refine (refRight_any kd d A1 n1 _ HK.out HBy.out HDL.out).mono ?_
      rintro e Y ⟨rfl, hby⟩
      rw [HRT.out]
      have HBY := Lib.hid (HB.out.trans (hby.mono HB.out.size))
      clear hby
      cases rt
      · go_wp2_with fail
        have hres : RES = (2, []) := by rw [← HRES.out]; exact write_wrong_r (List.mem_of_getElem? HX.out) HRT.out
        subst hres
        refine bodyPost_ret (v := .tuple #[.slice none 0 0, .int .i64 2]) (by simp [results, Try.results44, go_sem]) rfl ?_
        exact ⟨_, rfl, World.ownsRow_nil _ _ _ _, HBY.out⟩
      · go_wp2_with fail
        exact ⟨⟨k + 1, by omega, by go_num, fun j hj p hp => by
          by_cases hjk : j < k
          · exact HMET.out j hjk p hp
          · obtain rfl : j = k := by omega
            have := HX.out.symm.trans hp
            cases this
            exact HRT.out, HBY.out⟩, by simp [intOf]; omega⟩
    · obtain rfl : n = k := by omega
      have t1 : decide ((n : Int) < n) = false := by simp
      have HALL : Hid (∀ o ∈ l, rightS o = true) := fun o ho => by
        obtain ⟨j, hj⟩ := List.getElem?_of_mem ho
        exact HMET.out j (by have := (List.getElem?_eq_some_iff.1 hj).1; have := HN.out; omega) o hj
      clear HMET
      go_wp2_with fail
      go_loopw [5] (fun v5 wx => ∃ k : Nat, k ≤ n ∧ v5 = .int .i64 k ∧ (∀ j, j < k → ∀ p, l[j]? = some p → ((l.take j).any fun q => exB q.1 p.1) = false) ∧ Below w.heap.size w wx) (fun v5 _ => n - (intOf v5).toNat)
      case atStart => exact ⟨0, by omega, rfl, fun j hj => absurd hj (by omega), HB.out⟩
      case round =>
        clear HB
        obtain ⟨k, hk, rfl, hmet, hb⟩ := hrel
        have HMET := Lib.hid hmet
        have HB := Lib.hid hb
        clear hmet hb
        by_cases hkl : k < n
        · obtain ⟨b, o, rfl, hbl⟩ := (HL.out.below HB.out).pos (by rw [HN.out]; omega)
          obtain ⟨⟨kd, d⟩, hx⟩ : ∃ x, l[k]? = some x := ⟨l[k]'(by rw [HN.out]; omega), List.getElem?_eq_getElem _⟩
          obtain ⟨A1, n1, x0, x1, hc1, hc1m, by1, hk0, hk1, hnil⟩ := HL.out.at hx
          simp only at x0 x1 hc1 by1 hk0 hk1
          replace x0 := kc HB.out x0
          have hbl := cell_lt x0
          replace hbl : b < wr.heap.size := hbl
          have t1 : decide ((k : Int) < n) = true := by simp; omega
          have hpos : (k : Int) < n := by omega
          have hpos0 : (0 : Int) ≤ k := by omega
          have hkc : (k : Int) ≤ c := by omega
          have HX := Lib.hid hx
          have HTK := Lib.hid ((HL.out.below HB.out).take k)
          have hlk : (l.take k).length = k := by rw [List.length_take, HN.out]; omega
          have HLK := Lib.hid hlk
          obtain ⟨ex, hex⟩ : ∃ r, ((l.take k).any fun q => exB q.1 kd) = r := ⟨_, rfl⟩
          have HEX := Lib.hid hex
          clear hx by1 hnil hlk hex x1
          go_upto_region 9 with fail
          refine wp_region_steps 8 [[], [], [0, 1], [], [], [3, 4], [5], [6]] (fun D a w' => ∃ g : Nat → Value, a = ⟨#[.slice (some ⟨b, o, none⟩) n c, undef, u2, u3, .int .i64 n, .int .i64 k, undef, undef, .int .i64 n, .slice (some ⟨b, o, none⟩) n c, .int .i64 n, .bool false, u12, u13, u14, u15, u16, u17, u18, u19, .int .i64 k, .slice (some ⟨b, o, none⟩) n c, .int .i64 n, .bool true, u24, u25, g 0, g 1, g 2, g 3, g 4, g 5, g 6, g 7, g 8, undef, undef, undef, undef, undef, undef, undef, undef, undef, undef, undef, undef, undef, undef, undef, undef, undef, undef, undef, undef, undef, undef, undef, undef, undef, undef, undef, undef, undef, undef, undef, undef, undef, undef, undef, undef, undef, undef, undef, undef, undef, undef, undef, undef, undef, undef, undef, undef, undef], []⟩ ∧ Iq wr (fun iq vq _ => vq = ([.slice (some ⟨b, o, none⟩) n c, .int .i64 k, .slice (some ⟨b, o, none⟩) k c, .slice (some ⟨b, o, none⟩) n c, .int .i64 k, .pointer (some ⟨b, o + k * 2, none⟩), .pointer (some ⟨b, o + k * 2, none⟩), .int .u8 kd] : List Value).getD iq undef) D g w') (by kernel_rfl) (by kernel_rfl) ⟨fun i => if i = 0 then u26 else if i = 1 then u27 else if i = 2 then u28 else if i = 3 then u29 else if i = 4 then u30 else if i = 5 then u31 else if i = 6 then u32 else if i = 7 then u33 else if i = 8 then u34 else undef, rfl, Iq.zero _ _ _⟩ ?_ ?_
          · simp only [List.take_succ_cons, List.take_zero]
            refine ⟨?_, ?_, ?_, ?_, ?_, ?_, ?_, ?_, trivial⟩
            · intro D a w' hn hp hI
              obtain ⟨g, rfl, hR⟩ := hI
              clear hn hp
              go_wp2_with fail
              exact ⟨fun ix => if ix = 0 then .slice (some ⟨b, o, none⟩) n c else g ix, by rfl, hR.upd (fun _ _ _ _ h _ => h) 0 _ (Below.refl _ _) rfl⟩
            · intro D a w' hn hp hI
              obtain ⟨g, rfl, hR⟩ := hI
              clear hn hp
              go_wp2_with fail
              exact ⟨fun ix => if ix = 1 then .int .i64 k else g ix, by rfl, hR.upd (fun _ _ _ _ h _ => h) 1 _ (Below.refl _ _) rfl⟩
            · intro D a w' hn hp hI
              obtain ⟨g, rfl, hR⟩ := hI
              have e0 : g 0 = .slice (some ⟨b, o, none⟩) n c := hR.e 0 hp.1
              rw [e0]
              have e1 : g 1 = .int .i64 k := hR.e 1 hp.2.1
              rw [e1]
              clear hn hp
              go_wp2_with fail
              exact ⟨fun ix => if ix = 2 then .slice (some ⟨b, o, none⟩) k c else g ix, by simp [e0, e1], hR.upd (fun _ _ _ _ h _ => h) 2 _ (Below.refl _ _) rfl⟩
            · intro D a w' hn hp hI
              obtain ⟨g, rfl, hR⟩ := hI
              clear hn hp
              go_wp2_with fail
              exact ⟨fun ix => if ix = 3 then .slice (some ⟨b, o, none⟩) n c else g ix, by rfl, hR.upd (fun _ _ _ _ h _ => h) 3 _ (Below.refl _ _) rfl⟩
            · intro D a w' hn hp hI
              obtain ⟨g, rfl, hR⟩ := hI
              clear hn hp
              go_wp2_with fail
              exact ⟨fun ix => if ix = 4 then .int .i64 k else g ix, by rfl, hR.upd (fun _ _ _ _ h _ => h) 4 _ (Below.refl _ _) rfl⟩
            · intro D a w' hn hp hI
              obtain ⟨g, rfl, hR⟩ := hI
              have e3 : g 3 = .slice (some ⟨b, o, none⟩) n c := hR.e 3 hp.1
              rw [e3]
              have e4 : g 4 = .int .i64 k := hR.e 4 hp.2.1
              rw [e4]
              clear hn hp
              go_wp2_with fail
              exact ⟨fun ix => if ix = 5 then .pointer (some ⟨b, o + k * 2, none⟩) else g ix, by simp [e3, e4], hR.upd (fun _ _ _ _ h _ => h) 5 _ (Below.refl _ _) rfl⟩
            · intro D a w' hn hp hI
              obtain ⟨g, rfl, hR⟩ := hI
              have e5 : g 5 = .pointer (some ⟨b, o + k * 2, none⟩) := hR.e 5 hp.1
              rw [e5]
              clear hn hp
              go_wp2_with fail
              exact ⟨fun ix => if ix = 6 then .pointer (some ⟨b, o + k * 2, none⟩) else g ix, by simp [e5], hR.upd (fun _ _ _ _ h _ => h) 6 _ (Below.refl _ _) rfl⟩
            · intro D a w' hn hp hI
              obtain ⟨g, rfl, hR⟩ := hI
              have e6 : g 6 = .pointer (some ⟨b, o + k * 2, none⟩) := hR.e 6 hp.1
              rw [e6]
              have cc := kc hR.b x0
              clear hn hp
              go_wp2_with fail
              exact ⟨fun ix => if ix = 7 then .int .u8 kd else g ix, by simp [e6], hR.upd (fun _ _ _ _ h _ => h) 7 _ (Below.refl _ _) rfl⟩
          intro D a w' hD2 hI2
          obtain ⟨g9, rfl, hR⟩ := hI2
          have e2 : g9 2 = .slice (some ⟨b, o, none⟩) k c := hR.e 2 (hD2 2 (by decide))
          have e7 : g9 7 = .int .u8 kd := hR.e 7 (hD2 7 (by decide))
          rw [e2, e7]
          have HR := Lib.hid hR.b
          simp only [List.drop_succ_cons, List.drop_zero]
          clear hD2 hR e2 e7
          go_wp2_with fail
          have HC := Lib.hid (excluded_any (l.take k) (some ⟨b, o, none⟩) c kd w' (HTK.out.below HR.out) (by rw [HLK.out]; omega))
          rw [HLK.out] at HC
          refine HC.out.mono ?_
          rintro e Y ⟨rfl, rfl⟩
          rw [HEX.out]
          have HBY := Lib.hid (HB.out.trans (HR.out.mono HB.out.size))
          clear HC
          cases ex
          · go_wp2_with fail
            exact ⟨⟨k + 1, by omega, by go_num, fun j hj p hp => by
              by_cases hjk : j < k
              · exact HMET.out j hjk p hp
              · obtain rfl : j = k := by omega
                have := HX.out.symm.trans hp
                cases this
                exact HEX.out, HBY.out⟩, by simp [intOf]; omega⟩
          · go_wp2_with fail
            have hres : RES = (63, []) := by rw [← HRES.out]; exact write_hit HALL.out HX.out HEX.out
            subst hres
            refine bodyPost_ret (v := .tuple #[.slice none 0 0, .int .i64 63]) (by simp [results, Try.results44, go_sem]) rfl ?_
            exact ⟨_, rfl, World.ownsRow_nil _ _ _ _, HBY.out⟩
        · obtain rfl : n = k := by omega
          have t1 : decide ((n : Int) < n) = false := by simp
          have hgood : RES = if 40 < (l.flatMap bytesO).length then (3, []) else (0, padS (l.flatMap bytesO)) := by
            rw [← HRES.out]
            exact write_good_r HALL.out fun j o hj => HMET.out j (by have := (List.getElem?_eq_some_iff.1 hj).1; have := HN.out; omega) o hj
          have HGOOD := Lib.hid hgood
          clear HMET hgood
          go_wp2_with fail
          go_loopw [6, 7] (fun v6 v7 wx => ∃ k : Nat, ∃ out : List Int, k ≤ n ∧ v7 = .int .i64 k ∧ out = (l.take k).flatMap bytesO ∧ wx.ownsRow w.heap.size 5 1 v6 out.length (out.map (Value.int .u8)) ∧ Below w.heap.size w wx) (fun _ v7 _ => n - (intOf v7).toNat)
          case atStart => exact ⟨0, [], by omega, rfl, by simp, World.ownsRow_nil _ _ _ _, HB.out⟩
          case round =>
            clear HB
            obtain ⟨k, out, hk, rfl, hout, hrow, hb⟩ := hrel
            obtain ⟨A6, c6, rfl⟩ := own_form hrow
            have hol : out.length ≤ 40 * k := by rw [hout]; exact flat_takeR HALL.out k
            obtain ⟨no, hno⟩ : ∃ no, out.length = no := ⟨_, rfl⟩
            rw [hno] at hrow hol ⊢
            have HNO := Lib.hid hno
            have HOUT := Lib.hid hout
            have HRow := Lib.hid hrow
            have HB := Lib.hid hb
            have hsz := hb.size
            clear hno hout hrow hb
            by_cases hkl : k < n
            · obtain ⟨b, o, rfl, hbl⟩ := HL.out.pos (by rw [HN.out]; omega)
              obtain ⟨⟨kd, d⟩, hx⟩ : ∃ x, l[k]? = some x := ⟨l[k]'(by rw [HN.out]; omega), List.getElem?_eq_getElem _⟩
              obtain ⟨A1, n1, x0, x1, hc1, hc1m, by1, hk0, hk1, hnil⟩ := HL.out.at hx
              simp only at x0 x1 hc1 by1 hk0 hk1
              have X0 := Lib.hid x0
              have X1 := Lib.hid x1
              replace x0 := kc HB.out x0
              replace x1 := kc HB.out x1
              have hbw : b < wr.heap.size := cell_lt x0
              have t1 : decide ((k : Int) < n) = true := by simp; omega
              have hpos : (k : Int) < n := by omega
              have hpos0 : (0 : Int) ≤ k := by omega
              have HX := Lib.hid hx
              have HBy := Lib.hid by1
              have HNL := Lib.hid hnil
              have hr := HALL.out _ (List.mem_of_getElem? hx)
              have HRT := Lib.hid hr
              have hd38 : d.length ≤ 38 := right_len (o := (kd, d)) hr
              clear hx by1 hnil hr
              go_upto_region 15 with fail
              go_upto_region 16 with (at_builtin; refine wpList_append_own _ rfl _ _ 22 rfl w.heap.size 5 i0 (.int .u8 0) 1 1 Try.underlying22 Hi.out Hz0.out Hz1.out Hz2.out rfl (by decide) _ _ _ rfl (HRow.out.alloc _) ⟨wr.heap.size, 0, none⟩ 1 1 [.int .u8 kd] rfl rfl (cell_one_new _ _ _) (by simp [Value.oneCell']) (lt_maxLen' (by omega)) (by omega) (by simp; omega) ?_; intro v3 w3 hown3 hgrow3 hnil3; obtain ⟨g3, cap3, rfl⟩ := ownsRow_succ hown3)
              have hb3 : Below w.heap.size w w3 := (HB.out.trans (((Below.refl _ _).alloc (Nat.le_refl _) _).mono HB.out.size)).grown hgrow3 (Nat.le_trans HB.out.size (by simp)) (fun g e => by have := (HRow.out.lt g e).1; omega)
              have HB3 := Lib.hid hb3
              have HO3 := Lib.hid hown3
              clear hb3 hown3 hgrow3 hnil3
              replace x0 := kc HB3.out X0.out
              replace x1 := kc HB3.out X1.out
              have hbw3 : b < w3.heap.size := cell_lt x0
              by_cases hkd : kd = 1
              · subst hkd
                have hd0 : d.length = 0 := by
                  have := HRT.out
                  unfold rightS at this
                  simp at this
                  simp [this]
                have hd1 : d = [] := by simpa using hd0
                have HD1 := Lib.hid hd1
                clear hd1 hd0
                have hdl : d.length ≤ 38 := hd38
                have hsz3 := HB3.out.size
                go_wp2_with fail
                exact ⟨⟨k + 1, (l.take (k + 1)).flatMap bytesO, by omega, by go_num, rfl, row_cast HO3.out (by rw [flat_succR HX.out, ← HOUT.out]; simp [bytesO]) (by rw [flat_succR HX.out, ← HOUT.out, List.length_append, HNO.out]; simp [bytesO]), HB3.out⟩, by simp [intOf]; omega⟩
              · have e1 : (kd != 1) = true := by simp [hkd]
                have hsz3 := HB3.out.size
                have hw4 : IntKind.i64.wrap ((d.length : Int) + 2) = ((d.length : Int) + 2) := IntWalk.i64_in _ (by omega)
                have hw5 : IntKind.u8.wrap ((d.length : Int) + 2) = ((d.length : Int) + 2) := IntWalk.u8_in _ (by omega)
                go_upto_region 17 with fail
                go_upto_region 18 with (at_builtin; refine wpList_append_own _ rfl _ _ 22 rfl w.heap.size 5 i0 (.int .u8 0) 1 1 Try.underlying22 Hi.out Hz0.out Hz1.out Hz2.out rfl (by decide) _ _ _ rfl (HO3.out.alloc _) ⟨w3.heap.size, 0, none⟩ 1 1 [.int .u8 ((d.length : Int) + 2)] rfl rfl (cell_one_new _ _ _) (by simp [Value.oneCell']) (lt_maxLen' (by omega)) (by omega) (by simp; omega) ?_; intro v4 w4 hown4 hgrow4 hnil4; obtain ⟨g4, cap4, rfl⟩ := ownsRow_succ hown4)
                have hb4 : Below w.heap.size w w4 := (HB3.out.trans (((Below.refl _ _).alloc (Nat.le_refl _) _).mono HB3.out.size)).grown hgrow4 (Nat.le_trans HB3.out.size (by simp)) (fun g e => by have := (HO3.out.lt g e).1; omega)
                have HB4 := Lib.hid hb4
                have HO4 := Lib.hid hown4
                clear hb4 hown4 hgrow4 hnil4
                replace x1 := kc HB4.out X1.out
                have hbw4 : b < w4.heap.size := cell_lt x1
                have hby := HBy.out.below HB4.out
                have hszq := HB4.out.size
                have HBQ := Lib.hid hby
                clear hby
                cases A1 with
                | none =>
                  have hn1 := HNL.out rfl
                  subst hn1
                  have hd0 : d = [] := by
                    cases d with
                    | nil => rfl
                    | cons x r => obtain ⟨b, o, e, _⟩ := HBQ.out.mem (by simp); cases e
                  subst hd0
                  go_wp2_with (at_builtin; refine wpList_append_own_none rfl _ _ 22 rfl w.heap.size 5 i0 1 Try.underlying22 Hi.out _ _ _ rfl HO4.out rfl ?_)
                  exact ⟨⟨k + 1, (l.take (k + 1)).flatMap bytesO, by omega, by go_num, rfl, row_cast HO4.out (by rw [flat_succR HX.out, ← HOUT.out]; simp [bytesO, hkd]) (by rw [flat_succR HX.out, ← HOUT.out, List.length_append, HNO.out]; simp [bytesO, hkd]; try omega), HB4.out⟩, by simp [intOf]; omega⟩
                | some ad =>
                  have hnews : ∀ j u, (d.map (Value.int .u8))[j]? = some u → w4.cell? (ad.add j) = some u := by
                    intro j u hu
                    obtain ⟨b, o, e, _⟩ := HBQ.out.mem (by rintro rfl; simp at hu)
                    cases e
                    exact HBQ.out.news j u hu
                  have Hnews := Lib.hid hnews
                  clear hnews
                  go_wp2_with (at_builtin; refine wpList_append_own _ rfl _ _ 22 rfl w.heap.size 5 i0 (.int .u8 0) 1 1 Try.underlying22 Hi.out Hz0.out Hz1.out Hz2.out rfl (by decide) _ _ _ rfl HO4.out ad d.length n1 (d.map (Value.int .u8)) rfl (by simp) Hnews.out (by simp [Value.oneCell']) (lt_maxLen' (by omega)) (by omega) hszq ?_; intro v8 w8 hown8 hgrow8 hnil8)
                  have hb8 : Below w.heap.size w w8 := (HB4.out).grown hgrow8 HB4.out.size (fun g e => by have := (HO4.out.lt g e).1; omega)
                  have HB8 := Lib.hid hb8
                  have HO8 := Lib.hid hown8
                  clear hb8 hown8 hgrow8 hnil8
                  exact ⟨⟨k + 1, (l.take (k + 1)).flatMap bytesO, by omega, by go_num, rfl, row_cast HO8.out (by rw [flat_succR HX.out, ← HOUT.out]; simp [bytesO, hkd]) (by rw [flat_succR HX.out, ← HOUT.out, List.length_append, HNO.out]; simp [bytesO, hkd]; try omega), HB8.out⟩, by simp [intOf]; omega⟩
            · obtain rfl : n = k := by omega
              have t1 : decide ((n : Int) < n) = false := by simp
              have hfl : out = l.flatMap bytesO := by
                rw [HOUT.out, List.take_of_length_le (by rw [HN.out]; omega)]
              have HFL := Lib.hid hfl
              clear hfl
              by_cases h40 : 40 < no
              · have d40 : decide ((40 : Int) < no) = true := by simp; omega
                have hres : RES = (3, []) := by rw [HGOOD.out, ← HFL.out, if_pos (by rw [HNO.out]; exact h40)]
                go_wp2_with fail
                subst hres
                refine bodyPost_ret (v := .tuple #[.slice none 0 0, .int .i64 3]) (by simp [results, Try.results44, go_sem]) rfl ?_
                exact ⟨_, rfl, World.ownsRow_nil _ _ _ _, HB.out⟩
              have d40 : decide ((40 : Int) < no) = false := by simp; omega
              have hres : RES = (0, padS out) := by rw [HGOOD.out, ← HFL.out, if_neg (by rw [HNO.out]; exact h40)]
              have HRS := Lib.hid hres
              clear hres
              go_wp2_with fail
              go_loopw [6] (fun v6 wx => ∃ cur : List Int, wx.ownsRow w.heap.size 5 1 v6 cur.length (cur.map (Value.int .u8)) ∧ padS cur = padS out ∧ (cur.length ≤ 40 ∨ cur.length % 4 ≠ 0 ∧ cur.length ≤ 43 ∨ cur.length = 44) ∧ Below w.heap.size w wx) (fun v6 _ => (4 - sliceLen v6 % 4) % 4)
              case atStart => exact ⟨out, HNO.out ▸ HRow.out, rfl, by have := HNO.out; omega, HB.out⟩
              case round =>
                obtain ⟨cur, hrow, hpad, hc100, hbw⟩ := hrel
                obtain ⟨A4, c4, rfl⟩ := own_form hrow
                obtain ⟨m, hm⟩ : ∃ m, cur.length = m := ⟨_, rfl⟩
                rw [hm] at hrow hc100 ⊢
                have HMm := Lib.hid hm
                have HP := Lib.hid hpad
                have HBx := Lib.hid hbw
                have HRx := Lib.hid hrow
                have hszx := hbw.size
                clear hm hpad hrow hbw
                have htm : (m : Int).tmod 4 = (m : Int) % 4 := Int.tmod_eq_emod_of_nonneg (by omega)
                by_cases hm4 : m % 4 = 0
                · have hm4' : (m : Int) % 4 = 0 := by omega
                  go_wp2_with fail
                  refine bodyPost_ret (v := .tuple #[.slice A4 m c4, .int .i64 0]) (by simp [results, Try.results44, go_sem]) rfl ?_
                  have hp : padS out = cur := by rw [← HP.out]; exact pad_done (by rw [HMm.out]; exact hm4)
                  rw [HRS.out, hp]
                  exact ⟨_, rfl, row_cast HRx.out rfl HMm.out.symm, HBx.out⟩
                · have hm4' : ((m : Int) % 4 != 0) = true := by simp; omega
                  have hm4'' : ¬ (m : Int) % 4 = 0 := by omega
                  go_wp2_with (at_builtin; refine wpList_append_own _ rfl _ _ 22 rfl w.heap.size 5 i0 (.int .u8 0) 1 1 Try.underlying22 Hi.out Hz0.out Hz1.out Hz2.out rfl (by decide) _ _ _ rfl (HRx.out.alloc _) ⟨wr.heap.size, 0, none⟩ 1 1 [.int .u8 0] rfl rfl (cell_one_new _ _ _) (by simp [Value.oneCell']) (lt_maxLen' (by omega)) (by omega) (by simp; omega) ?_; intro v3 w3 hown3 hgrow3 hnil3; obtain ⟨g3, cap3, rfl⟩ := ownsRow_succ hown3)
                  have hb3 : Below w.heap.size w w3 := (HBx.out.trans (((Below.refl _ _).alloc (Nat.le_refl _) _).mono HBx.out.size)).grown hgrow3 (Nat.le_trans HBx.out.size (by simp)) (fun g e => by have := (HRx.out.lt g e).1; omega)
                  exact ⟨⟨cur ++ [0], by rw [List.length_append, HMm.out, List.map_append]; exact hown3, by rw [pad_step (by rw [HMm.out]; exact hm4)]; exact HP.out, by have := HMm.out; simp; omega, hb3⟩, by simp [sliceLen]; omega⟩

end Go.Proofs.Ytjfnnclbfaakkaa

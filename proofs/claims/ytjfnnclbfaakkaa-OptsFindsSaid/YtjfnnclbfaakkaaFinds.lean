/-
  The walk of OptsFinds. Conditions: the small numbers lie.
-/
import Derived.Test.YtjfnnclbfaakkaaBack
import Derived.Test.YtjfnnclbfaakkaaRouted
namespace Go.Proofs.Ytjfnnclbfaakkaa
open Go.RowKit
set_option linter.unusedVariables false
set_option linter.unusedSimpArgs false

/-- What the done operations of a region leave; of those that are skipped nothing is said. -/
def PV (sk : List Nat) (vals : List Value) (i : Nat) (v : Value) (_ : World) : Prop :=
  match sk.contains i with
  | true => True
  | false => v = vals.getD i undef
theorem PV.below {sk : List Nat} {vals : List Value} (i : Nat) (v : Value) (X Y : World) (h : PV sk vals i v X) (hb : Below X.heap.size X Y) : PV sk vals i v Y := h

/-- What the loop has found from an index on. -/
structure Fst (al : List Op1) (kind : Int) (m : Nat) (f : Int) : Prop where
  ex : (f = -1 ∧ ∀ j, m ≤ j → ∀ p, al[j]? = some p → p.1 ≠ kind) ∨ ∃ jf : Nat, f = jf ∧ m ≤ jf ∧ (∃ p, al[jf]? = some p ∧ p.1 = kind) ∧ ∀ j, m ≤ j → j < jf → ∀ p, al[j]? = some p → p.1 ≠ kind
theorem Fst.zero {al : List Op1} {kind : Int} {f : Int} (h : Fst al kind 0 f) : (f = -1 ∧ fnS al kind = (false, (0, []))) ∨ ∃ (jf : Nat) (p : Op1), f = jf ∧ al[jf]? = some p ∧ fnS al kind = (true, p) := by
  rcases h.ex with ⟨h1, h2⟩ | ⟨jf, h1, _, ⟨p, h3, h4⟩, h5⟩
  · exact .inl ⟨h1, fnS_none fun i p hp => h2 i (by omega) p hp⟩
  · exact .inr ⟨jf, p, h1, h3, fnS_some h3 h4 fun i hi q hq => h5 i (by omega) hi q hq⟩
theorem Fst.hit {al : List Op1} {kind : Int} {m : Nat} {f : Int} {p : Op1} (h : Fst al kind (m + 1) f) (hp : al[m]? = some p) (hk : p.1 = kind) : Fst al kind m (m : Int) :=
  ⟨.inr ⟨m, rfl, Nat.le_refl _, ⟨p, hp, hk⟩, fun j h1 h2 => by omega⟩⟩
theorem Fst.miss {al : List Op1} {kind : Int} {m : Nat} {f : Int} {p : Op1} (h : Fst al kind (m + 1) f) (hp : al[m]? = some p) (hk : p.1 ≠ kind) : Fst al kind m f := by
  have hm : ∀ q, al[m]? = some q → q.1 ≠ kind := fun q hq => by rw [hp] at hq; cases hq; exact hk
  refine ⟨?_⟩
  rcases h.ex with ⟨h1, h2⟩ | ⟨jf, h1, h0, h3, h5⟩
  · refine .inl ⟨h1, fun j hj q hq => ?_⟩
    by_cases e : j = m
    · subst e; exact hm q hq
    · exact h2 j (by omega) q hq
  · refine .inr ⟨jf, h1, by omega, h3, fun j hj hj2 q hq => ?_⟩
    by_cases e : j = m
    · subst e; exact hm q hq
    · exact h5 j (by omega) hj2 q hq

set_option maxRecDepth 100000 in
set_option maxHeartbeats 4000000 in
theorem finds_any (l : List Sm) (A : Option Addr) (c : Nat) (kind : Int) (w : World) (hl : Smalls w A l) (hcap : l.length ≤ c) (hmax : c ≤ maxLen) :
    Calls Try.prog 11 #[.slice A l.length c, .int .u8 kind] w fun e w' => e = .returned (.bool true) ∧ Below w.heap.size w w' := by
  have hinv := MdInv.made hl.ok
  obtain ⟨M, hM⟩ : ∃ M, madeS l = M := ⟨_, rfl⟩
  have HM := Lib.hid hM
  rw [hM] at hinv
  obtain ⟨al, bt⟩ := M
  obtain ⟨hgood, hbt, hb40⟩ := hinv
  simp only at hgood hbt hb40
  have hal40 : al.length ≤ 40 := by have := flat_count al; omega
  obtain ⟨hrt, hrt2⟩ := routed_plain hgood
  have HGD := Lib.hid hgood
  have HRT := Lib.hid hrt
  have HRT2 := Lib.hid hrt2
  have HR := Lib.hid (good_right al [] hgood)
  have HL := Lib.hid hl
  have HMAX := Lib.hid hmax
  have HCAP := Lib.hid hcap
  clear hM hgood hl hmax hcap hrt hrt2
  go_enter Try.func11, Try.ntmps11
  go_wp2_with fail
  refine (awake_any _).mono ?_
  rintro e Y1 ⟨rfl, hb1⟩
  have HB1 := Lib.hid hb1
  have HL1 := Lib.hid (HL.out.below hb1)
  clear hb1
  go_wp2_with fail
  refine (made_any l A c _ HL1.out HCAP.out HMAX.out).mono ?_
  rintro e Y2 ⟨v2, css, rfl, hG, hb2⟩
  rw [HM.out] at hG ⊢
  have HB2 := Lib.hid (HB1.out.trans (hb2.mono HB1.out.size))
  obtain ⟨A2, c2, rfl, h2a, h2b, hO2⟩ := hG.ops
  simp only at hO2 h2a
  have HO2 := Lib.hid hO2
  have H38 : Hid (∀ o ∈ al, o.2.length ≤ 2 ^ 40) := fun o ho => by have := right_len (HR.out o ho); omega
  clear hG hb2 hO2 HB1 HL1
  go_wp2_with fail
  refine (find_any al A2 c2 kind _ HO2.out (by omega) H38.out).mono ?_
  rintro e Y3 ⟨v3, rfl, hrow, hb3⟩
  obtain ⟨⟨is, od⟩, hFN⟩ : ∃ R, fnS al kind = R := ⟨_, rfl⟩
  have HFN := Lib.hid hFN
  rw [hFN] at hrow ⊢
  simp only at hrow ⊢
  obtain ⟨A3, c3, rfl⟩ := own_form hrow
  have HROW3 := Lib.hid hrow
  have HB3 := Lib.hid (HB2.out.trans (hb3.mono HB2.out.size))
  have HO3 := Lib.hid (HO2.out.below hb3)
  obtain ⟨X3, hX3⟩ : ∃ X, Y3.alloc (Obj.cells #[Value.int IntKind.u8 od.1, Value.slice A3 od.2.length c3] 36) = X := ⟨_, rfl⟩
  have hbX : Below Y3.heap.size Y3 X3 := by rw [← hX3]; exact (Below.refl _ _).alloc (Nat.le_refl _) _
  have h7 : X3.heap[Y3.heap.size]? = some (.cells #[.int .u8 od.1, .slice A3 od.2.length c3] 36 (0, 0)) := by rw [← hX3]; exact heap_alloc_last _ _
  obtain ⟨b7, hb7⟩ : ∃ b, Y3.heap.size = b := ⟨_, rfl⟩
  rw [hb7] at h7
  have HX3 := Lib.hid hX3
  have HB7 := Lib.hid hb7
  have HC7 := Lib.hid h7
  have HBX := Lib.hid (HB3.out.trans (hbX.mono HB3.out.size))
  have HOX := Lib.hid (HO3.out.below hbX)
  have HROWX := Lib.hid (own_below hrow hbX)
  obtain ⟨na, hna⟩ : ∃ na, al.length = na := ⟨_, rfl⟩
  have HNA := Lib.hid hna
  rw [hna] at hal40 h2a ⊢
  clear hrow hb3 hX3 hbX h7 hna hFN hb7
  have hwn : IntKind.i64.wrap ((na : Int) - 1) = (na : Int) - 1 := IntWalk.i64_in _ (by omega)
  go_upto_region 5 with fail
  rw [HX3.out, HB7.out]
  go_upto_region 7 with fail
  clear hwn
  go_loopw [9, 10] (fun v9 v10 wx => ∃ (m : Nat) (f : Int), m ≤ na ∧ -1 ≤ f ∧ f < na ∧ v10 = .int .i64 ((m : Int) - 1) ∧ v9 = .int .i64 f ∧ Fst al kind m f ∧ wx = X3) (fun _ v _ => (intOf v + 1).toNat)
  case atStart => exact ⟨na, -1, by omega, by omega, by omega, rfl, rfl, ⟨.inl ⟨rfl, fun j hj p hp => by have := (List.getElem?_eq_some_iff.1 hp).1; have := HNA.out; omega⟩⟩, rfl⟩
  case round =>
    obtain ⟨m, f, hm, hf0, hf1, rfl, rfl, hF, hwr⟩ := hrel
    subst hwr
    have HF := Lib.hid hF
    clear hF
    cases m with
    | succ m =>
      obtain ⟨b, o, rfl, hbl⟩ := HOX.out.pos (by rw [HNA.out]; omega)
      obtain ⟨⟨kd, d⟩, hx⟩ : ∃ x, al[m]? = some x := ⟨al[m]'(by rw [HNA.out]; omega), List.getElem?_eq_getElem _⟩
      obtain ⟨A1, n1, x0, x1, hc1, hc1m, by1, hk0, hk1, hnil⟩ := HOX.out.at hx
      simp only at x0 x1 hc1 by1 hk0 hk1
      have hbl := cell_lt x0
      replace hbl : b < wr.heap.size := hbl
      have em : (((m + 1 : Nat) : Int) - 1) = (m : Int) := by omega
      rw [em]
      have t1 : decide ((0 : Int) ≤ (m : Int)) = true := by simp
      have hpos : (m : Int) < na := by omega
      have hpos0 : (0 : Int) ≤ m := by omega
      have hwm : IntKind.i64.wrap ((m : Int) - 1) = (m : Int) - 1 := IntWalk.i64_in _ (by omega)
      have HX := Lib.hid hx
      clear hx by1 hnil em
      by_cases hkk : kd = kind
      · have e1 : (kd == kind) = true := by simpa using hkk
        have HH := Lib.hid (HF.out.hit HX.out hkk)
        clear hkk
        go_wp2_with fail
        exact ⟨⟨m, (m : Int), by omega, by omega, by omega, rfl, rfl, HH.out, by trivial⟩, by (simp [intOf]) <;> omega⟩
      · have e1 : (kd == kind) = false := by simpa using hkk
        have HH := Lib.hid (HF.out.miss HX.out hkk)
        clear hkk
        go_wp2_with fail
        exact ⟨⟨m, f, by omega, by omega, by omega, rfl, rfl, HH.out, by trivial⟩, by (simp [intOf]) <;> omega⟩
    | zero =>
      have em : (((0 : Nat) : Int) - 1) = -1 := rfl
      rw [em]
      obtain ⟨V, hV⟩ : ∃ X, X = wr := ⟨_, rfl⟩
      subst hV
      have t1 : decide ((0 : Int) ≤ -1) = false := by decide
      have hna := HNA.out
      subst hna
      clear em
      go_wp2_with fail
      refine (find_any al A2 c2 131 _ HOX.out (by omega) H38.out).mono ?_
      rintro e Z1 ⟨v4, rfl, hrow, hb⟩
      obtain ⟨⟨i1, o1⟩, hF1⟩ : ∃ R, fnS al 131 = R := ⟨_, rfl⟩
      have HF1 := Lib.hid hF1
      rw [hF1] at hrow ⊢
      simp only at hrow ⊢
      obtain ⟨A4, c4, rfl⟩ := own_form hrow
      have hba : Below Z1.heap.size Z1 (Z1.alloc (Obj.cells #[Value.int IntKind.u8 o1.1, Value.slice A4 o1.2.length c4] 36)) := (Below.refl _ _).alloc (Nat.le_refl _) _
      have hbz := hb.trans (hba.mono hb.size)
      obtain ⟨Z2, hZ2⟩ : ∃ X, Z1.alloc (Obj.cells #[Value.int IntKind.u8 o1.1, Value.slice A4 o1.2.length c4] 36) = X := ⟨_, rfl⟩
      rw [hZ2] at hbz
      have HZ2 := Lib.hid hZ2
      have HBZ := Lib.hid hbz
      clear hrow hb hba hbz hZ2 hF1
      go_upto_region 12 with fail
      rw [HZ2.out]
      go_wp2_with fail
      refine (find_any al A2 c2 137 _ (HOX.out.below HBZ.out) (by omega) H38.out).mono ?_
      rintro e Z3 ⟨v5, rfl, hrow, hb⟩
      obtain ⟨⟨i2, o2⟩, hF2⟩ : ∃ R, fnS al 137 = R := ⟨_, rfl⟩
      have HF2 := Lib.hid hF2
      rw [hF2] at hrow ⊢
      simp only at hrow ⊢
      obtain ⟨A5, c5, rfl⟩ := own_form hrow
      have hba : Below Z3.heap.size Z3 (Z3.alloc (Obj.cells #[Value.int IntKind.u8 o2.1, Value.slice A5 o2.2.length c5] 36)) := (Below.refl _ _).alloc (Nat.le_refl _) _
      have hbz := HBZ.out.trans ((hb.trans (hba.mono hb.size)).mono HBZ.out.size)
      obtain ⟨Z4, hZ4⟩ : ∃ X, Z3.alloc (Obj.cells #[Value.int IntKind.u8 o2.1, Value.slice A5 o2.2.length c5] 36) = X := ⟨_, rfl⟩
      rw [hZ4] at hbz
      have HZ4 := Lib.hid hZ4
      have HOZ := Lib.hid (HOX.out.below hbz)
      have H7 := Lib.hid (blk_below hbz HC7.out)
      have HROW := Lib.hid (own_below HROWX.out hbz)
      have HBV := Lib.hid (HBX.out.trans (hbz.mono HBX.out.size))
      clear hrow hb hba hbz hZ4 hF2 HBZ HZ2 HOX
      go_upto_region 13 with fail
      rw [HZ4.out]
      have c70 := blk_cell H7.out 0
      have c71 := blk_cell H7.out 1
      simp at c70 c71
      have hl7 := blk_lt H7.out
      go_cut [78] (fun v wx => v = .bool false ∧ Below Z4.heap.size Z4 wx)
      case first =>
        rcases HF.out.zero with ⟨hf, hfn⟩ | ⟨jf, p, hf, hp, hfn⟩
        · rw [HFN.out] at hfn
          cases hfn
          subst hf
          simp only [List.length_nil] at c70 c71 ⊢
          refine wp_region_steps 25 [[], [], [1], [0, 2], [3], [4], [4, 5], [6], [6], [6], [6], [6], [6], [6], [4, 6], [4, 14], [15], [16], [16, 17], [16, 18], [19], [19], [19, 20, 21], [19, 22], [16, 19, 23]] (fun D a w' => ∃ g : Nat → Value, a = ⟨#[.slice A l.length c, .int .u8 kind, undef, undef, .bool false, .slice A2 al.length c2, .int .i64 (flat al).length, .pointer (some ⟨b7, 0, none⟩), .bool false, .int .i64 (-1), .int .i64 (-1), .pointer (some ⟨Z1.heap.size, 0, none⟩), .bool i1, .pointer (some ⟨Z3.heap.size, 0, none⟩), .bool i2, .bool true, .bool false, .tuple #[.slice A2 al.length c2, .int .i64 (flat al).length], .slice A l.length c, .tuple #[.slice A2 al.length c2, .int .i64 (flat al).length], .slice A2 al.length c2, .int .i64 (flat al).length, .tuple #[.agg #[.int .u8 0, .slice A3 0 c3], .bool false], .slice A2 al.length c2, .int .u8 kind, .tuple #[.agg #[.int .u8 0, .slice A3 0 c3], .bool false], .agg #[.int .u8 0, .slice A3 0 c3], .bool false, .slice A2 al.length c2, .int .i64 al.length, .int .i64 (al.length - 1), .int .i64 (-1), .bool false, u33, u34, u35, u36, u37, u38, u39, u40, u41, u42, .tuple #[.agg #[.int .u8 o1.fst, .slice A4 o1.snd.length c4], .bool i1], .slice A2 al.length c2, .tuple #[.agg #[.int .u8 o1.fst, .slice A4 o1.snd.length c4], .bool i1], .agg #[.int .u8 o1.fst, .slice A4 o1.snd.length c4], .bool i1, .tuple #[.agg #[.int .u8 o2.fst, .slice A5 o2.snd.length c5], .bool i2], .slice A2 al.length c2, .tuple #[.agg #[.int .u8 o2.fst, .slice A5 o2.snd.length c5], .bool i2], .agg #[.int .u8 o2.fst, .slice A5 o2.snd.length c5], .bool i2, g 0, g 1, g 2, g 3, g 4, g 5, g 6, g 7, g 8, g 9, g 10, g 11, g 12, g 13, g 14, g 15, g 16, g 17, g 18, g 19, g 20, g 21, g 22, g 23, g 24, undef, undef, undef, undef, undef, undef, undef, undef, undef, undef, undef, undef, undef, undef, undef], []⟩ ∧ Iq Z4 (PV [7, 8, 9, 10, 11, 12, 13] ([.bool false, .int .i64 (-1), .bool false, .bool false, .bool false, .bool false, .bool false, undef, undef, undef, undef, undef, undef, undef, .bool false, .bool false, .bool false, .bool false, .bool true, .bool true, .agg #[.int .u8 0, .slice A3 0 c3], .agg #[.int .u8 0, .slice none 0 0], .bool true, .bool false, .bool false] : List Value)) D g w') (by kernel_rfl) (by kernel_rfl) ⟨fun i =>  undef, rfl, Iq.zero _ _ _⟩ ?_ ?_
          · simp only [List.take_succ_cons, List.take_zero]
            refine ⟨?_, ?_, ?_, ?_, ?_, ?_, ?_, ?_, ?_, ?_, ?_, ?_, ?_, ?_, ?_, ?_, ?_, ?_, ?_, ?_, ?_, ?_, ?_, ?_, ?_, trivial⟩
            · intro D a w' hn hp hI
              obtain ⟨g, rfl, hR⟩ := hI
              clear hn hp
              go_wp2_with fail
              exact ⟨fun ix => if ix = 0 then .bool false else g ix, by rfl, hR.upd PV.below 0 _ (Below.refl _ _) rfl⟩
            · intro D a w' hn hp hI
              obtain ⟨g, rfl, hR⟩ := hI
              clear hn hp
              go_wp2_with fail
              exact ⟨fun ix => if ix = 1 then .int .i64 (-1) else g ix, by rfl, hR.upd PV.below 1 _ (Below.refl _ _) rfl⟩
            · intro D a w' hn hp hI
              obtain ⟨g, rfl, hR⟩ := hI
              have e1 : g 1 = .int .i64 (-1) := hR.e 1 hp.1
              rw [e1]
              clear hn hp
              go_wp2_with fail
              exact ⟨fun ix => if ix = 2 then .bool false else g ix, by simp [e1], hR.upd PV.below 2 _ (Below.refl _ _) rfl⟩
            · intro D a w' hn hp hI
              obtain ⟨g, rfl, hR⟩ := hI
              have e0 : g 0 = .bool false := hR.e 0 hp.1
              rw [e0]
              have e2 : g 2 = .bool false := hR.e 2 hp.2.1
              rw [e2]
              clear hn hp
              go_wp2_with fail
              exact ⟨fun ix => if ix = 3 then .bool false else g ix, by simp [e0, e2], hR.upd PV.below 3 _ (Below.refl _ _) rfl⟩
            · intro D a w' hn hp hI
              obtain ⟨g, rfl, hR⟩ := hI
              have e3 : g 3 = .bool false := hR.e 3 hp.1
              rw [e3]
              clear hn hp
              go_wp2_with fail
              exact ⟨fun ix => if ix = 4 then .bool false else g ix, by simp [e3], hR.upd PV.below 4 _ (Below.refl _ _) rfl⟩
            · intro D a w' hn hp hI
              obtain ⟨g, rfl, hR⟩ := hI
              have e4 : g 4 = .bool false := hR.e 4 hp.1
              rw [e4]
              clear hn hp
              go_wp2_with fail
              exact ⟨fun ix => if ix = 5 then .bool false else g ix, by simp [e4], hR.upd PV.below 5 _ (Below.refl _ _) rfl⟩
            · intro D a w' hn hp hI
              obtain ⟨g, rfl, hR⟩ := hI
              have e4 : g 4 = .bool false := hR.e 4 hp.1
              rw [e4]
              have e5 : g 5 = .bool false := hR.e 5 hp.2.1
              rw [e5]
              clear hn hp
              go_wp2_with fail
              exact ⟨fun ix => if ix = 6 then .bool false else g ix, by simp [e4, e5], hR.upd PV.below 6 _ (Below.refl _ _) rfl⟩
            · intro D a w' hn hp hI
              obtain ⟨g, rfl, hR⟩ := hI
              have e6 : g 6 = .bool false := hR.e 6 hp.1
              rw [e6]
              clear hn hp
              go_wp2_with fail
              exact ⟨fun ix => if ix = 7 then undef else g ix, by simp [e6], hR.upd PV.below 7 _ (Below.refl _ _) trivial⟩
            · intro D a w' hn hp hI
              obtain ⟨g, rfl, hR⟩ := hI
              have e6 : g 6 = .bool false := hR.e 6 hp.1
              rw [e6]
              clear hn hp
              go_wp2_with fail
              exact ⟨fun ix => if ix = 8 then undef else g ix, by simp [e6], hR.upd PV.below 8 _ (Below.refl _ _) trivial⟩
            · intro D a w' hn hp hI
              obtain ⟨g, rfl, hR⟩ := hI
              have e6 : g 6 = .bool false := hR.e 6 hp.1
              rw [e6]
              clear hn hp
              go_wp2_with fail
              exact ⟨fun ix => if ix = 9 then undef else g ix, by simp [e6], hR.upd PV.below 9 _ (Below.refl _ _) trivial⟩
            · intro D a w' hn hp hI
              obtain ⟨g, rfl, hR⟩ := hI
              have e6 : g 6 = .bool false := hR.e 6 hp.1
              rw [e6]
              clear hn hp
              go_wp2_with fail
              exact ⟨fun ix => if ix = 10 then undef else g ix, by simp [e6], hR.upd PV.below 10 _ (Below.refl _ _) trivial⟩
            · intro D a w' hn hp hI
              obtain ⟨g, rfl, hR⟩ := hI
              have e6 : g 6 = .bool false := hR.e 6 hp.1
              rw [e6]
              clear hn hp
              go_wp2_with fail
              exact ⟨fun ix => if ix = 11 then undef else g ix, by simp [e6], hR.upd PV.below 11 _ (Below.refl _ _) trivial⟩
            · intro D a w' hn hp hI
              obtain ⟨g, rfl, hR⟩ := hI
              have e6 : g 6 = .bool false := hR.e 6 hp.1
              rw [e6]
              clear hn hp
              go_wp2_with fail
              exact ⟨fun ix => if ix = 12 then undef else g ix, by simp [e6], hR.upd PV.below 12 _ (Below.refl _ _) trivial⟩
            · intro D a w' hn hp hI
              obtain ⟨g, rfl, hR⟩ := hI
              have e6 : g 6 = .bool false := hR.e 6 hp.1
              rw [e6]
              clear hn hp
              go_wp2_with fail
              exact ⟨fun ix => if ix = 13 then undef else g ix, by simp [e6], hR.upd PV.below 13 _ (Below.refl _ _) trivial⟩
            · intro D a w' hn hp hI
              obtain ⟨g, rfl, hR⟩ := hI
              have e4 : g 4 = .bool false := hR.e 4 hp.1
              rw [e4]
              have e6 : g 6 = .bool false := hR.e 6 hp.2.1
              rw [e6]
              clear hn hp
              go_wp2_with fail
              exact ⟨fun ix => if ix = 14 then .bool false else g ix, by simp [e4, e6], hR.upd PV.below 14 _ (Below.refl _ _) rfl⟩
            · intro D a w' hn hp hI
              obtain ⟨g, rfl, hR⟩ := hI
              have e4 : g 4 = .bool false := hR.e 4 hp.1
              rw [e4]
              have e14 : g 14 = .bool false := hR.e 14 hp.2.1
              rw [e14]
              clear hn hp
              go_wp2_with fail
              exact ⟨fun ix => if ix = 15 then .bool false else g ix, by simp [e4, e14], hR.upd PV.below 15 _ (Below.refl _ _) rfl⟩
            · intro D a w' hn hp hI
              obtain ⟨g, rfl, hR⟩ := hI
              have e15 : g 15 = .bool false := hR.e 15 hp.1
              rw [e15]
              clear hn hp
              go_wp2_with fail
              exact ⟨fun ix => if ix = 16 then .bool false else g ix, by simp [e15], hR.upd PV.below 16 _ (Below.refl _ _) rfl⟩
            · intro D a w' hn hp hI
              obtain ⟨g, rfl, hR⟩ := hI
              have e16 : g 16 = .bool false := hR.e 16 hp.1
              rw [e16]
              clear hn hp
              go_wp2_with fail
              exact ⟨fun ix => if ix = 17 then .bool false else g ix, by simp [e16], hR.upd PV.below 17 _ (Below.refl _ _) rfl⟩
            · intro D a w' hn hp hI
              obtain ⟨g, rfl, hR⟩ := hI
              have e16 : g 16 = .bool false := hR.e 16 hp.1
              rw [e16]
              have e17 : g 17 = .bool false := hR.e 17 hp.2.1
              rw [e17]
              clear hn hp
              go_wp2_with fail
              exact ⟨fun ix => if ix = 18 then .bool true else g ix, by simp [e16, e17], hR.upd PV.below 18 _ (Below.refl _ _) rfl⟩
            · intro D a w' hn hp hI
              obtain ⟨g, rfl, hR⟩ := hI
              have e16 : g 16 = .bool false := hR.e 16 hp.1
              rw [e16]
              have e18 : g 18 = .bool true := hR.e 18 hp.2.1
              rw [e18]
              clear hn hp
              go_wp2_with fail
              exact ⟨fun ix => if ix = 19 then .bool true else g ix, by simp [e16, e18], hR.upd PV.below 19 _ (Below.refl _ _) rfl⟩
            · intro D a w' hn hp hI
              obtain ⟨g, rfl, hR⟩ := hI
              have e19 : g 19 = .bool true := hR.e 19 hp.1
              rw [e19]
              have cc0 := kc hR.b c70
              have cc1 := kc hR.b c71
              clear hn hp
              go_wp2_with fail
              exact ⟨fun ix => if ix = 20 then .agg #[.int .u8 0, .slice A3 0 c3] else g ix, by simp [e19], hR.upd PV.below 20 _ (Below.refl _ _) rfl⟩
            · intro D a w' hn hp hI
              obtain ⟨g, rfl, hR⟩ := hI
              have e19 : g 19 = .bool true := hR.e 19 hp.1
              rw [e19]
              clear hn hp
              go_wp2_with fail
              exact ⟨fun ix => if ix = 21 then .agg #[.int .u8 0, .slice none 0 0] else g ix, by simp [e19], hR.upd PV.below 21 _ (Below.refl _ _) rfl⟩
            · intro D a w' hn hp hI
              obtain ⟨g, rfl, hR⟩ := hI
              have e19 : g 19 = .bool true := hR.e 19 hp.1
              rw [e19]
              have e20 : g 20 = .agg #[.int .u8 0, .slice A3 0 c3] := hR.e 20 hp.2.1
              rw [e20]
              have e21 : g 21 = .agg #[.int .u8 0, .slice none 0 0] := hR.e 21 hp.2.2.1
              rw [e21]
              clear hn hp
              go_wp2_with fail
              refine (same_any (0, []) (0, []) A3 none c3 0 _ (By.nil _ _) (By.nil _ _) (by decide) (by decide)).mono ?_
              rintro e w'' ⟨rfl, hb⟩
              rw [decide_eq_true rfl]
              have HBS := Lib.hid hb
              clear hb
              go_wp2_with fail
              exact ⟨fun ix => if ix = 22 then .bool true else g ix, by simp [e19, e20, e21], hR.upd PV.below 22 _ HBS.out rfl⟩
            · intro D a w' hn hp hI
              obtain ⟨g, rfl, hR⟩ := hI
              have e19 : g 19 = .bool true := hR.e 19 hp.1
              rw [e19]
              have e22 : g 22 = .bool true := hR.e 22 hp.2.1
              rw [e22]
              clear hn hp
              go_wp2_with fail
              exact ⟨fun ix => if ix = 23 then .bool false else g ix, by simp [e19, e22], hR.upd PV.below 23 _ (Below.refl _ _) rfl⟩
            · intro D a w' hn hp hI
              obtain ⟨g, rfl, hR⟩ := hI
              have e16 : g 16 = .bool false := hR.e 16 hp.1
              rw [e16]
              have e19 : g 19 = .bool true := hR.e 19 hp.2.1
              rw [e19]
              have e23 : g 23 = .bool false := hR.e 23 hp.2.2.1
              rw [e23]
              clear hn hp
              go_wp2_with fail
              exact ⟨fun ix => if ix = 24 then .bool false else g ix, by simp [e16, e19, e23], hR.upd PV.below 24 _ (Below.refl _ _) rfl⟩
          intro D a w' hD hI
          obtain ⟨g2, rfl, hR⟩ := hI
          have e16 : g2 16 = .bool false := hR.e 16 (hD 16 (by decide))
          have e24 : g2 24 = .bool false := hR.e 24 (hD 24 (by decide))
          rw [e16, e24]
          have HRB := Lib.hid hR.b
          simp only [List.drop_succ_cons, List.drop_zero]
          clear hD hR e16 e24
          go_wp2_with fail
          go_meet
          first | exact ⟨rfl, HRB.out⟩ | exact ⟨trivial, HRB.out⟩
        · rw [HFN.out] at hfn
          cases hfn
          subst hf
          have hjl := (List.getElem?_eq_some_iff.1 hp).1
          obtain ⟨b, o, rfl, hbl⟩ := HOZ.out.pos (by omega)
          obtain ⟨A1, n1, x0, x1, hc1, hc1m, by1, hk0, hk1, hnil⟩ := HOZ.out.at hp
          have hbl := cell_lt x0
          replace hbl : b < Z4.heap.size := hbl
          have hd40 := H38.out _ (List.mem_of_getElem? hp)
          have HY1 := Lib.hid by1
          have hrw := (By.of_own3 HROW.out rfl by1.rng).1
          have HY2 := Lib.hid hrw
          have hpos : (jf : Int) < al.length := by omega
          have hpos0 : (0 : Int) ≤ jf := by omega
          have t1 : decide ((0 : Int) ≤ (jf : Int)) = true := by simp
          clear hp by1 hnil hrw hf0 hf1
          refine wp_region_steps 25 [[], [], [1], [0, 2], [3], [4], [4, 5], [6], [6], [6], [6, 8, 9], [6, 10], [6, 7, 11], [6, 12], [4, 6, 13], [4, 14], [15], [16], [16, 17], [16, 18], [19], [19], [19], [19], [16, 19]] (fun D a w' => ∃ g : Nat → Value, a = ⟨#[.slice A l.length c, .int .u8 kind, undef, undef, .bool false, .slice (some ⟨b, o, none⟩) al.length c2, .int .i64 (flat al).length, .pointer (some ⟨b7, 0, none⟩), .bool true, .int .i64 jf, .int .i64 (-1), .pointer (some ⟨Z1.heap.size, 0, none⟩), .bool i1, .pointer (some ⟨Z3.heap.size, 0, none⟩), .bool i2, .bool true, .bool false, .tuple #[.slice (some ⟨b, o, none⟩) al.length c2, .int .i64 (flat al).length], .slice A l.length c, .tuple #[.slice (some ⟨b, o, none⟩) al.length c2, .int .i64 (flat al).length], .slice (some ⟨b, o, none⟩) al.length c2, .int .i64 (flat al).length, .tuple #[.agg #[.int .u8 od.fst, .slice A3 od.snd.length c3], .bool true], .slice (some ⟨b, o, none⟩) al.length c2, .int .u8 kind, .tuple #[.agg #[.int .u8 od.fst, .slice A3 od.snd.length c3], .bool true], .agg #[.int .u8 od.fst, .slice A3 od.snd.length c3], .bool true, .slice (some ⟨b, o, none⟩) al.length c2, .int .i64 al.length, .int .i64 (al.length - 1), .int .i64 (-1), .bool false, u33, u34, u35, u36, u37, u38, u39, u40, u41, u42, .tuple #[.agg #[.int .u8 o1.fst, .slice A4 o1.snd.length c4], .bool i1], .slice (some ⟨b, o, none⟩) al.length c2, .tuple #[.agg #[.int .u8 o1.fst, .slice A4 o1.snd.length c4], .bool i1], .agg #[.int .u8 o1.fst, .slice A4 o1.snd.length c4], .bool i1, .tuple #[.agg #[.int .u8 o2.fst, .slice A5 o2.snd.length c5], .bool i2], .slice (some ⟨b, o, none⟩) al.length c2, .tuple #[.agg #[.int .u8 o2.fst, .slice A5 o2.snd.length c5], .bool i2], .agg #[.int .u8 o2.fst, .slice A5 o2.snd.length c5], .bool i2, g 0, g 1, g 2, g 3, g 4, g 5, g 6, g 7, g 8, g 9, g 10, g 11, g 12, g 13, g 14, g 15, g 16, g 17, g 18, g 19, g 20, g 21, g 22, g 23, g 24, undef, undef, undef, undef, undef, undef, undef, undef, undef, undef, undef, undef, undef, undef, undef], []⟩ ∧ Iq Z4 (PV [20, 21, 22, 23] ([.bool true, .int .i64 jf, .bool true, .bool false, .bool false, .bool true, .bool true, .agg #[.int .u8 od.1, .slice A3 od.2.length c3], .slice (some ⟨b, o, none⟩) al.length c2, .int .i64 jf, .pointer (some ⟨b, o + jf * 2, none⟩), .agg #[.int .u8 od.1, .slice A1 od.2.length n1], .bool true, .bool false, .bool false, .bool false, .bool false, .bool true, .bool false, .bool false, undef, undef, undef, undef, .bool false] : List Value)) D g w') (by kernel_rfl) (by kernel_rfl) ⟨fun i =>  undef, rfl, Iq.zero _ _ _⟩ ?_ ?_
          · simp only [List.take_succ_cons, List.take_zero]
            refine ⟨?_, ?_, ?_, ?_, ?_, ?_, ?_, ?_, ?_, ?_, ?_, ?_, ?_, ?_, ?_, ?_, ?_, ?_, ?_, ?_, ?_, ?_, ?_, ?_, ?_, trivial⟩
            · intro D a w' hn hp hI
              obtain ⟨g, rfl, hR⟩ := hI
              clear hn hp
              go_wp2_with fail
              exact ⟨fun ix => if ix = 0 then .bool true else g ix, by rfl, hR.upd PV.below 0 _ (Below.refl _ _) rfl⟩
            · intro D a w' hn hp hI
              obtain ⟨g, rfl, hR⟩ := hI
              clear hn hp
              go_wp2_with fail
              exact ⟨fun ix => if ix = 1 then .int .i64 jf else g ix, by rfl, hR.upd PV.below 1 _ (Below.refl _ _) rfl⟩
            · intro D a w' hn hp hI
              obtain ⟨g, rfl, hR⟩ := hI
              have e1 : g 1 = .int .i64 jf := hR.e 1 hp.1
              rw [e1]
              clear hn hp
              go_wp2_with fail
              exact ⟨fun ix => if ix = 2 then .bool true else g ix, by simp [e1], hR.upd PV.below 2 _ (Below.refl _ _) rfl⟩
            · intro D a w' hn hp hI
              obtain ⟨g, rfl, hR⟩ := hI
              have e0 : g 0 = .bool true := hR.e 0 hp.1
              rw [e0]
              have e2 : g 2 = .bool true := hR.e 2 hp.2.1
              rw [e2]
              clear hn hp
              go_wp2_with fail
              exact ⟨fun ix => if ix = 3 then .bool false else g ix, by simp [e0, e2], hR.upd PV.below 3 _ (Below.refl _ _) rfl⟩
            · intro D a w' hn hp hI
              obtain ⟨g, rfl, hR⟩ := hI
              have e3 : g 3 = .bool false := hR.e 3 hp.1
              rw [e3]
              clear hn hp
              go_wp2_with fail
              exact ⟨fun ix => if ix = 4 then .bool false else g ix, by simp [e3], hR.upd PV.below 4 _ (Below.refl _ _) rfl⟩
            · intro D a w' hn hp hI
              obtain ⟨g, rfl, hR⟩ := hI
              have e4 : g 4 = .bool false := hR.e 4 hp.1
              rw [e4]
              clear hn hp
              go_wp2_with fail
              exact ⟨fun ix => if ix = 5 then .bool true else g ix, by simp [e4], hR.upd PV.below 5 _ (Below.refl _ _) rfl⟩
            · intro D a w' hn hp hI
              obtain ⟨g, rfl, hR⟩ := hI
              have e4 : g 4 = .bool false := hR.e 4 hp.1
              rw [e4]
              have e5 : g 5 = .bool true := hR.e 5 hp.2.1
              rw [e5]
              clear hn hp
              go_wp2_with fail
              exact ⟨fun ix => if ix = 6 then .bool true else g ix, by simp [e4, e5], hR.upd PV.below 6 _ (Below.refl _ _) rfl⟩
            · intro D a w' hn hp hI
              obtain ⟨g, rfl, hR⟩ := hI
              have e6 : g 6 = .bool true := hR.e 6 hp.1
              rw [e6]
              have cc0 := kc hR.b c70
              have cc1 := kc hR.b c71
              clear hn hp
              go_wp2_with fail
              exact ⟨fun ix => if ix = 7 then .agg #[.int .u8 od.1, .slice A3 od.2.length c3] else g ix, by simp [e6], hR.upd PV.below 7 _ (Below.refl _ _) rfl⟩
            · intro D a w' hn hp hI
              obtain ⟨g, rfl, hR⟩ := hI
              have e6 : g 6 = .bool true := hR.e 6 hp.1
              rw [e6]
              clear hn hp
              go_wp2_with fail
              exact ⟨fun ix => if ix = 8 then .slice (some ⟨b, o, none⟩) al.length c2 else g ix, by simp [e6], hR.upd PV.below 8 _ (Below.refl _ _) rfl⟩
            · intro D a w' hn hp hI
              obtain ⟨g, rfl, hR⟩ := hI
              have e6 : g 6 = .bool true := hR.e 6 hp.1
              rw [e6]
              clear hn hp
              go_wp2_with fail
              exact ⟨fun ix => if ix = 9 then .int .i64 jf else g ix, by simp [e6], hR.upd PV.below 9 _ (Below.refl _ _) rfl⟩
            · intro D a w' hn hp hI
              obtain ⟨g, rfl, hR⟩ := hI
              have e6 : g 6 = .bool true := hR.e 6 hp.1
              rw [e6]
              have e8 : g 8 = .slice (some ⟨b, o, none⟩) al.length c2 := hR.e 8 hp.2.1
              rw [e8]
              have e9 : g 9 = .int .i64 jf := hR.e 9 hp.2.2.1
              rw [e9]
              clear hn hp
              go_wp2_with fail
              exact ⟨fun ix => if ix = 10 then .pointer (some ⟨b, o + jf * 2, none⟩) else g ix, by simp [e6, e8, e9], hR.upd PV.below 10 _ (Below.refl _ _) rfl⟩
            · intro D a w' hn hp hI
              obtain ⟨g, rfl, hR⟩ := hI
              have e6 : g 6 = .bool true := hR.e 6 hp.1
              rw [e6]
              have e10 : g 10 = .pointer (some ⟨b, o + jf * 2, none⟩) := hR.e 10 hp.2.1
              rw [e10]
              have cc0 := kc hR.b x0
              have cc1 := kc hR.b x1
              clear hn hp
              go_wp2_with fail
              exact ⟨fun ix => if ix = 11 then .agg #[.int .u8 od.1, .slice A1 od.2.length n1] else g ix, by simp [e6, e10], hR.upd PV.below 11 _ (Below.refl _ _) rfl⟩
            · intro D a w' hn hp hI
              obtain ⟨g, rfl, hR⟩ := hI
              have e6 : g 6 = .bool true := hR.e 6 hp.1
              rw [e6]
              have e7 : g 7 = .agg #[.int .u8 od.1, .slice A3 od.2.length c3] := hR.e 7 hp.2.1
              rw [e7]
              have e11 : g 11 = .agg #[.int .u8 od.1, .slice A1 od.2.length n1] := hR.e 11 hp.2.2.1
              rw [e11]
              have hy1 := HY1.out.below hR.b
              have hy2 := HY2.out.below hR.b
              clear hn hp
              go_wp2_with fail
              refine (same_any od od A3 A1 c3 n1 _ hy2 hy1 hd40 hd40).mono ?_
              rintro e w'' ⟨rfl, hb⟩
              rw [decide_eq_true rfl]
              have HBS := Lib.hid hb
              clear hb
              go_wp2_with fail
              exact ⟨fun ix => if ix = 12 then .bool true else g ix, by simp [e6, e7, e11], hR.upd PV.below 12 _ HBS.out rfl⟩
            · intro D a w' hn hp hI
              obtain ⟨g, rfl, hR⟩ := hI
              have e6 : g 6 = .bool true := hR.e 6 hp.1
              rw [e6]
              have e12 : g 12 = .bool true := hR.e 12 hp.2.1
              rw [e12]
              clear hn hp
              go_wp2_with fail
              exact ⟨fun ix => if ix = 13 then .bool false else g ix, by simp [e6, e12], hR.upd PV.below 13 _ (Below.refl _ _) rfl⟩
            · intro D a w' hn hp hI
              obtain ⟨g, rfl, hR⟩ := hI
              have e4 : g 4 = .bool false := hR.e 4 hp.1
              rw [e4]
              have e6 : g 6 = .bool true := hR.e 6 hp.2.1
              rw [e6]
              have e13 : g 13 = .bool false := hR.e 13 hp.2.2.1
              rw [e13]
              clear hn hp
              go_wp2_with fail
              exact ⟨fun ix => if ix = 14 then .bool false else g ix, by simp [e4, e6, e13], hR.upd PV.below 14 _ (Below.refl _ _) rfl⟩
            · intro D a w' hn hp hI
              obtain ⟨g, rfl, hR⟩ := hI
              have e4 : g 4 = .bool false := hR.e 4 hp.1
              rw [e4]
              have e14 : g 14 = .bool false := hR.e 14 hp.2.1
              rw [e14]
              clear hn hp
              go_wp2_with fail
              exact ⟨fun ix => if ix = 15 then .bool false else g ix, by simp [e4, e14], hR.upd PV.below 15 _ (Below.refl _ _) rfl⟩
            · intro D a w' hn hp hI
              obtain ⟨g, rfl, hR⟩ := hI
              have e15 : g 15 = .bool false := hR.e 15 hp.1
              rw [e15]
              clear hn hp
              go_wp2_with fail
              exact ⟨fun ix => if ix = 16 then .bool false else g ix, by simp [e15], hR.upd PV.below 16 _ (Below.refl _ _) rfl⟩
            · intro D a w' hn hp hI
              obtain ⟨g, rfl, hR⟩ := hI
              have e16 : g 16 = .bool false := hR.e 16 hp.1
              rw [e16]
              clear hn hp
              go_wp2_with fail
              exact ⟨fun ix => if ix = 17 then .bool true else g ix, by simp [e16], hR.upd PV.below 17 _ (Below.refl _ _) rfl⟩
            · intro D a w' hn hp hI
              obtain ⟨g, rfl, hR⟩ := hI
              have e16 : g 16 = .bool false := hR.e 16 hp.1
              rw [e16]
              have e17 : g 17 = .bool true := hR.e 17 hp.2.1
              rw [e17]
              clear hn hp
              go_wp2_with fail
              exact ⟨fun ix => if ix = 18 then .bool false else g ix, by simp [e16, e17], hR.upd PV.below 18 _ (Below.refl _ _) rfl⟩
            · intro D a w' hn hp hI
              obtain ⟨g, rfl, hR⟩ := hI
              have e16 : g 16 = .bool false := hR.e 16 hp.1
              rw [e16]
              have e18 : g 18 = .bool false := hR.e 18 hp.2.1
              rw [e18]
              clear hn hp
              go_wp2_with fail
              exact ⟨fun ix => if ix = 19 then .bool false else g ix, by simp [e16, e18], hR.upd PV.below 19 _ (Below.refl _ _) rfl⟩
            · intro D a w' hn hp hI
              obtain ⟨g, rfl, hR⟩ := hI
              have e19 : g 19 = .bool false := hR.e 19 hp.1
              rw [e19]
              clear hn hp
              go_wp2_with fail
              exact ⟨fun ix => if ix = 20 then undef else g ix, by simp [e19], hR.upd PV.below 20 _ (Below.refl _ _) trivial⟩
            · intro D a w' hn hp hI
              obtain ⟨g, rfl, hR⟩ := hI
              have e19 : g 19 = .bool false := hR.e 19 hp.1
              rw [e19]
              clear hn hp
              go_wp2_with fail
              exact ⟨fun ix => if ix = 21 then undef else g ix, by simp [e19], hR.upd PV.below 21 _ (Below.refl _ _) trivial⟩
            · intro D a w' hn hp hI
              obtain ⟨g, rfl, hR⟩ := hI
              have e19 : g 19 = .bool false := hR.e 19 hp.1
              rw [e19]
              clear hn hp
              go_wp2_with fail
              exact ⟨fun ix => if ix = 22 then undef else g ix, by simp [e19], hR.upd PV.below 22 _ (Below.refl _ _) trivial⟩
            · intro D a w' hn hp hI
              obtain ⟨g, rfl, hR⟩ := hI
              have e19 : g 19 = .bool false := hR.e 19 hp.1
              rw [e19]
              clear hn hp
              go_wp2_with fail
              exact ⟨fun ix => if ix = 23 then undef else g ix, by simp [e19], hR.upd PV.below 23 _ (Below.refl _ _) trivial⟩
            · intro D a w' hn hp hI
              obtain ⟨g, rfl, hR⟩ := hI
              have e16 : g 16 = .bool false := hR.e 16 hp.1
              rw [e16]
              have e19 : g 19 = .bool false := hR.e 19 hp.2.1
              rw [e19]
              clear hn hp
              go_wp2_with fail
              exact ⟨fun ix => if ix = 24 then .bool false else g ix, by simp [e16, e19], hR.upd PV.below 24 _ (Below.refl _ _) rfl⟩
          intro D a w' hD hI
          obtain ⟨g2, rfl, hR⟩ := hI
          have e16 : g2 16 = .bool false := hR.e 16 (hD 16 (by decide))
          have e24 : g2 24 = .bool false := hR.e 24 (hD 24 (by decide))
          rw [e16, e24]
          have HRB := Lib.hid hR.b
          simp only [List.drop_succ_cons, List.drop_zero]
          clear hD hR e16 e24
          go_wp2_with fail
          go_meet
          first | exact ⟨rfl, HRB.out⟩ | exact ⟨trivial, HRB.out⟩
      obtain ⟨rfl, hbW⟩ := hcut
      obtain ⟨Z5, hZ5⟩ : ∃ X, X = wc := ⟨_, rfl⟩
      subst hZ5
      have HO5 := Lib.hid (HOZ.out.below hbW)
      have HB5 := Lib.hid (HBV.out.trans (hbW.mono HBV.out.size))
      have hi1 : (findS al 131).isSome = i1 := by have := HF1.out; unfold fnS at this; injection this
      have hi2 : (findS al 137).isSome = i2 := by have := HF2.out; unfold fnS at this; injection this
      have hrt := HRT.out
      have hrt2 := HRT2.out
      rw [hi1, hi2] at hrt hrt2
      have HR1 := Lib.hid hrt
      have HR2 := Lib.hid hrt2
      clear hbW hi1 hi2 hrt hrt2 c70 c71 hl7
      go_wp2_with fail
      refine (routed_any al A2 c2 _ HO5.out (by omega)).mono ?_
      rintro e Z6 ⟨rfl, hb6⟩
      rw [HR1.out]
      have HB6 := Lib.hid (HB5.out.trans (hb6.mono HB5.out.size))
      clear hb6
      have hx := HR2.out
      cases i1 with
      | false =>
        cases i2 with
        | false =>
          clear hx
          go_wp2_with fail
          go_ret
          exact ⟨rfl, HB6.out⟩
        | true =>
          clear hx
          go_wp2_with fail
          go_ret
          exact ⟨rfl, HB6.out⟩
      | true =>
        cases i2 with
        | false =>
          clear hx
          go_wp2_with fail
          go_ret
          exact ⟨rfl, HB6.out⟩
        | true => cases hx

theorem optsFinds_walk (A : Option Addr) (l : List Sm) (cap : Nat) (kind : Int) (w : World) (hle : l.length ≤ cap) (hmx : cap ≤ maxLen) (hsm : Smalls w A l) (ha : 0 ≤ kind ∧ kind ≤ 255) :
    Calls Try.prog 11 #[.slice A l.length cap, .int .u8 kind] w fun e w' => e = .returned (.bool true) ∧ Below w.heap.size w w' := finds_any l A cap kind w hsm hle hmx

end Go.Proofs.Ytjfnnclbfaakkaa

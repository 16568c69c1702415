/-
  The contract of package opts' Route. Conditions: the option lies.
-/
import Derived.Test.YtjfnnclbfaakkaaRecP
import Derived.Laws.BitsAllLaws
import Derived.BigQuiet
import Derived.BigRegion
import Derived.Deep.CutBlock
namespace Go.Proofs.Ytjfnnclbfaakkaa
open Go.RowKit
set_option linter.unusedVariables false
set_option linter.unusedSimpArgs false

theorem info40 : (Try.prog.info? 40).map (fun i => (i.zero, i.size, i.bytes)) = some (some (.int .u32 0), 1, 4) := by kernel_rfl
theorem or_byte (a x : Int) (h0 : 0 ≤ a) (h1 : a < 2 ^ 24) (h2 : 0 ≤ x) (h3 : x ≤ 255) : bits .or .u32 (a * 256) x = a * 256 + x := by
  obtain ⟨m, rfl⟩ := Int.eq_ofNat_of_zero_le h0
  obtain ⟨n, rfl⟩ := Int.eq_ofNat_of_zero_le h2
  have e : ((m : Int) * 256) = ((m * 256 : Nat) : Int) := by omega
  rw [e, u32_or_nat (m * 256) n (by omega) (by omega)]
  have : m * 256 ||| n = m * 256 + n := by
    have : (256 : Nat) = 2 ^ 8 := rfl
    rw [this, ← Nat.shiftLeft_eq, ← Nat.shiftLeft_add_eq_or_of_lt (by omega)]
  rw [this]
  omega
/-- The first bytes of an address, as a number. -/
def pw (d : List Int) (s : Nat) : Nat → Int
  | 0 => 0
  | j + 1 => pw d s j * 256 + d.getD (s + j) 0
theorem pw_four (d : List Int) (i : Nat) : pw d (1 + 4 * i) 4 = wd d i := by
  simp only [pw, wd, Nat.add_zero]
  rw [show 1 + 4 * i + 1 = 2 + 4 * i by omega, show 1 + 4 * i + 2 = 3 + 4 * i by omega, show 1 + 4 * i + 3 = 4 + 4 * i by omega]
  omega
theorem pw_rng {d : List Int} (h : ∀ x ∈ d, 0 ≤ x ∧ x ≤ 255) (s : Nat) : 0 ≤ pw d s 0 ∧ pw d s 0 < 1 ∧ 0 ≤ pw d s 1 ∧ pw d s 1 < 256 ∧ 0 ≤ pw d s 2 ∧ pw d s 2 < 65536 ∧ 0 ≤ pw d s 3 ∧ pw d s 3 < 2 ^ 24 := by
  have hg : ∀ i, 0 ≤ d.getD i 0 ∧ d.getD i 0 ≤ 255 := fun i => by
    rw [List.getD_eq_getElem?_getD]
    cases hd : d[i]? with
    | none => simp
    | some x => exact h x (List.mem_of_getElem? hd)
  have h0 := hg (s + 0)
  have h1 := hg (s + 1)
  have h2 := hg (s + 2)
  simp only [pw]
  omega
theorem pw_lt {d : List Int} (h : ∀ x ∈ d, 0 ≤ x ∧ x ≤ 255) (s : Nat) {j : Nat} (hj : j < 4) : 0 ≤ pw d s j ∧ pw d s j < 2 ^ 24 := by
  have := pw_rng h s
  rcases (by omega : j = 0 ∨ j = 1 ∨ j = 2 ∨ j = 3) with rfl | rfl | rfl | rfl <;> omega

/-- Between the rounds of Route: Z is the world behind the last address that is done. -/
structure RtI (w wr : World) (d : List Int) (dn i : Nat) (v5 v6 : Value) : Prop where
  ex : ∃ Z : World, Below w.heap.size w Z ∧ Below Z.heap.size Z wr ∧ Z.ownsRow w.heap.size 40 1 v5 (min i dn) ((wds d 0 (min i dn)).map (Value.int .u32)) ∧ wr.ownsRow Z.heap.size 40 1 v6 (i - dn) ((wds d dn (i - dn)).map (Value.int .u32))
  nil : i ≤ dn → v6 = .slice none 0 0
theorem RtI.row5 {w wr : World} {d : List Int} {dn i : Nat} {v5 v6 : Value} (h : RtI w wr d dn i v5 v6) : wr.ownsRow w.heap.size 40 1 v5 (min i dn) ((wds d 0 (min i dn)).map (Value.int .u32)) := by
  obtain ⟨Z, h1, h2, h3, h4⟩ := h.ex
  exact own_below h3 h2
theorem RtI.row6 {w wr : World} {d : List Int} {dn i : Nat} {v5 v6 : Value} (h : RtI w wr d dn i v5 v6) : wr.ownsRow w.heap.size 40 1 v6 (i - dn) ((wds d dn (i - dn)).map (Value.int .u32)) := by
  obtain ⟨Z, h1, h2, h3, h4⟩ := h.ex
  exact own_base h4 h1.size
theorem RtI.below {w wr : World} {d : List Int} {dn i : Nat} {v5 v6 : Value} (h : RtI w wr d dn i v5 v6) : Below w.heap.size w wr := by
  obtain ⟨Z, h1, h2, h3, h4⟩ := h.ex
  exact h1.trans (h2.mono h1.size)
theorem RtI.grow {w wr Y : World} {d : List Int} {dn i : Nat} {v5 v6 : Value} (h : RtI w wr d dn i v5 v6) (hb : Below wr.heap.size wr Y) : RtI w Y d dn i v5 v6 := by
  obtain ⟨Z, h1, h2, h3, h4⟩ := h.ex
  exact ⟨⟨Z, h1, h2.trans (hb.mono h2.size), h3, own_below h4 hb⟩, h.nil⟩
theorem RtI.done {w Y w3 : World} {d : List Int} {dn i : Nat} {v5 v6 v' : Value} {ob : Obj} (h : RtI w Y d dn i v5 v6) (hi : i < dn) (hg : (Y.alloc ob).grownBy w3 v5.ownBlock) (hr : w3.ownsRow w.heap.size 40 1 v' (min i dn + 1) ((wds d 0 (min i dn)).map (Value.int .u32) ++ [.int .u32 (wd d i)])) : RtI w w3 d dn (i + 1) v' v6 := by
  have e1 : min i dn = i := Nat.min_eq_left (by omega)
  have e2 : min (i + 1) dn = i + 1 := Nat.min_eq_left (by omega)
  have h6 := h.nil (by omega)
  subst h6
  refine ⟨⟨w3, ?_, Below.refl _ _, ?_, ?_⟩, fun _ => rfl⟩
  · have hb := h.below
    exact (hb.alloc hb.size ob).grown hg (by simp; have := hb.size; omega) fun k e => (h.row5.lt k e).1
  · rw [e2, wds_succ, Nat.zero_add, List.map_append]
    rw [e1] at hr
    exact hr
  · rw [show i + 1 - dn = 0 by omega]
    exact World.ownsRow_nil _ _ _ _
theorem RtI.left {w Y w3 : World} {d : List Int} {dn i : Nat} {v5 v6 v' : Value} {ob : Obj} (h : RtI w Y d dn i v5 v6) (hi : dn ≤ i) {Z : World} (h1 : Below w.heap.size w Z) (h2 : Below Z.heap.size Z Y) (h3 : Z.ownsRow w.heap.size 40 1 v5 (min i dn) ((wds d 0 (min i dn)).map (Value.int .u32)))
    (h4 : Y.ownsRow Z.heap.size 40 1 v6 (i - dn) ((wds d dn (i - dn)).map (Value.int .u32))) (hg : (Y.alloc ob).grownBy w3 v6.ownBlock) (hr : w3.ownsRow Z.heap.size 40 1 v' (i - dn + 1) ((wds d dn (i - dn)).map (Value.int .u32) ++ [.int .u32 (wd d i)])) : RtI w w3 d dn (i + 1) v5 v' := by
  have e1 : min i dn = dn := Nat.min_eq_right (by omega)
  have e2 : min (i + 1) dn = dn := Nat.min_eq_right (by omega)
  refine ⟨⟨Z, h1, ?_, ?_, ?_⟩, fun h => by omega⟩
  · exact (h2.alloc h2.size ob).grown hg (by simp; have := h2.size; omega) fun k e => (h4.lt k e).1
  · rw [e2]
    rw [e1] at h3
    exact h3
  · rw [show i + 1 - dn = i - dn + 1 by omega, wds_succ, show dn + (i - dn) = i by omega, List.map_append]
    exact hr

/-- Two rows of addresses of the call's own, apart. -/
structure TwoW (w w' : World) (v5 v6 : Value) (a b : List Int) : Prop where
  ex : ∃ Z : World, Below w.heap.size w Z ∧ Below Z.heap.size Z w' ∧ Z.ownsRow w.heap.size 40 1 v5 a.length (a.map (Value.int .u32)) ∧ w'.ownsRow Z.heap.size 40 1 v6 b.length (b.map (Value.int .u32))
theorem TwoW.nil {w w' : World} (h : Below w.heap.size w w') : TwoW w w' (.slice none 0 0) (.slice none 0 0) [] [] := ⟨w', h, Below.refl _ _, World.ownsRow_nil _ _ _ _, World.ownsRow_nil _ _ _ _⟩
theorem RtI.two {w0 w wr : World} {d : List Int} {dn i : Nat} {v5 v6 : Value} (h : RtI w wr d dn i v5 v6) (hi : dn ≤ i) (hb : Below w0.heap.size w0 w) : TwoW w0 wr v5 v6 (wds d 0 dn) (wds d dn (i - dn)) := by
  obtain ⟨Z, h1, h2, h3, h4⟩ := h.ex
  rw [Nat.min_eq_right hi] at h3
  exact ⟨Z, hb.trans (h1.mono hb.size), h2, by rw [wds_len]; exact own_base h3 hb.size, by rw [wds_len]; exact h4⟩

set_option maxRecDepth 100000 in
set_option maxHeartbeats 4000000 in
theorem route_any (k : Int) (d : List Int) (A : Option Addr) (c : Nat) (w : World) (hk : 0 ≤ k ∧ k ≤ 255) (hd : By w A d) (hn : d.length ≤ 2 ^ 40) (hc : d.length ≤ c) :
    Calls Try.prog 21 #[.agg #[.int .u8 k, .slice A d.length c]] w fun e w' => ∃ v5 v6, e = .returned (.tuple #[v5, v6, .int .i64 (routeS (k, d)).1]) ∧ TwoW w w' v5 v6 (routeS (k, d)).2.1 (routeS (k, d)).2.2 ∧ Below w.heap.size w w' := by
  obtain ⟨RES, hRES⟩ : ∃ r, routeS (k, d) = r := ⟨_, rfl⟩
  rw [hRES]
  have HRES := Lib.hid hRES
  have HD := Lib.hid hd
  have HC := Lib.hid hc
  obtain ⟨X0, hX0⟩ : ∃ X0, w.alloc (Obj.cells #[Value.int IntKind.u8 k, Value.slice A d.length c] 36) = X0 := ⟨_, rfl⟩
  have hB0 : Below w.heap.size w X0 := by rw [← hX0]; exact (Below.refl _ _).alloc (Nat.le_refl _) _
  have h0 : X0.heap[w.heap.size]? = some (.cells #[.int .u8 k, .slice A d.length c] 36 (0, 0)) := by
    rw [← hX0]
    exact heap_alloc_last _ _
  have HB0 := Lib.hid hB0
  have HH0 := Lib.hid h0
  have hX := Lib.hid hX0
  have o0 := blk_cell h0 0
  have o1 := blk_cell h0 1
  simp at o0 o1
  have hl0 := blk_lt h0
  obtain ⟨q, hq⟩ : ∃ q, listedS (k, d) = q := ⟨_, rfl⟩
  have Hq := Lib.hid hq
  clear hRES hd hB0 h0 hX0 hq hc
  go_enter Try.func21, Try.ntmps21
  go_upto_region 1 with fail
  rw [hX.out]
  go_wp2_with fail
  refine (listed_any k d A c _ hk (HD.out.below HB0.out) (by omega)).mono ?_
  rintro e X1 ⟨rfl, hb1⟩
  rw [Hq.out]
  have HH1 := Lib.hid (blk_below hb1 HH0.out)
  have HB1 := Lib.hid (HB0.out.trans (hb1.mono HB0.out.size))
  clear o0 o1 hl0 hb1 HH0 HB0
  cases q with
  | false =>
    go_wp2_with fail
    have hres : RES = (2, [], []) := by rw [← HRES.out, routeS, if_pos Hq.out]
    subst hres
    refine bodyPost_ret (v := .tuple #[.slice none 0 0, .slice none 0 0, .int .i64 2]) (by simp [results, Try.results21, go_sem]) rfl ?_
    exact ⟨_, _, rfl, TwoW.nil HB1.out, HB1.out⟩
  | true =>
    obtain ⟨hkk, f1, f2, f3, f4, f5⟩ := listed_facts Hq.out
    obtain ⟨b, o, rfl, c0⟩ := (HD.out.below HB1.out).at0 (by omega)
    obtain ⟨x, hx⟩ : ∃ x : Nat, d.getD 0 0 = x := ⟨(d.getD 0 0).toNat, by omega⟩
    rw [hx] at c0 f2 f3 f4
    obtain ⟨n4, hn4⟩ : ∃ n4, d.length = 1 + 4 * n4 := ⟨(d.length - 1) / 4, by omega⟩
    obtain ⟨dn, hdn⟩ : ∃ dn : Nat, (x : Int) = 4 + 4 * dn := ⟨((x : Int) - 4).toNat / 4, by omega⟩
    have hdnS : dnS d = dn := by unfold dnS; rw [hx]; omega
    have hres : RES = (0, wds d 0 dn, wds d dn (n4 - dn)) := by
      rw [← HRES.out, routeS, if_neg (by rw [Hq.out]; decide)]
      show (0, wds d 0 (dnS d), wds d (dnS d) ((d.length - 1) / 4 - dnS d)) = _
      rw [hdnS, show (d.length - 1) / 4 = n4 by omega]
    subst hres
    have hdle : dn ≤ n4 := by omega
    have hn9 : n4 ≤ 9 := by omega
    have HC0 := Lib.hid c0
    have hpos : (0 : Int) < d.length := by omega
    have HRNG := Lib.hid HD.out.rng
    clear hx hkk hdnS c0
    go_wp2_with fail
    go_loopw [5, 6, 7] (fun v5 v6 v7 wr => ∃ i : Nat, i ≤ n4 ∧ v7 = .int .i64 (1 + 4 * (i : Int)) ∧ RtI X1 wr d dn i v5 v6) (fun _ _ v7 _ => 60 - (intOf v7).toNat)
    case atStart => exact ⟨0, by omega, rfl, ⟨⟨X1, Below.refl _ _, Below.refl _ _, by rw [Nat.zero_min]; exact World.ownsRow_nil _ _ _ _, by rw [Nat.zero_sub]; exact World.ownsRow_nil _ _ _ _⟩, fun _ => rfl⟩⟩
    case round =>
      obtain ⟨i, hi, rfl, hI⟩ := hrel
      obtain ⟨V, hV⟩ : ∃ X, X = wr := ⟨_, rfl⟩
      subst hV
      have HI := Lib.hid hI
      have hh := blk_below hI.below HH1.out
      have o0 := blk_cell hh 0
      have o1 := blk_cell hh 1
      simp at o0 o1
      have hl0 := blk_lt hh
      clear hI hh
      by_cases hil : i < n4
      · have t1 : decide (1 + 4 * (i : Int) < d.length) = true := by simp; omega
        have by1 := HD.out.below (HB1.out.trans (HI.out.below.mono HB1.out.size))
        have hw5 : IntKind.i64.wrap (1 + 4 * (i : Int) + 4) = 1 + 4 * (i : Int) + 4 := IntWalk.i64_in _ (by omega)
        have hs1 : (0 : Int) ≤ 1 + 4 * (i : Int) := by omega
        have hs2 : 1 + 4 * (i : Int) ≤ 1 + 4 * (i : Int) + 4 := by omega
        have hs3 : 1 + 4 * (i : Int) + 4 ≤ c := by have := HC.out; omega
        have hcc := kc HI.out.below HC0.out
        have HBY := Lib.hid by1
        clear by1
        go_upto_region 9 with fail
        rw [show 1 + 4 * i + 4 - (1 + 4 * i) = 4 by omega]
        clear hs1 hs2 hs3 hcc hw5
        go_loopw [8, 10, 28] (fun v8 v10 v28 wx => ∃ j : Nat, j ≤ 4 ∧ v28 = .int .i64 j ∧ v8 = .int .u32 (pw d (1 + 4 * i) j) ∧ wx = V) (fun _ _ v _ => 4 - (intOf v).toNat)
        case atStart => exact ⟨0, by omega, rfl, rfl, rfl⟩
        case round =>
          obtain ⟨j, hj, rfl, rfl, hwr⟩ := hrel
          subst hwr
          by_cases hj4 : j < 4
          · have t2 : decide ((j : Int) < 4) = true := by simp; omega
            have q1 := getD_some (d := d) (i := 1 + 4 * i + j) (by omega)
            have hyr := HBY.out.getD (1 + 4 * i + j)
            have hc1 := HBY.out.cell q1
            rw [← Nat.add_assoc] at hc1
            have hp1 : (j : Int) < 4 := by omega
            obtain ⟨y, hy⟩ : ∃ y, d.getD (1 + 4 * i + j) 0 = y := ⟨_, rfl⟩
            rw [hy] at hc1 hyr
            have hpw := pw_lt HRNG.out (1 + 4 * i) hj4
            have hsucc : pw d (1 + 4 * i) (j + 1) = pw d (1 + 4 * i) j * 256 + y := by rw [pw, hy]
            have HSU := Lib.hid hsucc
            obtain ⟨a, ha⟩ : ∃ a, pw d (1 + 4 * i) j = a := ⟨_, rfl⟩
            rw [ha] at hpw HSU ⊢
            have hwa : IntKind.u32.wrap (a * 256) = a * 256 := IntWalk.u32_in _ (by omega)
            have hwy : IntKind.u32.wrap y = y := IntWalk.u32_in _ (by omega)
            have hor := or_byte a y hpw.1 hpw.2 hyr.1 hyr.2
            clear q1 hy hsucc ha
            go_wp2_with fail
            exact ⟨⟨j + 1, by omega, by go_num, by rw [HSU.out], by trivial⟩, by simp [intOf]; omega⟩
          · obtain rfl : j = 4 := by omega
            simp only [show ((4 : Nat) : Int) = 4 from rfl]
            have t2 : decide ((4 : Int) < 4) = false := by simp
            rw [pw_four]
            have hwdr := wd_rng HRNG.out i
            obtain ⟨y, hy⟩ : ∃ y, wd d i = y := ⟨_, rfl⟩
            rw [hy] at hwdr ⊢
            have HWD := Lib.hid hy
            have hw3 : IntKind.i64.wrap (1 + 4 * (i : Int) + 3) = 1 + 4 * (i : Int) + 3 := IntWalk.i64_in _ (by omega)
            have hw4 : IntKind.i64.wrap (1 + 4 * (i : Int) + 4) = 1 + 4 * (i : Int) + 4 := IntWalk.i64_in _ (by omega)
            have hwx : IntKind.i64.wrap (x : Int) = (x : Int) := IntWalk.i64_in _ (by omega)
            have cx := kc HI.out.below HC0.out
            have hbl := cell_lt cx
            replace hbl : b < wr.heap.size := hbl
            have hrow5 := HI.out.row5
            have hrow6 := HI.out.row6
            obtain ⟨A5, c5, hv5⟩ := own_form hrow5
            obtain ⟨A6, c6, hv6⟩ := own_form hrow6
            subst hv5 hv6
            obtain ⟨i0, hi0, hz0, hz1, hz2⟩ := info_parts info40
            have hXV := HI.out.below.size
            have HB1 : Hid (min i dn + 1 ≤ maxLen) := by show _ ≤ _; unfold maxLen; omega
            have HB2 : Hid ((min i dn + 1) * 4 ≤ 140737488355328) := by show _ ≤ _; omega
            have HB3 : Hid (X1.heap.size ≤ (wr.alloc (.cells #[.int .u32 y] 40)).heap.size) := by show _ ≤ _; simp; omega
            clear hy
            by_cases hid : i < dn
            · have t3 : decide (1 + 4 * (i : Int) + 3 < (x : Int)) = true := by simp; omega
              have HR := Lib.hid hrow5
              have HP := Lib.hid (fun (w3 : World) (v' : Value) (hg : (wr.alloc (.cells #[.int .u32 y] 40)).grownBy w3 (Value.slice A5 (min i dn) c5).ownBlock) (hr : w3.ownsRow X1.heap.size 40 1 v' (min i dn + 1) ((wds d 0 (min i dn)).map (Value.int .u32) ++ [.int .u32 y])) =>
                RtI.done HI.out hid hg (by rw [HWD.out]; exact hr))
              clear hrow5 hrow6
              go_wp2_with (at_builtin; refine wpList_append_own _ rfl _ _ 42 rfl X1.heap.size 40 i0 (.int .u32 0) 1 4 Try.underlying42 hi0 hz0 hz1 hz2 rfl (by decide) _ _ _ rfl (HR.out.alloc _) ⟨wr.heap.size, 0, none⟩ 1 1 [.int .u32 y] rfl rfl (cell_one_new _ _ _) (by simp [Value.oneCell']) HB1.out HB2.out HB3.out ?_; intro v3 w3 hown3 hgrow3 hnil3; obtain ⟨g3, cap3, rfl⟩ := ownsRow_succ hown3; have HS3 := Lib.hid (HP.out w3 _ hgrow3 hown3); clear hown3 hgrow3 hnil3)
              exact ⟨⟨i + 1, by omega, by go_num, HS3.out⟩, by simp [intOf]; omega⟩
            · have t3 : decide (1 + 4 * (i : Int) + 3 < (x : Int)) = false := by simp; omega
              obtain ⟨Z, z1, z2, z3, z4⟩ := HI.out.ex
              have HR := Lib.hid z4
              have HB1 : Hid (i - dn + 1 ≤ maxLen) := by show _ ≤ _; unfold maxLen; omega
              have HB2 : Hid ((i - dn + 1) * 4 ≤ 140737488355328) := by show _ ≤ _; omega
              have HB3 : Hid (Z.heap.size ≤ (wr.alloc (.cells #[.int .u32 y] 40)).heap.size) := by show _ ≤ _; have := z2.size; simp; omega
              have HP := Lib.hid (fun (w3 : World) (v' : Value) (hg : (wr.alloc (.cells #[.int .u32 y] 40)).grownBy w3 (Value.slice A6 (i - dn) c6).ownBlock) (hr : w3.ownsRow Z.heap.size 40 1 v' (i - dn + 1) ((wds d dn (i - dn)).map (Value.int .u32) ++ [.int .u32 y])) =>
                RtI.left HI.out (by omega) z1 z2 z3 z4 hg (by rw [HWD.out]; exact hr))
              clear hrow5 hrow6 z1 z2 z3 z4
              go_wp2_with (at_builtin; refine wpList_append_own _ rfl _ _ 42 rfl Z.heap.size 40 i0 (.int .u32 0) 1 4 Try.underlying42 hi0 hz0 hz1 hz2 rfl (by decide) _ _ _ rfl (HR.out.alloc _) ⟨wr.heap.size, 0, none⟩ 1 1 [.int .u32 y] rfl rfl (cell_one_new _ _ _) (by simp [Value.oneCell']) HB1.out HB2.out HB3.out ?_; intro v3 w3 hown3 hgrow3 hnil3; obtain ⟨g3, cap3, rfl⟩ := ownsRow_succ hown3; have HS3 := Lib.hid (HP.out w3 _ hgrow3 hown3); clear hown3 hgrow3 hnil3)
              exact ⟨⟨i + 1, by omega, by go_num, HS3.out⟩, by simp [intOf]; omega⟩
      · obtain rfl : i = n4 := by omega
        have t1 : decide (1 + 4 * (i : Int) < d.length) = false := by simp; omega
        go_wp2_with fail
        refine bodyPost_ret (v := .tuple #[u5, u6, .int .i64 0]) (by simp [results, Try.results21, go_sem]) rfl ?_
        exact ⟨_, _, rfl, HI.out.two hdle HB1.out, HB1.out.trans (HI.out.below.mono HB1.out.size)⟩

end Go.Proofs.Ytjfnnclbfaakkaa

/-
  The contract of the reference's Read. Conditions: the bytes lie.
-/
import Derived.Test.YtjfnnclbfaakkaaExc
import Derived.BigQuiet
import Derived.BigRegion
import Derived.Deep.CutBlock
namespace Go.Proofs.Ytjfnnclbfaakkaa
open Go.RowKit
set_option linter.unusedVariables false
set_option linter.unusedSimpArgs false

theorem info80 : (Try.prog.info? 80).map (fun i => (i.zero, i.size, i.bytes)) = some (some (.agg #[.int .u8 0, .slice none 0 0]), 2, 32) := by kernel_rfl
/-- While the data are appended. -/
structure DtR (X2 : World) (b9 : Nat) (kd : Int) (d : List Int) (v : Value) (wx : World) : Prop where
  obj : wx.heap[b9]? = some (.cells #[.int .u8 kd, v] 80 (0, 0))
  row : wx.ownsRow X2.heap.size 5 1 v d.length (d.map (Value.int .u8))
  keep : Keep (fun b => b ≠ b9) X2 wx
theorem DtR.grow {X2 wx Y : World} {b9 : Nat} {kd : Int} {d : List Int} {v : Value} (h : DtR X2 b9 kd d v wx) (hb : Below wx.heap.size wx Y) : DtR X2 b9 kd d v Y :=
  ⟨blk_below hb h.obj, own_below h.row hb, h.keep.trans (Keep.of_below hb)⟩
theorem DtR.step {X2 Y w3 : World} {b9 : Nat} {kd : Int} {d : List Int} {y : Int} {v v' : Value} (h : DtR X2 b9 kd d v Y) (hb9 : b9 < X2.heap.size) (hg : Y.grownBy w3 v.ownBlock)
    (hr : w3.ownsRow X2.heap.size 5 1 v' (d.length + 1) (d.map (Value.int .u8) ++ [.int .u8 y])) :
    w3.heap[b9]? = some (.cells #[.int .u8 kd, v] 80 (0, 0)) ∧ DtR X2 b9 kd (d ++ [y]) v' (w3.setCell ⟨b9, 1, none⟩ v') := by
  have hv : ∀ g, v.ownBlock = some g → X2.heap.size ≤ g := fun g e => (h.row.lt g e).1
  have ho3 : w3.heap[b9]? = some (.cells #[.int .u8 kd, v] 80 (0, 0)) := (hg.block b9 (blk_lt h.obj) (fun e => by have := hv b9 e.symm; omega)).trans h.obj
  refine ⟨ho3, ?_, ?_, ?_⟩
  · have := blk_set ho3 1 v'
    simpa using this
  · have h1 : w3.ownsRow X2.heap.size 5 1 v' (d ++ [y]).length ((d ++ [y]).map (Value.int .u8)) := by
      rw [List.map_append, List.length_append]
      exact hr
    exact own_of_block h1 fun g hg' _ _ => Below.heap_setCell _ _ _ _ (by show g ≠ b9; omega)
  · have k1 : Keep (fun b => b ≠ b9 ∧ b < X2.heap.size) X2 w3 := (h.keep.mono fun b h => h.1).grown hg fun g e hh => by have := hv g e; omega
    have k2 := k1.setCell (b := b9) (by simp) 1 v'
    exact ⟨k2.frame, fun b hb hlt => k2.low b ⟨hb, hlt⟩ hlt⟩
/-- The region's operations behind the alloc of the byte. -/
def PRR (y : Int) (vals : List Value) : Nat → Value → World → Prop
  | 6, v, W => ∃ b, v = .slice (some ⟨b, 0, none⟩) 1 1 ∧ W.heap[b]? = some (.cells #[.int .u8 y] 5 (0, 0))
  | i, v, _ => v = vals.getD i undef
theorem PRR.below {y : Int} {vals : List Value} (i : Nat) (v : Value) (X Y : World) (h : PRR y vals i v X) (hb : Below X.heap.size X Y) : PRR y vals i v Y := by
  by_cases h8 : i = 6
  · subst h8
    obtain ⟨b, e, h⟩ := h
    exact ⟨b, e, blk_below hb h⟩
  · unfold PRR at h ⊢
    split at h <;> first | contradiction | exact h
theorem one_cell {w : World} {b : Nat} {x : Value} {t : TypeId} (h : w.heap[b]? = some (.cells #[x] t (0, 0))) : ∀ j u, [x][j]? = some u → w.cell? ((⟨b, 0, none⟩ : Addr).add j) = some u := by
  intro j u hj
  rw [Go.WideShapes.add_plain]
  match j, hj with
  | 0, hj =>
    simp at hj
    subst hj
    exact blk_cell h 0

theorem By.of_own3 {w : World} {base n c : Nat} {e : TypeId} {A : Option Addr} {d : List Int} (h : w.ownsRow base e 1 (.slice A n c) n (d.map (Value.int .u8))) (hn : n = d.length) (hr : ∀ x ∈ d, 0 ≤ x ∧ x ≤ 255) : By w A d ∧ n ≤ c ∧ c ≤ maxLen := by
  subst hn
  obtain ⟨A', c', e, h1, h2, h3⟩ := By.of_own' h hr
  cases e
  exact ⟨h3, h1, h2⟩
/-- Between the rounds of Read. -/
structure RrI (RES : Int × List Op1) (bs : List Int) (i : Nat) (acc : List Op1) : Prop where
  len : acc.length ≤ i
  ex : ∃ f, (bs.drop i).length ≤ f ∧ RES = fd acc (yl f (bs.drop i))
theorem RrI.stop {RES : Int × List Op1} {bs : List Int} {i : Nat} {acc : List Op1} (h : RrI RES bs i acc) (hi : bs.length ≤ i) : RES = (0, acc) := by
  obtain ⟨f, h1, h2⟩ := h.ex
  rw [h2, List.drop_of_length_le hi]
  cases f <;> simp [yl, fd]
theorem drop_cons {bs : List Int} {i : Nat} (hi : i < bs.length) : bs.drop i = bs.getD i 0 :: bs.drop (i + 1) := by
  rw [List.drop_eq_getElem_cons hi]
  congr 1
  rw [List.getD_eq_getElem?_getD, List.getElem?_eq_getElem hi]
  rfl
theorem RrI.fuel {RES : Int × List Op1} {bs : List Int} {i : Nat} {acc : List Op1} (h : RrI RES bs i acc) (hi : i < bs.length) : ∃ f, (bs.drop (i + 1)).length ≤ f ∧ RES = fd acc (yl (f + 1) (bs.getD i 0 :: bs.drop (i + 1))) := by
  obtain ⟨f, h1, h2⟩ := h.ex
  rw [drop_cons hi] at h1 h2
  simp only [List.length_cons] at h1
  obtain ⟨f, rfl⟩ : ∃ g, f = g + 1 := ⟨f - 1, by omega⟩
  exact ⟨f, by omega, h2⟩
theorem RrI.tail {RES : Int × List Op1} {bs : List Int} {i j : Nat} {acc : List Op1} (h : RrI RES bs i acc) (hi : i < bs.length) (h0 : bs.getD i 0 = 0) (hj : i < j) (hjn : j < bs.length) (hnz : 0 < bs.getD j 0) : RES = (62, []) := by
  obtain ⟨f, h1, h2⟩ := h.fuel hi
  rw [h2, h0]
  conv => lhs; rw [show yl (f + 1) (0 :: bs.drop (i + 1)) = if 0 < mx 0 (bs.drop (i + 1)) then [(62, (0, []))] else [] by conv => lhs; unfold yl; rw [if_pos rfl]]
  have hm := (mx_ge (bs.drop (i + 1)) 0).2 (bs.getD j 0) (by
    rw [List.mem_iff_getElem?]
    refine ⟨j - (i + 1), ?_⟩
    rw [List.getElem?_drop, show i + 1 + (j - (i + 1)) = j by omega]
    exact getD_some hjn)
  rw [if_pos (by omega), fd_err _ _ _ _ (by decide)]
theorem RrI.zeros {RES : Int × List Op1} {bs : List Int} {i : Nat} {acc : List Op1} (h : RrI RES bs i acc) (hi : i < bs.length) (h0 : bs.getD i 0 = 0) (hz : ∀ j, i < j → j < bs.length → bs.getD j 0 = 0) : RES = (0, acc) := by
  obtain ⟨f, h1, h2⟩ := h.fuel hi
  rw [h2, h0, show yl (f + 1) (0 :: bs.drop (i + 1)) = if 0 < mx 0 (bs.drop (i + 1)) then [(62, (0, []))] else [] by conv => lhs; unfold yl; rw [if_pos rfl]]
  rw [mx_zeros _ 0 (by decide) fun x hx => ?_, if_neg (by decide), fd]
  obtain ⟨k, hk⟩ := List.getElem?_of_mem hx
  rw [List.getElem?_drop] at hk
  have hlt := (List.getElem?_eq_some_iff.1 hk).1
  have := hz (i + 1 + k) (by omega) hlt
  rw [List.getD_eq_getElem?_getD, hk] at this
  exact this
theorem RrI.nop {RES : Int × List Op1} {bs : List Int} {i : Nat} {acc : List Op1} (h : RrI RES bs i acc) (hi : i < bs.length) (h1 : bs.getD i 0 = 1) : RrI RES bs (i + 1) (acc ++ [(1, [])]) := by
  obtain ⟨f, h2, h3⟩ := h.fuel hi
  refine ⟨by simp; have := h.len; omega, f, h2, ?_⟩
  rw [h3, h1, show yl (f + 1) (1 :: bs.drop (i + 1)) = (0, (1, [])) :: yl f (bs.drop (i + 1)) by conv => lhs; unfold yl; rw [if_neg (by decide), if_pos rfl]]
  exact fd_ok acc (1, []) _ (.inl rfl)
theorem RrI.cut1 {RES : Int × List Op1} {bs : List Int} {i : Nat} {acc : List Op1} (h : RrI RES bs i acc) (hi : i + 1 = bs.length) (h0 : bs.getD i 0 ≠ 0) (h1 : bs.getD i 0 ≠ 1) : RES = (60, []) := by
  obtain ⟨f, h2, h3⟩ := h.fuel (by omega)
  rw [h3, List.drop_of_length_le (by omega), show yl (f + 1) [bs.getD i 0] = [(60, (0, []))] by unfold yl; rw [if_neg h0, if_neg h1]]
  exact fd_err _ _ _ _ (by decide)
theorem RrI.two {RES : Int × List Op1} {bs : List Int} {i : Nat} {acc : List Op1} (h : RrI RES bs i acc) (hi : i + 1 < bs.length) (h0 : bs.getD i 0 ≠ 0) (h1 : bs.getD i 0 ≠ 1) : ∃ f, (bs.drop (i + 2)).length ≤ f ∧
    RES = fd acc (if bs.getD (i + 1) 0 < 2 then [(61, (0, []))] else if ((bs.drop (i + 2)).length : Int) + 2 < bs.getD (i + 1) 0 then [(60, (0, []))] else if rightS (bs.getD i 0, (bs.drop (i + 2)).take (bs.getD (i + 1) 0 - 2).toNat) then (0, (bs.getD i 0, (bs.drop (i + 2)).take (bs.getD (i + 1) 0 - 2).toNat)) :: yl f ((bs.drop (i + 2)).drop (bs.getD (i + 1) 0 - 2).toNat) else [(61, (bs.getD i 0, (bs.drop (i + 2)).take (bs.getD (i + 1) 0 - 2).toNat))]) := by
  obtain ⟨f, h2, h3⟩ := h.fuel (by omega)
  rw [drop_cons hi] at h2 h3
  refine ⟨f, by simp only [List.length_cons] at h2; rw [show i + 2 = i + 1 + 1 from rfl]; omega, ?_⟩
  rw [h3]
  congr 1
  conv => lhs; unfold yl
  rw [if_neg h0, if_neg h1]
theorem RrI.short {RES : Int × List Op1} {bs : List Int} {i : Nat} {acc : List Op1} (h : RrI RES bs i acc) (hi : i + 1 < bs.length) (h0 : bs.getD i 0 ≠ 0) (h1 : bs.getD i 0 ≠ 1) (h2 : bs.getD (i + 1) 0 < 2) : RES = (61, []) := by
  obtain ⟨f, _, e⟩ := h.two hi h0 h1
  rw [e, if_pos h2, fd_err _ _ _ _ (by decide)]
theorem RrI.cut2 {RES : Int × List Op1} {bs : List Int} {i : Nat} {acc : List Op1} (h : RrI RES bs i acc) (hi : i + 1 < bs.length) (h0 : bs.getD i 0 ≠ 0) (h1 : bs.getD i 0 ≠ 1) (h2 : ¬ bs.getD (i + 1) 0 < 2) (h3 : (bs.length : Int) < i + bs.getD (i + 1) 0) : RES = (60, []) := by
  obtain ⟨f, _, e⟩ := h.two hi h0 h1
  rw [e, if_neg h2, if_pos (by rw [List.length_drop]; omega), fd_err _ _ _ _ (by decide)]
theorem RrI.opt {RES : Int × List Op1} {bs : List Int} {i m : Nat} {acc : List Op1} (h : RrI RES bs i acc) (hi : i + 1 < bs.length) (h0 : bs.getD i 0 ≠ 0) (h1 : bs.getD i 0 ≠ 1) (hm : bs.getD (i + 1) 0 = (m : Int) + 2) (h3 : i + 2 + m ≤ bs.length) :
    (rightS (bs.getD i 0, (bs.drop (i + 2)).take m) = false → RES = (61, [])) ∧
    (rightS (bs.getD i 0, (bs.drop (i + 2)).take m) = true → (acc.any fun p => exB p.1 (bs.getD i 0)) = true → RES = (63, [])) ∧
    (rightS (bs.getD i 0, (bs.drop (i + 2)).take m) = true → (acc.any fun p => exB p.1 (bs.getD i 0)) = false → RrI RES bs (i + 2 + m) (acc ++ [(bs.getD i 0, (bs.drop (i + 2)).take m)])) := by
  obtain ⟨f, hf, e⟩ := h.two hi h0 h1
  have em : ((m : Int) + 2 - 2).toNat = m := by omega
  rw [hm, em, if_neg (by omega), if_neg (by rw [List.length_drop]; omega)] at e
  refine ⟨fun hr => ?_, fun hr hx => ?_, fun hr hx => ?_⟩
  · rw [e, if_neg (by rw [hr]; decide), fd_err _ _ _ _ (by decide)]
  · rw [e, if_pos hr]
    rw [ex_any, Bool.and_eq_true, decide_eq_true_eq] at hx
    rw [fd, if_neg (by decide), if_pos hx]
  · rw [if_pos hr] at e
    refine ⟨by simp; have := h.len; omega, f, ?_, ?_⟩
    · rw [List.length_drop] at hf ⊢
      omega
    · rw [e, fd, if_neg (by decide), if_neg, List.drop_drop]
      rw [ex_any, Bool.and_eq_false_iff, decide_eq_false_iff_not] at hx
      rintro ⟨h1, h2⟩
      rcases hx with hx | hx
      · exact hx h1
      · simp only at h2
        rw [hx] at h2
        cases h2

set_option maxRecDepth 100000 in
set_option maxHeartbeats 8000000 in
theorem refRead_any (bs : List Int) (A : Option Addr) (c : Nat) (w : World) (hd : By w A bs) :
    Calls Try.prog 29 #[.slice A bs.length c] w fun e w' => ∃ A2 c2, e = .returned (.tuple #[.slice A2 (readS bs).2.length c2, .int .i64 (readS bs).1]) ∧ Ops w' A2 (readS bs).2 ∧ (readS bs).2.length ≤ c2 ∧ c2 ≤ maxLen ∧ Below w.heap.size w w' := by
  obtain ⟨n, hN⟩ : ∃ n, bs.length = n := ⟨_, rfl⟩
  rw [hN]
  obtain ⟨RES, hRES⟩ : ∃ r, readS bs = r := ⟨_, rfl⟩
  rw [hRES]
  have HN := Lib.hid hN
  have HD := Lib.hid hd
  by_cases h40 : 40 < n
  · have t1 : decide ((40 : Int) < n) = true := by simp; omega
    have hres : RES = (3, []) := by rw [← hRES, readS, if_pos (by rw [hN]; exact h40)]
    subst hres
    clear hN hd hRES
    go_enter Try.func29, Try.ntmps29
    go_wp2_with fail
    refine bodyPost_ret (v := .tuple #[.slice none 0 0, .int .i64 3]) (by simp [results, Try.results29, go_sem]) rfl ?_
    exact ⟨_, _, rfl, Ops.nil _ _, by simp, by simp, Below.refl _ _⟩
  have t1 : decide ((40 : Int) < n) = false := by simp; omega
  have hrr : RrI RES bs 0 [] := ⟨by simp, bs.length, by simp, by rw [← hRES, readS, if_neg (by rw [hN]; exact h40)]; rfl⟩
  have HRR := Lib.hid hrr
  clear hN hd hRES hrr
  go_enter Try.func29, Try.ntmps29
  go_wp2_with fail
  clear t1
  go_loopw [4, 5] (fun v4 v5 wx => ∃ (i : Nat) (css : List (List Value)) (acc : List Op1), i ≤ n ∧ v5 = .int .i64 i ∧ GotR w.heap.size wx v4 css acc ∧ Below w.heap.size w wx ∧ RrI RES bs i acc) (fun _ v _ => n - (intOf v).toNat)
  case atStart => exact ⟨0, [], [], by omega, rfl, GotR.nil _ _, Below.refl _ _, HRR.out⟩
  case round =>
    obtain ⟨i, css, acc, hi, rfl, hG, hB, hI⟩ := hrel
    have HG := Lib.hid hG
    have HB := Lib.hid hB
    have HI := Lib.hid hI
    have HDV := Lib.hid (HD.out.below hB)
    obtain ⟨A4, c4, hv4⟩ := own_form hG.row
    subst hv4
    have hacl := hI.len
    clear hG hB hI
    by_cases hil : i < n
    · have q0 := getD_some (d := bs) (i := i) (by rw [HN.out]; exact hil)
      obtain ⟨b, o, rfl, hbl⟩ := HDV.out.pos (by rw [HN.out]; omega)
      have c0 := HDV.out.cell q0
      have hk := HDV.out.getD i
      obtain ⟨k, hk'⟩ : ∃ k, bs.getD i 0 = k := ⟨_, rfl⟩
      rw [hk'] at c0 hk
      have HK := Lib.hid hk'
      have t1 : decide ((i : Int) < n) = true := by simp; omega
      have hpos : (i : Int) < n := by omega
      have hbl : b < wr.heap.size := cell_lt c0
      clear q0 hk'
      by_cases k0 : k = 0
      · subst k0
        have hw1 : IntKind.i64.wrap ((i : Int) + 1) = (i : Int) + 1 := IntWalk.i64_in _ (by omega)
        go_upto_region 8 with fail
        obtain ⟨V, hV⟩ : ∃ X, X = wr := ⟨_, rfl⟩
        subst hV
        go_loopw [6] (fun v6 wx => ∃ j : Nat, i < j ∧ j ≤ n ∧ v6 = .int .i64 j ∧ (∀ j', i < j' → j' < j → bs.getD j' 0 = 0) ∧ wx = V) (fun v _ => n - (intOf v).toNat)
        case atStart => exact ⟨i + 1, by omega, by omega, by simp, fun j' h1 h2 => by omega, rfl⟩
        case round =>
          obtain ⟨j, hj1, hj2, rfl, hz, hwr⟩ := hrel
          subst hwr
          have HZ := Lib.hid hz
          clear hz
          by_cases hjl : j < n
          · have q1 := getD_some (d := bs) (i := j) (by rw [HN.out]; exact hjl)
            have c1 := HDV.out.cell q1
            have hy := HDV.out.getD j
            obtain ⟨y, hy'⟩ : ∃ y, bs.getD j 0 = y := ⟨_, rfl⟩
            rw [hy'] at c1 hy
            have HY := Lib.hid hy'
            have t2 : decide ((j : Int) < n) = true := by simp; omega
            have t2' : decide (j < n) = true := by simp; omega
            have hposj : (j : Int) < n := by omega
            clear q1 hy'
            by_cases hy0 : y = 0
            · subst hy0
              go_wp2_with fail
              exact ⟨⟨j + 1, by omega, by omega, by go_num, fun j' h1 h2 => by
                by_cases hjj : j' < j
                · exact HZ.out j' h1 hjj
                · obtain rfl : j' = j := by omega
                  exact HY.out, by trivial⟩, by simp [intOf]; omega⟩
            · have e1 : (y != 0) = true := by simpa using hy0
              have hres : RES = (62, []) := HI.out.tail (by rw [HN.out]; exact hil) HK.out hj1 (by rw [HN.out]; exact hjl) (by rw [HY.out]; omega)
              subst hres
              clear hy0
              go_wp2_with fail
              refine bodyPost_ret (v := .tuple #[.slice none 0 0, .int .i64 62]) (by simp [results, Try.results29, go_sem]) rfl ?_
              first | exact ⟨_, _, rfl, Ops.nil _ _, by simp, by simp, HB.out⟩ | exact ⟨_, _, rfl, Ops.nil _ _, by simp, HB.out⟩
          · obtain rfl : j = n := by omega
            have t2 : decide ((j : Int) < j) = false := by simp
            have t2' : decide (j < j) = false := by simp
            have hres : RES = (0, acc) := HI.out.zeros (by rw [HN.out]; exact hil) HK.out fun j' h1 h2 => HZ.out j' h1 (by rw [← HN.out]; exact h2)
            subst hres
            obtain ⟨A5, c5, e5, h5a, h5b, hO⟩ := HG.out.ops
            cases e5
            have HO := Lib.hid hO
            clear hO
            go_wp2_with fail
            refine bodyPost_ret (v := .tuple #[.slice A4 acc.length c4, .int .i64 0]) (by simp [results, Try.results29, go_sem]) rfl ?_
            exact ⟨_, _, rfl, HO.out, h5a, h5b, HB.out⟩
      have b0 : (k == 0) = false := by simpa using k0
      have HR4 := Lib.hid HG.out.row
      obtain ⟨i0, hi0, hz0, hz1, hz2⟩ := info_parts info80
      have HM1 : Hid (acc.length + 1 ≤ maxLen) := by show _ ≤ _; unfold maxLen; omega
      have HM2 : Hid ((acc.length + 1) * 32 ≤ 140737488355328) := by show _ ≤ _; omega
      by_cases k1 : k = 1
      · subst k1
        have hin := HI.out.nop (by rw [HN.out]; exact hil) HK.out
        have HIN := Lib.hid hin
        have HM3 : Hid (w.heap.size ≤ (wr.alloc (.cells #[.int .u8 1, .slice none 0 0] 80)).heap.size) := by show _ ≤ _; have := HB.out.size; simp; omega
        have H1 : Hid (∀ u ∈ [Value.int .u8 1, .slice none 0 0], u.oneCell' = true) := by show ∀ u ∈ _, _; simp [Value.oneCell']
        have HP := Lib.hid (fun (w3 : World) (v' : Value) (hg : (wr.alloc (.cells #[.int .u8 1, .slice none 0 0] 80)).grownBy w3 (Value.slice A4 acc.length c4).ownBlock) (hr : w3.ownsRow w.heap.size 80 2 v' (acc.length + 1) (css.flatten ++ [.int .u8 1, .slice none 0 0])) =>
          (⟨GotR.push HG.out hg (o := (1, [])) ⟨by decide, by simp, _, rfl, World.ownsRow_nil _ _ _ _⟩ hr, (HB.out.alloc HB.out.size _).grown hg (by simp; have := HB.out.size; omega) fun g e => (HG.out.row.lt g e).1⟩ : GotR w.heap.size w3 v' (css ++ [[.int .u8 1, .slice none 0 0]]) (acc ++ [(1, [])]) ∧ Below w.heap.size w w3))
        have hw1 : IntKind.i64.wrap ((i : Int) + 1) = (i : Int) + 1 := IntWalk.i64_in _ (by omega)
        clear hin
        go_wp2_with (at_builtin; refine wpList_append_own _ rfl _ _ 60 rfl w.heap.size 80 i0 (.agg #[.int .u8 0, .slice none 0 0]) 2 32 Try.underlying60 hi0 hz0 hz1 hz2 rfl (by decide) _ _ _ rfl (HR4.out.alloc _) ⟨wr.heap.size, 0, none⟩ 1 1 [.int .u8 1, .slice none 0 0] rfl rfl (cell_two_new _ _ _ _) H1.out HM1.out HM2.out HM3.out ?_; intro v3 w3 hown3 hgrow3 hnil3; obtain ⟨g3, cap3, rfl⟩ := ownsRow_succ hown3; have HS3 := Lib.hid (HP.out w3 _ hgrow3 hown3); clear hown3 hgrow3 hnil3)
        exact ⟨⟨i + 1, _, _, by omega, by go_num, HS3.out.1, HS3.out.2, HIN.out⟩, by simp [intOf]; omega⟩
      have b1 : (k == 1) = false := by simpa using k1
      have hw1 : IntKind.i64.wrap ((i : Int) + 1) = (i : Int) + 1 := IntWalk.i64_in _ (by omega)
      by_cases hi1 : i + 1 = n
      · have e1 : ((i : Int) + 1 == n) = true := by simp; omega
        have hres : RES = (60, []) := HI.out.cut1 (by rw [HN.out]; exact hi1) (by rw [HK.out]; exact k0) (by rw [HK.out]; exact k1)
        subst hres
        go_wp2_with fail
        refine bodyPost_ret (v := .tuple #[.slice none 0 0, .int .i64 60]) (by simp [results, Try.results29, go_sem]) rfl ?_
        first | exact ⟨_, _, rfl, Ops.nil _ _, by simp, by simp, HB.out⟩ | exact ⟨_, _, rfl, Ops.nil _ _, by simp, HB.out⟩
      have e1 : ((i : Int) + 1 == n) = false := by simp; omega
      have q1 := getD_some (d := bs) (i := i + 1) (by rw [HN.out]; omega)
      have c1 := HDV.out.cell q1
      have hm := HDV.out.getD (i + 1)
      obtain ⟨m2, hm'⟩ : ∃ m2, bs.getD (i + 1) 0 = m2 := ⟨_, rfl⟩
      rw [hm'] at c1 hm
      have HM := Lib.hid hm'
      have hpos1 : (i : Int) + 1 < n := by omega
      have hpos10 : (0 : Int) ≤ (i : Int) + 1 := by omega
      have hwm : IntKind.i64.wrap m2 = m2 := IntWalk.i64_in _ (by omega)
      have hwi : IntKind.i64.wrap ((i : Int) + m2) = (i : Int) + m2 := IntWalk.i64_in _ (by omega)
      clear q1 hm'
      by_cases hm2 : m2 < 2
      · have t2 : decide (m2 < 2) = true := by simpa using hm2
        have hres : RES = (61, []) := HI.out.short (by rw [HN.out]; omega) (by rw [HK.out]; exact k0) (by rw [HK.out]; exact k1) (by rw [HM.out]; exact hm2)
        subst hres
        go_wp2_with fail
        refine bodyPost_ret (v := .tuple #[.slice none 0 0, .int .i64 61]) (by simp [results, Try.results29, go_sem]) rfl ?_
        first | exact ⟨_, _, rfl, Ops.nil _ _, by simp, by simp, HB.out⟩ | exact ⟨_, _, rfl, Ops.nil _ _, by simp, HB.out⟩
      have t2 : decide (m2 < 2) = false := by simpa using hm2
      by_cases hin : (n : Int) < i + m2
      · have t3 : decide ((n : Int) < i + m2) = true := by simpa using hin
        have hres : RES = (60, []) := HI.out.cut2 (by rw [HN.out]; omega) (by rw [HK.out]; exact k0) (by rw [HK.out]; exact k1) (by rw [HM.out]; exact hm2) (by rw [HN.out, HM.out]; exact hin)
        subst hres
        go_wp2_with fail
        refine bodyPost_ret (v := .tuple #[.slice none 0 0, .int .i64 60]) (by simp [results, Try.results29, go_sem]) rfl ?_
        first | exact ⟨_, _, rfl, Ops.nil _ _, by simp, by simp, HB.out⟩ | exact ⟨_, _, rfl, Ops.nil _ _, by simp, HB.out⟩
      have t3 : decide ((n : Int) < i + m2) = false := by simpa using hin
      obtain ⟨m, hmm⟩ : ∃ m : Nat, m2 = (m : Int) + 2 := ⟨(m2 - 2).toNat, by omega⟩
      subst hmm
      obtain ⟨hop1, hop2, hop3⟩ := HI.out.opt (m := m) (by rw [HN.out]; omega) (by rw [HK.out]; exact k0) (by rw [HK.out]; exact k1) HM.out (by rw [HN.out]; omega)
      rw [HK.out] at hop1 hop2 hop3
      have HO1 := Lib.hid hop1
      have HO2 := Lib.hid hop2
      have HO3 := Lib.hid hop3
      clear hop1 hop2 hop3
      have hw2 : IntKind.i64.wrap ((i : Int) + 2) = (i : Int) + 2 := IntWalk.i64_in _ (by omega)
      obtain ⟨X1, hX1⟩ : ∃ X, wr.alloc (Obj.cells #[Value.int IntKind.u8 k, Value.slice none 0 0] 80) = X := ⟨_, rfl⟩
      have hbX : Below wr.heap.size wr X1 := by rw [← hX1]; exact (Below.refl _ _).alloc (Nat.le_refl _) _
      have h8 : X1.heap[wr.heap.size]? = some (.cells #[.int .u8 k, .slice none 0 0] 80 (0, 0)) := by rw [← hX1]; exact heap_alloc_last _ _
      have HX1 := Lib.hid hX1
      have HBX := Lib.hid hbX
      have H8 := Lib.hid h8
      clear hX1 hbX h8
      go_upto_region 24 with fail
      rw [HX1.out]
      obtain ⟨b8, hb8⟩ : ∃ b8, wr.heap.size = b8 := ⟨_, rfl⟩
      have hb8l := blk_lt H8.out
      rw [hb8] at H8 hb8l ⊢
      have HB8 := Lib.hid hb8
      have hbb8 : b < b8 := by omega
      obtain ⟨D, hD⟩ : ∃ D, (bs.drop (i + 2)).take m = D := ⟨_, rfl⟩
      have hDl : D.length = m := by rw [← hD, List.length_take, List.length_drop, HN.out]; omega
      have hDg : ∀ j, j < m → bs.getD (i + 2 + j) 0 = D.getD j 0 := fun j hj => by
        rw [← hD, List.getD_eq_getElem?_getD, List.getD_eq_getElem?_getD, List.getElem?_take, if_pos hj, List.getElem?_drop]
      have hDr : ∀ x ∈ D, 0 ≤ x ∧ x ≤ 255 := fun x hx => by rw [← hD] at hx; exact HDV.out.rng x (List.mem_of_mem_drop (List.mem_of_mem_take hx))
      rw [hD] at HO1 HO2 HO3
      have HDG := Lib.hid hDg
      have HDL := Lib.hid hDl
      have HDR := Lib.hid hDr
      have HBX1 := Lib.hid (HB.out.trans (HBX.out.mono HB.out.size))
      have hinm : i + 2 + m ≤ n := by omega
      clear hD hDg hDl hDr hb8 t1 t2 t3 b0 b1 e1 hwm hpos1 hpos10 c0 c1 k0 k1 hm2 hin
      go_upto_region 25 with fail
      go_loopw [9] (fun v9 wx => ∃ (j : Nat) (v : Value), j ≤ m ∧ v9 = .int .i64 ((i : Int) + 2 + j) ∧ DtR X1 b8 k (D.take j) v wx) (fun v _ => ((i : Int) + 2 + m - intOf v).toNat)
      case atStart => exact ⟨0, _, by omega, by simp, ⟨H8.out, by rw [List.take_zero]; exact World.ownsRow_nil _ _ _ _, Keep.refl _ _⟩⟩
      case round =>
        obtain ⟨j, v, hj, rfl, hT⟩ := hrel
        have HT := Lib.hid hT
        have htl : (D.take j).length = j := by rw [List.length_take, HDL.out]; omega
        have hrow := hT.row
        rw [htl] at hrow
        obtain ⟨Av, cv, hv⟩ := own_form hrow
        subst hv
        by_cases hjm : j < m
        · have t2 : decide ((i : Int) + 2 + j < (i : Int) + ((m : Int) + 2)) = true := by simp; omega
          have q1 := getD_some (d := bs) (i := i + 2 + j) (by rw [HN.out]; omega)
          have hyr := HDV.out.getD (i + 2 + j)
          have cc0 := HDV.out.cell q1
          have hdg := HDG.out j hjm
          obtain ⟨y, hy⟩ : ∃ y, bs.getD (i + 2 + j) 0 = y := ⟨_, rfl⟩
          rw [hy] at cc0 hyr hdg
          have hsn : D.take (j + 1) = D.take j ++ [y] := by rw [List.take_add_one, getD_some (by rw [HDL.out]; exact hjm), ← hdg]; rfl
          have HSN := Lib.hid hsn
          have cy := hT.keep.cell (show b ≠ b8 by omega) (kc HBX.out cc0)
          have hbw : b < wr.heap.size := cell_lt cy
          have k1 := blk_cell hT.obj 1
          simp at k1
          have hl8 := blk_lt hT.obj
          have HROW := Lib.hid hrow
          have hpj : (i : Int) + 2 + j < n := by omega
          have hpj0 : (0 : Int) ≤ (i : Int) + 2 + j := by omega
          have hnt : ((i : Int) + 2 + j).toNat = i + 2 + j := by omega
          clear hT hrow q1 hy hdg hsn cc0
          go_upto_region 27 with fail
          refine wp_region_steps 7 [[], [0], [], [], [2, 3], [4], [5]] (fun D a w' => ∃ g : Nat → Value, a = ⟨#[.slice (some ⟨b, o, none⟩) n c, undef, u2, u3, .slice A4 acc.length c4, .int .i64 i, u6, .int .i64 (m + 2), .pointer (some ⟨b8, 0, none⟩), .int .i64 (i + 2 + j), .slice (some ⟨b, o, none⟩) n c, .int .i64 n, .bool false, .int .i64 i, .slice (some ⟨b, o, none⟩) n c, .int .i64 n, .bool true, .slice (some ⟨b, o, none⟩) n c, .int .i64 i, .pointer (some ⟨b, o + i, none⟩), .int .u8 k, .bool false, u22, u23, u24, u25, u26, u27, u28, u29, u30, u31, u32, u33, u34, u35, .slice (some ⟨b, o, none⟩) n c, .int .i64 i, .pointer (some ⟨b, o + i, none⟩), .int .u8 k, .bool false, u41, u42, u43, u44, u45, u46, .int .i64 i, .int .i64 (i + 1), .slice (some ⟨b, o, none⟩) n c, .int .i64 n, .bool false, .slice (some ⟨b, o, none⟩) n c, .int .i64 i, .int .i64 (i + 1), .pointer (some ⟨b, o + (i + 1), none⟩), .int .u8 (m + 2), .int .i64 (m + 2), .int .i64 (m + 2), .bool false, .int .i64 i, .int .i64 (m + 2), .int .i64 (i + (m + 2)), .slice (some ⟨b, o, none⟩) n c, .int .i64 n, .bool false, .slice (some ⟨b, o, none⟩) n c, .int .i64 i, .pointer (some ⟨b, o + i, none⟩), .int .u8 k, .agg #[.int .u8 k, .slice none 0 0], .int .i64 i, .int .i64 (i + 2), .int .i64 (i + 2 + j), .int .i64 i, .int .i64 (m + 2), .int .i64 (i + (m + 2)), .bool true, u78, u79, g 0, g 1, g 2, g 3, g 4, g 5, g 6, u87, u88, u89, u90, u91, u92, u93, u94, u95, u96, u97, u98, u99, u100, u101, u102, undef], []⟩ ∧ Iq wr (PRR y ([.pointer (some ⟨b8, 1, none⟩), .slice Av j cv, .slice (some ⟨b, o, none⟩) n c, .int .i64 (i + 2 + j), .pointer (some ⟨b, o + (i + 2 + j), none⟩), .int .u8 y, undef] : List Value)) D g w') (by kernel_rfl) (by kernel_rfl) ⟨fun i => if i = 0 then u80 else if i = 1 then u81 else if i = 2 then u82 else if i = 3 then u83 else if i = 4 then u84 else if i = 5 then u85 else if i = 6 then u86 else undef, rfl, Iq.zero _ _ _⟩ ?_ ?_
          · simp only [List.take_succ_cons, List.take_zero]
            refine ⟨?_, ?_, ?_, ?_, ?_, ?_, ?_, trivial⟩
            · intro D a w' hn hp hI
              obtain ⟨g, rfl, hR⟩ := hI
              clear hn hp
              go_wp2_with fail
              exact ⟨fun ix => if ix = 0 then .pointer (some ⟨b8, 1, none⟩) else g ix, by rfl, hR.upd PRR.below 0 _ (Below.refl _ _) rfl⟩
            · intro D a w' hn hp hI
              obtain ⟨g, rfl, hR⟩ := hI
              have e0 : g 0 = .pointer (some ⟨b8, 1, none⟩) := hR.e 0 hp.1
              rw [e0]
              have cc := kc hR.b k1
              clear hn hp
              go_wp2_with fail
              exact ⟨fun ix => if ix = 1 then .slice Av j cv else g ix, by simp [e0], hR.upd PRR.below 1 _ (Below.refl _ _) rfl⟩
            · intro D a w' hn hp hI
              obtain ⟨g, rfl, hR⟩ := hI
              clear hn hp
              go_wp2_with fail
              exact ⟨fun ix => if ix = 2 then .slice (some ⟨b, o, none⟩) n c else g ix, by rfl, hR.upd PRR.below 2 _ (Below.refl _ _) rfl⟩
            · intro D a w' hn hp hI
              obtain ⟨g, rfl, hR⟩ := hI
              clear hn hp
              go_wp2_with fail
              exact ⟨fun ix => if ix = 3 then .int .i64 (i + 2 + j) else g ix, by rfl, hR.upd PRR.below 3 _ (Below.refl _ _) rfl⟩
            · intro D a w' hn hp hI
              obtain ⟨g, rfl, hR⟩ := hI
              have e2 : g 2 = .slice (some ⟨b, o, none⟩) n c := hR.e 2 hp.1
              rw [e2]
              have e3 : g 3 = .int .i64 (i + 2 + j) := hR.e 3 hp.2.1
              rw [e3]
              clear hn hp
              go_wp2_with fail
              exact ⟨fun ix => if ix = 4 then .pointer (some ⟨b, o + (i + 2 + j), none⟩) else g ix, by simp [e2, e3], hR.upd PRR.below 4 _ (Below.refl _ _) rfl⟩
            · intro D a w' hn hp hI
              obtain ⟨g, rfl, hR⟩ := hI
              have e4 : g 4 = .pointer (some ⟨b, o + (i + 2 + j), none⟩) := hR.e 4 hp.1
              rw [e4]
              have cc := kc hR.b cy
              clear hn hp
              go_wp2_with fail
              exact ⟨fun ix => if ix = 5 then .int .u8 y else g ix, by simp [e4], hR.upd PRR.below 5 _ (Below.refl _ _) rfl⟩
            · intro D a w' hn hp hI
              obtain ⟨g, rfl, hR⟩ := hI
              have e5 : g 5 = .int .u8 y := hR.e 5 hp.1
              rw [e5]
              clear hn hp
              go_wp2_with fail
              exact ⟨fun ix => if ix = 6 then .slice (some ⟨w'.heap.size, 0, none⟩) 1 1 else g ix, by simp [e5], hR.upd PRR.below 6 _ ((Below.refl _ _).alloc (Nat.le_refl _) _) ⟨_, rfl, heap_alloc_last _ _⟩⟩
          intro D2 a w' hD2 hI2
          obtain ⟨g27, rfl, hR⟩ := hI2
          have e1 : g27 1 = .slice Av j cv := hR.e 1 (hD2 1 (by decide))
          obtain ⟨bb, e6, hbb⟩ : ∃ b, g27 6 = .slice (some ⟨b, 0, none⟩) 1 1 ∧ w'.heap[b]? = some (.cells #[.int .u8 y] 5 (0, 0)) := hR.e 6 (hD2 6 (by decide))
          rw [e1, e6]
          have HT2 := Lib.hid (HT.out.grow hR.b)
          have HRW2 := Lib.hid (own_below HROW.out hR.b)
          have HONE := Lib.hid (one_cell hbb)
          obtain ⟨i5, hi5, hy0, hy1, hy2⟩ := info_parts info5b
          have hXw : X1.heap.size ≤ w'.heap.size := HT2.out.keep.size
          have HP := Lib.hid (fun (w3 : World) (v' : Value) (hg : w'.grownBy w3 (Value.slice Av j cv).ownBlock) (hr : w3.ownsRow X1.heap.size 5 1 v' (j + 1) ((D.take j).map (Value.int .u8) ++ [.int .u8 y])) =>
            DtR.step HT2.out hb8l hg (by rw [htl]; exact hr))
          simp only [List.drop_succ_cons, List.drop_zero]
          clear hD2 hR e1 e6 k1 cy
          go_wp2_with (at_builtin; refine wpList_append_own _ rfl _ _ 22 rfl X1.heap.size 5 i5 (.int .u8 0) 1 1 Try.underlying22 hi5 hy0 hy1 hy2 rfl (by decide) _ _ _ rfl HRW2.out ⟨bb, 0, none⟩ 1 1 [.int .u8 y] rfl rfl HONE.out (by simp [Value.oneCell']) (lt_maxLen' (by omega)) (by omega) (by omega) ?_; intro v3 w3 hown3 hgrow3 hnil3; obtain ⟨g3, cap3, rfl⟩ := ownsRow_succ hown3; obtain ⟨hs1, hs2⟩ := HP.out w3 _ hgrow3 hown3; have u1 := blk_cell hs1 1; have fu := blk_free hs1 1; have lu := blk_lt hs1; simp at u1; have HS2 := Lib.hid hs2; clear hs1 hs2 hown3 hgrow3 hnil3)
          exact ⟨⟨j + 1, _, by omega, by go_num, by rw [HSN.out]; exact HS2.out⟩, by simp [intOf]; omega⟩
        · obtain rfl : j = m := by omega
          have t2 : decide ((i : Int) + 2 + j < (i : Int) + ((j : Int) + 2)) = false := by simp; omega
          have htd : D.take j = D := List.take_of_length_le (by rw [HDL.out]; exact Nat.le_refl _)
          have hT2 := HT.out
          rw [htd] at hT2
          have HT3 := Lib.hid hT2
          have hr2 := hT2.row
          rw [HDL.out] at hr2
          have HROW := Lib.hid (By.of_own3 hr2 HDL.out.symm HDR.out)
          clear hr2
          have k0 := blk_cell hT2.obj 0
          have k1 := blk_cell hT2.obj 1
          simp at k0 k1
          have hl8 := blk_lt hT2.obj
          obtain ⟨Y, hY⟩ : ∃ X, X = wr := ⟨_, rfl⟩
          subst hY
          obtain ⟨rq, hrq⟩ : ∃ r, rightS (k, D) = r := ⟨_, rfl⟩
          have HRQ := Lib.hid hrq
          obtain ⟨xq, hxq⟩ : ∃ x, (acc.any fun p => exB p.1 k) = x := ⟨_, rfl⟩
          have HXQ := Lib.hid hxq
          rw [hrq] at HO1 HO2 HO3
          rw [hxq] at HO2 HO3
          have hBY := HBX1.out.trans (HT3.out.keep.below (n := w.heap.size) (fun g hg => by have := HB8.out; have := HB.out.size; show g ≠ b8; omega) HBX1.out.size)
          have HBY := Lib.hid hBY
          have hGY := HG.out.keep (W' := Y) fun g hg hlt => (HT3.out.keep.low g (by have := HB8.out; show g ≠ b8; omega) (Nat.lt_of_lt_of_le hlt HBX.out.size)).trans (HBX.out.block g hlt)
          have HGY := Lib.hid hGY
          clear hT2 htd hrq hxq hBY hGY HT hjm
          have hdl := HDL.out
          subst hdl
          obtain ⟨hby, hdc, hdm⟩ := HROW.out
          have HBYD := Lib.hid hby
          have hOp : OpOwn w.heap.size Y [.int .u8 k, .slice Av D.length cv] (k, D) := ⟨hk, HDR.out, _, rfl, own_base HT3.out.row HBX1.out.size⟩
          have HOP := Lib.hid hOp
          clear hby hOp
          go_wp2_with fail
          refine (refRight_any k D Av cv _ hk HBYD.out (by omega)).mono ?_
          rintro e Y2 ⟨rfl, hb2⟩
          rw [HRQ.out]
          have HBY2 := Lib.hid (HBY.out.trans (hb2.mono HBY.out.size))
          have HGY2 := Lib.hid (HGY.out.below hb2)
          have ho2 := blk_below hb2 HT3.out.obj
          have HOP2 := Lib.hid (HOP.out.keep (KeepB.of_below hb2))
          clear k0 k1 hl8 hb2
          have k0 := blk_cell ho2 0
          have k1 := blk_cell ho2 1
          simp at k0 k1
          have hl8 := blk_lt ho2
          clear ho2
          cases rq with
          | false =>
            have hres : RES = (61, []) := HO1.out (by trivial)
            subst hres
            go_wp2_with fail
            refine bodyPost_ret (v := .tuple #[.slice none 0 0, .int .i64 61]) (by simp [results, Try.results29, go_sem]) rfl ?_
            first | exact ⟨_, _, rfl, Ops.nil _ _, by simp, by simp, HBY2.out⟩ | exact ⟨_, _, rfl, Ops.nil _ _, by simp, HBY2.out⟩
          | true =>
            obtain ⟨A5, c5, e5, h5a, h5b, hO⟩ := HGY2.out.ops
            cases e5
            have HO := Lib.hid hO
            clear hO
            go_wp2_with fail
            refine (excluded_any acc A4 c4 k _ HO.out (by omega)).mono ?_
            rintro e Y3 ⟨rfl, hY3⟩
            rw [hY3, HXQ.out]
            clear hY3
            cases xq with
            | true =>
              have hres : RES = (63, []) := HO2.out (by trivial) (by trivial)
              subst hres
              go_wp2_with fail
              refine bodyPost_ret (v := .tuple #[.slice none 0 0, .int .i64 63]) (by simp [results, Try.results29, go_sem]) rfl ?_
              first | exact ⟨_, _, rfl, Ops.nil _ _, by simp, by simp, HBY2.out⟩ | exact ⟨_, _, rfl, Ops.nil _ _, by simp, HBY2.out⟩
            | false =>
              have HIN := Lib.hid (HO3.out (by trivial) (by trivial))
              have HR5 := Lib.hid HGY2.out.row
              have HM3 : Hid (w.heap.size ≤ (Y2.alloc (.cells #[.int .u8 k, .slice Av D.length cv] 80)).heap.size) := by show _ ≤ _; have := HBY2.out.size; simp; omega
              have H1 : Hid (∀ u ∈ [Value.int .u8 k, .slice Av D.length cv], u.oneCell' = true) := by show ∀ u ∈ _, _; simp [Value.oneCell']
              have HP := Lib.hid (fun (w3 : World) (v' : Value) (hg : (Y2.alloc (.cells #[.int .u8 k, .slice Av D.length cv] 80)).grownBy w3 (Value.slice A4 acc.length c4).ownBlock) (hr : w3.ownsRow w.heap.size 80 2 v' (acc.length + 1) (css.flatten ++ [.int .u8 k, .slice Av D.length cv])) =>
                (⟨GotR.push HGY2.out hg (o := (k, D)) HOP2.out hr, (HBY2.out.alloc HBY2.out.size _).grown hg (by simp; have := HBY2.out.size; omega) fun g e => (HGY2.out.row.lt g e).1⟩ : GotR w.heap.size w3 v' (css ++ [[.int .u8 k, .slice Av D.length cv]]) (acc ++ [(k, D)]) ∧ Below w.heap.size w w3))
              have hwi2 : IntKind.i64.wrap ((i : Int) + ((D.length : Int) + 2)) = (i : Int) + ((D.length : Int) + 2) := IntWalk.i64_in _ (by omega)
              go_wp2_with (at_builtin; refine wpList_append_own _ rfl _ _ 60 rfl w.heap.size 80 i0 (.agg #[.int .u8 0, .slice none 0 0]) 2 32 Try.underlying60 hi0 hz0 hz1 hz2 rfl (by decide) _ _ _ rfl (HR5.out.alloc _) ⟨Y2.heap.size, 0, none⟩ 1 1 [.int .u8 k, .slice Av D.length cv] rfl rfl (cell_two_new _ _ _ _) H1.out HM1.out HM2.out HM3.out ?_; intro v3 w3 hown3 hgrow3 hnil3; obtain ⟨g3, cap3, rfl⟩ := ownsRow_succ hown3; have HS3 := Lib.hid (HP.out w3 _ hgrow3 hown3); clear hown3 hgrow3 hnil3)
              exact ⟨⟨i + 2 + D.length, _, _, by omega, by simp; omega, HS3.out.1, HS3.out.2, HIN.out⟩, by simp [intOf]; omega⟩
    · obtain rfl : i = n := by omega
      have t1 : decide ((i : Int) < i) = false := by simp
      have hres : RES = (0, acc) := HI.out.stop (by rw [HN.out]; exact Nat.le_refl _)
      subst hres
      obtain ⟨A5, c5, e5, h5a, h5b, hO⟩ := HG.out.ops
      cases e5
      have HO := Lib.hid hO
      clear hO
      go_wp2_with fail
      refine bodyPost_ret (v := .tuple #[.slice A4 acc.length c4, .int .i64 0]) (by simp [results, Try.results29, go_sem]) rfl ?_
      exact ⟨_, _, rfl, HO.out, h5a, h5b, HB.out⟩

end Go.Proofs.Ytjfnnclbfaakkaa

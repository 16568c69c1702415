/-
  The contract of ours: options of the reference as those of the program. Conditions: the options lie, and are not too many for the model.
-/
import Derived.Test.YtjfnnclbfaakkaaRefR
namespace Go.Proofs.Ytjfnnclbfaakkaa
open Go.RowKit
set_option linter.unusedVariables false
set_option linter.unusedSimpArgs false

/-- Between the rounds of ours. -/
structure OuI (w wx : World) (csl : List (List Value)) (k : Nat) (v : Value) : Prop where
  below : Below w.heap.size w wx
  row : wx.ownsRow w.heap.size 36 2 v k (csl.take k).flatten
theorem OuI.push {w Y w3 : World} {csl : List (List Value)} {k : Nat} {v v' : Value} {ob : Obj} {cs : List Value} (h : OuI w Y csl k v) (hc : csl[k]? = some cs) (hg : (Y.alloc ob).grownBy w3 v.ownBlock) (hr : w3.ownsRow w.heap.size 36 2 v' (k + 1) ((csl.take k).flatten ++ cs)) : OuI w w3 csl (k + 1) v' := by
  refine ⟨(h.below.alloc h.below.size ob).grown hg (by simp; have := h.below.size; omega) fun g e => (h.row.lt g e).1, ?_⟩
  rw [List.take_add_one, hc]
  simpa using hr
theorem OuI.grow {w wx Y : World} {csl : List (List Value)} {k : Nat} {v : Value} (h : OuI w wx csl k v) (hb : Below wx.heap.size wx Y) : OuI w Y csl k v := ⟨h.below.trans (hb.mono h.below.size), own_below h.row hb⟩

set_option maxRecDepth 100000 in
set_option maxHeartbeats 4000000 in
theorem ours_any (l : List Op1) (A : Option Addr) (c : Nat) (w : World) (hl : Ops w A l) (hn : l.length ≤ 2 ^ 40) :
    Calls Try.prog 30 #[.slice A l.length c] w fun e w' => ∃ A2 c2, e = .returned (.slice A2 l.length c2) ∧ Ops w' A2 l ∧ l.length ≤ c2 ∧ c2 ≤ maxLen ∧ Below w.heap.size w w' := by
  obtain ⟨csl, hrd, hov⟩ := hl.mem
  have hcl := hov.length
  obtain ⟨n, hN⟩ : ∃ n, l.length = n := ⟨_, rfl⟩
  rw [hN] at hn hcl ⊢
  have HN := Lib.hid hN
  have HRD := Lib.hid hrd
  have HOV := Lib.hid hov
  have HCL := Lib.hid hcl
  clear hN hl hrd hov hcl
  go_enter Try.func30, Try.ntmps30
  go_wp2_with fail
  go_loopw [3, 8] (fun v i wx => ∃ k : Nat, k ≤ n ∧ i = .int .i64 k ∧ OuI w wx csl k v) (fun _ i _ => n - (intOf i).toNat)
  case atStart => exact ⟨0, by omega, rfl, Below.refl _ _, by rw [List.take_zero]; exact World.ownsRow_nil _ _ _ _⟩
  case round =>
    obtain ⟨k, hk, rfl, hI⟩ := hrel
    have HI := Lib.hid hI
    obtain ⟨Av, cv, hv⟩ := own_form hI.row
    subst hv
    clear hI
    by_cases hkl : k < n
    · obtain ⟨⟨kd, d⟩, hx⟩ : ∃ x, l[k]? = some x := ⟨l[k]'(by rw [HN.out]; omega), List.getElem?_eq_getElem _⟩
      obtain ⟨cs, hcs, hop⟩ := HOV.out.get k _ hx
      obtain ⟨A1, n1, rfl, _⟩ := hop.mem
      obtain ⟨b, o, rfl, hbl, _⟩ := HRD.out.mem (by rintro rfl; simp at hcs)
      have x0 := kc HI.out.below (HRD.out.cell hcs (j := 0) rfl)
      have x1 := kc HI.out.below (HRD.out.cell hcs (j := 1) rfl)
      simp only [Nat.add_zero] at x0
      have hbl := cell_lt x0
      replace hbl : b < wr.heap.size := hbl
      have t1 : decide ((k : Int) < n) = true := by simp; omega
      have hpos : (k : Int) < n := by omega
      obtain ⟨dl, hdl⟩ : ∃ dl, d.length = dl := ⟨_, rfl⟩
      simp only [hdl] at hcs x1
      have HCS := Lib.hid hcs
      obtain ⟨X, hX⟩ : ∃ X, wr.alloc (Obj.cells #[Value.int IntKind.u8 kd, Value.slice A1 dl n1] 80) = X := ⟨_, rfl⟩
      have hbX : Below wr.heap.size wr X := by rw [← hX]; exact (Below.refl _ _).alloc (Nat.le_refl _) _
      have h5 : X.heap[wr.heap.size]? = some (.cells #[.int .u8 kd, .slice A1 dl n1] 80 (0, 0)) := by rw [← hX]; exact heap_alloc_last _ _
      have HX := Lib.hid hX
      have HIX := Lib.hid (HI.out.grow hbX)
      have o0 := blk_cell h5 0
      have o1 := blk_cell h5 1
      simp at o0 o1
      have hl5 := blk_lt h5
      obtain ⟨i0, hi0, hz0, hz1, hz2⟩ := info_parts info36
      have HR := Lib.hid HIX.out.row
      have HM1 : Hid (k + 1 ≤ maxLen) := by show _ ≤ _; unfold maxLen; omega
      have HM2 : Hid ((k + 1) * 32 ≤ 140737488355328) := by show _ ≤ _; omega
      have HM3 : Hid (w.heap.size ≤ (X.alloc (.cells #[.int .u8 kd, .slice A1 dl n1] 36)).heap.size) := by show _ ≤ _; have := HIX.out.below.size; simp; omega
      have H1 : Hid (∀ u ∈ [Value.int .u8 kd, .slice A1 dl n1], u.oneCell' = true) := by show ∀ u ∈ _, _; simp [Value.oneCell']
      have HP := Lib.hid (fun (w3 : World) (v' : Value) (hg : (X.alloc (.cells #[.int .u8 kd, .slice A1 dl n1] 36)).grownBy w3 (Value.slice Av k cv).ownBlock) (hr : w3.ownsRow w.heap.size 36 2 v' (k + 1) ((csl.take k).flatten ++ [.int .u8 kd, .slice A1 dl n1])) => HIX.out.push HCS.out hg hr)
      clear hx hop hcs hX hbX h5 hdl
      go_upto_region 5 with fail
      rw [HX.out]
      clear x0 x1
      go_wp2_with (at_builtin; refine wpList_append_own _ rfl _ _ 26 rfl w.heap.size 36 i0 (.agg #[.int .u8 0, .slice none 0 0]) 2 32 Try.underlying26 hi0 hz0 hz1 hz2 rfl (by decide) _ _ _ rfl (HR.out.alloc _) ⟨X.heap.size, 0, none⟩ 1 1 [.int .u8 kd, .slice A1 dl n1] rfl rfl (cell_two_new _ _ _ _) H1.out HM1.out HM2.out HM3.out ?_; intro v3 w3 hown3 hgrow3 hnil3; obtain ⟨g3, cap3, rfl⟩ := ownsRow_succ hown3; have HS3 := Lib.hid (HP.out w3 _ hgrow3 hown3); clear hown3 hgrow3 hnil3)
      exact ⟨⟨k + 1, by omega, by go_num, HS3.out⟩, by simp [intOf]; omega⟩
    · obtain rfl : k = n := by omega
      have t1 : decide ((k : Int) < k) = false := by simp
      have hrow := HI.out.row
      rw [List.take_of_length_le (by rw [HCL.out]; exact Nat.le_refl _)] at hrow
      obtain ⟨A5, c5, e5, h5a, h5b, hO⟩ := Ops.of_own hrow (HOV.out.bel HI.out.below) HN.out.symm
      injection e5 with e51 e52 e53
      subst e51 e53
      rw [HN.out] at h5a
      have HO := Lib.hid hO
      clear hO hrow
      go_wp2_with fail
      go_ret
      exact ⟨_, _, rfl, HO.out, h5a, h5b, HI.out.below⟩

end Go.Proofs.Ytjfnnclbfaakkaa

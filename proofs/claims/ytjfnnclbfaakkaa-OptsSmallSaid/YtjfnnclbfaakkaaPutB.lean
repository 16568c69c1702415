/-
  The contract of bafflekit's Apart function. Conditions: the slices lie in blocks of their own.
-/
import Derived.Test.YtjfnnclbfaakkaaApartB
import Derived.Maps.AppendAt
namespace Go.Proofs.Ytjfnnclbfaakkaa
open Go.RowKit
set_option linter.unusedVariables false
set_option linter.unusedSimpArgs false

set_option maxRecDepth 100000 in
set_option maxHeartbeats 2000000 in
theorem putB_any {lv : Value} {B bb n : Nat} {xs : List Value} {W : World} (A : Option Addr) (m c : Nat) (hrow : W.ownsRow B 22 1 lv n xs) (hn : n ≤ 2 ^ 20) (hB : B ≤ W.heap.size) (hbb : bb < B) (hbag : W.heap[bb]? = some (.cells #[.slice none 0 0, .slice none 0 0, lv, .slice none 0 0, .slice none 0 0, .slice none 0 0, .slice none 0 0, .slice none 0 0, .slice none 0 0, .slice none 0 0, .slice none 0 0, .slice none 0 0, .slice none 0 0] 108 (0, 0))) :
    Calls Try.prog 51 #[.pointer (some ⟨bb, 0, none⟩), .slice A m c] W fun e w' => ∃ lv', e = .returned (.tuple #[]) ∧ w'.ownsRow B 22 1 lv' (n + 1) (xs ++ [.slice A m c]) ∧ w'.heap[bb]? = some (.cells #[.slice none 0 0, .slice none 0 0, lv', .slice none 0 0, .slice none 0 0, .slice none 0 0, .slice none 0 0, .slice none 0 0, .slice none 0 0, .slice none 0 0, .slice none 0 0, .slice none 0 0, .slice none 0 0] 108 (0, 0)) ∧ Below bb W w' := by
  obtain ⟨i0, hi, hz0, hz1, hz2⟩ := info_parts info22s
  have HROW := Lib.hid hrow
  have HBAG := Lib.hid hbag
  have k2 := blk_cell hbag 2
  simp at k2
  have hlt := blk_lt hbag
  clear hrow hbag
  go_enter Try.func51, Try.ntmps51
  go_wp2_with (at_builtin; refine wpList_append_own _ rfl _ _ 65 rfl B 22 i0 (.slice none 0 0) 1 24 Try.underlying65 hi hz0 hz1 hz2 rfl (by decide) _ _ _ rfl (HROW.out.alloc _) ⟨W.heap.size, 0, none⟩ 1 1 [.slice A m c] rfl rfl (cell_one_new _ _ _) (by simp [Value.oneCell']) (lt_maxLen' (by omega)) (by omega) (by simp; omega) ?_; intro v3 w3 hown3 hgrow3 hnil3; (try dsimp only [Act.put]); (try simp only [List.setIfInBounds_toArray, List.set_cons_succ, List.set_cons_zero]); obtain ⟨g3, cap3, rfl⟩ := ownsRow_succ hown3; have HO3 := Lib.hid hown3; have hne : lv.ownBlock ≠ some bb := (fun h => by have := (HROW.out.lt bb h).1; omega); have hb3 := (hgrow3.block bb (by simp; omega) (fun e => hne e.symm)).trans ((Below.heap_alloc _ _ _ hlt).trans HBAG.out); have HB3 := Lib.hid hb3; have c3 := blk_cell hb3 2; have f3 := blk_free hb3 2; have l3 := blk_lt hb3; have HG3 := Lib.hid (((Below.refl bb W).alloc (by omega) (.cells #[.slice A m c] 22)).grown hgrow3 (by simp; omega) (fun k hk => by have := (HROW.out.lt k hk).1; omega)); clear hown3 hgrow3 hnil3 hb3 hne; simp at c3)
  have hset := blk_set HB3.out 2 (.slice (some ⟨g3, 0, none⟩) (n + 1) cap3)
  have hrow3 : (w3.setCell ⟨bb, 2, none⟩ (.slice (some ⟨g3, 0, none⟩) (n + 1) cap3)).ownsRow B 22 1 (.slice (some ⟨g3, 0, none⟩) (n + 1) cap3) (n + 1) (xs ++ [.slice A m c]) := own_of_block HO3.out fun g hg _ _ => Below.heap_setCell _ _ _ _ (by show g ≠ bb; omega)
  have HSET := Lib.hid hset
  have HROW3 := Lib.hid hrow3
  have HBW := Lib.hid (HG3.out.setCell (p := ⟨bb, 2, none⟩) (Nat.le_refl _) (.slice (some ⟨g3, 0, none⟩) (n + 1) cap3))
  clear hset hrow3
  go_wp2_with fail
  go_end0
  exact ⟨_, rfl, HROW3.out, by simpa using HSET.out, HBW.out⟩

set_option maxRecDepth 100000 in
set_option maxHeartbeats 2000000 in
theorem apartB_any {xs : List Ext} {L : List Sli} {A : Option Addr} {N cl B B1 : Nat} {W : World} (hL : Lg L) (hN : L.length = N) (hls : W.ownsRow B1 22 1 (.slice A N cl) N (L.map Sli.v)) (hbl : ∀ (k : Nat) (s : Sli) (b : Nat), L[k]? = some s → s.g = some b → B ≤ b ∧ ∃ F, W.heap[b]? = some (.cells F 5 (0, 0)) ∧ F.size = s.c) (hB : B ≤ W.heap.size) (hxs : ∀ y ∈ xs, W.heap[y.b]? = some (.cells y.F y.t (0, 0))) (hxo : ∀ y ∈ xs, y.t ≠ 5 ∧ y.t ≠ 22) :
    Calls Try.prog 32 #[.slice A N cl] W fun e w' => e = .returned (.bool true) ∧ Below B W w' ∧ ∀ y ∈ xs, w'.heap[y.b]? = some (.cells y.F y.t (0, 0)) := by
  have HXS := Lib.hid hxs
  have HXO := Lib.hid hxo
  have hN20 : N ≤ 2 ^ 18 := by rw [← hN]; exact hL.len
  have HL := Lib.hid hL
  have HN := Lib.hid hN
  have HLS := Lib.hid hls
  have HBL := Lib.hid hbl
  have HB := Lib.hid hB
  clear hL hN hls hbl hB hxs hxo
  go_enter Try.func32, Try.ntmps32
  go_wp2_with fail
  have hal := heap_alloc_last W (Obj.cells #[.slice none 0 0, .slice none 0 0, .slice none 0 0, .slice none 0 0, .slice none 0 0, .slice none 0 0, .slice none 0 0, .slice none 0 0, .slice none 0 0, .slice none 0 0, .slice none 0 0, .slice none 0 0, .slice none 0 0] 108)
  have hba : Below W.heap.size W (W.alloc (Obj.cells #[.slice none 0 0, .slice none 0 0, .slice none 0 0, .slice none 0 0, .slice none 0 0, .slice none 0 0, .slice none 0 0, .slice none 0 0, .slice none 0 0, .slice none 0 0, .slice none 0 0, .slice none 0 0, .slice none 0 0] 108)) := (Below.refl _ _).alloc (Nat.le_refl _) _
  obtain ⟨X0, hX0⟩ : ∃ X, W.alloc (Obj.cells #[.slice none 0 0, .slice none 0 0, .slice none 0 0, .slice none 0 0, .slice none 0 0, .slice none 0 0, .slice none 0 0, .slice none 0 0, .slice none 0 0, .slice none 0 0, .slice none 0 0, .slice none 0 0, .slice none 0 0] 108) = X := ⟨_, rfl⟩
  have hsX : W.heap.size + 1 ≤ X0.heap.size := by rw [← hX0]; simp
  rw [hX0] at hal hba ⊢
  obtain ⟨bb, hbb⟩ : ∃ b, W.heap.size = b := ⟨_, rfl⟩
  have HBB := Lib.hid hbb
  rw [hbb] at hal hsX ⊢
  have HAL := Lib.hid hal
  have HBA := Lib.hid hba
  have HSX := Lib.hid hsX
  clear hX0 hal hba hsX hbb
  go_loopw [4] (fun v4 wr => ∃ (k : Nat) (lv : Value), k ≤ N ∧ v4 = .int .i64 k ∧ wr.heap[bb]? = some (.cells #[.slice none 0 0, .slice none 0 0, lv, .slice none 0 0, .slice none 0 0, .slice none 0 0, .slice none 0 0, .slice none 0 0, .slice none 0 0, .slice none 0 0, .slice none 0 0, .slice none 0 0, .slice none 0 0] 108 (0, 0)) ∧ wr.ownsRow (bb + 1) 22 1 lv k ((L.take k).map Sli.v) ∧ Below W.heap.size W wr ∧ bb + 1 ≤ wr.heap.size) (fun v _ => N - (intOf v).toNat)
  case atStart => exact ⟨0, _, by omega, rfl, HAL.out, World.ownsRow_nil _ _ _ _, HBA.out, HSX.out⟩
  case round =>
    obtain ⟨k, lv, hk, rfl, hbag, hrow, hb, hsz⟩ := hrel
    by_cases hlt : k < N
    · have t1 : decide ((k : Int) < N) = true := by simp; omega
      have t1' : decide (k < N) = true := by simp; omega
      have hkN : (k : Int) < N := by omega
      have hk0 : (0 : Int) ≤ k := by omega
      obtain ⟨⟨g, n, c⟩, hs⟩ : ∃ s, L[k]? = some s := ⟨L[k]'(by rw [HN.out]; omega), List.getElem?_eq_getElem _⟩
      obtain ⟨gl, q0, hAe⟩ : ∃ gl, W.cell? ⟨gl, k, none⟩ = some (Sli.v ⟨g, n, c⟩) ∧ A = some ⟨gl, 0, none⟩ := by
        rcases own_cases HLS.out with ⟨_, h0, _⟩ | ⟨gl, cap, e1, _, _, _, _⟩
        · omega
        · injection e1 with e1
          subst e1
          have hc := HLS.out.cells (g := gl) rfl k (Sli.v ⟨g, n, c⟩) (by rw [List.getElem?_map, hs]; rfl)
          rw [Go.WideShapes.add_plain, Nat.zero_add] at hc
          exact ⟨gl, hc, rfl⟩
      subst hAe
      simp only [Sli.v] at q0
      replace q0 := kc hb q0
      have hbl := cell_lt q0
      simp only at hbl
      have HBAG := Lib.hid hbag
      have HROW := Lib.hid hrow
      have HBW := Lib.hid hb
      have HSZ := Lib.hid hsz
      have HS := Lib.hid hs
      have HLT := Lib.hid hlt
      clear hbag hrow hb hsz hs hlt
      go_wp2_with fail
      refine (putB_any (B := bb + 1) (n := k) (Option.map (fun b => (⟨b, 0, none⟩ : Addr)) g) n c HROW.out (by omega) HSZ.out (Nat.lt_succ_self _) HBAG.out).mono ?_
      rintro e Y ⟨lv', rfl, hr, hbag, hb⟩
      have HBAG2 := Lib.hid hbag
      have hr2 : Y.ownsRow (bb + 1) 22 1 lv' (k + 1) ((L.take (k + 1)).map Sli.v) := by
        rw [List.take_add_one, HS.out, List.map_append]
        exact hr
      have HR2 := Lib.hid hr2
      have HBW2 := Lib.hid (HBW.out.trans (by rw [HBB.out]; exact hb))
      have HSZ2 := Lib.hid (Nat.le_trans HSZ.out hb.size)
      clear hr hbag hb hr2
      go_wp2_with fail
      exact ⟨⟨k + 1, lv', HLT.out, by go_num, HBAG2.out, HR2.out, HBW2.out, HSZ2.out⟩, by have := HLT.out; simp [intOf]; omega⟩
    · obtain rfl : k = N := by omega
      have t1 : decide ((k : Int) < k) = false := by simp
      have t1' : decide (k < k) = false := by simp
      obtain ⟨A', cl', rfl⟩ := own_form hrow
      rw [List.take_of_length_le (by rw [HN.out]; exact Nat.le_refl _)] at hrow
      have hBb : B ≤ bb + 1 := by have := HB.out; have := HBB.out; omega
      have HROW := Lib.hid (own_base hrow hBb)
      have HBAG := Lib.hid hbag
      have HBW := Lib.hid hb
      have HBL2 := Lib.hid (fun (j : Nat) (s : Sli) (b : Nat) (h1 : L[j]? = some s) (h2 : s.g = some b) => (show B ≤ b ∧ ∃ F, wr.heap[b]? = some (.cells F 5 (0, 0)) ∧ F.size = s.c from by
        obtain ⟨h3, F, h4, h5⟩ := HBL.out j s b h1 h2
        exact ⟨h3, F, blk_below hb h4, h5⟩))
      have HXS2 := Lib.hid (fun y (hy : y ∈ xs) => blk_below hb (HXS.out y hy))
      clear hbag hrow hb hsz hlt
      go_wp2_with fail
      refine (apartB52 (B := B) HL.out HN.out HROW.out HBL2.out (Nat.le_trans HB.out HBW.out.size) HBAG.out HXS2.out HXO.out).mono ?_
      rintro e Y ⟨rfl, hb, hx⟩
      have HX3 := Lib.hid hx
      have HBW2 := Lib.hid ((HBW.out.mono HB.out).trans hb)
      clear hb hx
      go_wp2_with fail
      go_ret
      exact ⟨rfl, HBW2.out, HX3.out⟩
end Go.Proofs.Ytjfnnclbfaakkaa

/-
  The contract of the law's own 'runs': it returns true, whatever slice of packets.
-/
import Derived.Test.YtdnammkfipfdbaaDoorFlow
import Derived.Test.YtdnammkfipfdbaaDoorRef
import Derived.Laws.AppendOwnNone
namespace Go.Proofs.YtdnammkfipfdbaaDoor
open Go.RowKit
set_option linter.unusedVariables false

theorem mx2000 : 2000 ≤ maxLen := by
  have : maxLen = 9223372036854775807 := rfl
  omega

theorem runs_long (A : Option Addr) (n c : Nat) (w : World) (h : 1000 < n) : Calls Tryd.prog 11 #[.slice A n c] w fun e w' => e = .returned (.bool true) ∧ Below w.heap.size w w' := by
  go_enter Tryd.func11, Tryd.ntmps11
  go_wp2_with fail
  go_ret
  exact ⟨rfl, Below.refl _ _⟩

/-- Behind the copy and the run: what is known. -/
structure Copied (w : World) (b off g : Nat) (l : List Pk) : Prop where
  tab : Tab w
  old : Rd w (some ⟨b, off, none⟩) 2 (l.map pc)
  new : Rd w (some ⟨g, 0, none⟩) 2 (l.map pc)
theorem Copied.below {w w' : World} {b off g : Nat} {l : List Pk} (h : Copied w b off g l) (hb : Below w.heap.size w w') : Copied w' b off g l := ⟨h.tab.below hb, h.old.below hb, h.new.below hb⟩

theorem run_n (A : Option Addr) (l : List Pk) (n c : Nat) (w : World) (hn : n = l.length) (hc : n ≤ c) (hT : Tab w) (h : Seens w A l) :
    Calls Tryd.prog 13 #[.slice A n c] w fun e w' => e = .returned (.tuple #[.int .u8 (run l).1, .int .i64 (run l).2]) ∧ Below w.heap.size w w' := by
  subst hn
  exact run_any A l c w hc hT h

theorem pc_one (l : List Pk) : ∀ u ∈ (l.map pc).flatten, u.oneCell' = true := by
  intro u hu
  simp only [List.mem_flatten, List.mem_map] at hu
  obtain ⟨cs, ⟨p, _, rfl⟩, hu⟩ := hu
  simp only [pc, List.mem_cons, List.not_mem_nil, or_false] at hu
  rcases hu with rfl | rfl <;> rfl
theorem pc_len (l : List Pk) : (l.map pc).flatten.length = l.length * 2 := by
  rw [flatten_length (pc_each l)]
  simp

/-- The copy of the packets. -/
theorem copied (b off g cap : Nat) (l : List Pk) (w w1 : World) (hT : Tab w) (hrd : Rd w (some ⟨b, off, none⟩) 2 (l.map pc))
    (hown : w1.ownsRow w.heap.size 33 2 (.slice (some ⟨g, 0, none⟩) (0 + l.length) cap) (0 + l.length) ([] ++ (l.map pc).flatten))
    (hgrow : (w.alloc (.cells #[] 33)).grownBy w1 (some w.heap.size)) (hlt : g < w1.heap.size) : Below w.heap.size w w1 ∧ Copied w1 b off g l ∧ l.length ≤ cap := by
  have hb : Below w.heap.size w w1 := ((Below.refl _ _).alloc (Nat.le_refl _) _).grown hgrow (by simp) (fun k hk => by cases hk; exact Nat.le_refl _)
  rw [Nat.zero_add, List.nil_append] at hown
  exact ⟨hb, ⟨hT.below hb, hrd.below hb, Rd.of_own hown (pc_each l) hlt⟩, own_cap hown⟩

theorem Copied.at_ {w : World} {b off g : Nat} {l : List Pk} (h : Copied w b off g l) (k : Nat) (p : Pk) (hk : l[k]? = some p) :
    w.cell? ⟨b, off + k * 2, none⟩ = some (.int .u8 p.1) ∧ w.cell? ⟨b, off + k * 2 + 1, none⟩ = some (.int .u8 p.2) ∧ w.cell? ⟨g, k * 2, none⟩ = some (.int .u8 p.1) ∧ w.cell? ⟨g, k * 2 + 1, none⟩ = some (.int .u8 p.2) := by
  have hp : (l.map pc)[k]? = some (pc p) := by simp [hk]
  have h1 := h.new.cell hp (j := 0) rfl
  have h2 := h.new.cell hp (j := 1) rfl
  rw [Nat.zero_add] at h1 h2
  exact ⟨h.old.cell hp (j := 0) rfl, h.old.cell hp (j := 1) rfl, h1, h2⟩

set_option maxRecDepth 100000 in
set_option maxHeartbeats 1000000 in
theorem runs_yes (b off : Nat) (f0 : Int) (r : List Pk) (c : Nat) (w : World) (hnc : r.length + 1 ≤ c) (hc1 : ¬ c = 1) (hl : r.length + 1 ≤ 1000) (hmx : c ≤ maxLen) (hlt : b < w.heap.size)
    (hT : Hid (Tab w)) (hok : Hid (∀ p ∈ (0, f0) :: r, PkOk p)) (hrd : Hid (Rd w (some ⟨b, off, none⟩) 2 (((0, f0) :: r).map pc))) (hf0 : Hid (cls f0 = 1)) :
    Calls Tryd.prog 11 #[.slice (some ⟨b, off, none⟩) (r.length + 1) c] w fun e w' => e = .returned (.bool true) ∧ Below w.heap.size w w' := by
  obtain ⟨i0, hi, hz0, hz1, hz2⟩ := info_parts info33
  have hmx1 : 2000 ≤ maxLen := mx2000
  have hnews := Lib.hid (hrd.out.below ((Below.refl _ _).alloc (Nat.le_refl _) (.cells #[] 33)))
  have hl2 := Lib.hid (pc_len ((0, f0) :: r))
  have hone := Lib.hid (pc_one ((0, f0) :: r))
  have hb15 : decide ((1000 : Int) < r.length + 1) = false := by simp; omega
  go_enter Tryd.func11, Tryd.ntmps11
  go_wp2_with (at_builtin; refine wpList_append_lies _ rfl _ _ 22 rfl w.heap.size 33 i0 (.agg #[.int .u8 0, .int .u8 0]) 2 2 Tryd.underlying22 hi hz0 hz1 hz2 rfl (by decide) _ 0 [] rfl ⟨rfl, .inr ⟨w.heap.size, 0, #[], rfl, Nat.le_refl _, heap_alloc_new _ _, Nat.le_refl _, Nat.zero_le _, rfl, rfl⟩⟩ ⟨b, off, none⟩ (r.length + 1) c (((0, f0) :: r).map pc).flatten rfl hl2.out (hnews.out.news (by decide)) hone.out ?_ ?_ ?_ ?_ (w.heap.size + 1) (by simp) ?_; omega; omega; omega; (simp <;> omega); intro g cap w1 hown hgrow hat hglt)
  obtain ⟨hb1, hC, hcap⟩ := copied b off g cap ((0, f0) :: r) w w1 hT.out hrd.out hown hgrow hglt
  have HC := Lib.hid hC
  clear hown hgrow hat hC hnews hl2 hone
  refine (run_n _ ((0, f0) :: r) _ cap w1 (by simp) (by simpa using hcap) HC.out.tab ⟨hok.out, by simp; omega, HC.out.new⟩).mono ?_
  rintro e w2 ⟨rfl, hb2⟩
  have e : run ((0, f0) :: r) = r.foldl go (1, 1) := by unfold run; dsimp only; rw [if_pos ⟨rfl, hf0.out⟩]
  rw [e]
  clear e
  have hb02 := bthen hb1 hb2
  have HC2 := Lib.hid (HC.out.below hb2)
  have hcz := HC2.out.at_ 0 _ rfl
  simp only [Nat.zero_mul, Nat.add_zero, Nat.zero_add] at hcz
  obtain ⟨hz1', hz2', hz3', hz4'⟩ := hcz
  have hokf := hok.out (0, f0) (by simp)
  have hcl : ∀ W, Calls Tryd.prog 24 #[.int .u8 f0] W fun e w' => e = .returned (.int .i64 1) ∧ W = w' := fun W => rclass_is f0 1 W ⟨hokf.2.2.1, hokf.2.2.2⟩ hf0.out
  have Hcl := Lib.hid hcl
  clear hcl hokf HC
  go_wp2_with (go_at_call 24; refine (Hcl.out _).mono ?_; rintro e w' ⟨rfl, rfl⟩)
  go_loopw [6, 7, 45] (fun s n i wr => ∃ k : Nat, k ≤ r.length ∧ i = .int .i64 k ∧ s = .int .u8 ((r.take k).foldl go (1, 1)).1 ∧ n = .int .i64 ((r.take k).foldl go (1, 1)).2 ∧ Below w2.heap.size w2 wr) (fun _ _ i _ => r.length - (intOf i).toNat)
  case atStart => exact ⟨0, Nat.zero_le _, rfl, rfl, rfl, Below.refl _ _⟩
  case round =>
    obtain ⟨k, hk, rfl, rfl, rfl, hb⟩ := hrel
    by_cases hkl : k < r.length
    · obtain ⟨⟨d, f⟩, hrk⟩ : ∃ p, r[k]? = some p := ⟨_, List.getElem?_eq_getElem hkl⟩
      have hs := fold_snoc r (1, 1) k _ hrk
      have hpk := hok.out (d, f) (List.mem_cons_of_mem _ (List.mem_of_getElem? hrk))
      have hcc := (HC2.out.below hb).at_ (k + 1) (d, f) (by simpa using hrk)
      rw [show off + (k + 1) * 2 = off + 2 + k * 2 by omega] at hcc
      have hat := run_at r k
      generalize (r.take k).foldl go (1, 1) = st at *
      obtain ⟨s, n⟩ := st
      unfold PkOk at hpk
      simp only at hcc hpk hat
      obtain ⟨c1, c2, _, _⟩ := hcc
      have HS := Lib.hid hs
      clear hs hrk
      obtain ⟨hp1, hp2, hp3, hp4⟩ := hpk
      obtain ⟨ha1, ha2, ha3, ha4⟩ := hat
      have hkd : decide (k < r.length) = true := by simpa using hkl
      go_wp2_with (first | (go_at_call 25; refine (rstep_any _ _ _ _ ?_ ?_ ⟨?_, ?_⟩).mono ?_; omega; omega; omega; omega; rintro e w' ⟨rfl, rfl⟩))
      · have hy : (stp s d f != 0) = true := by assumption
        have hb3 := hb.alloc hb.size (.cells #[.int .u8 d, .int .u8 f] 33)
        go_roundw
        case rel => exact ⟨k + 1, by omega, by go_num, by rw [HS.out, go_yes hy], by rw [HS.out, go_yes hy], hb3⟩
        case measure => simp [intOf]; omega
      · have hy : (stp s d f != 0) = false := by assumption
        have hb3 := hb.alloc hb.size (.cells #[.int .u8 d, .int .u8 f] 33)
        go_roundw
        case rel => exact ⟨k + 1, by omega, by go_num, by rw [HS.out, go_no hy], by rw [HS.out, go_no hy], hb3⟩
        case measure => simp [intOf]; omega
    · obtain rfl : k = r.length := by omega
      have e : r.take r.length = r := List.take_length
      rw [e]
      clear e
      obtain ⟨wo, rfl⟩ : ∃ wo : World, wo = wr := ⟨_, rfl⟩
      have HC3 := Lib.hid (HC2.out.below hb)
      have hb03 := bthen hb02 hb
      generalize r.foldl go (1, 1) = st at *
      obtain ⟨s, n⟩ := st
      simp only
      have hkd : decide (r.length < r.length) = false := by simp
      go_wp2_with fail
      go_loopw [65] (fun i wr => ∃ k : Nat, k ≤ r.length + 1 ∧ i = .int .i64 k ∧ Below wo.heap.size wo wr) (fun i _ => r.length + 1 - (intOf i).toNat)
      case atStart => exact ⟨0, Nat.zero_le _, rfl, Below.refl _ _⟩
      case round =>
        obtain ⟨k, hk, rfl, hb4⟩ := hrel
        by_cases hkl : k < r.length + 1
        · obtain ⟨⟨d, f⟩, hrk⟩ : ∃ p, ((0, f0) :: r)[k]? = some p := ⟨_, List.getElem?_eq_getElem (by simpa using hkl)⟩
          have hcc := (HC3.out.below hb4).at_ k (d, f) hrk
          simp only at hcc
          obtain ⟨c1, c2, c3, c4⟩ := hcc
          have hk0 : (0 : Int) ≤ (k : Int) := by omega
          have hk1 : (k : Int) < (r.length : Int) + 1 := by omega
          have hkd : decide ((k : Int) < (r.length : Int) + 1) = true := by simpa using hk1
          clear hrk
          go_wp2_with fail
          go_quiet (fail)
          go_wp2_with fail
          have hb5 := below_drewN hb4 nq
          go_roundw
          case rel => exact ⟨k + 1, by omega, by go_num, hb5⟩
          case measure => simp [intOf]; omega
        · have hkd : decide ((k : Int) < (r.length : Int) + 1) = false := by simp; omega
          go_wp2_with fail
          go_ret
          exact ⟨by simp, bthen hb03 hb4⟩

set_option maxRecDepth 100000 in
set_option maxHeartbeats 1000000 in
theorem runs_nodir (b off : Nat) (d0 f0 : Int) (r : List Pk) (c : Nat) (w : World) (hnc : r.length + 1 ≤ c) (hl : r.length + 1 ≤ 1000) (hmx : c ≤ maxLen) (hlt : b < w.heap.size)
    (hT : Hid (Tab w)) (hok : Hid (∀ p ∈ (d0, f0) :: r, PkOk p)) (hrd : Hid (Rd w (some ⟨b, off, none⟩) 2 (((d0, f0) :: r).map pc))) (hd : (d0 == 0) = false) :
    Calls Tryd.prog 11 #[.slice (some ⟨b, off, none⟩) (r.length + 1) c] w fun e w' => e = .returned (.bool true) ∧ Below w.heap.size w w' := by
  obtain ⟨i0, hi, hz0, hz1, hz2⟩ := info_parts info33
  have hmx1 : 2000 ≤ maxLen := mx2000
  have hnews := Lib.hid (hrd.out.below ((Below.refl _ _).alloc (Nat.le_refl _) (.cells #[] 33)))
  have hl2 := Lib.hid (pc_len ((d0, f0) :: r))
  have hone := Lib.hid (pc_one ((d0, f0) :: r))
  have hb15 : decide ((1000 : Int) < r.length + 1) = false := by simp; omega
  go_enter Tryd.func11, Tryd.ntmps11
  go_wp2_with (at_builtin; refine wpList_append_lies _ rfl _ _ 22 rfl w.heap.size 33 i0 (.agg #[.int .u8 0, .int .u8 0]) 2 2 Tryd.underlying22 hi hz0 hz1 hz2 rfl (by decide) _ 0 [] rfl ⟨rfl, .inr ⟨w.heap.size, 0, #[], rfl, Nat.le_refl _, heap_alloc_new _ _, Nat.le_refl _, Nat.zero_le _, rfl, rfl⟩⟩ ⟨b, off, none⟩ (r.length + 1) c (((d0, f0) :: r).map pc).flatten rfl hl2.out (hnews.out.news (by decide)) hone.out ?_ ?_ ?_ ?_ (w.heap.size + 1) (by simp) ?_; omega; omega; omega; (simp <;> omega); intro g cap w1 hown hgrow hat hglt)
  obtain ⟨hb1, hC, hcap⟩ := copied b off g cap ((d0, f0) :: r) w w1 hT.out hrd.out hown hgrow hglt
  have HC := Lib.hid hC
  clear hown hgrow hat hC hnews hl2 hone
  refine (run_n _ ((d0, f0) :: r) _ cap w1 (by simp) (by simpa using hcap) HC.out.tab ⟨hok.out, by simp; omega, HC.out.new⟩).mono ?_
  rintro e w2 ⟨rfl, hb2⟩
  have e : run ((d0, f0) :: r) = (0, 0) := by unfold run; dsimp only; rw [if_neg (fun h => by simp [h.1] at hd)]
  rw [e]
  clear e
  have hb02 := bthen hb1 hb2
  have HC2 := Lib.hid (HC.out.below hb2)
  have hcz := HC2.out.at_ 0 _ rfl
  simp only [Nat.zero_mul, Nat.add_zero, Nat.zero_add] at hcz
  obtain ⟨hz1', hz2', hz3', hz4'⟩ := hcz
  clear HC
  go_wp2_with fail
  go_loopw [65] (fun i wr => ∃ k : Nat, k ≤ r.length + 1 ∧ i = .int .i64 k ∧ Below w2.heap.size w2 wr) (fun i _ => r.length + 1 - (intOf i).toNat)
  case atStart => exact ⟨0, Nat.zero_le _, rfl, Below.refl _ _⟩
  case round =>
    obtain ⟨k, hk, rfl, hb4⟩ := hrel
    by_cases hkl : k < r.length + 1
    · obtain ⟨⟨d, f⟩, hrk⟩ : ∃ p, ((d0, f0) :: r)[k]? = some p := ⟨_, List.getElem?_eq_getElem (by simpa using hkl)⟩
      have hcc := (HC2.out.below hb4).at_ k (d, f) hrk
      simp only at hcc
      obtain ⟨c1, c2, c3, c4⟩ := hcc
      have hk0 : (0 : Int) ≤ (k : Int) := by omega
      have hk1 : (k : Int) < (r.length : Int) + 1 := by omega
      have hkd : decide ((k : Int) < (r.length : Int) + 1) = true := by simpa using hk1
      clear hrk
      go_wp2_with fail
      go_quiet (fail)
      go_wp2_with fail
      have hb5 := below_drewN hb4 nq
      go_roundw
      case rel => exact ⟨k + 1, by omega, by go_num, hb5⟩
      case measure => simp [intOf]; omega
    · have hkd : decide ((k : Int) < (r.length : Int) + 1) = false := by simp; omega
      go_wp2_with fail
      go_ret
      exact ⟨by simp, bthen hb02 hb4⟩

set_option maxRecDepth 100000 in
set_option maxHeartbeats 1000000 in
theorem runs_nosyn (b off : Nat) (f0 : Int) (r : List Pk) (c : Nat) (w : World) (hnc : r.length + 1 ≤ c) (hl : r.length + 1 ≤ 1000) (hmx : c ≤ maxLen) (hlt : b < w.heap.size)
    (hT : Hid (Tab w)) (hok : Hid (∀ p ∈ (0, f0) :: r, PkOk p)) (hrd : Hid (Rd w (some ⟨b, off, none⟩) 2 (((0, f0) :: r).map pc))) (hf0 : (cls f0 == 1) = false) :
    Calls Tryd.prog 11 #[.slice (some ⟨b, off, none⟩) (r.length + 1) c] w fun e w' => e = .returned (.bool true) ∧ Below w.heap.size w w' := by
  obtain ⟨i0, hi, hz0, hz1, hz2⟩ := info_parts info33
  have hmx1 : 2000 ≤ maxLen := mx2000
  have hnews := Lib.hid (hrd.out.below ((Below.refl _ _).alloc (Nat.le_refl _) (.cells #[] 33)))
  have hl2 := Lib.hid (pc_len ((0, f0) :: r))
  have hone := Lib.hid (pc_one ((0, f0) :: r))
  have hb15 : decide ((1000 : Int) < r.length + 1) = false := by simp; omega
  go_enter Tryd.func11, Tryd.ntmps11
  go_wp2_with (at_builtin; refine wpList_append_lies _ rfl _ _ 22 rfl w.heap.size 33 i0 (.agg #[.int .u8 0, .int .u8 0]) 2 2 Tryd.underlying22 hi hz0 hz1 hz2 rfl (by decide) _ 0 [] rfl ⟨rfl, .inr ⟨w.heap.size, 0, #[], rfl, Nat.le_refl _, heap_alloc_new _ _, Nat.le_refl _, Nat.zero_le _, rfl, rfl⟩⟩ ⟨b, off, none⟩ (r.length + 1) c (((0, f0) :: r).map pc).flatten rfl hl2.out (hnews.out.news (by decide)) hone.out ?_ ?_ ?_ ?_ (w.heap.size + 1) (by simp) ?_; omega; omega; omega; (simp <;> omega); intro g cap w1 hown hgrow hat hglt)
  obtain ⟨hb1, hC, hcap⟩ := copied b off g cap ((0, f0) :: r) w w1 hT.out hrd.out hown hgrow hglt
  have HC := Lib.hid hC
  clear hown hgrow hat hC hnews hl2 hone
  refine (run_n _ ((0, f0) :: r) _ cap w1 (by simp) (by simpa using hcap) HC.out.tab ⟨hok.out, by simp; omega, HC.out.new⟩).mono ?_
  rintro e w2 ⟨rfl, hb2⟩
  have e : run ((0, f0) :: r) = (0, 0) := by unfold run; dsimp only; rw [if_neg (fun h => by simp [h.2] at hf0)]
  rw [e]
  clear e
  have hb02 := bthen hb1 hb2
  have HC2 := Lib.hid (HC.out.below hb2)
  have hcz := HC2.out.at_ 0 _ rfl
  simp only [Nat.zero_mul, Nat.add_zero, Nat.zero_add] at hcz
  obtain ⟨hz1', hz2', hz3', hz4'⟩ := hcz
  have hokf := hok.out (0, f0) (by simp)
  clear HC
  go_wp2_with (go_at_call 24; refine (rclass_any _ _ ⟨hokf.2.2.1, hokf.2.2.2⟩).mono ?_; rintro e w' ⟨rfl, rfl⟩)
  go_loopw [65] (fun i wr => ∃ k : Nat, k ≤ r.length + 1 ∧ i = .int .i64 k ∧ Below w2.heap.size w2 wr) (fun i _ => r.length + 1 - (intOf i).toNat)
  case atStart => exact ⟨0, Nat.zero_le _, rfl, Below.refl _ _⟩
  case round =>
    obtain ⟨k, hk, rfl, hb4⟩ := hrel
    by_cases hkl : k < r.length + 1
    · obtain ⟨⟨d, f⟩, hrk⟩ : ∃ p, ((0, f0) :: r)[k]? = some p := ⟨_, List.getElem?_eq_getElem (by simpa using hkl)⟩
      have hcc := (HC2.out.below hb4).at_ k (d, f) hrk
      simp only at hcc
      obtain ⟨c1, c2, c3, c4⟩ := hcc
      have hk0 : (0 : Int) ≤ (k : Int) := by omega
      have hk1 : (k : Int) < (r.length : Int) + 1 := by omega
      have hkd : decide ((k : Int) < (r.length : Int) + 1) = true := by simpa using hk1
      clear hrk
      go_wp2_with fail
      go_quiet (fail)
      go_wp2_with fail
      have hb5 := below_drewN hb4 nq
      go_roundw
      case rel => exact ⟨k + 1, by omega, by go_num, hb5⟩
      case measure => simp [intOf]; omega
    · have hkd : decide ((k : Int) < (r.length : Int) + 1) = false := by simp; omega
      go_wp2_with fail
      go_ret
      exact ⟨by simp, bthen hb02 hb4⟩

set_option maxRecDepth 100000 in
set_option maxHeartbeats 1000000 in
theorem runs_one (b off : Nat) (f0 : Int) (w : World) (hlt : b < w.heap.size)
    (hT : Hid (Tab w)) (hok : Hid (∀ p ∈ [((0 : Int), f0)], PkOk p)) (hrd : Hid (Rd w (some ⟨b, off, none⟩) 2 ([((0 : Int), f0)].map pc))) (hf0 : Hid (cls f0 = 1)) :
    Calls Tryd.prog 11 #[.slice (some ⟨b, off, none⟩) 1 1] w fun e w' => e = .returned (.bool true) ∧ Below w.heap.size w w' := by
  obtain ⟨i0, hi, hz0, hz1, hz2⟩ := info_parts info33
  have hmx1 : 2000 ≤ maxLen := mx2000
  have hnews := Lib.hid (hrd.out.below ((Below.refl _ _).alloc (Nat.le_refl _) (.cells #[] 33)))
  have hl2 := Lib.hid (pc_len [(0, f0)])
  have hone := Lib.hid (pc_one [(0, f0)])
  go_enter Tryd.func11, Tryd.ntmps11
  go_wp2_with (at_builtin; refine wpList_append_lies _ rfl _ _ 22 rfl w.heap.size 33 i0 (.agg #[.int .u8 0, .int .u8 0]) 2 2 Tryd.underlying22 hi hz0 hz1 hz2 rfl (by decide) _ 0 [] rfl ⟨rfl, .inr ⟨w.heap.size, 0, #[], rfl, Nat.le_refl _, heap_alloc_new _ _, Nat.le_refl _, Nat.zero_le _, rfl, rfl⟩⟩ ⟨b, off, none⟩ 1 1 ([((0 : Int), f0)].map pc).flatten rfl hl2.out (hnews.out.news (by decide)) hone.out ?_ ?_ ?_ ?_ (w.heap.size + 1) (by simp) ?_; omega; omega; omega; (simp <;> omega); intro g cap w1 hown hgrow hat hglt)
  obtain ⟨hb1, hC, hcap⟩ := copied b off g cap [(0, f0)] w w1 hT.out hrd.out hown hgrow hglt
  have HC := Lib.hid hC
  clear hown hgrow hat hC hnews hl2 hone
  refine (run_n _ [(0, f0)] _ cap w1 (by simp) (by simpa using hcap) HC.out.tab ⟨hok.out, by simp, HC.out.new⟩).mono ?_
  rintro e w2 ⟨rfl, hb2⟩
  have e : run [(0, f0)] = (1, 1) := by unfold run; dsimp only; rw [if_pos ⟨rfl, hf0.out⟩]; rfl
  rw [e]
  clear e
  have hb02 := bthen hb1 hb2
  have HC2 := Lib.hid (HC.out.below hb2)
  have hcz := HC2.out.at_ 0 _ rfl
  simp only [Nat.zero_mul, Nat.add_zero, Nat.zero_add] at hcz
  obtain ⟨hz1', hz2', hz3', hz4'⟩ := hcz
  have hokf := hok.out (0, f0) (by simp)
  have hcl : ∀ W, Calls Tryd.prog 24 #[.int .u8 f0] W fun e w' => e = .returned (.int .i64 1) ∧ W = w' := fun W => rclass_is f0 1 W ⟨hokf.2.2.1, hokf.2.2.2⟩ hf0.out
  have Hcl := Lib.hid hcl
  clear hcl hokf HC
  go_wp2_with (go_at_call 24; refine (Hcl.out _).mono ?_; rintro e w' ⟨rfl, rfl⟩)
  refine wp_loop_rounds 1 ?_
  rw [rounds_succ]
  go_wp2_with fail
  refine wp_loop_rounds 2 ?_
  rw [rounds_succ]
  go_wp2_with fail
  go_quiet (fail)
  go_wp2_with fail
  rw [rounds_succ]
  go_wp2_with fail
  go_ret
  exact ⟨by simp, below_drewN hb02 _⟩

set_option maxRecDepth 100000 in
set_option maxHeartbeats 1000000 in
theorem runs_nil (w : World) : Calls Tryd.prog 11 #[.slice none 0 0] w fun e w' => e = .returned (.bool true) ∧ Below w.heap.size w w' := by
  obtain ⟨i0, hi, hz0, hz1, hz2⟩ := info_parts info33
  go_enter Tryd.func11, Tryd.ntmps11
  go_wp2_with (first | (at_builtin; refine wpList_append_own_none rfl _ _ 22 rfl w.heap.size 33 i0 2 Tryd.underlying22 hi _ 0 [] rfl ⟨rfl, .inr ⟨w.heap.size, 0, #[], rfl, Nat.le_refl _, heap_alloc_new _ _, Nat.le_refl _, Nat.zero_le _, rfl, rfl⟩⟩ rfl ?_) | (go_at_call 13; refine (run_nil _ _ _).mono ?_; rintro e w' ⟨rfl, rfl⟩))
  refine wp_loop_rounds 1 ?_
  rw [rounds_succ]
  go_wp2_with fail
  go_ret
  exact ⟨by simp, (Below.refl _ _).alloc (Nat.le_refl _) _⟩

set_option maxRecDepth 100000 in
set_option maxHeartbeats 1000000 in
theorem runs_empty (a : Addr) (c : Nat) (w : World) : Calls Tryd.prog 11 #[.slice (some a) 0 c] w fun e w' => e = .returned (.bool true) ∧ Below w.heap.size w w' := by
  obtain ⟨i0, hi, hz0, hz1, hz2⟩ := info_parts info33
  go_enter Tryd.func11, Tryd.ntmps11
  go_wp2_with (first | (at_builtin; refine wpList_append_own _ rfl _ _ 22 rfl w.heap.size 33 i0 (.agg #[.int .u8 0, .int .u8 0]) 2 2 Tryd.underlying22 hi hz0 hz1 hz2 rfl (by decide) _ 0 [] rfl ⟨rfl, .inr ⟨w.heap.size, 0, #[], rfl, Nat.le_refl _, heap_alloc_new _ _, Nat.le_refl _, Nat.zero_le _, rfl, rfl⟩⟩ a 0 c [] rfl rfl (fun j u h => by simp at h) (fun u h => by simp at h) (Nat.zero_le _) (Nat.zero_le _) ?_ ?_; (simp <;> omega); intro v' w1 hown hgrow hiff))
  have hb1 : Below w.heap.size w w1 := ((Below.refl _ _).alloc (Nat.le_refl _) _).grown hgrow (by simp) (fun k hk => by cases hk; exact Nat.le_refl _)
  have hex : ∃ A' c', v' = .slice A' 0 c' := by
    rcases hown.2 with ⟨h, _⟩ | ⟨g', cap', cur, h, _⟩
    · exact ⟨_, _, h⟩
    · exact ⟨_, _, h⟩
  clear hown hgrow hiff
  obtain ⟨A', c', hv⟩ := hex
  rw [hv]
  clear hv
  refine (run_nil _ _ _).mono ?_
  rintro e w' ⟨rfl, rfl⟩
  go_wp2_with fail
  refine wp_loop_rounds 1 ?_
  rw [rounds_succ]
  go_wp2_with fail
  go_ret
  exact ⟨by simp, hb1⟩

/-- The law's 'runs', whatever slice of packets. -/
theorem runs_any (A : Option Addr) (l : List Pk) (n c : Nat) (w : World) (hT : Tab w) (hn : n = l.length) (hc : n ≤ c) (hmx : c ≤ maxLen) (hnil : A = none → n = 0 ∧ c = 0) (hok : ∀ p ∈ l, PkOk p) (hrd : Rd w A 2 (l.map pc)) :
    Calls Tryd.prog 11 #[.slice A n c] w fun e w' => e = .returned (.bool true) ∧ Below w.heap.size w w' := by
  subst hn
  by_cases hlong : 1000 < l.length
  · exact runs_long A _ c w hlong
  cases l with
  | nil =>
    cases A with
    | none =>
      obtain ⟨_, rfl⟩ := hnil rfl
      exact runs_nil w
    | some a => exact runs_empty a c w
  | cons p r =>
    obtain ⟨d0, f0⟩ := p
    obtain ⟨b, off, rfl, hlt, _⟩ := hrd.mem (by simp)
    have hl : r.length + 1 ≤ 1000 := by simp at hlong; omega
    by_cases hd : d0 = 0
    · subst hd
      by_cases hf : cls f0 = 1
      · by_cases hc1 : c = 1
        · have hr : r = [] := List.eq_nil_of_length_eq_zero (by simp at hc; omega)
          subst hr hc1
          exact runs_one b off f0 w hlt hT hok hrd hf
        · exact runs_yes b off f0 r c w hc hc1 hl hmx hlt hT hok hrd hf
      · exact runs_nosyn b off f0 r c w hc hl hmx hlt hT hok hrd (by simpa using hf)
    · exact runs_nodir b off d0 f0 r c w hc hl hmx hlt hT hok hrd (by simpa using hd)

end Go.Proofs.YtdnammkfipfdbaaDoor

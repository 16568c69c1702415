/-
  The contract of the laws' own 'flow': packets made of numbers, in a new row.
-/
import Derived.Test.YtdnammkfipfdbaaDoorRun
namespace Go.Proofs.YtdnammkfipfdbaaDoor
open Go.RowKit
set_option linter.unusedVariables false

def one (z : Int) : List Value := [.int .u16 z]

/-- A packet made of a number. -/
def word (z : Int) : Pk := (z % 2, ([2, 18, 16, 24, 17, 4, 20, z / 16 % 256] : List Int).getD (z / 2 % 8).toNat 0)
def fl (zs : List Int) (k : Nat) : List Pk := (0, 2) :: (zs.take k).map word

theorem and1 (z : Int) (h : 0 ≤ z ∧ z ≤ 65535) : bits .and .u16 z 1 = z % 2 := by
  obtain ⟨n, rfl⟩ := Int.eq_ofNat_of_zero_le h.1
  have := u16_and_nat n 1 (by omega) (by omega)
  rw [nat_mask1] at this
  simpa using this
theorem and7 (z : Int) (h : 0 ≤ z ∧ z ≤ 65535) : bits .and .u16 z 7 = z % 8 := by
  obtain ⟨n, rfl⟩ := Int.eq_ofNat_of_zero_le h.1
  have := u16_and_nat n 7 (by omega) (by omega)
  rw [nat_mask3] at this
  simpa using this

theorem fl_snoc (zs : List Int) (k : Nat) (z : Int) (h : zs[k]? = some z) : ((fl zs (k + 1)).map pc).flatten = ((fl zs k).map pc).flatten ++ pc (word z) := by
  unfold fl
  rw [List.take_add_one, h]
  simp

/-- A new row of packets. -/
def NewRow (w : World) (l : List Pk) (e : Ending) (w' : World) : Prop :=
  ∃ g cap, e = .returned (.slice (some ⟨g, 0, none⟩) l.length cap) ∧ l.length ≤ cap ∧ w.heap.size ≤ g ∧ g < w'.heap.size ∧ w'.ownsRow w.heap.size 33 2 (.slice (some ⟨g, 0, none⟩) l.length cap) l.length (l.map pc).flatten ∧ Below w.heap.size w w'

theorem info33 : (Tryd.prog.info? 33).map (fun i => (i.zero, i.size, i.bytes)) = some (some (.agg #[.int .u8 0, .int .u8 0]), 2, 2) := by kernel_rfl

theorem new_news (w : World) (o1 : Obj) (a b : Value) : ∀ j u, ([a, b] : List Value)[j]? = some u → ((w.alloc o1).alloc (.cells #[a, b] 33)).cell? ((⟨w.heap.size + 1, 0, none⟩ : Addr).add j) = some u := by
  have h := World.news_of_block (w := (w.alloc o1).alloc (.cells #[a, b] 33)) (B := w.heap.size + 1) (cs := #[a, b]) (t := 33) (fr := (0, 0)) (by
    have := heap_alloc_new (w.alloc o1) (.cells #[a, b] 33)
    simpa using this)
  exact h

theorem mx200 : 200 ≤ maxLen := by decide
theorem fl_len (zs : List Int) (M : Nat) (h : M ≤ zs.length) : (fl zs M).length = M + 1 := by
  unfold fl
  simp
  omega
theorem own_cap {w : World} {base : Nat} {e : TypeId} {size n cap g : Nat} {xs : List Value} (h : w.ownsRow base e size (.slice (some ⟨g, 0, none⟩) n cap) n xs) : n ≤ cap := by
  rcases h.2 with ⟨h, _⟩ | ⟨g', cap', cur, h, _, _, hc, _⟩
  · cases h
  · cases h
    exact hc
theorem word_at (z : Int) (h : 0 ≤ z ∧ z ≤ 65535) : (#[.int .u8 2, .int .u8 18, .int .u8 16, .int .u8 24, .int .u8 17, .int .u8 4, .int .u8 20, .int .u8 (z / 16 % 256)] : Array Value)[(z / 2 % 8).toNat]? = some (.int .u8 (word z).2) := by
  have hq : z / 2 % 8 = 0 ∨ z / 2 % 8 = 1 ∨ z / 2 % 8 = 2 ∨ z / 2 % 8 = 3 ∨ z / 2 % 8 = 4 ∨ z / 2 % 8 = 5 ∨ z / 2 % 8 = 6 ∨ z / 2 % 8 = 7 := by omega
  unfold word
  rcases hq with hq | hq | hq | hq | hq | hq | hq | hq <;> rw [hq] <;> rfl

set_option maxHeartbeats 1000000 in
theorem flow_lt (b off : Nat) (zs : List Int) (n : Nat) (M c : Nat) (w : World) (hc : n < 100) (hn : Hid (zs.length = n)) (hnc : n ≤ c) (h0 : 0 < n) (hl : n ≤ 9223372036854775807) (hlt : b < w.heap.size)
    (hM1 : M ≤ n) (hM2 : n ≤ M) (hM3 : M ≤ 100) (hMn : M ≤ n)
    (hr : Hid (Rd w (some ⟨b, off, none⟩) 1 (zs.map one))) (hz : Hid (∀ z ∈ zs, 0 ≤ z ∧ z ≤ 65535)) :
    Calls Tryd.prog 14 #[.slice (some ⟨b, off, none⟩) n c] w (NewRow w (fl zs M)) := by
  obtain ⟨i0, hi, hz0, hz1, hz2⟩ := info_parts info33
  have hmx1 : 200 ≤ maxLen := mx200
  have hlen : Hid ((fl zs M).length = M + 1) := fl_len zs M (by rw [hn.out]; exact hMn)
  go_enter Tryd.func14, Tryd.ntmps14
  go_wp2_with fail
  go_loopw [3, 15] (fun v i wr => ∃ k g cap : Nat, k ≤ M ∧ i = .int .i64 k ∧ v = .slice (some ⟨g, 0, none⟩) (k + 1) cap ∧ wr.ownsRow w.heap.size 33 2 (.slice (some ⟨g, 0, none⟩) (k + 1) cap) (k + 1) ((fl zs k).map pc).flatten ∧ g < wr.heap.size ∧ w.heap.size ≤ g ∧ Below w.heap.size w wr) (fun _ i _ => 100 - (intOf i).toNat)
  case atStart =>
    refine ⟨0, w.heap.size, 1, Nat.zero_le _, rfl, rfl, ?_, by simp, Nat.le_refl _, (Below.refl _ _).alloc (Nat.le_refl _) _⟩
    exact ⟨rfl, .inr ⟨w.heap.size, 1, #[.int .u8 0, .int .u8 2], rfl, Nat.le_refl _, heap_alloc_new _ _, by decide, by omega, rfl, rfl⟩⟩
  case round =>
    obtain ⟨k, g, cap, hk, rfl, rfl, hown, hg, hgb, hb⟩ := hrel
    have hbs := hb.size
    by_cases hkl : k < M
    · obtain ⟨z, hzk⟩ : ∃ z, zs[k]? = some z := ⟨_, List.getElem?_eq_getElem (by have := hn.out; omega)⟩
      have hzb := hz.out z (List.mem_of_getElem? hzk)
      have hcell := hr.out.cell (i := k) (cs := one z) (by simp [hzk]) (j := 0) rfl
      rw [Nat.mul_one, Nat.add_zero] at hcell
      have hc1 := (hb.cell (p := ⟨b, off + k, none⟩) hlt).trans hcell
      have HS := Lib.hid (fl_snoc zs k z hzk)
      have ha1 := and1 z hzb
      have ha2 := and7 (z / 2) (by omega)
      have hq := word_at z hzb
      obtain ⟨f, hf⟩ : ∃ f, word z = (z % 2, f) := ⟨_, rfl⟩
      rw [hf] at HS hq
      have HO := Lib.hid hown
      clear hzk hcell hown hf
      have hk1 : decide (k < n) = true := by simp; omega
      go_wp2_with (at_builtin; refine wpList_append_lies _ rfl _ _ 22 rfl w.heap.size 33 i0 (.agg #[.int .u8 0, .int .u8 0]) 2 2 Tryd.underlying22 hi hz0 hz1 hz2 rfl (by decide) _ (k + 1) _ rfl ((HO.out.alloc _).alloc _) ⟨wr.heap.size + 1, 0, none⟩ 1 1 [.int .u8 (z % 2), .int .u8 f] rfl rfl ?_ ?_ (by decide) ?_ ?_ ?_ (wr.heap.size + 1 + 1) (by simp) ?_; exact new_news _ _ _ _; simp [Value.oneCell']; omega; omega; (simp <;> omega); intro g' cap' w1 hown1 hgrow hat hlt1)
      have hb1 := ((hb.alloc hbs _).alloc (by simp <;> omega) _).grown hgrow (by simp <;> omega) (fun k hk => by cases hk; exact hgb)
      have hgb1 : w.heap.size ≤ g' := by rcases hat with h | h; (cases h; exact hgb); omega
      go_roundw
      case rel => exact ⟨k + 1, g', cap', by omega, by go_num, rfl, by rw [HS.out]; exact hown1, hlt1, hgb1, hb1⟩
      case measure => simp [intOf]; omega
    · obtain rfl : k = M := by omega
      have hk1 : decide (k < n) = false := by simp; omega
      go_wp2_with fail
      go_ret
      exact ⟨g, cap, by rw [hlen.out]; rfl, by rw [hlen.out]; exact own_cap hown, hgb, hg, by rw [hlen.out]; exact hown, hb⟩

set_option maxHeartbeats 1000000 in
theorem flow_eq (b off : Nat) (zs : List Int)  (M c : Nat) (w : World)  (hn : Hid (zs.length = 100)) (hnc : 100 ≤ c) (h0 : 0 < 100) (hl : 100 ≤ 9223372036854775807) (hlt : b < w.heap.size)
    (hM1 : M ≤ 100) (hM2 : 100 ≤ M) (hM3 : M ≤ 100) (hMn : M ≤ 100)
    (hr : Hid (Rd w (some ⟨b, off, none⟩) 1 (zs.map one))) (hz : Hid (∀ z ∈ zs, 0 ≤ z ∧ z ≤ 65535)) :
    Calls Tryd.prog 14 #[.slice (some ⟨b, off, none⟩) 100 c] w (NewRow w (fl zs M)) := by
  obtain ⟨i0, hi, hz0, hz1, hz2⟩ := info_parts info33
  have hmx1 : 200 ≤ maxLen := mx200
  have hlen : Hid ((fl zs M).length = M + 1) := fl_len zs M (by rw [hn.out]; exact hMn)
  go_enter Tryd.func14, Tryd.ntmps14
  go_wp2_with fail
  go_loopw [3, 15] (fun v i wr => ∃ k g cap : Nat, k ≤ M ∧ i = .int .i64 k ∧ v = .slice (some ⟨g, 0, none⟩) (k + 1) cap ∧ wr.ownsRow w.heap.size 33 2 (.slice (some ⟨g, 0, none⟩) (k + 1) cap) (k + 1) ((fl zs k).map pc).flatten ∧ g < wr.heap.size ∧ w.heap.size ≤ g ∧ Below w.heap.size w wr) (fun _ i _ => 100 - (intOf i).toNat)
  case atStart =>
    refine ⟨0, w.heap.size, 1, Nat.zero_le _, rfl, rfl, ?_, by simp, Nat.le_refl _, (Below.refl _ _).alloc (Nat.le_refl _) _⟩
    exact ⟨rfl, .inr ⟨w.heap.size, 1, #[.int .u8 0, .int .u8 2], rfl, Nat.le_refl _, heap_alloc_new _ _, by decide, by omega, rfl, rfl⟩⟩
  case round =>
    obtain ⟨k, g, cap, hk, rfl, rfl, hown, hg, hgb, hb⟩ := hrel
    have hbs := hb.size
    by_cases hkl : k < M
    · obtain ⟨z, hzk⟩ : ∃ z, zs[k]? = some z := ⟨_, List.getElem?_eq_getElem (by have := hn.out; omega)⟩
      have hzb := hz.out z (List.mem_of_getElem? hzk)
      have hcell := hr.out.cell (i := k) (cs := one z) (by simp [hzk]) (j := 0) rfl
      rw [Nat.mul_one, Nat.add_zero] at hcell
      have hc1 := (hb.cell (p := ⟨b, off + k, none⟩) hlt).trans hcell
      have HS := Lib.hid (fl_snoc zs k z hzk)
      have ha1 := and1 z hzb
      have ha2 := and7 (z / 2) (by omega)
      have hq := word_at z hzb
      obtain ⟨f, hf⟩ : ∃ f, word z = (z % 2, f) := ⟨_, rfl⟩
      rw [hf] at HS hq
      have HO := Lib.hid hown
      clear hzk hcell hown hf
      have hk1 : decide ((k : Int) < 100) = true := by simp; omega
      go_wp2_with (at_builtin; refine wpList_append_lies _ rfl _ _ 22 rfl w.heap.size 33 i0 (.agg #[.int .u8 0, .int .u8 0]) 2 2 Tryd.underlying22 hi hz0 hz1 hz2 rfl (by decide) _ (k + 1) _ rfl ((HO.out.alloc _).alloc _) ⟨wr.heap.size + 1, 0, none⟩ 1 1 [.int .u8 (z % 2), .int .u8 f] rfl rfl ?_ ?_ (by decide) ?_ ?_ ?_ (wr.heap.size + 1 + 1) (by simp) ?_; exact new_news _ _ _ _; simp [Value.oneCell']; omega; omega; (simp <;> omega); intro g' cap' w1 hown1 hgrow hat hlt1)
      have hb1 := ((hb.alloc hbs _).alloc (by simp <;> omega) _).grown hgrow (by simp <;> omega) (fun k hk => by cases hk; exact hgb)
      have hgb1 : w.heap.size ≤ g' := by rcases hat with h | h; (cases h; exact hgb); omega
      go_roundw
      case rel => exact ⟨k + 1, g', cap', by omega, by go_num, rfl, by rw [HS.out]; exact hown1, hlt1, hgb1, hb1⟩
      case measure => simp [intOf]; omega
    · obtain rfl : k = M := by omega
      have hk1 : decide ((k : Int) < 100) = false := by simp; omega
      go_wp2_with fail
      go_ret
      exact ⟨g, cap, by rw [hlen.out]; rfl, by rw [hlen.out]; exact own_cap hown, hgb, hg, by rw [hlen.out]; exact hown, hb⟩

set_option maxHeartbeats 1000000 in
theorem flow_gt (b off : Nat) (zs : List Int) (n : Nat) (M c : Nat) (w : World) (hc : 100 < n) (hn : Hid (zs.length = n)) (hnc : n ≤ c) (h0 : 0 < n) (hl : n ≤ 9223372036854775807) (hlt : b < w.heap.size)
    (hM1 : M ≤ 100) (hM2 : 100 ≤ M) (hM3 : M ≤ 100) (hMn : M ≤ n)
    (hr : Hid (Rd w (some ⟨b, off, none⟩) 1 (zs.map one))) (hz : Hid (∀ z ∈ zs, 0 ≤ z ∧ z ≤ 65535)) :
    Calls Tryd.prog 14 #[.slice (some ⟨b, off, none⟩) n c] w (NewRow w (fl zs M)) := by
  obtain ⟨i0, hi, hz0, hz1, hz2⟩ := info_parts info33
  have hmx1 : 200 ≤ maxLen := mx200
  have hlen : Hid ((fl zs M).length = M + 1) := fl_len zs M (by rw [hn.out]; exact hMn)
  go_enter Tryd.func14, Tryd.ntmps14
  go_wp2_with fail
  go_loopw [3, 15] (fun v i wr => ∃ k g cap : Nat, k ≤ M ∧ i = .int .i64 k ∧ v = .slice (some ⟨g, 0, none⟩) (k + 1) cap ∧ wr.ownsRow w.heap.size 33 2 (.slice (some ⟨g, 0, none⟩) (k + 1) cap) (k + 1) ((fl zs k).map pc).flatten ∧ g < wr.heap.size ∧ w.heap.size ≤ g ∧ Below w.heap.size w wr) (fun _ i _ => 100 - (intOf i).toNat)
  case atStart =>
    refine ⟨0, w.heap.size, 1, Nat.zero_le _, rfl, rfl, ?_, by simp, Nat.le_refl _, (Below.refl _ _).alloc (Nat.le_refl _) _⟩
    exact ⟨rfl, .inr ⟨w.heap.size, 1, #[.int .u8 0, .int .u8 2], rfl, Nat.le_refl _, heap_alloc_new _ _, by decide, by omega, rfl, rfl⟩⟩
  case round =>
    obtain ⟨k, g, cap, hk, rfl, rfl, hown, hg, hgb, hb⟩ := hrel
    have hbs := hb.size
    by_cases hkl : k < M
    · obtain ⟨z, hzk⟩ : ∃ z, zs[k]? = some z := ⟨_, List.getElem?_eq_getElem (by have := hn.out; omega)⟩
      have hzb := hz.out z (List.mem_of_getElem? hzk)
      have hcell := hr.out.cell (i := k) (cs := one z) (by simp [hzk]) (j := 0) rfl
      rw [Nat.mul_one, Nat.add_zero] at hcell
      have hc1 := (hb.cell (p := ⟨b, off + k, none⟩) hlt).trans hcell
      have HS := Lib.hid (fl_snoc zs k z hzk)
      have ha1 := and1 z hzb
      have ha2 := and7 (z / 2) (by omega)
      have hq := word_at z hzb
      obtain ⟨f, hf⟩ : ∃ f, word z = (z % 2, f) := ⟨_, rfl⟩
      rw [hf] at HS hq
      have HO := Lib.hid hown
      clear hzk hcell hown hf
      have hk1 : decide ((k : Int) < 100) = true := by simp; omega
      go_wp2_with (at_builtin; refine wpList_append_lies _ rfl _ _ 22 rfl w.heap.size 33 i0 (.agg #[.int .u8 0, .int .u8 0]) 2 2 Tryd.underlying22 hi hz0 hz1 hz2 rfl (by decide) _ (k + 1) _ rfl ((HO.out.alloc _).alloc _) ⟨wr.heap.size + 1, 0, none⟩ 1 1 [.int .u8 (z % 2), .int .u8 f] rfl rfl ?_ ?_ (by decide) ?_ ?_ ?_ (wr.heap.size + 1 + 1) (by simp) ?_; exact new_news _ _ _ _; simp [Value.oneCell']; omega; omega; (simp <;> omega); intro g' cap' w1 hown1 hgrow hat hlt1)
      have hb1 := ((hb.alloc hbs _).alloc (by simp <;> omega) _).grown hgrow (by simp <;> omega) (fun k hk => by cases hk; exact hgb)
      have hgb1 : w.heap.size ≤ g' := by rcases hat with h | h; (cases h; exact hgb); omega
      go_roundw
      case rel => exact ⟨k + 1, g', cap', by omega, by go_num, rfl, by rw [HS.out]; exact hown1, hlt1, hgb1, hb1⟩
      case measure => simp [intOf]; omega
    · obtain rfl : k = M := by omega
      have hk1 : decide ((k : Int) < 100) = false := by simp; omega
      go_wp2_with fail
      go_ret
      exact ⟨g, cap, by rw [hlen.out]; rfl, by rw [hlen.out]; exact own_cap hown, hgb, hg, by rw [hlen.out]; exact hown, hb⟩

set_option maxHeartbeats 1000000 in
theorem flow_nil (A : Option Addr) (c : Nat) (w : World) : Calls Tryd.prog 14 #[.slice A 0 c] w (NewRow w [(0, 2)]) := by
  cases A
  all_goals
    go_enter Tryd.func14, Tryd.ntmps14
    go_wp2_with fail
    refine wp_loop_rounds 1 ?_
    rw [rounds_succ]
    go_wp2_with fail
    go_ret
    exact ⟨w.heap.size, 1, rfl, Nat.le_refl _, Nat.le_refl _, by simp, ⟨rfl, .inr ⟨w.heap.size, 1, #[.int .u8 0, .int .u8 2], rfl, Nat.le_refl _, heap_alloc_new _ _, by decide, Nat.le_trans (by decide) mx200, rfl, rfl⟩⟩, (Below.refl _ _).alloc (Nat.le_refl _) _⟩

/-- The numbers of an argument. -/
structure Nums (w : World) (A : Option Addr) (zs : List Int) : Prop where
  ok : ∀ z ∈ zs, 0 ≤ z ∧ z ≤ 65535
  len : zs.length ≤ 9223372036854775807
  rd : Rd w A 1 (zs.map one)
theorem Nums.below {w w' : World} {A : Option Addr} {zs : List Int} (h : Nums w A zs) (hb : Below w.heap.size w w') : Nums w' A zs := ⟨h.ok, h.len, h.rd.below hb⟩

/-- The packets of the law's numbers: at most 100. -/
def flow (zs : List Int) : List Pk := fl zs (min zs.length 100)

theorem flow_any (A : Option Addr) (zs : List Int) (c : Nat) (w : World) (hc : zs.length ≤ c) (h : Nums w A zs) : Calls Tryd.prog 14 #[.slice A zs.length c] w (NewRow w (flow zs)) := by
  unfold flow
  by_cases h0 : zs = []
  · subst h0
    exact flow_nil A c w
  · obtain ⟨b, off, rfl, hlt, _⟩ := h.rd.mem (by simpa using h0)
    have hp : 0 < zs.length := List.length_pos_iff.2 h0
    rcases Nat.lt_trichotomy zs.length 100 with hl | hl | hl
    · exact flow_lt b off zs zs.length _ c w hl rfl hc hp h.len hlt (by omega) (by omega) (by omega) (by omega) h.rd h.ok
    · have := flow_eq b off zs (min zs.length 100) c w hl (by omega) (by omega) (by omega) hlt (by omega) (by omega) (by omega) (by omega) h.rd h.ok
      rw [hl] at this ⊢
      exact this
    · exact flow_gt b off zs zs.length _ c w hl rfl hc hp h.len hlt (by omega) (by omega) (by omega) (by omega) h.rd h.ok

theorem word_ok (z : Int) (h : 0 ≤ z ∧ z ≤ 65535) : PkOk (word z) := by
  have hq : z / 2 % 8 = 0 ∨ z / 2 % 8 = 1 ∨ z / 2 % 8 = 2 ∨ z / 2 % 8 = 3 ∨ z / 2 % 8 = 4 ∨ z / 2 % 8 = 5 ∨ z / 2 % 8 = 6 ∨ z / 2 % 8 = 7 := by omega
  unfold word PkOk
  rcases hq with hq | hq | hq | hq | hq | hq | hq | hq <;> rw [hq] <;> refine ⟨by dsimp only; omega, by dsimp only; omega, by simp <;> omega, by simp <;> omega⟩
theorem flow_ok (zs : List Int) (h : ∀ z ∈ zs, 0 ≤ z ∧ z ≤ 65535) : ∀ p ∈ flow zs, PkOk p := by
  intro p hp
  unfold flow fl at hp
  rcases List.mem_cons.1 hp with rfl | hp
  · unfold PkOk; decide
  · obtain ⟨z, hz, rfl⟩ := List.mem_map.1 hp
    exact word_ok z (h z (List.mem_of_mem_take hz))
theorem flow_length (zs : List Int) : 0 < (flow zs).length ∧ (flow zs).length ≤ 101 := by
  unfold flow fl
  simp
  omega
theorem flow_cons (zs : List Int) : ∃ r, flow zs = (0, 2) :: r := ⟨_, rfl⟩

/-- What a new row of packets is to its readers. -/
theorem NewRow.seens {w w' : World} {l : List Pk} {e : Ending} (h : NewRow w l e w') (hok : ∀ p ∈ l, PkOk p) (hl : l.length ≤ 1000000) :
    ∃ g cap, e = .returned (.slice (some ⟨g, 0, none⟩) l.length cap) ∧ l.length ≤ cap ∧ Seens w' (some ⟨g, 0, none⟩) l ∧ Below w.heap.size w w' := by
  obtain ⟨g, cap, he, hc, hg, hlt, hown, hb⟩ := h
  exact ⟨g, cap, he, hc, ⟨hok, hl, Rd.of_own hown (pc_each l) hlt⟩, hb⟩

end Go.Proofs.YtdnammkfipfdbaaDoor

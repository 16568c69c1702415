/-
  The contracts of sort.Search at the closure of timeout.Most, of Most itself, and of timeout.Name.
-/
import Derived.Test.YtkcgijkccpiljaaDoorBase
namespace Go.Proofs.YtkcgijkccpiljaaDoor
open Go.RowKit
set_option linter.unusedVariables false
attribute [local go_sem ↓] Go.wp_at_zero Go.wp_at_succ

structure Caught (w : World) (bs bt bl : Nat) (t a b least : Int) : Prop where
  s0 : w.cell? ⟨bs, 0, none⟩ = some (.int .i64 a)
  s1 : w.cell? ⟨bs, 1, none⟩ = some (.int .i64 b)
  t : w.cell? ⟨bt, 0, none⟩ = some (.int .i64 t)
  l : w.cell? ⟨bl, 0, none⟩ = some (.int .i64 least)
theorem Caught.below {w w' : World} {bs bt bl : Nat} {t a b least : Int} (h : Caught w bs bt bl t a b least) (hb : Below w.heap.size w w') : Caught w' bs bt bl t a b least :=
  ⟨(hb.cell (cell_lt h.s0)).trans h.s0, (hb.cell (cell_lt h.s1)).trans h.s1, (hb.cell (cell_lt h.t)).trans h.t, (hb.cell (cell_lt h.l)).trans h.l⟩

set_option maxHeartbeats 400000 in
theorem short_any (bs bt bl : Nat) (t a b least l : Int) (w : World) (h : Caught w bs bt bl t a b least) (ht : 1 ≤ t) (ht2 : t ≤ 16777215) (ha : 0 ≤ a) (hab : a < b) (hb : b ≤ 1048576) (hl : 0 ≤ l) (hlb : l < b) :
    Calls Tryd.prog 37 #[.int .i64 l, .pointer (some ⟨bs, 0, none⟩), .pointer (some ⟨bt, 0, none⟩), .pointer (some ⟨bl, 0, none⟩)] w fun e w' => e = .returned (.bool (decide (scl t a b l < least))) ∧ Below w.heap.size w w' := by
  have HS : Hid (∀ W, Calls Tryd.prog 35 #[.agg #[.int .i64 a, .int .i64 b], .int .i64 t, .int .i64 l] W fun e w' => e = .returned (.int .i64 (scl t a b l)) ∧ w' = W.alloc (.cells #[.int .i64 a, .int .i64 b] 23)) := fun W => scaled_box t a b l W ht ht2 ha hab hb hl hlb
  obtain ⟨h1, h2, h3, h4⟩ := h
  have k1 := cell_lt h1
  have k2 := cell_lt h3
  have k3 := cell_lt h4
  simp only at k1 k2 k3
  clear ht ht2 ha hab hb hl hlb
  generalize scl t a b l = r at *
  go_enter Tryd.func37, Tryd.ntmps37
  go_wp2_with fail
  go_region_held3 (fun w' => w'.cell? ⟨bs, 0, none⟩ = some (.int .i64 a) ∧ w'.cell? ⟨bs, 1, none⟩ = some (.int .i64 b) ∧ w'.cell? ⟨bt, 0, none⟩ = some (.int .i64 t) ∧ w'.cell? ⟨bl, 0, none⟩ = some (.int .i64 least)) (go_keep) (first | (go_at_call 35; ((with_reducible refine (HS.out _).mono ?_); rintro e w' ⟨rfl, rfl⟩)))
  go_wp2_with fail
  go_ret
  exact ⟨rfl, by repeat' (first | exact Below.refl _ _ | refine below_drewN ?_ _ | refine Below.drew ?_ | refine Below.alloc ?_ (by simp <;> omega) _)⟩

/-- What the search finds: the first number that is too much. -/
structure Found (p : Int → Bool) (n x : Int) : Prop where
  lo : 0 ≤ x
  hi : x ≤ n
  pre : 0 < x → p (x - 1) = false
  post : x < n → p x = true

def SearchPost (w : World) (p : Int → Bool) (n : Int) (e : Ending) (w' : World) : Prop := ∃ x, Found p n x ∧ e = .returned (.int .i64 x) ∧ Below w.heap.size w w'

set_option maxHeartbeats 400000 in
theorem search_any (bs bt bl : Nat) (t a b least : Int) (w : World) (h : Caught w bs bt bl t a b least) (ht : 1 ≤ t) (ht2 : t ≤ 16777215) (ha : 0 ≤ a) (hab : a < b) (hb : b ≤ 1048576) :
    Calls Tryd.prog 36 #[.int .i64 b, .func (.func 37) #[] #[.pointer (some ⟨bs, 0, none⟩), .pointer (some ⟨bt, 0, none⟩), .pointer (some ⟨bl, 0, none⟩)]] w (SearchPost w (fun l => decide (scl t a b l < least)) b) := by
  have HS : Hid (∀ W l, Below w.heap.size w W → 0 ≤ l → l < b → Calls Tryd.prog 37 #[.int .i64 l, .pointer (some ⟨bs, 0, none⟩), .pointer (some ⟨bt, 0, none⟩), .pointer (some ⟨bl, 0, none⟩)] W fun e w' => e = .returned (.bool (decide (scl t a b l < least))) ∧ Below W.heap.size W w') := fun W l hB h1 h2 => short_any bs bt bl t a b least l W (h.below hB) ht ht2 ha hab hb h1 h2
  clear h ht ht2
  obtain ⟨p, hp⟩ : ∃ p : Int → Bool, (fun l => decide (scl t a b l < least)) = p := ⟨_, rfl⟩
  have HS2 : Hid (∀ W l, Below w.heap.size w W → 0 ≤ l → l < b → Calls Tryd.prog 37 #[.int .i64 l, .pointer (some ⟨bs, 0, none⟩), .pointer (some ⟨bt, 0, none⟩), .pointer (some ⟨bl, 0, none⟩)] W fun e w' => e = .returned (.bool (p l)) ∧ Below W.heap.size W w') := by subst hp; exact HS
  rw [hp]
  clear hp HS
  go_enter Tryd.func36, Tryd.ntmps36
  go_wp2_with fail
  go_loopw [5, 6] (fun i j wr => ∃ x y : Int, i = .int .i64 x ∧ j = .int .i64 y ∧ 0 ≤ x ∧ x ≤ y ∧ y ≤ b ∧ Hid (0 < x → p (x - 1) = false) ∧ Hid (y < b → p y = true) ∧ Below w.heap.size w wr) (fun i j _ => (intOf j - intOf i).toNat)
  case atStart => exact ⟨0, b, rfl, rfl, by omega, by omega, by omega, fun h => absurd h (by omega), fun h => absurd h (by omega), Below.refl _ _⟩
  case round =>
    obtain ⟨x, y, rfl, rfl, h1, h2, h3, h4, h5, hB⟩ := hrel
    by_cases hlt : x < y
    · obtain ⟨z, hz⟩ : ∃ z, (x + y) / 2 = z := ⟨_, rfl⟩
      have hz1 : x ≤ z ∧ z < y := by omega
      have HC := Lib.hid (HS2.out wr z hB (by omega) (by omega))
      obtain ⟨hz1, hz2⟩ := hz1
      cases hpz : p z
      · rw [hpz] at HC
        have hpz' := Lib.hid hpz
        clear hpz
        go_wp2_with fail
        refine HC.out.mono ?_
        rintro e w1 ⟨rfl, hb1⟩
        go_wp2_with fail
        go_roundw
        case rel => exact ⟨z + 1, y, rfl, rfl, by omega, by omega, by omega, fun _ => by rw [show z + 1 - 1 = z by omega]; exact hpz'.out, h5, bthen hB hb1⟩
        case measure => simp [intOf]; omega
      · rw [hpz] at HC
        have hpz' := Lib.hid hpz
        clear hpz
        go_wp2_with fail
        refine HC.out.mono ?_
        rintro e w1 ⟨rfl, hb1⟩
        go_wp2_with fail
        go_roundw
        case rel => exact ⟨x, z, rfl, rfl, by omega, by omega, by omega, h4, fun _ => hpz'.out, bthen hB hb1⟩
        case measure => simp [intOf]; omega
    · go_wp2_with fail
      go_ret
      exact ⟨x, ⟨h1, by omega, h4, fun h => by
        have e : x = y := Int.le_antisymm h2 (by omega)
        rw [e] at h ⊢
        exact h5 h⟩, rfl, hB⟩

/-- The conditions of Most. -/
def mok (t a b least : Int) : Bool := tmd t && rsc a b && decide (1 ≤ least) && decide (least ≤ t)
def MostPost (w : World) (t a b least : Int) (e : Ending) (w' : World) : Prop := ∃ x, Found (fun l => decide (scl t a b l < least)) b x ∧ e = .returned (.tuple #[.int .i64 (x - 1), .int .i64 0]) ∧ Below w.heap.size w w'

set_option maxHeartbeats 400000 in
theorem most_no (t a b least : Int) (w : World) (h : mok t a b least = false) : Calls Tryd.prog 18 #[.int .i64 t, .agg #[.int .i64 a, .int .i64 b], .int .i64 least] w fun e w' => e = .returned (.tuple #[.int .i64 0, .int .i64 2]) ∧ Below w.heap.size w w' := by
  have HT : Hid (∀ W, Calls Tryd.prog 33 #[.int .i64 t] W fun e w' => e = .returned (.bool (tmd t)) ∧ W = w') := fun W => timed_any t W
  have HL : Hid (∀ W, Calls Tryd.prog 27 #[.agg #[.int .i64 a, .int .i64 b]] W fun e w' => e = .returned (.bool (rsc a b)) ∧ Below W.heap.size W w') := fun W => rightScale_any a b W
  unfold mok at h
  generalize tmd t = p at *
  generalize rsc a b = q at *
  cases p
  · clear h
    go_enter Tryd.func18, Tryd.ntmps18
    go_wp2_with (go_at_call 33; refine (HT.out _).mono ?_; rintro e w' ⟨rfl, rfl⟩)
    go_ret2
    exact ⟨rfl, by repeat' (first | exact Below.refl _ _ | refine Below.alloc ?_ (by simp <;> omega) _)⟩
  · cases q
    · clear h
      go_enter Tryd.func18, Tryd.ntmps18
      go_wp2_with (go_at_call 33; refine (HT.out _).mono ?_; rintro e w' ⟨rfl, rfl⟩)
      refine (HL.out _).mono ?_
      rintro e w1 ⟨rfl, hb⟩
      obtain ⟨hc, hf⟩ := bcell hb
      go_wp2_with fail
      go_ret2
      exact ⟨rfl, bthen (by repeat' (first | exact Below.refl _ _ | refine Below.alloc ?_ (by simp <;> omega) _)) hb⟩
    · by_cases h1 : 1 ≤ least
      · have h2 : t < least := by simp [h1] at h; omega
        clear h
        have h3 : ¬ least < 1 := by omega
        go_enter Tryd.func18, Tryd.ntmps18
        go_wp2_with (go_at_call 33; refine (HT.out _).mono ?_; rintro e w' ⟨rfl, rfl⟩)
        refine (HL.out _).mono ?_
        rintro e w1 ⟨rfl, hb⟩
        obtain ⟨hc, hf⟩ := bcell hb
        go_wp2_with fail
        go_ret2
        exact ⟨rfl, bthen (by repeat' (first | exact Below.refl _ _ | refine Below.alloc ?_ (by simp <;> omega) _)) hb⟩
      · clear h
        go_enter Tryd.func18, Tryd.ntmps18
        go_wp2_with (go_at_call 33; refine (HT.out _).mono ?_; rintro e w' ⟨rfl, rfl⟩)
        refine (HL.out _).mono ?_
        rintro e w1 ⟨rfl, hb⟩
        obtain ⟨hc, hf⟩ := bcell hb
        go_wp2_with fail
        go_ret2
        exact ⟨rfl, bthen (by repeat' (first | exact Below.refl _ _ | refine Below.alloc ?_ (by simp <;> omega) _)) hb⟩

theorem rsc_true {a b : Int} (h : rsc a b = true) : 0 ≤ a ∧ a < b ∧ b ≤ 1048576 := by
  simp only [rsc, Bool.and_eq_true, decide_eq_true_eq] at h
  omega

set_option maxHeartbeats 400000 in
theorem most_yes (t a b least : Int) (w : World) (h : mok t a b least = true) : Calls Tryd.prog 18 #[.int .i64 t, .agg #[.int .i64 a, .int .i64 b], .int .i64 least] w (MostPost w t a b least) := by
  unfold mok at h
  simp only [Bool.and_eq_true, decide_eq_true_eq] at h
  obtain ⟨⟨⟨h1, h2⟩, h3⟩, h4⟩ := h
  have k1 := tmd_true h1
  have k2 := rsc_true h2
  have HT : Hid (∀ W, Calls Tryd.prog 33 #[.int .i64 t] W fun e w' => e = .returned (.bool true) ∧ W = w') := fun W => h1 ▸ timed_any t W
  have HL : Hid (∀ W, Calls Tryd.prog 27 #[.agg #[.int .i64 a, .int .i64 b]] W fun e w' => e = .returned (.bool true) ∧ Below W.heap.size W w') := fun W => h2 ▸ rightScale_any a b W
  have HS : Hid (∀ W bs bt bl, Caught W bs bt bl t a b least → Calls Tryd.prog 36 #[.int .i64 b, .func (.func 37) #[] #[.pointer (some ⟨bs, 0, none⟩), .pointer (some ⟨bt, 0, none⟩), .pointer (some ⟨bl, 0, none⟩)]] W (SearchPost W (fun l => decide (scl t a b l < least)) b)) := fun W bs bt bl hC => search_any bs bt bl t a b least W hC k1.1 k1.2 k2.1 k2.2.1 k2.2.2
  clear h1 h2 k1
  have k3 : ¬ least < 1 := by omega
  have k4 : ¬ t < least := by omega
  obtain ⟨k5, k6, k7⟩ := k2
  go_enter Tryd.func18, Tryd.ntmps18
  go_wp2_with (go_at_call 33; refine (HT.out _).mono ?_; rintro e w' ⟨rfl, rfl⟩)
  refine (HL.out _).mono ?_
  rintro e w1 ⟨rfl, hb⟩
  obtain ⟨hc, hf⟩ := bcell hb
  go_wp2_with fail
  refine (HS.out _ _ _ _ ⟨?_, ?_, ?_, ?_⟩).mono ?_
  · simp [go_sem, hc]
  · simp [go_sem, hc]
  · simp [go_sem, hc]
  · simp [go_sem, hc]
  rintro e w2 ⟨x, hx, rfl, hb2⟩
  have hx1 := hx.lo
  have hx2 := hx.hi
  have HX := Lib.hid hx
  clear hx
  go_wp2_with fail
  go_ret2
  exact ⟨x, HX.out, rfl, bthen (bthen (by repeat' (first | exact Below.refl _ _ | refine Below.alloc ?_ (by simp <;> omega) _)) hb) hb2⟩

end Go.Proofs.YtkcgijkccpiljaaDoor

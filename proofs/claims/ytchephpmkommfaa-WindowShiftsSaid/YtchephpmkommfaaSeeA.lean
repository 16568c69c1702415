/-
  The contracts of package window's See (and its closure) and Fits.
-/
import Derived.Test.YtchephpmkommfaaWin
namespace Go.Proofs.Ytchephpmkommfaa
open Go.RowKit
set_option linter.unusedVariables false

/-- A number set to a greater one, or to the first one. -/
def nxt (known : Bool) (n to : Int) : Int := if !known || aft to n then to else n

theorem modify_id {α : Type} (a : Array α) (i : Nat) (f : α → α) (x : α) (h : a[i]? = some x) (hf : f x = x) : a.modify i f = a := by
  apply Array.ext_getElem?
  intro j
  rw [Array.getElem?_modify]
  split
  · rename_i e
    subst e
    rw [h]
    simp [hf]
  · rfl
theorem setCell_id {w : World} {a : Addr} {v : Value} (h : w.cell? a = some v) : w.setCell a v = w := by
  unfold World.cell? at h
  split at h
  · rename_i c e f hb
    split at h
    · cases h
    · rename_i hs
      unfold World.setCell
      refine (congrArg (fun h => ({ w with heap := h } : World)) (modify_id w.heap a.block _ _ hb ?_)).trans rfl
      simp only [hs]
      have hc : c.setIfInBounds a.off v = c := by
        apply Array.ext_getElem?
        intro j
        rw [Array.getElem?_setIfInBounds]
        split
        · rename_i e
          subst e
          rw [h]
          have : a.off < c.size := by
            rw [Array.getElem?_eq_some_iff] at h
            exact h.1
          simp [this]
        · rfl
      simp [hc]
  · cases h

set_option maxHeartbeats 1000000 in
theorem further_core (b k n : Nat) (kv : Bool) (nv to : Int) (w : World) (hk : w.cell? ⟨b, k, none⟩ = some (.bool kv)) (hn : w.cell? ⟨b, n, none⟩ = some (.int .u32 nv)) (hkf : w.frozen? ⟨b, k, none⟩ = false) (hnf : w.frozen? ⟨b, n, none⟩ = false) (hne : ¬ n = k)
    (h1 : 0 ≤ nv ∧ nv ≤ 4294967295) (h2 : 0 ≤ to ∧ to ≤ 4294967295) :
    Calls Try.prog 26 #[.pointer (some ⟨b, k, none⟩), .pointer (some ⟨b, n, none⟩), .int .u32 to] w fun e w' => e = .returned (.tuple #[]) ∧ (w.setCell ⟨b, n, none⟩ (.int .u32 (nxt kv nv to))).setCell ⟨b, k, none⟩ (.bool true) = w' := by
  have HA : Hid (∀ W, Calls Try.prog 12 #[.int .u32 to, .int .u32 nv] W fun e w' => e = .returned (.bool (aft to nv)) ∧ W = w') := fun W => after_any to nv W h2 h1
  clear h1 h2
  have hid := Lib.hid (setCell_id hn)
  have hk2 : (w.setCell ⟨b, n, none⟩ (.int .u32 to)).cell? ⟨b, k, none⟩ = some (.bool kv) := (World.cell?_setCell_other _ _ _ _ (fun e => hne (by injection e))).trans hk
  unfold nxt
  generalize aft to nv = ab at *
  cases kv
  · go_enter Try.func26, Try.ntmps26
    go_wp2_with (go_at_call 12; refine (HA.out _).mono ?_; rintro e w' ⟨rfl, rfl⟩)
    go_end0
    exact ⟨rfl, rfl⟩
  · cases ab
    · go_enter Try.func26, Try.ntmps26
      go_wp2_with (go_at_call 12; refine (HA.out _).mono ?_; rintro e w' ⟨rfl, rfl⟩)
      go_end0
      exact ⟨rfl, by show (w.setCell _ (.int .u32 nv)).setCell _ _ = _; rw [hid.out]⟩
    · go_enter Try.func26, Try.ntmps26
      go_wp2_with (go_at_call 12; refine (HA.out _).mono ?_; rintro e w' ⟨rfl, rfl⟩)
      go_end0
      exact ⟨rfl, rfl⟩

theorem wrap_range (n : Int) : 0 ≤ IntKind.u32.wrap n ∧ IntKind.u32.wrap n ≤ 4294967295 := by rw [IntKind.wrap_u32']; omega

/-- A side after seeing a packet. -/
def seeS (s : Sd) (flags seq ack win len : Int) : Sd :=
  ⟨true, s.acked || (bits .and .u8 flags 16 != 0), nxt s.seen s.next ((seq + room flags len) % 4294967296), if bits .and .u8 flags 16 != 0 then nxt s.acked s.ack ack else s.ack, win⟩

end Go.Proofs.Ytchephpmkommfaa

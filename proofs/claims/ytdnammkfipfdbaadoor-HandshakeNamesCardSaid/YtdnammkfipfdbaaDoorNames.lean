/-
  The walk of HandshakeNames: each state has a name, which leads back to it; no other string is a name.
-/
import Derived.Test.YtdnammkfipfdbaaDoorTells
import Derived.Maps.Own
import Derived.Maps.OwnOps
import Derived.Maps.Views
namespace Go.Proofs.YtdnammkfipfdbaaDoor
open Go.RowKit Go.Maps
set_option linter.unusedVariables false

/-- The names that are met, as data. -/
def MM : Nat → DataW Unit
  | 0 => .map []
  | k + 1 => (MM k).put (.string (nm (k + 1)).data.toList) (.lit (.int .i64 1))
theorem mm_map : ∀ k, Maps.IsMap (MM k)
  | 0 => Maps.isMap_empty
  | k + 1 => (mm_map k).put _ _
theorem mm_miss (key : List UInt8) : ∀ k, (∀ j, 1 ≤ j → j ≤ k → (nm j).data.toList ≠ key) → (MM k).atKey (.string key) (.lit (.int .i64 0)) = .lit (.int .i64 0)
  | 0, _ => rfl
  | k + 1, h => by
    rw [MM, Maps.atKey_put_other (fun e => h (k + 1) (by omega) (by omega) (by cases e; rfl))]
    exact mm_miss key k fun j h1 h2 => h j h1 (by omega)
theorem mm_hit (j : Nat) (hj : 1 ≤ j) : ∀ k, j ≤ k → k ≤ 8 → (MM k).atKey (.string (nm j).data.toList) (.lit (.int .i64 0)) = .lit (.int .i64 1)
  | 0, h, _ => by omega
  | k + 1, h, h8 => by
    by_cases e : j = k + 1
    · subst e
      rw [MM]
      exact Maps.atKey_put_same (k := .string (nm (k + 1)).data.toList) (mm_map k) trivial _ _
    · rw [MM, Maps.atKey_put_other]
      · exact mm_hit j hj k (by omega) (by omega)
      · intro he
        have h1 := nm_ne ⟨j, by omega⟩ ⟨k + 1, by omega⟩
        have h2 : (nm j).toList = (nm (k + 1)).toList := by
          have h3 : (nm j).data.toList = (nm (k + 1)).data.toList := by injection he
          rw [ByteArray.toList_eq, ByteArray.toList_eq]
          exact h3
        simp [h2] at h1
        omega

theorem keyed : Keyed Tryd.prog 9 := string_keyed Tryd.underlying9
theorem zero3 (w : World) : (zeroValue 3).run Tryd.prog w = .ok (.int .i64 0) w := by kernel_rfl
theorem nm_size : ∀ i : Fin 9, (nm i).size ≤ 20 := by decide +kernel
theorem own_below {w w' : World} {B n : Nat} {D : DataW Unit} (h : w.ownsMap Tryd.prog 9 (plainElem Tryd.prog 3) B n D) (hb : Below w.heap.size w w') : w'.ownsMap Tryd.prog 9 (plainElem Tryd.prog 3) B n D :=
  h.kept (row := none) ⟨hb.os, hb.tape, hb.output, hb.size, fun i hi _ => hb.block i hi⟩ (by simp)
theorem look_is {w : World} {B n : Nat} {D : DataW Unit} (h : w.ownsMap Tryd.prog 9 (plainElem Tryd.prog 3) B n D) (s : ByteArray) (hs : s.size ≤ maxLen) (c : Int) (hc : D.atKey (.string s.data.toList) (.lit (.int .i64 0)) = .lit (.int .i64 c)) :
    (Instr.lookup 40 (.map (some B)) (.string s) false).run Tryd.prog w = .ok (.int .i64 c) w := by
  obtain ⟨c', hrun, hat, _⟩ := h.lookup_int keyed Tryd.underlying40 Tryd.underlying3 (zero3 w) (WideMaps.keyOf_string_mk Tryd.underlying9 hs)
  rw [hc] at hat
  cases hat
  exact hrun

/-- The facts of a name. -/
theorem name_facts (i : Int) (h : 1 ≤ i ∧ i ≤ 8) : nmi i = nm i.toNat ∧ rdx (nmi i) = i ∧ (nmi i).toList.isEmpty = false ∧ (nmi i).size ≤ maxLen := by
  have e : nmi i = nm i.toNat := by rw [nmi, if_neg (by omega)]
  rw [e]
  refine ⟨rfl, by rw [rdx_is (nm i.toNat) i.toNat (by omega) rfl]; omega, ?_, Nat.le_trans (nm_size ⟨i.toNat, by omega⟩) (by decide)⟩
  have hi : i = 1 ∨ i = 2 ∨ i = 3 ∨ i = 4 ∨ i = 5 ∨ i = 6 ∨ i = 7 ∨ i = 8 := by omega
  rcases hi with rfl | rfl | rfl | rfl | rfl | rfl | rfl | rfl <;> decide +kernel

set_option maxRecDepth 100000 in
set_option maxHeartbeats 1000000 in
theorem handshakeNames_walk (t : ByteArray) (n : Int) (w : World) (hT : Tab w) (ht : t.size ≤ maxLen) (hn : 0 ≤ n ∧ n ≤ 255) :
    Calls Tryd.prog 7 #[.string t, .int .u8 n] w fun e w' => e = .returned (.bool true) ∧ Below w.heap.size w w' := by
  have HT := Lib.hid hT
  clear hT
  have hmm := @run_makeMap Tryd.prog
  go_enter Tryd.func7, Tryd.ntmps7
  go_wp2_with fail
  refine (awake_any _ HT.out).mono ?_
  rintro e w1 ⟨rfl, hb1⟩
  go_wp2_with fail
  have hb1s := hb1.size
  go_loopw [6] (fun st wr => ∃ i : Int, 1 ≤ i ∧ i ≤ 9 ∧ st = .int .u8 i ∧ wr.ownsMap Tryd.prog 9 (plainElem Tryd.prog 3) w1.heap.size (i - 1).toNat (MM (i - 1).toNat) ∧ Below w.heap.size w wr) (fun st _ => 9 - (intOf st).toNat)
  case atStart => exact ⟨1, by omega, by omega, rfl, World.ownsMap_made _ _ _ _, hb1.alloc hb1.size _⟩
  case round =>
    obtain ⟨i, hi1, hi9, rfl, hown, hb⟩ := hrel
    have HO := Lib.hid hown
    clear hown
    by_cases hi : i ≤ 8
    · obtain ⟨hnm, hrd, hem, hsz⟩ := name_facts i ⟨hi1, hi⟩
      have hid : decide (i ≤ 8) = true := by simpa using hi
      have HN := Lib.hid hnm
      clear hnm
      go_wp2_with fail
      refine (name_any i _ (by omega) (HT.out.below hb)).mono ?_
      rintro e w' ⟨rfl, rfl⟩
      go_wp2_with fail
      refine (read_any (nmi i) _ (HT.out.below hb)).mono ?_
      rintro e w2 ⟨rfl, hb2⟩
      rw [hrd]
      have hb02 := bthen hb hb2
      have HO2 := Lib.hid (own_below HO.out hb2)
      have hl := look_is HO2.out (nmi i) hsz 0 (mm_miss _ _ (fun j h1 h2 he => by
        rw [HN.out] at he
        have h3 := nm_ne ⟨j, by omega⟩ ⟨i.toNat, by omega⟩
        have h4 : (nm j).toList = (nm i.toNat).toList := by rw [ByteArray.toList_eq, ByteArray.toList_eq]; exact he
        simp [h4] at h3
        omega))
      obtain ⟨w3, hu, hown3, hg3⟩ := HO2.out.update (t := 40) (e := 3) (key := .string (nmi i)) (val := .int .i64 1) keyed Tryd.underlying40 (Nat.lt_of_lt_of_le (show (i - 1).toNat < 20 by omega) (by decide)) (WideMaps.keyOf_string_mk Tryd.underlying9 hsz) (plainElem_int Tryd.underlying3 (by decide))
      have hMM : MM i.toNat = (MM (i - 1).toNat).put (.string (nmi i).data.toList) (.lit (.int .i64 1)) := by
        rw [HN.out]
        obtain ⟨k, rfl⟩ : ∃ k : Nat, i = (k : Int) + 1 := ⟨(i - 1).toNat, by omega⟩
        rw [show ((k : Int) + 1 - 1).toNat = k by omega, show ((k : Int) + 1).toNat = k + 1 by omega]
        rfl
      rw [← hMM, show (i - 1).toNat + 1 = i.toNat by omega] at hown3
      have hl3 := look_is hown3 (nmi i) hsz 1 (by rw [HN.out]; exact mm_hit i.toNat (by omega) i.toNat (Nat.le_refl _) (by omega))
      have hb03 : Below w.heap.size w w3 := hb02.grown hg3 hb02.size (fun k hk => by cases hk; exact hb1s)
      have HO3 := Lib.hid hown3
      clear hown3 hg3 hMM
      generalize nmi i = nS at *
      have hi0 : (i != 0) = true := by simp; omega
      go_wp2_with fail
      go_roundw
      case rel => exact ⟨i + 1, by omega, by omega, rfl, by rw [show (i + 1 - 1).toNat = i.toNat by omega]; exact HO3.out, hb03⟩
      case measure => simp [intOf]; omega
    · have hid : decide (i ≤ 8) = false := by simpa using hi
      obtain rfl : i = 9 := by omega
      have hq := rdx_range t
      have hne : (n < 1 ∧ (nmi n).toList.isEmpty = true) ∨ ((1 ≤ n ∧ n ≤ 8) ∧ (nmi n).toList.isEmpty = false) ∨ (8 < n ∧ (nmi n).toList.isEmpty = true) := by
        by_cases h1 : n < 1
        · obtain rfl : n = 0 := by omega
          exact .inl ⟨by omega, by decide +kernel⟩
        · by_cases h8 : n ≤ 8
          · exact .inr (.inl ⟨⟨by omega, h8⟩, (name_facts n ⟨by omega, h8⟩).2.2.1⟩)
          · refine .inr (.inr ⟨by omega, ?_⟩)
            rw [nmi, if_pos (by omega)]
            decide +kernel
      have HNE := Lib.hid hne
      clear hne
      go_wp2_with fail
      refine (read_any t _ (HT.out.below hb)).mono ?_
      rintro e w2 ⟨rfl, hb2⟩
      have hb02 := bthen hb hb2
      have HO2 := Lib.hid (own_below HO.out hb2)
      have hT2 := Lib.hid (HT.out.below hb02)
      go_wp2_with fail
      refine (name_any n _ hn.1 hT2.out).mono ?_
      rintro e w' ⟨rfl, rfl⟩
      by_cases hq0 : rdx t = 0
      · have hl := look_is HO2.out t ht 0 (mm_miss _ _ (fun j h1 h2 he => by
          have := rdx_is t j (by simp at h2; omega) (by rw [ByteArray.toList_eq, ByteArray.toList_eq]; exact he)
          omega))
        rw [hq0]
        rcases HNE.out with ⟨a, b⟩ | ⟨⟨a, a'⟩, b⟩ | ⟨a, b⟩
        all_goals
          generalize nmi n = nS at *
          go_wp2_with (first | (go_at_call 19; refine (name_any _ _ ?_ hT2.out).mono ?_; omega; rintro e w' ⟨rfl, rfl⟩))
          go_ret
          exact ⟨by simp <;> omega, hb02⟩
      · have hbytes := rdx_yes t hq0
        have hl := look_is HO2.out t ht 1 (by
          have e : t.data.toList = (nm (rdx t).toNat).data.toList := by rw [← ByteArray.toList_eq, ← ByteArray.toList_eq]; exact hbytes.symm
          rw [e]
          exact mm_hit (rdx t).toNat (by omega) _ (by simp; omega) (by simp))
        have hsame : ((nmi (rdx t)).toList == t.toList) = true := by rw [rdx_iff t (rdx t) (by omega)]; simp
        have hqb : (rdx t != 0) = true := by simpa using hq0
        clear hbytes
        generalize rdx t = q at *
        obtain ⟨hqa, hqc⟩ := hq
        rcases HNE.out with ⟨a, b⟩ | ⟨⟨a, a'⟩, b⟩ | ⟨a, b⟩
        all_goals
          generalize nmi n = nS at *
          go_wp2_with (first | (go_at_call 19; refine (name_any _ _ ?_ hT2.out).mono ?_; omega; rintro e w' ⟨rfl, rfl⟩))
          go_ret
          exact ⟨by simp <;> omega, hb02⟩

end Go.Proofs.YtdnammkfipfdbaaDoor

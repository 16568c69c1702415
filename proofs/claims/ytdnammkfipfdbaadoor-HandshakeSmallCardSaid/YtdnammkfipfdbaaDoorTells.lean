/-
  The contract of the law's own 'tells', and the walk of HandshakeTells.
-/
import Derived.Test.YtdnammkfipfdbaaDoorRead
import Derived.Test.YtdnammkfipfdbaaDoorRef
namespace Go.Proofs.YtdnammkfipfdbaaDoor
open Go.RowKit
set_option linter.unusedVariables false

/-- The reference's names, in a new row. -/
theorem nam_at (x : Int) (h0 : 0 ≤ x) (h8 : x ≤ 8) : (#[.string ⟨#[]⟩, .string ⟨#[115, 101, 110, 116]⟩, .string ⟨#[98, 111, 116, 104]⟩, .string ⟨#[111, 112, 101, 110]⟩, .string ⟨#[102, 105, 110, 45, 102, 105, 114, 115, 116]⟩, .string ⟨#[102, 105, 110, 45, 111, 116, 104, 101, 114]⟩, .string ⟨#[102, 105, 110, 45, 98, 111, 116, 104]⟩, .string ⟨#[119, 97, 105, 116]⟩, .string ⟨#[114, 101, 115, 101, 116]⟩] : Array Value)[x.toNat]? = some (.string (nmi x)) := by
  have hx : x = 0 ∨ x = 1 ∨ x = 2 ∨ x = 3 ∨ x = 4 ∨ x = 5 ∨ x = 6 ∨ x = 7 ∨ x = 8 := by omega
  rcases hx with rfl | rfl | rfl | rfl | rfl | rfl | rfl | rfl | rfl <;> rfl

set_option maxHeartbeats 400000 in
theorem rname_any (x : Int) (w : World) (hx : 0 ≤ x) (hx1 : x ≤ 255) : Calls Tryd.prog 23 #[.int .u8 x] w fun e w' => e = .returned (.string (nmi x)) ∧ Below w.heap.size w w' := by
  by_cases h : 8 < x
  · have e : nmi x = ⟨#[]⟩ := by rw [nmi, if_pos h]
    rw [e]
    clear e
    go_enter Tryd.func23, Tryd.ntmps23
    go_wp2
    go_ret
    exact ⟨rfl, (Below.refl _ _).alloc (Nat.le_refl _) _⟩
  · have hc := nam_at x hx (by omega)
    have h8 : x ≤ 8 := by omega
    generalize nmi x = s at *
    rw [List.getElem?_toArray] at hc
    obtain ⟨h', e⟩ := List.getElem?_eq_some_iff.1 hc
    have HE := Lib.hid e
    clear e hc
    go_enter Tryd.func23, Tryd.ntmps23
    go_wp2
    go_ret
    exact ⟨congrArg Ending.returned HE.out, (Below.refl _ _).alloc (Nat.le_refl _) _⟩

/-! ### Names are different -/
theorem rdx_range (s : ByteArray) : 0 ≤ rdx s ∧ rdx s ≤ 8 := by
  unfold rdx
  repeat' split
  all_goals decide
theorem nm_ne : ∀ i j : Fin 9, ((nm i).toList == (nm j).toList) = decide (i = j) := by decide +kernel
theorem rdx_is (s : ByteArray) (j : Nat) (hj : j < 9) (h : (nm j).toList = s.toList) : rdx s = j := by
  have hn : ∀ i : Fin 9, ((nm i).toList == s.toList) = decide (i = ⟨j, hj⟩) := fun i => by rw [← h]; exact nm_ne i ⟨j, hj⟩
  have h0 := hn 0
  have h1 := hn 1
  have h2 := hn 2
  have h3 := hn 3
  have h4 := hn 4
  have h5 := hn 5
  have h6 := hn 6
  have h7 := hn 7
  have h8 := hn 8
  unfold rdx
  simp only [show nm 0 = nm (0 : Fin 9) from rfl, show nm 1 = nm (1 : Fin 9) from rfl, show nm 2 = nm (2 : Fin 9) from rfl, show nm 3 = nm (3 : Fin 9) from rfl, show nm 4 = nm (4 : Fin 9) from rfl, show nm 5 = nm (5 : Fin 9) from rfl, show nm 6 = nm (6 : Fin 9) from rfl, show nm 7 = nm (7 : Fin 9) from rfl, show nm 8 = nm (8 : Fin 9) from rfl, h0, h1, h2, h3, h4, h5, h6, h7, h8]
  have hj' : j = 0 ∨ j = 1 ∨ j = 2 ∨ j = 3 ∨ j = 4 ∨ j = 5 ∨ j = 6 ∨ j = 7 ∨ j = 8 := by omega
  rcases hj' with rfl | rfl | rfl | rfl | rfl | rfl | rfl | rfl | rfl <;> rfl
theorem rdx_yes (s : ByteArray) (h : rdx s ≠ 0) : (nm (rdx s).toNat).toList = s.toList := by
  unfold rdx at h ⊢
  repeat' split at h
  all_goals first | exact absurd rfl h | skip
  all_goals simp_all
/-- A name from 1 on is the string just if it is the one that is found. -/
theorem rdx_iff (s : ByteArray) (i : Int) (h : 1 ≤ i ∧ i ≤ 8) : ((nmi i).toList == s.toList) = decide (rdx s = i) := by
  have e : nmi i = nm i.toNat := by rw [nmi, if_neg (by omega)]
  rw [e]
  by_cases hq : rdx s = i
  · have := rdx_yes s (by omega)
    rw [hq] at this
    simp [this, hq]
  · have hne : (nm i.toNat).toList ≠ s.toList := fun h' => hq (by rw [rdx_is s i.toNat (by omega) h']; omega)
    simp [hne, hq]

/-- What the law's loop has found. -/
def Found (q i y : Int) (b : Bool) : Prop := (q < i ∧ y = q ∧ b = (q != 0)) ∨ (i ≤ q ∧ y = 0 ∧ b = false)

set_option maxRecDepth 100000 in
set_option maxHeartbeats 2000000 in
theorem tells_any (s d f : Int) (t : ByteArray) (w : World) (hT : Tab w) (hs : 0 ≤ s ∧ s ≤ 255) (hd : 0 ≤ d ∧ d ≤ 255) (hf : 0 ≤ f ∧ f ≤ 255) :
    Calls Tryd.prog 21 #[.int .u8 s, .int .u8 d, .int .u8 f, .string t] w fun e w' => e = .returned (.bool true) ∧ Below w.heap.size w w' := by
  have HT := Lib.hid hT
  clear hT
  obtain ⟨hs0, hs1⟩ := hs
  obtain ⟨hd0, hd1⟩ := hd
  obtain ⟨hf0, hf1⟩ := hf
  have HI : Hid (∀ i, 1 ≤ i ∧ i ≤ 8 → ((nmi i).toList == t.toList) = decide (rdx t = i)) := fun i h => rdx_iff t i h
  have hq := rdx_range t
  have hcr := cls_range f
  go_enter Tryd.func21, Tryd.ntmps21
  go_wp2_with fail
  refine (step_any s d f _ hs0 hd0 HT.out).mono ?_
  rintro e w1 ⟨rfl, hb1⟩
  go_wp2_with fail
  refine (rstep_any s d f _ hs0 hd0 ⟨hf0, hf1⟩).mono ?_
  rintro e w' ⟨rfl, rfl⟩
  go_wp2_with fail
  refine (read_any t _ (HT.out.below hb1)).mono ?_
  rintro e w2 ⟨rfl, hb2⟩
  have hb02 := bthen hb1 hb2
  generalize rdx t = q at *
  generalize stp s d f = st at *
  obtain ⟨hq0, hq8⟩ := hq
  go_wp2_with fail
  go_loopw [15, 16, 17] (fun y b i wr => ∃ (i' y' : Int) (b' : Bool), 1 ≤ i' ∧ i' ≤ 9 ∧ i = .int .u8 i' ∧ y = .int .u8 y' ∧ b = .bool b' ∧ Found q i' y' b' ∧ Below w.heap.size w wr) (fun _ _ i _ => 9 - (intOf i).toNat)
  case atStart =>
    refine ⟨1, 0, false, by omega, by omega, rfl, rfl, rfl, ?_, hb02⟩
    by_cases h : q = 0
    · exact .inl ⟨by omega, h.symm, by simp [h]⟩
    · exact .inr ⟨by omega, rfl, rfl⟩
  case round =>
    obtain ⟨i, y, b, hi1, hi9, rfl, rfl, rfl, hF, hb⟩ := hrel
    have HF := Lib.hid hF
    clear hF
    by_cases hi : i ≤ 8
    · have ht := HI.out i ⟨hi1, hi⟩
      have hid : decide (i ≤ 8) = true := by simpa using hi
      by_cases hqi : q = i
      · subst hqi
        have ht1 : ((nmi q).toList == t.toList) = true := by rw [ht]; simp
        clear ht
        go_wp2_with fail
        refine (rname_any q _ (by omega) (by omega)).mono ?_
        rintro e w3 ⟨rfl, hb3⟩
        go_wp2_with fail
        go_roundw
        case rel => exact ⟨q + 1, q, true, by omega, by omega, rfl, rfl, rfl, .inl ⟨by omega, rfl, by simp; omega⟩, bthen hb hb3⟩
        case measure => simp [intOf]; omega
      · have ht1 : ((nmi i).toList == t.toList) = false := by rw [ht]; simpa using hqi
        clear ht
        go_wp2_with fail
        refine (rname_any i _ (by omega) (by omega)).mono ?_
        rintro e w3 ⟨rfl, hb3⟩
        go_wp2_with fail
        go_roundw
        case rel =>
          refine ⟨i + 1, y, b, by omega, by omega, rfl, rfl, rfl, ?_, bthen hb hb3⟩
          rcases HF.out with ⟨h1, h2, h3⟩ | ⟨h1, h2, h3⟩
          · exact .inl ⟨by omega, h2, h3⟩
          · exact .inr ⟨by omega, h2, h3⟩
        case measure => simp [intOf]; omega
    · have hyb : y = q ∧ b = (q != 0) := by
        rcases HF.out with ⟨h1, h2, h3⟩ | ⟨h1, h2, h3⟩
        · exact ⟨h2, h3⟩
        · omega
      obtain ⟨rfl, rfl⟩ := hyb
      have hid : decide (i ≤ 8) = false := by simpa using hi
      have HT3 := Lib.hid (HT.out.below hb)
      have hcase : s < 3 ∨ (3 ≤ s ∧ s ≤ 7) ∨ 7 < s := by omega
      rcases hcase with h3 | ⟨h3, h7⟩ | h7
      all_goals
        go_wp2_with (first | (go_at_call 16; refine (class_any _ _).mono ?_; rintro e w' ⟨rfl, rfl⟩) | (go_at_call 24; refine (rclass_any _ _ ⟨hf0, hf1⟩).mono ?_; rintro e w' ⟨rfl, rfl⟩) | (go_at_call 18; refine (opens_any _ _).mono ?_; rintro e w' ⟨rfl, rfl⟩) | (go_at_call 17; refine (completed_any _ _).mono ?_; rintro e w' ⟨rfl, rfl⟩) | (go_at_call 19; refine (name_any _ _ hs0 HT3.out).mono ?_; rintro e w' ⟨rfl, rfl⟩) | (go_at_call 23; refine (rname_any _ _ hs0 hs1).mono ?_; rintro e w5 ⟨rfl, hb5⟩))
        go_ret
        exact ⟨by simp, bthen hb hb5⟩

set_option maxHeartbeats 400000 in
theorem handshakeTells_walk (s d f : Int) (t : ByteArray) (w : World) (hT : Tab w) (hs : 0 ≤ s ∧ s ≤ 255) (hd : 0 ≤ d ∧ d ≤ 255) (hf : 0 ≤ f ∧ f ≤ 255) (ht : t.size ≤ maxLen) :
    Calls Tryd.prog 8 #[.int .u8 s, .int .u8 d, .int .u8 f, .string t] w fun e w' => e = .returned (.bool true) ∧ Below w.heap.size w w' := by
  have HT := Lib.hid hT
  clear hT
  go_enter Tryd.func8, Tryd.ntmps8
  go_wp2_with fail
  refine (tells_any s d f t _ HT.out hs hd hf).mono ?_
  rintro e w1 ⟨rfl, hb1⟩
  go_wp2_with fail
  refine (awake_any _ (HT.out.below hb1)).mono ?_
  rintro e w2 ⟨rfl, hb2⟩
  go_wp2_with fail
  go_ret
  exact ⟨rfl, bthen hb1 hb2⟩

end Go.Proofs.YtdnammkfipfdbaaDoor

/-
  Words as they lie; the contract of SameWords. Conditions: what is compared lies.
-/
import Derived.Test.YtjfnnclbfaakkaaSame
import Derived.Test.YtjfnnclbfaakkaaRoute
import Derived.BigQuiet
namespace Go.Proofs.Ytjfnnclbfaakkaa
open Go.RowKit
set_option linter.unusedVariables false
set_option linter.unusedSimpArgs false

/-- Words, as they lie. -/
structure Wo (w : World) (A : Option Addr) (d : List Int) : Prop where
  rng : ∀ x ∈ d, 0 ≤ x ∧ x < 4294967296
  mem : d ≠ [] → ∃ b o, A = some ⟨b, o, none⟩ ∧ b < w.heap.size ∧ ∀ i x, d[i]? = some x → w.cell? ⟨b, o + i, none⟩ = some (.int .u32 x)

theorem Wo.nil (w : World) (A : Option Addr) : Wo w A [] := ⟨by simp, fun h => absurd rfl h⟩
theorem Wo.below {w w' : World} {A : Option Addr} {d : List Int} (h : Wo w A d) (hb : Below w.heap.size w w') : Wo w' A d :=
  ⟨h.rng, fun hl => by
    obtain ⟨b, o, e, hlt, hc⟩ := h.mem hl
    exact ⟨b, o, e, Nat.lt_of_lt_of_le hlt hb.size, fun i x hi => (hb.cell (p := ⟨b, o + i, none⟩) hlt).trans (hc i x hi)⟩⟩
theorem Wo.alloc {w : World} {A : Option Addr} {d : List Int} (h : Wo w A d) (ob : Obj) : Wo (w.alloc ob) A d := h.below ((Below.refl _ _).alloc (Nat.le_refl _) ob)
theorem Wo.drewN {w : World} {A : Option Addr} {d : List Int} (h : Wo w A d) (n : Nat) : Wo (w.drewN n) A d := h.below (below_drewN (Below.refl _ _) n)
theorem Wo.pos {w : World} {A : Option Addr} {d : List Int} (h : Wo w A d) (hd : 0 < d.length) : ∃ b o, A = some ⟨b, o, none⟩ ∧ b < w.heap.size ∧ ∀ i x, d[i]? = some x → w.cell? ⟨b, o + i, none⟩ = some (.int .u32 x) :=
  h.mem (by intro e; subst e; simp at hd)
theorem Wo.cell {w : World} {b o : Nat} {d : List Int} (h : Wo w (some ⟨b, o, none⟩) d) {i : Nat} {x : Int} (hi : d[i]? = some x) : w.cell? ⟨b, o + i, none⟩ = some (.int .u32 x) := by
  obtain ⟨b', o', e, _, hc⟩ := h.mem (by rintro rfl; simp at hi)
  simp only [Option.some.injEq, Addr.mk.injEq, and_true] at e
  obtain ⟨rfl, rfl⟩ := e
  exact hc i x hi
theorem Wo.drop {w : World} {b o : Nat} {d : List Int} (h : Wo w (some ⟨b, o, none⟩) d) (k : Nat) : Wo w (some ⟨b, o + k, none⟩) (d.drop k) :=
  ⟨fun x hx => h.rng x (List.mem_of_mem_drop hx), fun hne => by
    obtain ⟨b', o', e, hlt, hc⟩ := h.mem (by rintro rfl; simp at hne)
    simp only [Option.some.injEq, Addr.mk.injEq, and_true] at e
    obtain ⟨rfl, rfl⟩ := e
    refine ⟨b, o + k, rfl, hlt, fun i x hi => ?_⟩
    rw [List.getElem?_drop] at hi
    have := hc _ _ hi
    rwa [Nat.add_assoc]⟩
theorem Wo.take {w : World} {A : Option Addr} {d : List Int} (h : Wo w A d) (k : Nat) : Wo w A (d.take k) :=
  ⟨fun x hx => h.rng x (List.mem_of_mem_take hx), fun hne => by
    obtain ⟨b, o, e, hlt, hc⟩ := h.mem (by rintro rfl; simp at hne)
    refine ⟨b, o, e, hlt, fun i x hi => hc i x ?_⟩
    rw [List.getElem?_take] at hi
    split at hi
    · exact hi
    · cases hi⟩
theorem Wo.of_rd {w : World} {A : Option Addr} {d : List Int} (h : Rd w A 1 (d.map fun x => [.int .u32 x])) (hr : ∀ x ∈ d, 0 ≤ x ∧ x < 4294967296) : Wo w A d :=
  ⟨hr, fun hne => by
    obtain ⟨b, o, e, hlt, hc⟩ := h.mem (by simpa using hne)
    refine ⟨b, o, e, hlt, fun i x hi => ?_⟩
    have := hc i [.int .u32 x] (by simp [hi]) 0 _ rfl
    simpa using this⟩
theorem Wo.of_own {w : World} {base g n cap : Nat} {e : TypeId} {d : List Int} (h : w.ownsRow base e 1 (.slice (some ⟨g, 0, none⟩) n cap) n (d.map (Value.int .u32))) (hr : ∀ x ∈ d, 0 ≤ x ∧ x < 4294967296) (hg : g < w.heap.size) : Wo w (some ⟨g, 0, none⟩) d :=
  ⟨hr, fun hne => ⟨g, 0, rfl, hg, fun i x hi => by
    have := h.cells (g := g) rfl i (.int .u32 x) (by simp [hi])
    rw [Go.WideShapes.add_plain] at this
    exact this⟩⟩
theorem Wo.of_own' {w : World} {base : Nat} {e : TypeId} {v : Value} {d : List Int} (h : w.ownsRow base e 1 v d.length (d.map (Value.int .u32))) (hr : ∀ x ∈ d, 0 ≤ x ∧ x < 4294967296) :
    ∃ A c, v = .slice A d.length c ∧ d.length ≤ c ∧ c ≤ maxLen ∧ Wo w A d := by
  rcases own_cases h with ⟨rfl, h1, h2⟩ | ⟨g, cap, rfl, h1, h2, h3, h4⟩
  · have : d = [] := by simpa using h2
    subst this
    exact ⟨none, 0, rfl, by simp, by simp, Wo.nil _ _⟩
  · exact ⟨_, _, rfl, h3, h4, Wo.of_own h hr h2⟩

theorem Wo.of_own2 {w : World} {base : Nat} {e : TypeId} {v : Value} {d : List Int} (h : w.ownsRow base e 1 v d.length (d.map (Value.int .u32))) (hr : ∀ x ∈ d, 0 ≤ x ∧ x < 4294967296) :
    ∃ A c, v = .slice A d.length c ∧ d.length ≤ c ∧ c ≤ maxLen ∧ Wo w A d ∧ (A = none → c = 0) := by
  rcases own_cases h with ⟨rfl, h1, h2⟩ | ⟨g, cap, rfl, h1, h2, h3, h4⟩
  · have : d = [] := by simpa using h2
    subst this
    exact ⟨none, 0, rfl, by simp, by simp, Wo.nil _ _, fun _ => rfl⟩
  · exact ⟨_, _, rfl, h3, h4, Wo.of_own h hr h2, by simp⟩
theorem Wo.of_own3 {w : World} {base n : Nat} {A : Option Addr} {c : Nat} {d : List Int} (h : w.ownsRow base 40 1 (.slice A n c) d.length (d.map (Value.int .u32))) (hn : n = d.length) (hr : ∀ x ∈ d, 0 ≤ x ∧ x < 4294967296) : Wo w A d ∧ d.length ≤ c ∧ c ≤ maxLen := by
  obtain ⟨A', c', e, h1, h2, h3⟩ := Wo.of_own' h hr
  cases e
  exact ⟨h3, h1, h2⟩
theorem wds_rng {d : List Int} (h : ∀ x ∈ d, 0 ≤ x ∧ x ≤ 255) (a n : Nat) : ∀ x ∈ wds d a n, 0 ≤ x ∧ x < 4294967296 := fun x hx => by
  unfold wds at hx
  rw [List.mem_map] at hx
  obtain ⟨j, _, rfl⟩ := hx
  exact wd_rng h j

set_option maxRecDepth 100000 in
set_option maxHeartbeats 4000000 in
theorem sameWords_any (d e : List Int) (A B : Option Addr) (c c2 : Nat) (w : World) (hd : Wo w A d) (he : Wo w B e) (hn : d.length ≤ 2 ^ 40) (hm : e.length ≤ 2 ^ 40) :
    Calls Try.prog 23 #[.slice A d.length c, .slice B e.length c2] w fun r w' => r = .returned (.bool (decide (d = e))) ∧ Below w.heap.size w w' := by
  by_cases hl : d.length = e.length
  · have h1 : ((d.length : Int) != e.length) = false := by simp; omega
    obtain ⟨n, hN⟩ : ∃ n, d.length = n := ⟨_, rfl⟩
    have hN2 : e.length = n := by omega
    rw [hN, hN2] at h1 ⊢
    have HN := Lib.hid hN
    have HN2 := Lib.hid hN2
    have HD := Lib.hid hd
    have HE := Lib.hid he
    obtain ⟨q, hq⟩ : ∃ q, decide (d = e) = q := ⟨_, rfl⟩
    rw [hq]
    have HQ := Lib.hid hq
    rw [hN] at hn
    clear hN hN2 hd he hl hq hm
    go_enter Try.func23, Try.ntmps23
    go_wp2_with fail
    go_loopw [5] (fun i wr => ∃ k : Nat, k ≤ n ∧ i = .int .i64 k ∧ d.take k = e.take k ∧ Below w.heap.size w wr) (fun i _ => n - (intOf i).toNat)
    case atStart => exact ⟨0, by omega, rfl, by simp, Below.refl _ _⟩
    case round =>
      obtain ⟨k, hk, rfl, hf, hb⟩ := hrel
      by_cases hkl : k < n
      · obtain ⟨b, o, rfl, hbl, hc⟩ := (HD.out.below hb).pos (by rw [HN.out]; omega)
        obtain ⟨b2, o2, rfl, hbl2, hc2⟩ := (HE.out.below hb).pos (by rw [HN2.out]; omega)
        obtain ⟨x, hx⟩ : ∃ x, d[k]? = some x := ⟨d[k]'(by rw [HN.out]; omega), List.getElem?_eq_getElem _⟩
        obtain ⟨y, hy⟩ : ∃ y, e[k]? = some y := ⟨e[k]'(by rw [HN2.out]; omega), List.getElem?_eq_getElem _⟩
        have q0 := hc k x hx
        have q1 := hc2 k y hy
        have d1 : decide ((k : Int) < n) = true := by simp; omega
        have hpos : (k : Int) < n := by omega
        have HF := Lib.hid hf
        have HX := Lib.hid hx
        have HY := Lib.hid hy
        have HB := Lib.hid hb
        clear hc hc2 hf hx hy hb
        go_upto_region 6 with fail
        go_quiet (fail)
        by_cases hxy : x = y
        · have e1 : (x != y) = false := by simp [hxy]
          go_wp2_with fail
          exact ⟨⟨k + 1, by omega, by go_num, take_next HF.out HX.out HY.out hxy, below_drewN HB.out nq⟩, by simp [intOf]; omega⟩
        · have e1 : (x != y) = true := by simp [hxy]
          go_wp2_with fail
          go_ret
          have hqf : q = false := by
            rw [← HQ.out, decide_eq_false_iff_not]
            intro h
            have h3 := HX.out
            rw [h, HY.out] at h3
            exact hxy (Option.some.inj h3).symm
          subst hqf
          exact ⟨rfl, below_drewN HB.out nq⟩
      · obtain rfl : k = n := by omega
        have d1 : decide ((k : Int) < k) = false := by simp
        have hqt : q = true := by
          rw [← HQ.out, decide_eq_true_eq]
          rw [List.take_of_length_le (by rw [HN.out]; exact Nat.le_refl _), List.take_of_length_le (by rw [HN2.out]; exact Nat.le_refl _)] at hf
          exact hf
        subst hqt
        clear hf
        go_wp2_with fail
        go_ret
        exact ⟨rfl, hb⟩
  · have h1 : ((d.length : Int) != e.length) = true := by simp; omega
    have hq : decide (d = e) = false := decide_eq_false (fun h => hl (by rw [h]))
    rw [hq]
    clear hq hl
    go_enter Try.func23, Try.ntmps23
    go_wp2_with fail
    go_ret
    exact ⟨rfl, Below.refl _ _⟩

end Go.Proofs.Ytjfnnclbfaakkaa

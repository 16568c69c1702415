/-
  The walk of OptsTells. Conditions: the option lies.
-/
import Derived.Test.YtjfnnclbfaakkaaReadsP
import Derived.Test.YtjfnnclbfaakkaaAwake
import Derived.Test.YtjfnnclbfaakkaaPutB
import Derived.Test.YtjfnnclbfaakkaaKept
import Derived.Deep.LoopGhost
import Derived.Test.YtjfnnclbfaakkaaPutW
import Derived.Test.YtjfnnclbfaakkaaRefV
import Derived.Test.YtjfnnclbfaakkaaWords
import Derived.Test.YtjfnnclbfaakkaaNestO
namespace Go.Proofs.Ytjfnnclbfaakkaa
open Go.RowKit
set_option linter.unusedVariables false
set_option linter.unusedSimpArgs false

theorem route_m (k : Int) (d : List Int) (n : Nat) (A : Option Addr) (c : Nat) (w : World) (hN : d.length = n) (hk : 0 ≤ k ∧ k ≤ 255) (hd : By w A d) (hn : n ≤ 2 ^ 40) (hc : n ≤ c) {e : Int} {a b : List Int} (hr : routeS (k, d) = (e, a, b)) :
    Calls Try.prog 21 #[.agg #[.int .u8 k, .slice A n c]] w fun r w' => ∃ A5 c5 A6 c6, r = .returned (.tuple #[.slice A5 a.length c5, .slice A6 b.length c6, .int .i64 e]) ∧ TwoW w w' (.slice A5 a.length c5) (.slice A6 b.length c6) a b ∧ Below w.heap.size w w' := by
  subst hN
  refine (route_any k d A c w hk hd hn hc).mono ?_
  rintro r w' ⟨v5, v6, rfl, hT, hb⟩
  rw [hr] at hT ⊢
  obtain ⟨Z, h1, h2, h3, h4⟩ := hT.ex
  obtain ⟨A5, c5, rfl⟩ := own_form h3
  obtain ⟨A6, c6, rfl⟩ := own_form h4
  exact ⟨A5, c5, A6, c6, rfl, hT, hb⟩
theorem record_m (k : Int) (d : List Int) (n : Nat) (A : Option Addr) (c : Nat) (ad : Int) (w : World) (hN : d.length = n) (hk : 0 ≤ k ∧ k ≤ 255) (hd : By w A d) (hn : n ≤ 2 ^ 40) (ha : 0 ≤ ad ∧ ad < 2 ^ 32) {e kn : Int} {dn : List Int} (hr : recS (k, d) ad = (e, (kn, dn))) :
    Calls Try.prog 22 #[.agg #[.int .u8 k, .slice A n c], .int .u32 ad] w fun r w' => ∃ A' c', r = .returned (.tuple #[.agg #[.int .u8 kn, .slice A' dn.length c'], .int .i64 e]) ∧ w'.ownsRow w.heap.size 5 1 (.slice A' dn.length c') dn.length (dn.map (Value.int .u8)) ∧ Below w.heap.size w w' := by
  subst hN
  refine (record_any k d A c ad w hk hd hn ha).mono ?_
  rintro r w' ⟨v, rfl, hrow, hb⟩
  rw [hr] at hrow ⊢
  obtain ⟨A', c', rfl⟩ := own_form hrow
  exact ⟨A', c', rfl, hrow, hb⟩
theorem refRecord_m (k : Int) (d : List Int) (n : Nat) (A : Option Addr) (c : Nat) (ad : Int) (w : World) (hN : d.length = n) (hk : 0 ≤ k ∧ k ≤ 255) (hd : By w A d) (hn : n ≤ 2 ^ 40) (ha : 0 ≤ ad ∧ ad < 2 ^ 32) {e kn : Int} {dn : List Int} (hr : recS (k, d) ad = (e, (kn, dn))) :
    Calls Try.prog 39 #[.agg #[.int .u8 k, .slice A n c], .int .u32 ad] w fun r w' => ∃ A' c', r = .returned (.tuple #[.agg #[.int .u8 kn, .slice A' dn.length c'], .int .i64 e]) ∧ w'.ownsRow w.heap.size 5 1 (.slice A' dn.length c') dn.length (dn.map (Value.int .u8)) ∧ Below w.heap.size w w' := by
  subst hN
  have h := refRecord_any k d A c ad w hk hd hn ha
  rw [hr] at h
  exact h
theorem theirs_m (k : Int) (d : List Int) (n : Nat) (A : Option Addr) (c : Nat) (w : World) (hN : d.length = n) (hd : By w A d) (hn : n ≤ 2 ^ 40) (hA : A = none → c = 0) :
    Calls Try.prog 38 #[.agg #[.int .u8 k, .slice A n c]] w fun e w' => ∃ A' c', e = .returned (.agg #[.int .u8 k, .slice A' n c']) ∧ By w' A' d ∧ Below w.heap.size w w' := by
  subst hN
  refine (theirs_any k d A c w hd hn hA).mono ?_
  rintro e w' ⟨A', c', rfl, hr, hb⟩
  obtain ⟨A2, c2, e2, _, _, hy⟩ := By.of_own' hr hd.rng
  cases e2
  exact ⟨A', c', rfl, hy, hb⟩
theorem right_m (k : Int) (d : List Int) (n : Nat) (A : Option Addr) (c : Nat) (w : World) (hN : d.length = n) (hk : 0 ≤ k ∧ k ≤ 255) (hd : By w A d) (hn : n ≤ 2 ^ 40) {r : Bool} (hr : rightS (k, d) = r) : Calls Try.prog 19 #[.agg #[.int .u8 k, .slice A n c]] w fun e w' => e = .returned (.bool r) ∧ Below w.heap.size w w' := by
  subst hN hr
  exact right_any k d A c w hk hd (by omega)
theorem refRight_m (k : Int) (d : List Int) (n : Nat) (A : Option Addr) (c : Nat) (w : World) (hN : d.length = n) (hk : 0 ≤ k ∧ k ≤ 255) (hd : By w A d) (hn : n ≤ 2 ^ 40) {r : Bool} (hr : rightS (k, d) = r) : Calls Try.prog 40 #[.agg #[.int .u8 k, .slice A n c]] w fun e w' => e = .returned (.bool r) ∧ Below w.heap.size w w' := by
  subst hN hr
  exact refRight_any k d A c w hk hd hn
theorem same1_m (k : Int) (d : List Int) (n : Nat) (A B : Option Addr) (c c2 : Nat) (w : World) (hN : d.length = n) (hd : By w A d) (he : By w B d) (hn : n ≤ 2 ^ 40) : Calls Try.prog 26 #[.agg #[.int .u8 k, .slice A n c], .agg #[.int .u8 k, .slice B n c2]] w fun e w' => e = .returned (.bool true) ∧ Below w.heap.size w w' := by
  subst hN
  have h := same_any (k, d) (k, d) A B c c2 w hd he hn hn
  rw [decide_eq_true (rfl : (k, d) = (k, d))] at h
  exact h
theorem sameWt {d : List Int} {A B : Option Addr} {c c2 n : Nat} {w : World} (hd : Wo w A d) (he : Wo w B d) (hn : d.length = n) (h1 : n ≤ 2 ^ 40) :
    Calls Try.prog 23 #[.slice A n c, .slice B n c2] w fun r w' => r = .returned (.bool true) ∧ Below w.heap.size w w' := by
  subst hn
  have h := sameWords_any d d A B c c2 w hd he h1 h1
  rw [decide_eq_true (rfl : d = d)] at h
  exact h
theorem setN_rng2 {d : List Int} {p : Nat} {a : Int} (h : ∀ x ∈ d, 0 ≤ x ∧ x ≤ 255) : ∀ k, ∀ x ∈ setN d p a k, 0 ≤ x ∧ x ≤ 255
  | 0 => h
  | k + 1 => fun x hx => by
    rw [setN] at hx
    rcases List.mem_or_eq_of_mem_set hx with hx | rfl
    · exact setN_rng2 h k x hx
    · omega
theorem tl_len {k : Int} {d : List Int} {n : Nat} {er : Int} {wa wb : List Int} (h : routeS (k, d) = (er, wa, wb)) (hN : d.length = n) (hn : n ≤ 60) : wa.length ≤ 100 ∧ wb.length ≤ 100 := by
  unfold routeS at h
  split at h
  · injection h with _ h
    injection h with h1 h2
    subst h1 h2
    decide
  · rename_i hq
    obtain ⟨_, f1, f2, f3, f4, f5⟩ := listed_facts (by simpa using hq)
    injection h with _ h
    injection h with h1 h2
    subst h1 h2
    rw [wds_len, wds_len]
    unfold dnS
    simp only
    omega
theorem tl_rec {k : Int} {d : List Int} {n : Nat} {ad e2 kn : Int} {dn : List Int} (h : recS (k, d) ad = (e2, (kn, dn))) (hr : ∀ x ∈ d, 0 ≤ x ∧ x ≤ 255) (hN : d.length = n) (hn : n ≤ 60) : dn.length ≤ 60 ∧ ∀ x ∈ dn, 0 ≤ x ∧ x ≤ 255 := by
  unfold recS at h
  split at h
  · injection h with _ h
    injection h with h1 h2
    subst h2
    simp
  · rename_i hl
    split at h
    · injection h with _ h
      injection h with h1 h2
      subst h2
      simp
    · obtain ⟨_, _, h4, _, h5, h6⟩ := listed_facts (by simpa using hl)
      injection h with _ h
      injection h with h1 h2
      subst h2
      refine ⟨by rw [List.length_set, setN_len]; show d.length ≤ 60; omega, fun x hx => ?_⟩
      rcases List.mem_or_eq_of_mem_set hx with hx | rfl
      · exact setN_rng2 hr _ x hx
      · show 0 ≤ d.getD 0 0 + 4 ∧ d.getD 0 0 + 4 ≤ 255
        omega
theorem by_lent_t {w : World} {g : Nat} {d : List Int} (hg : w.heap[g]? = some (.cells (lentC d) 5 (0, 0))) (hr : ∀ x ∈ d, 0 ≤ x ∧ x ≤ 255) : By w (some ⟨g, 0, none⟩) d :=
  ⟨hr, fun _ => ⟨g, 0, rfl, blk_lt hg, fun i x hi => by
    have hl : i < d.length := (List.getElem?_eq_some_iff.1 hi).1
    rw [Nat.zero_add, blk_cell hg i, lentC_lo hl, List.getD_eq_getElem?_getD, hi]
    rfl⟩⟩
theorem lent_t (d : List Int) (n : Nat) (A : Option Addr) (c : Nat) (w : World) (hN : d.length = n) (hd : By w A d) (hn : n ≤ 2 ^ 40) (hA : A = none → c = 0) :
    Calls Try.prog 28 #[.slice A n c] w fun e w' => ∃ g, e = .returned (.slice (some ⟨g, 0, none⟩) n (n + 12)) ∧ w.heap.size ≤ g ∧ w'.heap[g]? = some (.cells (lentC d) 5 (0, 0)) ∧ Below w.heap.size w w' := by
  subst hN
  exact lent_any d A c w hd hn hA
theorem kept_t (d : List Int) (n g : Nat) (A : Option Addr) (c : Nat) (w : World) (hN : d.length = n) (hg : w.heap[g]? = some (.cells (lentC d) 5 (0, 0))) (hd : By w A d) (hn : n ≤ 2 ^ 40) :
    Calls Try.prog 31 #[.slice (some ⟨g, 0, none⟩) n (n + 12), .slice A n c] w fun e w' => e = .returned (.bool true) ∧ Below w.heap.size w w' := by
  subst hN
  exact kept_any d g A c w hg hd hn
theorem TwoW.later {w w' V : World} {v5 v6 : Value} {a b : List Int} (h : TwoW w w' v5 v6 a b) (hb : Below w'.heap.size w' V) : TwoW w V v5 v6 a b := by
  obtain ⟨Z, h1, h2, h3, h4⟩ := h.ex
  exact ⟨Z, h1, h2.trans (hb.mono h2.size), h3, own_below h4 hb⟩
theorem TwoW.wos {w w' : World} {A B : Option Addr} {c c2 : Nat} {a b : List Int} (h : TwoW w w' (.slice A a.length c) (.slice B b.length c2) a b) (ha : ∀ x ∈ a, 0 ≤ x ∧ x < 4294967296) (hb : ∀ x ∈ b, 0 ≤ x ∧ x < 4294967296) : Wo w' A a ∧ Wo w' B b := by
  obtain ⟨Z, h1, h2, h3, h4⟩ := h.ex
  exact ⟨(Wo.of_own3 (own_below h3 h2) rfl ha).1, (Wo.of_own3 h4 rfl hb).1⟩
theorem tl_rng {k : Int} {d : List Int} {er : Int} {wa wb : List Int} (h : routeS (k, d) = (er, wa, wb)) (hr : ∀ x ∈ d, 0 ≤ x ∧ x ≤ 255) : (∀ x ∈ wa, 0 ≤ x ∧ x < 4294967296) ∧ ∀ x ∈ wb, 0 ≤ x ∧ x < 4294967296 := by
  unfold routeS at h
  split at h
  · injection h with _ h
    injection h with h1 h2
    subst h1 h2
    simp
  · injection h with _ h
    injection h with h1 h2
    subst h1 h2
    exact ⟨wds_rng hr _ _, wds_rng hr _ _⟩
/-- What region 3's operations leave. -/
def PT3 (B n : Nat) (k : Int) (L : Array Value) (vals : List Value) : Nat → Value → World → Prop
  | 4, v, W => ∃ q, v = .slice (some ⟨q, 0, none⟩) n (n + 12) ∧ B ≤ q ∧ W.heap[q]? = some (.cells L 5 (0, 0))
  | 5, v, W => ∃ q, v = .agg #[.int .u8 k, .slice (some ⟨q, 0, none⟩) n (n + 12)] ∧ B ≤ q ∧ W.heap[q]? = some (.cells L 5 (0, 0))
  | 6, v, W => ∃ q, v = .pointer (some ⟨q, 0, none⟩) ∧ B ≤ q ∧ W.heap[q]? = some (.cells #[.int .u8 0, .slice none 0 0] 36 (0, 0))
  | i, v, _ => v = vals.getD i undef
theorem PT3.below {B n : Nat} {k : Int} {L : Array Value} {vals : List Value} (i : Nat) (v : Value) (X Y : World) (h : PT3 B n k L vals i v X) (hb : Below X.heap.size X Y) : PT3 B n k L vals i v Y := by
  by_cases h4 : i = 4
  · subst h4
    obtain ⟨q, e, h1, h2⟩ := h
    exact ⟨q, e, h1, blk_below hb h2⟩
  · by_cases h5 : i = 5
    · subst h5
      obtain ⟨q, e, h1, h2⟩ := h
      exact ⟨q, e, h1, blk_below hb h2⟩
    · by_cases h6 : i = 6
      · subst h6
        obtain ⟨q, e, h1, h2⟩ := h
        exact ⟨q, e, h1, blk_below hb h2⟩
      · unfold PT3 at h ⊢
        split at h <;> first | contradiction | exact h
theorem own_ext {e : TypeId} {W : World} {n m : Nat} {v : Value} {xs : List Value} (h : W.ownsRow n e 1 v m xs) :
    ∃ E : List Ext, (∀ y ∈ E, y.t = e ∧ W.heap[y.b]? = some (.cells y.F y.t (0, 0))) ∧ ∀ W' : World, (∀ y ∈ E, W'.heap[y.b]? = some (.cells y.F y.t (0, 0))) → W'.ownsRow n e 1 v m xs := by
  obtain ⟨hl, (⟨rfl, rfl⟩ | ⟨g, cap, cur, rfl, h1, h2, h3, h4, h5, h6⟩)⟩ := h
  · exact ⟨[], by simp, fun W' _ => ⟨hl, .inl ⟨rfl, rfl⟩⟩⟩
  · exact ⟨[⟨g, cur, e⟩], by simpa using h2, fun W' hW => ⟨hl, .inr ⟨g, cap, cur, rfl, h1, hW ⟨g, cur, e⟩ (by simp), h3, h4, h5, h6⟩⟩⟩
theorem lg2 {s t : Sli} (hs : s.Ok) (ht : t.Ok) (hd : ∀ b, s.g = some b → t.g = some b → False) : Lg [s, t] := by
  refine ⟨by simp [hs, ht], fun k j x y b hk hj h1 h2 => ?_, by simp⟩
  match k, j with
  | 0, 0 => rfl
  | 1, 1 => rfl
  | 0, 1 => simp at hk hj; subst hk hj; exact (hd b h1 h2).elim
  | 1, 0 => simp at hk hj; subst hk hj; exact (hd b h2 h1).elim
  | (k + 2), _ => simp at hk
  | 0, (j + 2) => simp at hj
  | 1, (j + 2) => simp at hj
theorem bl2 {s t : Sli} {P : Sli → Nat → Prop} (hs : ∀ b, s.g = some b → P s b) (ht : ∀ b, t.g = some b → P t b) : ∀ (k : Nat) (x : Sli) (b : Nat), [s, t][k]? = some x → x.g = some b → P x b := fun k x b hk hb => by
  match k with
  | 0 => simp at hk; subst hk; exact hs b hb
  | 1 => simp at hk; subst hk; exact ht b hb
  | (k + 2) => simp at hk
theorem row2 {W : World} {S : Nat} {e : TypeId} {a b : Value} (h : W.heap[S]? = some (.cells #[a, b] e (0, 0))) : W.ownsRow S e 1 (.slice (some ⟨S, 0, none⟩) 2 2) 2 [a, b] :=
  ⟨rfl, .inr ⟨S, 2, _, rfl, Nat.le_refl _, h, Nat.le_refl _, by decide, rfl, rfl⟩⟩
/-- What region 8's operations leave. -/
def PT8 (n : Nat) (k : Int) (d : List Int) (vals : List Value) : Nat → Value → World → Prop
  | 3, v, W => ∃ A' c', v = .agg #[.int .u8 k, .slice A' n c'] ∧ By W A' d
  | i, v, _ => v = vals.getD i undef
theorem PT8.below {n : Nat} {k : Int} {d : List Int} {vals : List Value} (i : Nat) (v : Value) (X Y : World) (h : PT8 n k d vals i v X) (hb : Below X.heap.size X Y) : PT8 n k d vals i v Y := by
  by_cases h4 : i = 3
  · subst h4
    obtain ⟨A', c', e, h2⟩ := h
    exact ⟨A', c', e, h2.below hb⟩
  · unfold PT8 at h ⊢
    split at h <;> first | contradiction | exact h
set_option maxRecDepth 100000 in
set_option maxHeartbeats 8000000 in
theorem tells_any (k : Int) (d : List Int) (A : Option Addr) (c : Nat) (ad : Int) (w : World) (hk : 0 ≤ k ∧ k ≤ 255) (hd : By w A d) (hcap : d.length ≤ c) (hmax : c ≤ maxLen) (hnil : A = none → c = 0) (ha : 0 ≤ ad ∧ ad < 2 ^ 32) :
    Calls Try.prog 20 #[.agg #[.int .u8 k, .slice A d.length c], .int .u32 ad] w fun e w' => e = .returned (.bool true) ∧ Below w.heap.size w w' := by
  obtain ⟨n, hN⟩ : ∃ n, d.length = n := ⟨_, rfl⟩
  rw [hN] at hcap ⊢
  obtain ⟨X0, hX0⟩ : ∃ X0, w.alloc (Obj.cells #[Value.int IntKind.u8 k, Value.slice A n c] 36) = X0 := ⟨_, rfl⟩
  have hB0 : Below w.heap.size w X0 := by rw [← hX0]; exact (Below.refl _ _).alloc (Nat.le_refl _) _
  have h0 : X0.heap[w.heap.size]? = some (.cells #[.int .u8 k, .slice A n c] 36 (0, 0)) := by
    rw [← hX0]
    exact heap_alloc_last _ _
  obtain ⟨b2, hb2⟩ : ∃ b, w.heap.size = b := ⟨_, rfl⟩
  have HE2 := Lib.hid hb2
  have hX := Lib.hid hX0
  have HB0 := Lib.hid hB0
  rw [hb2] at h0
  have H0 := Lib.hid h0
  have HD := Lib.hid hd
  have HN := Lib.hid hN
  have HNI := Lib.hid hnil
  have o0 := blk_cell h0 0
  have o1 := blk_cell h0 1
  simp at o0 o1
  have l0 := blk_lt h0
  clear hX0 hB0 h0 hb2 hd hN hnil
  by_cases h60 : 60 < n
  · have t1 : decide ((60 : Int) < n) = true := by simp; omega
    have t1' : decide (60 < n) = true := by simp; omega
    go_enter Try.func20, Try.ntmps20
    go_upto_region 1 with fail
    rw [hX.out, HE2.out]
    go_wp2_with fail
    go_ret
    exact ⟨rfl, HB0.out⟩
  have t1 : decide ((60 : Int) < n) = false := by simp; omega
  have t1' : decide (60 < n) = false := by simp; omega
  have hn60 : n ≤ 60 := by omega
  obtain ⟨rt, hrt⟩ : ∃ r, rightS (k, d) = r := ⟨_, rfl⟩
  obtain ⟨⟨er, wa, wb⟩, hRT⟩ : ∃ r, routeS (k, d) = r := ⟨_, rfl⟩
  obtain ⟨⟨e2, kn, dn⟩, hRC⟩ : ∃ r, recS (k, d) ad = r := ⟨_, rfl⟩
  have HRTQ := Lib.hid hrt
  have HRT := Lib.hid hRT
  have HRC := Lib.hid hRC
  have HWA := Lib.hid (tl_len hRT HN.out hn60)
  have HDN := Lib.hid (tl_rec hRC HD.out.rng HN.out hn60)
  clear h60 hrt hRT hRC
  go_enter Try.func20, Try.ntmps20
  go_upto_region 1 with fail
  rw [hX.out, HE2.out]
  go_upto_region 3 with fail
  refine wp_region_steps 7 [[], [0], [], [2], [3], [1, 4], []] (fun D a w' => ∃ gv : Nat → Value, a = ⟨#[.agg #[.int .u8 k, .slice A n c], .int .u32 ad, .pointer (some ⟨b2, 0, none⟩), undef, .bool false, gv 6, undef, undef, undef, undef, undef, undef, undef, undef, undef, undef, .pointer (some ⟨b2, 1, none⟩), .slice A n c, .int .i64 n, .bool false, gv 0, gv 1, gv 2, gv 3, gv 4, gv 5, undef, undef, undef, undef, undef, undef, undef, undef, undef, undef, undef, undef, undef, undef, undef, undef, undef, undef, undef, undef, undef, undef, undef, undef, undef, undef, undef, undef, undef, undef, undef, undef, undef, undef, undef, undef, undef, undef, undef, undef, undef, undef, undef, undef, undef, undef, undef, undef, undef, undef, undef, undef, undef, undef, undef, undef, undef, undef, undef, undef, undef, undef, undef, undef, undef, undef, undef, undef, undef, undef, undef, undef, undef, undef, undef, undef, undef, undef, undef], []⟩ ∧ Iq X0 (PT3 X0.heap.size n k (lentC d) ([.pointer (some ⟨b2, 0, none⟩), .int .u8 k, .pointer (some ⟨b2, 1, none⟩), .slice A n c, undef, undef, undef] : List Value)) D gv w') (by kernel_rfl) (by kernel_rfl) ⟨fun i =>  undef, rfl, Iq.zero _ _ _⟩ ?_ ?_
  · simp only [List.take_succ_cons, List.take_zero]
    refine ⟨?_, ?_, ?_, ?_, ?_, ?_, ?_, trivial⟩
    · intro D a w' hn hp hI
      obtain ⟨gv, rfl, hR⟩ := hI
      clear hn hp
      go_wp2_with fail
      exact ⟨fun ix => if ix = 0 then .pointer (some ⟨b2, 0, none⟩) else gv ix, by rfl, hR.upd PT3.below 0 _ (Below.refl _ _) rfl⟩
    · intro D a w' hn hp hI
      obtain ⟨gv, rfl, hR⟩ := hI
      have e0 : gv 0 = .pointer (some ⟨b2, 0, none⟩) := hR.e 0 hp.1
      rw [e0]
      have cc := kc hR.b o0
      clear hn hp
      go_wp2_with fail
      exact ⟨fun ix => if ix = 1 then .int .u8 k else gv ix, by simp [e0], hR.upd PT3.below 1 _ (Below.refl _ _) rfl⟩
    · intro D a w' hn hp hI
      obtain ⟨gv, rfl, hR⟩ := hI
      clear hn hp
      go_wp2_with fail
      exact ⟨fun ix => if ix = 2 then .pointer (some ⟨b2, 1, none⟩) else gv ix, by rfl, hR.upd PT3.below 2 _ (Below.refl _ _) rfl⟩
    · intro D a w' hn hp hI
      obtain ⟨gv, rfl, hR⟩ := hI
      have e2 : gv 2 = .pointer (some ⟨b2, 1, none⟩) := hR.e 2 hp.1
      rw [e2]
      have cc := kc hR.b o1
      clear hn hp
      go_wp2_with fail
      exact ⟨fun ix => if ix = 3 then .slice A n c else gv ix, by simp [e2], hR.upd PT3.below 3 _ (Below.refl _ _) rfl⟩
    · intro D a w' hn hp hI
      obtain ⟨gv, rfl, hR⟩ := hI
      have e3 : gv 3 = .slice A n c := hR.e 3 hp.1
      rw [e3]
      have HB2 := Lib.hid hR.b
      clear hn hp
      go_wp2_with fail
      refine (lent_t d n A c _ HN.out (HD.out.below (HB0.out.trans (HB2.out.mono HB0.out.size))) (by omega) HNI.out).mono ?_
      rintro e Y ⟨q4, rfl, hq1, hq2, hby⟩
      have hq3 := Nat.le_trans HB2.out.size hq1
      clear hq1
      go_wp2_with fail
      exact ⟨fun ix => if ix = 4 then .slice (some ⟨q4, 0, none⟩) n (n + 12) else gv ix, by simp [e3], hR.upd PT3.below 4 _ hby ⟨_, rfl, hq3, hq2⟩⟩
    · intro D a w' hn hp hI
      obtain ⟨gv, rfl, hR⟩ := hI
      have e1 : gv 1 = .int .u8 k := hR.e 1 hp.1
      rw [e1]
      obtain ⟨q4, e4, hq3, hq4⟩ : ∃ q, gv 4 = .slice (some ⟨q, 0, none⟩) n (n + 12) ∧ X0.heap.size ≤ q ∧ w'.heap[q]? = some (.cells (lentC d) 5 (0, 0)) := hR.e 4 hp.2.1
      rw [e4]
      clear hn hp
      go_wp2_with fail
      exact ⟨fun ix => if ix = 5 then .agg #[.int .u8 k, .slice (some ⟨q4, 0, none⟩) n (n + 12)] else gv ix, by simp [e1, e4], hR.upd PT3.below 5 _ (Below.refl _ _) ⟨_, rfl, hq3, hq4⟩⟩
    · intro D a w' hn hp hI
      obtain ⟨gv, rfl, hR⟩ := hI
      clear hn hp
      go_wp2_with fail
      exact ⟨fun ix => if ix = 6 then .pointer (some ⟨w'.heap.size, 0, none⟩) else gv ix, by rfl, hR.upd PT3.below 6 _ ((Below.refl _ _).alloc (Nat.le_refl _) _) ⟨_, rfl, hR.b.size, heap_alloc_last _ _⟩⟩
  intro D a w' hD2 hI2
  obtain ⟨g3, rfl, hR⟩ := hI2
  obtain ⟨q4, e5, hq3, hq4⟩ : ∃ q, g3 5 = .agg #[.int .u8 k, .slice (some ⟨q, 0, none⟩) n (n + 12)] ∧ X0.heap.size ≤ q ∧ w'.heap[q]? = some (.cells (lentC d) 5 (0, 0)) := hR.e 5 (hD2 5 (by decide))
  obtain ⟨b5, e6, hb5, hk5⟩ : ∃ q, g3 6 = .pointer (some ⟨q, 0, none⟩) ∧ X0.heap.size ≤ q ∧ w'.heap[q]? = some (.cells #[.int .u8 0, .slice none 0 0] 36 (0, 0)) := hR.e 6 (hD2 6 (by decide))
  rw [e5, e6]
  have f0 := blk_free hk5 0
  have f1 := blk_free hk5 1
  have k0 := blk_cell hk5 0
  have k1 := blk_cell hk5 1
  simp at k0 k1
  have hset := blk_set (blk_set hk5 0 (.int .u8 k)) 1 (.slice (some ⟨q4, 0, none⟩) n (n + 12))
  have hqb : q4 ≠ b5 := blk_ne (by decide) hq4 hk5
  have hqs := (Below.heap_setCell (w'.setCell ⟨b5, 0, none⟩ (.int .u8 k)) ⟨b5, 1, none⟩ (.slice (some ⟨q4, 0, none⟩) n (n + 12)) q4 hqb).trans ((Below.heap_setCell w' ⟨b5, 0, none⟩ (.int .u8 k) q4 hqb).trans hq4)
  have hbs : Below w.heap.size w ((w'.setCell ⟨b5, 0, none⟩ (.int .u8 k)).setCell ⟨b5, 1, none⟩ (.slice (some ⟨q4, 0, none⟩) n (n + 12))) := ((HB0.out.trans (hR.b.mono HB0.out.size)).setCell (p := ⟨b5, 0, none⟩) (Nat.le_trans HB0.out.size hb5) _).setCell (p := ⟨b5, 1, none⟩) (Nat.le_trans HB0.out.size hb5) _
  have h2s := (Below.heap_setCell (w'.setCell ⟨b5, 0, none⟩ (.int .u8 k)) ⟨b5, 1, none⟩ (.slice (some ⟨q4, 0, none⟩) n (n + 12)) b2 (by show b2 ≠ b5; omega)).trans ((Below.heap_setCell w' ⟨b5, 0, none⟩ (.int .u8 k) b2 (by show b2 ≠ b5; omega)).trans (blk_below hR.b H0.out))
  simp at hset
  have HQ := Lib.hid hqs
  have H5 := Lib.hid hset
  have H2 := Lib.hid h2s
  have HB3 := Lib.hid hbs
  have HQ4 := Lib.hid (Nat.le_trans HB0.out.size hq3)
  have HR3 := Lib.hid hR
  simp only [List.drop_succ_cons, List.drop_zero]
  clear hD2 hR e5 e6 hset hqs hbs h2s hq3 hq4 hk5 hqb hb5 l0 o0 o1
  go_upto_region 4 with fail
  obtain ⟨W3, hW3⟩ : ∃ X, (w'.setCell ⟨b5, 0, none⟩ (.int .u8 k)).setCell ⟨b5, 1, none⟩ (.slice (some ⟨q4, 0, none⟩) n (n + 12)) = X := ⟨_, rfl⟩
  rw [hW3] at HQ H5 H2 HB3 ⊢
  clear hW3 k0 k1 f0 f1
  have o0 := blk_cell H2.out 0
  have o1 := blk_cell H2.out 1
  have q0 := blk_cell H5.out 0
  have q1 := blk_cell H5.out 1
  simp at o0 o1 q0 q1
  have HRG := Lib.hid (tl_rng HRT.out HD.out.rng)
  have hnw : n ≤ 2 ^ 40 := by omega
  go_wp2_with fail
  refine (route_m k d n (some ⟨q4, 0, none⟩) (n + 12) _ HN.out hk (by_lent_t HQ.out HD.out.rng) hnw (by omega) HRT.out).mono ?_
  rintro e Y4 ⟨A6, c6, A7, c7, rfl, hT, hb⟩
  have HX4 := Lib.hid hb
  have HT4 := Lib.hid hT
  have HB4 := Lib.hid (HB3.out.trans (hb.mono HB3.out.size))
  have HQ4' := Lib.hid (blk_below hb HQ.out)
  have HH2 := Lib.hid (blk_below hb H2.out)
  clear hb hT
  replace o0 := kc HX4.out o0
  replace o1 := kc HX4.out o1
  replace q0 := kc HX4.out q0
  replace q1 := kc HX4.out q1
  go_wp2_with fail
  refine (theirs_m k d n A c _ HN.out (HD.out.below HB4.out) hnw HNI.out).mono ?_
  rintro e Y5 ⟨A8, c8, rfl, hy, hb⟩
  have HX5 := Lib.hid hb
  have HY5 := Lib.hid hy
  have HT5 := Lib.hid (HT4.out.later hb)
  have HB5 := Lib.hid (HB4.out.trans (hb.mono HB4.out.size))
  have HQ5 := Lib.hid (blk_below hb HQ4'.out)
  clear hb hy
  replace o0 := kc HX5.out o0
  replace o1 := kc HX5.out o1
  replace q0 := kc HX5.out q0
  replace q1 := kc HX5.out q1
  go_wp2_with fail
  refine (refRoute_m k d n A8 c8 _ HN.out hk HY5.out hnw HRT.out).mono ?_
  rintro e Y6 ⟨A9, c9, A10, c10, rfl, hT, hb⟩
  have HX6 := Lib.hid hb
  have HU6 := Lib.hid hT
  have HT6 := Lib.hid (HT5.out.later hb)
  have HB6 := Lib.hid (HB5.out.trans (hb.mono HB5.out.size))
  have HQ6 := Lib.hid (blk_below hb HQ5.out)
  clear hb hT
  replace o0 := kc HX6.out o0
  replace o1 := kc HX6.out o1
  replace q0 := kc HX6.out q0
  replace q1 := kc HX6.out q1
  go_wp2_with fail
  refine (record_m k d n (some ⟨q4, 0, none⟩) (n + 12) ad _ HN.out hk (by_lent_t HQ6.out HD.out.rng) hnw ha HRC.out).mono ?_
  rintro e Y7 ⟨A12, c12, rfl, hw, hb⟩
  have HX7 := Lib.hid hb
  have HO7 := Lib.hid hw
  have HT7 := Lib.hid (HT6.out.later hb)
  have HU7 := Lib.hid (HU6.out.later hb)
  have HB7 := Lib.hid (HB6.out.trans (hb.mono HB6.out.size))
  have HQ7 := Lib.hid (blk_below hb HQ6.out)
  clear hb hw
  replace o0 := kc HX7.out o0
  replace o1 := kc HX7.out o1
  replace q0 := kc HX7.out q0
  replace q1 := kc HX7.out q1
  go_upto_region 7 with fail
  obtain ⟨b12, hb12⟩ : ∃ b, Y7.heap.size = b := ⟨_, rfl⟩
  have hb : Below Y7.heap.size Y7 (Y7.alloc (Obj.cells #[Value.int IntKind.u8 kn, Value.slice A12 dn.length c12] 36)) := (Below.refl _ _).alloc (Nat.le_refl _) _
  have h12 := heap_alloc_last Y7 (Obj.cells #[Value.int IntKind.u8 kn, Value.slice A12 dn.length c12] 36)
  obtain ⟨V7, hV7⟩ : ∃ X, Y7.alloc (Obj.cells #[Value.int IntKind.u8 kn, Value.slice A12 dn.length c12] 36) = X := ⟨_, rfl⟩
  rw [hV7] at hb h12 ⊢
  rw [hb12] at h12 ⊢
  have H12 := Lib.hid h12
  have HX8 := Lib.hid hb
  have HO8 := Lib.hid (own_below HO7.out hb)
  have HT8 := Lib.hid (HT7.out.later hb)
  have HU8 := Lib.hid (HU7.out.later hb)
  have HB8 := Lib.hid (HB7.out.trans (hb.mono HB7.out.size))
  have HQ8 := Lib.hid (blk_below hb HQ7.out)
  have r0 := blk_cell h12 0
  have r1 := blk_cell h12 1
  simp at r0 r1
  clear hb h12 hV7 hb12
  replace o0 := kc HX8.out o0
  replace o1 := kc HX8.out o1
  replace q0 := kc HX8.out q0
  replace q1 := kc HX8.out q1
  go_wp2_with fail
  refine (theirs_m k d n A c _ HN.out (HD.out.below HB8.out) hnw HNI.out).mono ?_
  rintro e Y9 ⟨A13, c13, rfl, hy, hb⟩
  have HX9 := Lib.hid hb
  have HY9 := Lib.hid hy
  have HO9 := Lib.hid (own_below HO8.out hb)
  have HT9 := Lib.hid (HT8.out.later hb)
  have HU9 := Lib.hid (HU8.out.later hb)
  have HB9 := Lib.hid (HB8.out.trans (hb.mono HB8.out.size))
  have HQ9 := Lib.hid (blk_below hb HQ8.out)
  clear hb hy
  replace o0 := kc HX9.out o0
  replace o1 := kc HX9.out o1
  replace q0 := kc HX9.out q0
  replace q1 := kc HX9.out q1
  replace r0 := kc HX9.out r0
  replace r1 := kc HX9.out r1
  go_wp2_with fail
  refine (refRecord_m k d n A13 c13 ad _ HN.out hk HY9.out hnw ha HRC.out).mono ?_
  rintro e Y10 ⟨A14, c14, rfl, hw, hb⟩
  have HX10 := Lib.hid hb
  have HP10 := Lib.hid hw
  have HO10 := Lib.hid (own_below HO9.out hb)
  have HT10 := Lib.hid (HT9.out.later hb)
  have HU10 := Lib.hid (HU9.out.later hb)
  have HB10 := Lib.hid (HB9.out.trans (hb.mono HB9.out.size))
  have HQ10 := Lib.hid (blk_below hb HQ9.out)
  clear hb hw
  replace o0 := kc HX10.out o0
  replace o1 := kc HX10.out o1
  replace q0 := kc HX10.out q0
  replace q1 := kc HX10.out q1
  replace r0 := kc HX10.out r0
  replace r1 := kc HX10.out r1
  go_upto_region 8 with fail
  obtain ⟨b14, hb14⟩ : ∃ b, Y10.heap.size = b := ⟨_, rfl⟩
  have hb : Below Y10.heap.size Y10 (Y10.alloc (Obj.cells #[Value.int IntKind.u8 kn, Value.slice A14 dn.length c14] 80)) := (Below.refl _ _).alloc (Nat.le_refl _) _
  have h14 := heap_alloc_last Y10 (Obj.cells #[Value.int IntKind.u8 kn, Value.slice A14 dn.length c14] 80)
  obtain ⟨V, hV⟩ : ∃ X, Y10.alloc (Obj.cells #[Value.int IntKind.u8 kn, Value.slice A14 dn.length c14] 80) = X := ⟨_, rfl⟩
  rw [hV] at hb h14 ⊢
  rw [hb14] at h14 ⊢
  have HX11 := Lib.hid hb
  have HO := Lib.hid (own_below HO10.out hb)
  have HP := Lib.hid (own_below HP10.out hb)
  have HT := Lib.hid (HT10.out.later hb)
  have HU := Lib.hid (HU10.out.later hb)
  have HBV := Lib.hid (HB10.out.trans (hb.mono HB10.out.size))
  have HQV := Lib.hid (blk_below hb HQ10.out)
  have s0 := blk_cell h14 0
  have s1 := blk_cell h14 1
  simp at s0 s1
  clear hb h14 hV hb14
  replace o0 := kc HX11.out o0
  replace o1 := kc HX11.out o1
  replace q0 := kc HX11.out q0
  replace q1 := kc HX11.out q1
  replace r0 := kc HX11.out r0
  replace r1 := kc HX11.out r1
  obtain ⟨hw6, hw7⟩ := HT.out.wos HRG.out.1 HRG.out.2
  obtain ⟨hw9, hw10⟩ := HU.out.wos HRG.out.1 HRG.out.2
  have HW6 := Lib.hid hw6
  have HW7 := Lib.hid hw7
  have HW9 := Lib.hid hw9
  have HW10 := Lib.hid hw10
  have HY12 := Lib.hid (By.of_own3 HO.out rfl HDN.out.2).1
  have HY14 := Lib.hid (By.of_own3 HP.out rfl HDN.out.2).1
  have hlw : wa.length ≤ 2 ^ 40 := by have := HWA.out; omega
  have hlv : wb.length ≤ 2 ^ 40 := by have := HWA.out; omega
  have hld : dn.length ≤ 2 ^ 40 := by have := HDN.out; omega
  clear hw6 hw7 hw9 hw10
  refine wp_region_steps 33 [[], [0], [], [2], [3], [1, 4], [5], [6], [6], [6, 7, 8], [6, 9], [6, 10], [11], [12], [12], [12, 13, 14], [12, 15], [12, 16], [17], [18], [18], [18, 19, 20], [18, 21], [22], [23], [23], [23, 24, 25], [23, 26], [23, 27], [28], [29], [29], [29, 30, 31]] (fun D a w' => ∃ g8 : Nat → Value, a = ⟨#[.agg #[.int .u8 k, .slice A n c], .int .u32 ad, .pointer (some ⟨b2, 0, none⟩), undef, .bool false, .pointer (some ⟨b5, 0, none⟩), .slice A6 wa.length c6, .slice A7 wb.length c7, .int .i64 er, .slice A9 wa.length c9, .slice A10 wb.length c10, .int .i64 er, .pointer (some ⟨b12, 0, none⟩), .int .i64 e2, .pointer (some ⟨b14, 0, none⟩), .int .i64 e2, .pointer (some ⟨b2, 1, none⟩), .slice A n c, .int .i64 n, .bool false, g3 0, g3 1, g3 2, g3 3, g3 4, .agg #[.int .u8 k, .slice (some ⟨q4, 0, none⟩) n (n + 12)], .tuple #[.slice A6 wa.length c6, .slice A7 wb.length c7, .int .i64 er], .agg #[.int .u8 k, .slice (some ⟨q4, 0, none⟩) n (n + 12)], .tuple #[.slice A6 wa.length c6, .slice A7 wb.length c7, .int .i64 er], .slice A6 wa.length c6, .slice A7 wb.length c7, .int .i64 er, .tuple #[.slice A9 wa.length c9, .slice A10 wb.length c10, .int .i64 er], .agg #[.int .u8 k, .slice A n c], .agg #[.int .u8 k, .slice A8 n c8], .tuple #[.slice A9 wa.length c9, .slice A10 wb.length c10, .int .i64 er], .slice A9 wa.length c9, .slice A10 wb.length c10, .int .i64 er, .tuple #[.agg #[.int .u8 kn, .slice A12 dn.length c12], .int .i64 e2], .agg #[.int .u8 k, .slice (some ⟨q4, 0, none⟩) n (n + 12)], .int .u32 ad, .tuple #[.agg #[.int .u8 kn, .slice A12 dn.length c12], .int .i64 e2], .agg #[.int .u8 kn, .slice A12 dn.length c12], .int .i64 e2, .tuple #[.agg #[.int .u8 kn, .slice A14 dn.length c14], .int .i64 e2], .agg #[.int .u8 k, .slice A n c], .agg #[.int .u8 k, .slice A13 n c13], .int .u32 ad, .tuple #[.agg #[.int .u8 kn, .slice A14 dn.length c14], .int .i64 e2], .agg #[.int .u8 kn, .slice A14 dn.length c14], .int .i64 e2, g8 0, g8 1, g8 2, g8 3, g8 4, g8 5, g8 6, g8 7, g8 8, g8 9, g8 10, g8 11, g8 12, g8 13, g8 14, g8 15, g8 16, g8 17, g8 18, g8 19, g8 20, g8 21, g8 22, g8 23, g8 24, g8 25, g8 26, g8 27, g8 28, g8 29, g8 30, g8 31, g8 32, g8 33, undef, undef, undef, undef, undef, undef, undef, undef, undef, undef, undef, undef, undef, undef, undef, undef, undef, undef, undef], []⟩ ∧ Iq V (PT8 n k d ([.agg #[.int .u8 k, .slice (some ⟨q4, 0, none⟩) n (n + 12)], .bool rt, .agg #[.int .u8 k, .slice A n c], undef, .bool rt, .bool false, .bool false, .slice A6 wa.length c6, .slice A9 wa.length c9, .bool true, .bool false, .bool false, .bool false, .slice A7 wb.length c7, .slice A10 wb.length c10, .bool true, .bool false, .bool false, .bool false, .int .i64 er, .int .i64 er, .bool false, .bool false, .bool false, .agg #[.int .u8 kn, .slice A12 dn.length c12], .agg #[.int .u8 kn, .slice A14 dn.length c14], .bool true, .bool false, .bool false, .bool false, .int .i64 e2, .int .i64 e2, .bool false] : List Value)) D g8 w') (by kernel_rfl) (by kernel_rfl) ⟨fun i =>  undef, rfl, Iq.zero _ _ _⟩ ?_ ?_
  · simp only [List.take_succ_cons, List.take_zero]
    refine ⟨?_, ?_, ?_, ?_, ?_, ?_, ?_, ?_, ?_, ?_, ?_, ?_, ?_, ?_, ?_, ?_, ?_, ?_, ?_, ?_, ?_, ?_, ?_, ?_, ?_, ?_, ?_, ?_, ?_, ?_, ?_, ?_, ?_, trivial⟩
    · intro D a w' hn hp hI
      obtain ⟨g8, rfl, hR⟩ := hI
      have ca := kc hR.b q0
      have cb := kc hR.b q1
      clear hn hp
      go_wp2_with fail
      exact ⟨fun ix => if ix = 0 then .agg #[.int .u8 k, .slice (some ⟨q4, 0, none⟩) n (n + 12)] else g8 ix, by rfl, hR.upd PT8.below 0 _ (Below.refl _ _) rfl⟩
    · intro D a w' hn hp hI
      obtain ⟨g8, rfl, hR⟩ := hI
      have e0 : g8 0 = .agg #[.int .u8 k, .slice (some ⟨q4, 0, none⟩) n (n + 12)] := hR.e 0 hp.1
      rw [e0]
      have HB2 := Lib.hid hR.b
      clear hn hp
      go_wp2_with fail
      refine (right_m k d n _ _ _ HN.out hk (by_lent_t (blk_below HB2.out HQV.out) HD.out.rng) hnw HRTQ.out).mono ?_
      rintro e Y ⟨rfl, hby⟩
      go_wp2_with fail
      exact ⟨fun ix => if ix = 1 then .bool rt else g8 ix, by simp [e0], hR.upd PT8.below 1 _ hby rfl⟩
    · intro D a w' hn hp hI
      obtain ⟨g8, rfl, hR⟩ := hI
      have ca := kc hR.b o0
      have cb := kc hR.b o1
      clear hn hp
      go_wp2_with fail
      exact ⟨fun ix => if ix = 2 then .agg #[.int .u8 k, .slice A n c] else g8 ix, by rfl, hR.upd PT8.below 2 _ (Below.refl _ _) rfl⟩
    · intro D a w' hn hp hI
      obtain ⟨g8, rfl, hR⟩ := hI
      have e2 : g8 2 = .agg #[.int .u8 k, .slice A n c] := hR.e 2 hp.1
      rw [e2]
      have HB2 := Lib.hid hR.b
      clear hn hp
      go_wp2_with fail
      refine (theirs_m k d n A c _ HN.out (HD.out.below (HBV.out.trans (HB2.out.mono HBV.out.size))) hnw HNI.out).mono ?_
      rintro e Y ⟨A4, c4, rfl, hy3, hby⟩
      go_wp2_with fail
      exact ⟨fun ix => if ix = 3 then .agg #[.int .u8 k, .slice A4 n c4] else g8 ix, by simp [e2], hR.upd PT8.below 3 _ hby ⟨_, _, rfl, hy3⟩⟩
    · intro D a w' hn hp hI
      obtain ⟨g8, rfl, hR⟩ := hI
      obtain ⟨A4, c4, e3, hy3⟩ : ∃ A' c', g8 3 = .agg #[.int .u8 k, .slice A' n c'] ∧ By w' A' d := hR.e 3 hp.1
      rw [e3]
      have HB2 := Lib.hid hR.b
      clear hn hp
      go_wp2_with fail
      refine (refRight_m k d n _ _ _ HN.out hk hy3 hnw HRTQ.out).mono ?_
      rintro e Y ⟨rfl, hby⟩
      go_wp2_with fail
      exact ⟨fun ix => if ix = 4 then .bool rt else g8 ix, by simp [e3], hR.upd PT8.below 4 _ hby rfl⟩
    · intro D a w' hn hp hI
      obtain ⟨g8, rfl, hR⟩ := hI
      have e1 : g8 1 = .bool rt := hR.e 1 hp.1
      rw [e1]
      have e4 : g8 4 = .bool rt := hR.e 4 hp.2.1
      rw [e4]
      clear hn hp
      go_wp2_with fail
      exact ⟨fun ix => if ix = 5 then .bool false else g8 ix, by simp [e1, e4], hR.upd PT8.below 5 _ (Below.refl _ _) rfl⟩
    · intro D a w' hn hp hI
      obtain ⟨g8, rfl, hR⟩ := hI
      have e5 : g8 5 = .bool false := hR.e 5 hp.1
      rw [e5]
      clear hn hp
      go_wp2_with fail
      exact ⟨fun ix => if ix = 6 then .bool false else g8 ix, by simp [e5], hR.upd PT8.below 6 _ (Below.refl _ _) rfl⟩
    · intro D a w' hn hp hI
      obtain ⟨g8, rfl, hR⟩ := hI
      have e6 : g8 6 = .bool false := hR.e 6 hp.1
      rw [e6]
      clear hn hp
      go_wp2_with fail
      exact ⟨fun ix => if ix = 7 then .slice A6 wa.length c6 else g8 ix, by simp [e6], hR.upd PT8.below 7 _ (Below.refl _ _) rfl⟩
    · intro D a w' hn hp hI
      obtain ⟨g8, rfl, hR⟩ := hI
      have e6 : g8 6 = .bool false := hR.e 6 hp.1
      rw [e6]
      clear hn hp
      go_wp2_with fail
      exact ⟨fun ix => if ix = 8 then .slice A9 wa.length c9 else g8 ix, by simp [e6], hR.upd PT8.below 8 _ (Below.refl _ _) rfl⟩
    · intro D a w' hn hp hI
      obtain ⟨g8, rfl, hR⟩ := hI
      have e6 : g8 6 = .bool false := hR.e 6 hp.1
      rw [e6]
      have e7 : g8 7 = .slice A6 wa.length c6 := hR.e 7 hp.2.1
      rw [e7]
      have e8 : g8 8 = .slice A9 wa.length c9 := hR.e 8 hp.2.2.1
      rw [e8]
      have HB2 := Lib.hid hR.b
      clear hn hp
      go_wp2_with fail
      refine (sameWt (HW6.out.below HB2.out) (HW9.out.below HB2.out) rfl hlw).mono ?_
      rintro e Y ⟨rfl, hby⟩
      go_wp2_with fail
      exact ⟨fun ix => if ix = 9 then .bool true else g8 ix, by simp [e6, e7, e8], hR.upd PT8.below 9 _ hby rfl⟩
    · intro D a w' hn hp hI
      obtain ⟨g8, rfl, hR⟩ := hI
      have e6 : g8 6 = .bool false := hR.e 6 hp.1
      rw [e6]
      have e9 : g8 9 = .bool true := hR.e 9 hp.2.1
      rw [e9]
      clear hn hp
      go_wp2_with fail
      exact ⟨fun ix => if ix = 10 then .bool false else g8 ix, by simp [e6, e9], hR.upd PT8.below 10 _ (Below.refl _ _) rfl⟩
    · intro D a w' hn hp hI
      obtain ⟨g8, rfl, hR⟩ := hI
      have e6 : g8 6 = .bool false := hR.e 6 hp.1
      rw [e6]
      have e10 : g8 10 = .bool false := hR.e 10 hp.2.1
      rw [e10]
      clear hn hp
      go_wp2_with fail
      exact ⟨fun ix => if ix = 11 then .bool false else g8 ix, by simp [e6, e10], hR.upd PT8.below 11 _ (Below.refl _ _) rfl⟩
    · intro D a w' hn hp hI
      obtain ⟨g8, rfl, hR⟩ := hI
      have e11 : g8 11 = .bool false := hR.e 11 hp.1
      rw [e11]
      clear hn hp
      go_wp2_with fail
      exact ⟨fun ix => if ix = 12 then .bool false else g8 ix, by simp [e11], hR.upd PT8.below 12 _ (Below.refl _ _) rfl⟩
    · intro D a w' hn hp hI
      obtain ⟨g8, rfl, hR⟩ := hI
      have e12 : g8 12 = .bool false := hR.e 12 hp.1
      rw [e12]
      clear hn hp
      go_wp2_with fail
      exact ⟨fun ix => if ix = 13 then .slice A7 wb.length c7 else g8 ix, by simp [e12], hR.upd PT8.below 13 _ (Below.refl _ _) rfl⟩
    · intro D a w' hn hp hI
      obtain ⟨g8, rfl, hR⟩ := hI
      have e12 : g8 12 = .bool false := hR.e 12 hp.1
      rw [e12]
      clear hn hp
      go_wp2_with fail
      exact ⟨fun ix => if ix = 14 then .slice A10 wb.length c10 else g8 ix, by simp [e12], hR.upd PT8.below 14 _ (Below.refl _ _) rfl⟩
    · intro D a w' hn hp hI
      obtain ⟨g8, rfl, hR⟩ := hI
      have e12 : g8 12 = .bool false := hR.e 12 hp.1
      rw [e12]
      have e13 : g8 13 = .slice A7 wb.length c7 := hR.e 13 hp.2.1
      rw [e13]
      have e14 : g8 14 = .slice A10 wb.length c10 := hR.e 14 hp.2.2.1
      rw [e14]
      have HB2 := Lib.hid hR.b
      clear hn hp
      go_wp2_with fail
      refine (sameWt (HW7.out.below HB2.out) (HW10.out.below HB2.out) rfl hlv).mono ?_
      rintro e Y ⟨rfl, hby⟩
      go_wp2_with fail
      exact ⟨fun ix => if ix = 15 then .bool true else g8 ix, by simp [e12, e13, e14], hR.upd PT8.below 15 _ hby rfl⟩
    · intro D a w' hn hp hI
      obtain ⟨g8, rfl, hR⟩ := hI
      have e12 : g8 12 = .bool false := hR.e 12 hp.1
      rw [e12]
      have e15 : g8 15 = .bool true := hR.e 15 hp.2.1
      rw [e15]
      clear hn hp
      go_wp2_with fail
      exact ⟨fun ix => if ix = 16 then .bool false else g8 ix, by simp [e12, e15], hR.upd PT8.below 16 _ (Below.refl _ _) rfl⟩
    · intro D a w' hn hp hI
      obtain ⟨g8, rfl, hR⟩ := hI
      have e12 : g8 12 = .bool false := hR.e 12 hp.1
      rw [e12]
      have e16 : g8 16 = .bool false := hR.e 16 hp.2.1
      rw [e16]
      clear hn hp
      go_wp2_with fail
      exact ⟨fun ix => if ix = 17 then .bool false else g8 ix, by simp [e12, e16], hR.upd PT8.below 17 _ (Below.refl _ _) rfl⟩
    · intro D a w' hn hp hI
      obtain ⟨g8, rfl, hR⟩ := hI
      have e17 : g8 17 = .bool false := hR.e 17 hp.1
      rw [e17]
      clear hn hp
      go_wp2_with fail
      exact ⟨fun ix => if ix = 18 then .bool false else g8 ix, by simp [e17], hR.upd PT8.below 18 _ (Below.refl _ _) rfl⟩
    · intro D a w' hn hp hI
      obtain ⟨g8, rfl, hR⟩ := hI
      have e18 : g8 18 = .bool false := hR.e 18 hp.1
      rw [e18]
      clear hn hp
      go_wp2_with fail
      exact ⟨fun ix => if ix = 19 then .int .i64 er else g8 ix, by simp [e18], hR.upd PT8.below 19 _ (Below.refl _ _) rfl⟩
    · intro D a w' hn hp hI
      obtain ⟨g8, rfl, hR⟩ := hI
      have e18 : g8 18 = .bool false := hR.e 18 hp.1
      rw [e18]
      clear hn hp
      go_wp2_with fail
      exact ⟨fun ix => if ix = 20 then .int .i64 er else g8 ix, by simp [e18], hR.upd PT8.below 20 _ (Below.refl _ _) rfl⟩
    · intro D a w' hn hp hI
      obtain ⟨g8, rfl, hR⟩ := hI
      have e18 : g8 18 = .bool false := hR.e 18 hp.1
      rw [e18]
      have e19 : g8 19 = .int .i64 er := hR.e 19 hp.2.1
      rw [e19]
      have e20 : g8 20 = .int .i64 er := hR.e 20 hp.2.2.1
      rw [e20]
      clear hn hp
      go_wp2_with fail
      exact ⟨fun ix => if ix = 21 then .bool false else g8 ix, by simp [e18, e19, e20], hR.upd PT8.below 21 _ (Below.refl _ _) rfl⟩
    · intro D a w' hn hp hI
      obtain ⟨g8, rfl, hR⟩ := hI
      have e18 : g8 18 = .bool false := hR.e 18 hp.1
      rw [e18]
      have e21 : g8 21 = .bool false := hR.e 21 hp.2.1
      rw [e21]
      clear hn hp
      go_wp2_with fail
      exact ⟨fun ix => if ix = 22 then .bool false else g8 ix, by simp [e18, e21], hR.upd PT8.below 22 _ (Below.refl _ _) rfl⟩
    · intro D a w' hn hp hI
      obtain ⟨g8, rfl, hR⟩ := hI
      have e22 : g8 22 = .bool false := hR.e 22 hp.1
      rw [e22]
      clear hn hp
      go_wp2_with fail
      exact ⟨fun ix => if ix = 23 then .bool false else g8 ix, by simp [e22], hR.upd PT8.below 23 _ (Below.refl _ _) rfl⟩
    · intro D a w' hn hp hI
      obtain ⟨g8, rfl, hR⟩ := hI
      have e23 : g8 23 = .bool false := hR.e 23 hp.1
      rw [e23]
      have ca := kc hR.b r0
      have cb := kc hR.b r1
      clear hn hp
      go_wp2_with fail
      exact ⟨fun ix => if ix = 24 then .agg #[.int .u8 kn, .slice A12 dn.length c12] else g8 ix, by simp [e23], hR.upd PT8.below 24 _ (Below.refl _ _) rfl⟩
    · intro D a w' hn hp hI
      obtain ⟨g8, rfl, hR⟩ := hI
      have e23 : g8 23 = .bool false := hR.e 23 hp.1
      rw [e23]
      have ca := kc hR.b s0
      have cb := kc hR.b s1
      clear hn hp
      go_wp2_with fail
      exact ⟨fun ix => if ix = 25 then .agg #[.int .u8 kn, .slice A14 dn.length c14] else g8 ix, by simp [e23], hR.upd PT8.below 25 _ (Below.refl _ _) rfl⟩
    · intro D a w' hn hp hI
      obtain ⟨g8, rfl, hR⟩ := hI
      have e23 : g8 23 = .bool false := hR.e 23 hp.1
      rw [e23]
      have e24 : g8 24 = .agg #[.int .u8 kn, .slice A12 dn.length c12] := hR.e 24 hp.2.1
      rw [e24]
      have e25 : g8 25 = .agg #[.int .u8 kn, .slice A14 dn.length c14] := hR.e 25 hp.2.2.1
      rw [e25]
      have HB2 := Lib.hid hR.b
      clear hn hp
      go_wp2_with fail
      refine (same1_m kn dn dn.length A12 A14 c12 c14 _ rfl (HY12.out.below HB2.out) (HY14.out.below HB2.out) hld).mono ?_
      rintro e Y ⟨rfl, hby⟩
      go_wp2_with fail
      exact ⟨fun ix => if ix = 26 then .bool true else g8 ix, by simp [e23, e24, e25], hR.upd PT8.below 26 _ hby rfl⟩
    · intro D a w' hn hp hI
      obtain ⟨g8, rfl, hR⟩ := hI
      have e23 : g8 23 = .bool false := hR.e 23 hp.1
      rw [e23]
      have e26 : g8 26 = .bool true := hR.e 26 hp.2.1
      rw [e26]
      clear hn hp
      go_wp2_with fail
      exact ⟨fun ix => if ix = 27 then .bool false else g8 ix, by simp [e23, e26], hR.upd PT8.below 27 _ (Below.refl _ _) rfl⟩
    · intro D a w' hn hp hI
      obtain ⟨g8, rfl, hR⟩ := hI
      have e23 : g8 23 = .bool false := hR.e 23 hp.1
      rw [e23]
      have e27 : g8 27 = .bool false := hR.e 27 hp.2.1
      rw [e27]
      clear hn hp
      go_wp2_with fail
      exact ⟨fun ix => if ix = 28 then .bool false else g8 ix, by simp [e23, e27], hR.upd PT8.below 28 _ (Below.refl _ _) rfl⟩
    · intro D a w' hn hp hI
      obtain ⟨g8, rfl, hR⟩ := hI
      have e28 : g8 28 = .bool false := hR.e 28 hp.1
      rw [e28]
      clear hn hp
      go_wp2_with fail
      exact ⟨fun ix => if ix = 29 then .bool false else g8 ix, by simp [e28], hR.upd PT8.below 29 _ (Below.refl _ _) rfl⟩
    · intro D a w' hn hp hI
      obtain ⟨g8, rfl, hR⟩ := hI
      have e29 : g8 29 = .bool false := hR.e 29 hp.1
      rw [e29]
      clear hn hp
      go_wp2_with fail
      exact ⟨fun ix => if ix = 30 then .int .i64 e2 else g8 ix, by simp [e29], hR.upd PT8.below 30 _ (Below.refl _ _) rfl⟩
    · intro D a w' hn hp hI
      obtain ⟨g8, rfl, hR⟩ := hI
      have e29 : g8 29 = .bool false := hR.e 29 hp.1
      rw [e29]
      clear hn hp
      go_wp2_with fail
      exact ⟨fun ix => if ix = 31 then .int .i64 e2 else g8 ix, by simp [e29], hR.upd PT8.below 31 _ (Below.refl _ _) rfl⟩
    · intro D a w' hn hp hI
      obtain ⟨g8, rfl, hR⟩ := hI
      have e29 : g8 29 = .bool false := hR.e 29 hp.1
      rw [e29]
      have e30 : g8 30 = .int .i64 e2 := hR.e 30 hp.2.1
      rw [e30]
      have e31 : g8 31 = .int .i64 e2 := hR.e 31 hp.2.2.1
      rw [e31]
      clear hn hp
      go_wp2_with fail
      exact ⟨fun ix => if ix = 32 then .bool false else g8 ix, by simp [e29, e30, e31], hR.upd PT8.below 32 _ (Below.refl _ _) rfl⟩
  intro D a w' hD2 hI2
  obtain ⟨g9, rfl, hR⟩ := hI2
  have e29 : g9 29 = .bool false := hR.e 29 (hD2 29 (by decide))
  have e32 : g9 32 = .bool false := hR.e 32 (hD2 32 (by decide))
  rw [e29, e32]
  have HR8 := Lib.hid hR.b
  simp only [List.drop_succ_cons, List.drop_zero]
  clear hD2 hR e29 e32
  replace o0 := kc HR8.out o0
  replace o1 := kc HR8.out o1
  replace q0 := kc HR8.out q0
  replace q1 := kc HR8.out q1
  replace r0 := kc HR8.out r0
  replace r1 := kc HR8.out r1
  have HQ11 := Lib.hid (blk_below HR8.out HQV.out)
  have HBV2 := Lib.hid (HBV.out.trans (HR8.out.mono HBV.out.size))
  have HO11 := Lib.hid (own_below HO.out HR8.out)
  have HT11 := Lib.hid (HT.out.later HR8.out)
  go_wp2_with fail
  refine (kept_t d n q4 A c _ HN.out HQ11.out (HD.out.below HBV2.out) hnw).mono ?_
  rintro e Z1 ⟨rfl, hb⟩
  have HZ1 := Lib.hid hb
  have HBZ1 := Lib.hid (HBV2.out.trans (hb.mono HBV2.out.size))
  clear hb
  replace o0 := kc HZ1.out o0
  replace o1 := kc HZ1.out o1
  replace q0 := kc HZ1.out q0
  replace q1 := kc HZ1.out q1
  replace r0 := kc HZ1.out r0
  replace r1 := kc HZ1.out r1
  go_wp2_with fail
  obtain ⟨S, hS⟩ : ∃ S, Z1.heap.size = S := ⟨_, rfl⟩
  have hb : Below Z1.heap.size Z1 (Z1.alloc (Obj.cells #[Value.slice (some ⟨q4, 0, none⟩) n (n + 12), Value.slice A12 dn.length c12] 22)) := (Below.refl _ _).alloc (Nat.le_refl _) _
  have h65 := heap_alloc_last Z1 (Obj.cells #[Value.slice (some ⟨q4, 0, none⟩) n (n + 12), Value.slice A12 dn.length c12] 22)
  obtain ⟨Z2, hZ2⟩ : ∃ X, Z1.alloc (Obj.cells #[Value.slice (some ⟨q4, 0, none⟩) n (n + 12), Value.slice A12 dn.length c12] 22) = X := ⟨_, rfl⟩
  rw [hZ2] at hb h65 ⊢
  rw [hS] at h65 ⊢
  have hBZ2 : Below w.heap.size w Z2 := HBZ1.out.trans (hb.mono HBZ1.out.size)
  have hq := blk_below hb (blk_below HZ1.out HQ11.out)
  have ho := own_below (own_below HO11.out HZ1.out) hb
  obtain ⟨Zm, t1, t2, t3, t4⟩ := ((HT11.out.later HZ1.out).later hb).ex
  have hr6 := own_below t3 t2
  obtain ⟨E1, hE1, hE1'⟩ := own_ext hr6
  obtain ⟨E2, hE2, hE2'⟩ := own_ext t4
  obtain ⟨ok12, v12, bl12, _⟩ := own_sli ho (by have := HDN.out; omega)
  have hrow : Z2.ownsRow S 22 1 (.slice (some ⟨S, 0, none⟩) 2 2) 2 ([(⟨some q4, n, n + 12⟩ : Sli), sliOf (.slice A12 dn.length c12)].map Sli.v) := by
    show Z2.ownsRow S 22 1 _ 2 [_, (sliOf _).v]
    rw [v12]
    exact row2 h65
  have ok4 : (⟨some q4, n, n + 12⟩ : Sli).Ok := ⟨(fun h => by cases h), Nat.le_add_right _ _, lt_maxLen' (show n + 12 ≤ 2 ^ 41 by omega), by show n ≤ 2 ^ 20; omega⟩
  have hq6 := blk_lt HQ6.out
  have hlg : Lg [(⟨some q4, n, n + 12⟩ : Sli), sliOf (.slice A12 dn.length c12)] := lg2 ok4 ok12 (fun b hb1 hb2 => by
    cases hb1
    have := (bl12 _ hb2).1
    omega)
  have hbl : ∀ (k : Nat) (s : Sli) (b : Nat), [(⟨some q4, n, n + 12⟩ : Sli), sliOf (.slice A12 dn.length c12)][k]? = some s → s.g = some b → w.heap.size ≤ b ∧ ∃ F, Z2.heap[b]? = some (.cells F 5 (0, 0)) ∧ F.size = s.c :=
    bl2 (P := fun s b => w.heap.size ≤ b ∧ ∃ F, Z2.heap[b]? = some (.cells F 5 (0, 0)) ∧ F.size = s.c) (fun b hb1 => by
      cases hb1
      exact ⟨HQ4.out, _, hq, by simp [lentC, mks_len, HN.out]⟩) (fun b hb1 => ⟨Nat.le_trans HB6.out.size (bl12 b hb1).1, (bl12 b hb1).2⟩)
  have HE1 := Lib.hid hE1
  have HE2' := Lib.hid hE2
  have HF1 := Lib.hid hE1'
  have HF2 := Lib.hid hE2'
  have HT3 := Lib.hid t3
  have HZM := Lib.hid (Nat.le_trans HB3.out.size t1.size)
  have HROW := Lib.hid hrow
  have HLG := Lib.hid hlg
  have HBL := Lib.hid hbl
  have HBZ2 := Lib.hid hBZ2
  clear hE1 hE2 hE1' hE2' t1 t2 t3 t4 hrow hlg hbl hBZ2 hb h65 hZ2 hS hq ho hr6 ok12 v12 bl12 ok4 hq6
  refine (apartB_any (xs := E1 ++ E2) HLG.out rfl HROW.out HBL.out HBZ2.out.size (fun y hy => by
    rcases List.mem_append.1 hy with h | h
    · exact (HE1.out y h).2
    · exact (HE2'.out y h).2) (fun y hy => by
    rcases List.mem_append.1 hy with h | h
    · rw [(HE1.out y h).1]; decide
    · rw [(HE2'.out y h).1]; decide)).mono ?_
  rintro e Z3 ⟨rfl, hb, hxs⟩
  have HBZ3 := Lib.hid (HBZ2.out.trans hb)
  have HR6 := Lib.hid (HF1.out Z3 fun y hy => hxs y (List.mem_append.2 (.inl hy)))
  have HR7 := Lib.hid (HF2.out Z3 fun y hy => hxs y (List.mem_append.2 (.inr hy)))
  clear hb hxs
  go_wp2_with fail
  obtain ⟨S, hS⟩ : ∃ S, Z3.heap.size = S := ⟨_, rfl⟩
  have hb : Below Z3.heap.size Z3 (Z3.alloc (Obj.cells #[Value.slice A6 wa.length c6, Value.slice A7 wb.length c7] 42)) := (Below.refl _ _).alloc (Nat.le_refl _) _
  have h65 := heap_alloc_last Z3 (Obj.cells #[Value.slice A6 wa.length c6, Value.slice A7 wb.length c7] 42)
  obtain ⟨Z4, hZ4⟩ : ∃ X, Z3.alloc (Obj.cells #[Value.slice A6 wa.length c6, Value.slice A7 wb.length c7] 42) = X := ⟨_, rfl⟩
  rw [hZ4] at hb h65 ⊢
  rw [hS] at h65 ⊢
  have hBZ4 : Below w.heap.size w Z4 := HBZ3.out.trans (hb.mono HBZ3.out.size)
  have ho6 := own_below HR6.out hb
  have ho7 := own_below HR7.out hb
  have hwl : wa.length ≤ 2 ^ 20 ∧ wb.length ≤ 2 ^ 20 := by have := HWA.out; omega
  obtain ⟨ok6, v6, bl6, _⟩ := own_sli ho6 hwl.1
  obtain ⟨ok7, v7, bl7, _⟩ := own_sli ho7 hwl.2
  obtain ⟨_, _, bm6, _⟩ := own_sli HT3.out hwl.1
  have hrow : Z4.ownsRow S 42 1 (.slice (some ⟨S, 0, none⟩) 2 2) 2 ([sliOf (.slice A6 wa.length c6), sliOf (.slice A7 wb.length c7)].map Sli.v) := by
    show Z4.ownsRow S 42 1 _ 2 [(sliOf _).v, (sliOf _).v]
    rw [v6, v7]
    exact row2 h65
  have hlg : Lg [sliOf (.slice A6 wa.length c6), sliOf (.slice A7 wb.length c7)] := lg2 ok6 ok7 (fun b hb1 hb2 => by
    have h1 := (bl7 _ hb2).1
    obtain ⟨_, F, h2, _⟩ := bm6 _ hb1
    have := blk_lt h2
    omega)
  have hbl : ∀ (k : Nat) (s : Sli) (b : Nat), [sliOf (.slice A6 wa.length c6), sliOf (.slice A7 wb.length c7)][k]? = some s → s.g = some b → w.heap.size ≤ b ∧ ∃ F, Z4.heap[b]? = some (.cells F 40 (0, 0)) ∧ F.size = s.c :=
    bl2 (P := fun s b => w.heap.size ≤ b ∧ ∃ F, Z4.heap[b]? = some (.cells F 40 (0, 0)) ∧ F.size = s.c) (fun b hb1 => ⟨Nat.le_trans HB3.out.size (bl6 b hb1).1, (bl6 b hb1).2⟩) (fun b hb1 => ⟨Nat.le_trans HZM.out (bl7 b hb1).1, (bl7 b hb1).2⟩)
  have HROW2 := Lib.hid hrow
  have HLG2 := Lib.hid hlg
  have HBL2 := Lib.hid hbl
  have HBZ4 := Lib.hid hBZ4
  clear hrow hlg hbl hBZ4 hb h65 hZ4 hS ho6 ho7 hwl ok6 v6 bl6 ok7 v7 bl7 bm6
  refine (apartW_any (xs := []) HLG2.out rfl HROW2.out HBL2.out HBZ4.out.size (fun y hy => by cases hy) (fun y hy => by cases hy)).mono ?_
  rintro e Z5 ⟨rfl, hb, _⟩
  have HBZ5 := Lib.hid (HBZ4.out.trans hb)
  clear hb
  go_wp2_with fail
  go_ret
  exact ⟨rfl, HBZ5.out⟩

set_option maxRecDepth 100000 in
theorem optsTells_walk (k : Int) (d : List Int) (A : Option Addr) (c : Nat) (ad : Int) (w : World) (hk : 0 ≤ k ∧ k ≤ 255) (hle : d.length ≤ c) (hmx : c ≤ maxLen) (hby : By w A d) (hnil : A = none → c = 0) (ha : 0 ≤ ad ∧ ad ≤ 4294967295) :
    Calls Try.prog 7 #[.agg #[.int .u8 k, .slice A d.length c], .int .u32 ad] w fun e w' => e = .returned (.bool true) ∧ Below w.heap.size w w' := by
  obtain ⟨X0, hX0⟩ : ∃ X0, w.alloc (Obj.cells #[Value.int IntKind.u8 k, Value.slice A d.length c] 36) = X0 := ⟨_, rfl⟩
  have hB0 : Below w.heap.size w X0 := by rw [← hX0]; exact (Below.refl _ _).alloc (Nat.le_refl _) _
  have h0 : X0.heap[w.heap.size]? = some (.cells #[.int .u8 k, .slice A d.length c] 36 (0, 0)) := by
    rw [← hX0]
    exact heap_alloc_last _ _
  have HR := Lib.hid (tells_any k d A c ad X0 hk (hby.below hB0) hle hmx hnil (by omega))
  obtain ⟨b2, hb2⟩ : ∃ b, w.heap.size = b := ⟨_, rfl⟩
  have HE2 := Lib.hid hb2
  have hX := Lib.hid hX0
  have HB0 := Lib.hid hB0
  rw [hb2] at h0
  have o0 := blk_cell h0 0
  have o1 := blk_cell h0 1
  simp at o0 o1
  clear hX0 hB0 h0 hb2 hle hmx hnil hby
  go_enter Try.func7, Try.ntmps7
  go_upto_region 1 with fail
  rw [hX.out, HE2.out]
  go_wp2_with fail
  refine HR.out.mono ?_
  rintro e Y ⟨rfl, hb⟩
  have HB := Lib.hid (HB0.out.trans (hb.mono HB0.out.size))
  clear hb
  go_wp2_with fail
  refine (awake_any _).mono ?_
  rintro e Y2 ⟨rfl, hb⟩
  have HB2 := Lib.hid (HB.out.trans (hb.mono HB.out.size))
  clear hb
  go_wp2_with fail
  go_ret
  exact ⟨rfl, HB2.out⟩
end Go.Proofs.Ytjfnnclbfaakkaa

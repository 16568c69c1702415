/-
  The walk of OptsWrites. Conditions: the options lie.
-/
import Derived.Test.YtjfnnclbfaakkaaWritesP
import Derived.Test.YtjfnnclbfaakkaaAwake
import Derived.Test.YtjfnnclbfaakkaaRefF
import Derived.Test.YtjfnnclbfaakkaaRefW
import Derived.Test.YtjfnnclbfaakkaaNestO
import Derived.Deep.LoopGhost
namespace Go.Proofs.Ytjfnnclbfaakkaa
open Go.RowKit
set_option linter.unusedVariables false
set_option linter.unusedSimpArgs false

theorem write_w (l : List Op1) (m : Nat) (A : Option Addr) (c : Nat) (w : World) (hm : l.length = m) (hl : Ops w A l) (hn : m ≤ 2 ^ 20) (hlb : ∀ o ∈ l, o.2.length ≤ 2 ^ 40) {e : Int} {bs : List Int} (hw : writeS l = (e, bs)) :
    Calls Try.prog 16 #[.slice A m c] w fun r w' => ∃ A' c', r = .returned (.tuple #[.slice A' bs.length c', .int .i64 e]) ∧ w'.ownsRow w.heap.size 5 1 (.slice A' bs.length c') bs.length (bs.map (Value.int .u8)) ∧ Below w.heap.size w w' := by
  subst hm
  refine (write_any l A c w hl (by omega) hlb).mono ?_
  rintro r w' ⟨v, rfl, hrow, hb⟩
  rw [hw] at hrow ⊢
  obtain ⟨A', c', rfl⟩ := own_form hrow
  exact ⟨A', c', rfl, hrow, hb⟩
theorem refWrite_w (l : List Op1) (m : Nat) (A : Option Addr) (c : Nat) (w : World) (hm : l.length = m) (hl : Ops w A l) (hn : m ≤ 2 ^ 20) (hc : m ≤ c) (hlb : ∀ o ∈ l, o.2.length ≤ 2 ^ 40) {e : Int} {bs : List Int} (hw : writeS l = (e, bs)) :
    Calls Try.prog 44 #[.slice A m c] w fun r w' => ∃ A' c', r = .returned (.tuple #[.slice A' bs.length c', .int .i64 e]) ∧ w'.ownsRow w.heap.size 5 1 (.slice A' bs.length c') bs.length (bs.map (Value.int .u8)) ∧ Below w.heap.size w w' := by
  subst hm
  refine (refWrite_any l A c w hl hn hc hlb).mono ?_
  rintro r w' ⟨v, rfl, hrow, hb⟩
  rw [hw] at hrow ⊢
  obtain ⟨A', c', rfl⟩ := own_form hrow
  exact ⟨A', c', rfl, hrow, hb⟩
theorem find_w (l : List Op1) (m : Nat) (A : Option Addr) (c : Nat) (kind : Int) (w : World) (hm : l.length = m) (hl : Ops w A l) (hn : m ≤ 2 ^ 20) (hlb : ∀ o ∈ l, o.2.length ≤ 2 ^ 40) {is : Bool} {ko : Int} {dd : List Int} (hf : fnS l kind = (is, (ko, dd))) :
    Calls Try.prog 25 #[.slice A m c, .int .u8 kind] w fun r w' => ∃ A' c', r = .returned (.tuple #[.agg #[.int .u8 ko, .slice A' dd.length c'], .bool is]) ∧ w'.ownsRow w.heap.size 5 1 (.slice A' dd.length c') dd.length (dd.map (Value.int .u8)) ∧ Below w.heap.size w w' := by
  subst hm
  refine (find_any l A c kind w hl (by omega) hlb).mono ?_
  rintro r w' ⟨v, rfl, hrow, hb⟩
  rw [hf] at hrow ⊢
  obtain ⟨A', c', rfl⟩ := own_form hrow
  exact ⟨A', c', rfl, hrow, hb⟩
theorem refFind_w (l : List Op1) (m : Nat) (A : Option Addr) (c : Nat) (kind : Int) (w : World) (hm : l.length = m) (hl : Ops w A l) (hn : m ≤ 2 ^ 20) (hlb : ∀ o ∈ l, o.2.length ≤ 2 ^ 40) {is : Bool} {ko : Int} {dd : List Int} (hf : fnS l kind = (is, (ko, dd))) :
    Calls Try.prog 45 #[.slice A m c, .int .u8 kind] w fun r w' => ∃ A' c', r = .returned (.tuple #[.agg #[.int .u8 ko, .slice A' dd.length c'], .bool is]) ∧ By w' A' dd ∧ Below w.heap.size w w' := by
  subst hm
  have h := refFind_any l A c kind w hl (by omega) hlb
  rw [hf] at h
  exact h
theorem routed_w (l : List Op1) (m : Nat) (A : Option Addr) (c : Nat) (w : World) (hm : l.length = m) (hl : Ops w A l) (hn : m ≤ 2 ^ 20) {r : Bool} (hr : routedS l = r) :
    Calls Try.prog 27 #[.slice A m c] w fun e w' => e = .returned (.bool r) ∧ Below w.heap.size w w' := by
  subst hm hr
  exact routed_any l A c w hl (by omega)
theorem refRouted_w (l : List Op1) (m : Nat) (A : Option Addr) (c : Nat) (w : World) (hm : l.length = m) (hl : Ops w A l) (hn : m ≤ 2 ^ 20) {r : Bool} (hr : routedS l = r) :
    Calls Try.prog 46 #[.slice A m c] w fun e w' => e = .returned (.bool r) ∧ Below w.heap.size w w' := by
  subst hm hr
  exact refRouted_any l A c w hl (by omega)
theorem sameB_w (d : List Int) (A B : Option Addr) (c c2 : Nat) (w : World) (hd : By w A d) (he : By w B d) (hn : d.length ≤ 2 ^ 40) :
    Calls Try.prog 33 #[.slice A d.length c, .slice B d.length c2] w fun r w' => r = .returned (.bool true) ∧ Below w.heap.size w w' := by
  have h := sameBytes_any d d A B c c2 w hd he hn hn
  rw [decide_eq_true (rfl : d = d)] at h
  exact h
theorem same1_w (k : Int) (d : List Int) (A B : Option Addr) (c c2 : Nat) (w : World) (hd : By w A d) (he : By w B d) (hn : d.length ≤ 2 ^ 40) : Calls Try.prog 26 #[.agg #[.int .u8 k, .slice A d.length c], .agg #[.int .u8 k, .slice B d.length c2]] w fun e w' => e = .returned (.bool true) ∧ Below w.heap.size w w' := by
  have h := same_any (k, d) (k, d) A B c c2 w hd he hn hn
  rw [decide_eq_true (rfl : (k, d) = (k, d))] at h
  exact h
/-- Values that are told in a list. -/
def PW (vals : List Value) (i : Nat) (v : Value) (_ : World) : Prop := v = vals.getD i undef
theorem PW.below {vals : List Value} (i : Nat) (v : Value) (X Y : World) (h : PW vals i v X) (_ : Below X.heap.size X Y) : PW vals i v Y := h
theorem row2_w {W : World} {S : Nat} {e : TypeId} {a b : Value} (h : W.heap[S]? = some (.cells #[a, b] e (0, 0))) : W.ownsRow S e 1 (.slice (some ⟨S, 0, none⟩) 2 2) 2 [a, b] :=
  ⟨rfl, .inr ⟨S, 2, _, rfl, Nat.le_refl _, h, Nat.le_refl _, by decide, rfl, rfl⟩⟩
theorem by_own_w {w : World} {base : Nat} {A : Option Addr} {c : Nat} {d : List Int} (h : w.ownsRow base 5 1 (.slice A d.length c) d.length (d.map (Value.int .u8))) (hr : ∀ x ∈ d, 0 ≤ x ∧ x ≤ 255) : By w A d := by
  obtain ⟨A2, c2, e, _, _, h⟩ := By.of_own' h hr
  injection e with e1
  subst e1
  exact h

set_option maxRecDepth 100000 in
set_option maxHeartbeats 8000000 in
theorem writes_any (l : List Op1) (A : Option Addr) (c : Nat) (kind : Int) (w : World) (hl : Ops w A l) :
    Calls Try.prog 24 #[.slice A l.length c, .int .u8 kind] w fun e w' => e = .returned (.bool true) ∧ Below w.heap.size w w' := by
  obtain ⟨n, hN⟩ : ∃ n, l.length = n := ⟨_, rfl⟩
  rw [hN]
  have HN := Lib.hid hN
  have HL := Lib.hid hl
  clear hN hl
  by_cases h50 : 50 < n
  · have t1 : decide ((50 : Int) < n) = true := by simp; omega
    have t1' : decide (50 < n) = true := by simp; omega
    go_enter Try.func24, Try.ntmps24
    go_wp2_with fail
    go_ret
    exact ⟨rfl, Below.refl _ _⟩
  have t1 : decide ((50 : Int) < n) = false := by simp; omega
  have t1' : decide (50 < n) = false := by simp; omega
  have hn50 : n ≤ 50 := by omega
  clear h50
  go_enter Try.func24, Try.ntmps24
  go_wp2_with fail
  clear t1 t1'
  go_loopw [5, 6, 25] (fun v5 v6 v25 wr => ∃ (k : Nat) (css5 css6 : List (List Value)), k ≤ n ∧ v25 = .int .i64 k ∧ (∀ o ∈ l.take k, o.2.length ≤ 60) ∧ WsI w l k v5 v6 css5 css6 wr) (fun _ _ v _ => n - (intOf v).toNat)
  case atStart => exact ⟨0, [], [], by omega, rfl, by simp, WsI.zero w l⟩
  case round =>
    obtain ⟨k, css5, css6, hk, rfl, h60s, hI⟩ := hrel
    have hr5 := hI.row5 (by rw [HN.out]; exact hk)
    have hr6 := hI.row6 (by rw [HN.out]; exact hk)
    obtain ⟨A5, c5, rfl⟩ := own_form hr5
    obtain ⟨A6, c6, rfl⟩ := own_form hr6
    by_cases hkl : k < n
    · obtain ⟨b, o, rfl, hbl⟩ := (HL.out.below hI.below).pos (by rw [HN.out]; omega)
      obtain ⟨⟨kd, d⟩, hx⟩ : ∃ x, l[k]? = some x := ⟨l[k]'(by rw [HN.out]; omega), List.getElem?_eq_getElem _⟩
      obtain ⟨A1, n1, x0, x1, hc1, hc1m, by1, hk0, hk1, hnil⟩ := HL.out.at hx
      simp only at x0 x1 hc1 by1 hk0 hk1
      replace x0 := kc hI.below x0
      replace x1 := kc hI.below x1
      have hbl := cell_lt x0
      replace hbl : b < wr.heap.size := hbl
      have t2 : decide ((k : Int) < n) = true := by simp; omega
      have t2' : decide (k < n) = true := by simp; omega
      have hpos : (k : Int) < n := by omega
      obtain ⟨m, hM⟩ : ∃ m, d.length = m := ⟨_, rfl⟩
      rw [hM] at x1 hc1
      have HM := Lib.hid hM
      have HI := Lib.hid hI
      have HR5 := Lib.hid hr5
      have HR6 := Lib.hid hr6
      have HX := Lib.hid hx
      have HBy := Lib.hid by1
      have HNIL := Lib.hid hnil
      have HS60 := Lib.hid h60s
      clear hI hx by1 hnil hM hr5 hr6 h60s
      go_upto_region 8 with fail
      obtain ⟨X0, hX0⟩ : ∃ X0, wr.alloc (Obj.cells #[Value.int IntKind.u8 kd, Value.slice A1 m n1] 36) = X0 := ⟨_, rfl⟩
      have hb0 : Below wr.heap.size wr X0 := by rw [← hX0]; exact (Below.refl _ _).alloc (Nat.le_refl _) _
      have h8 : X0.heap[wr.heap.size]? = some (.cells #[.int .u8 kd, .slice A1 m n1] 36 (0, 0)) := by rw [← hX0]; exact heap_alloc_last _ _
      rw [hX0]
      clear hX0 x0 x1
      have HI0 := Lib.hid (HI.out.later hb0)
      have HS5 := Lib.hid (own_below HR5.out hb0)
      have HS6 := Lib.hid (own_below HR6.out hb0)
      obtain ⟨b8, hb8⟩ : ∃ b, wr.heap.size = b := ⟨_, rfl⟩
      have HO5 : Hid (∀ b, (Value.slice A5 k c5).ownBlock = some b → b < b8) := fun b e => by rw [← hb8]; exact (HR5.out.lt b e).2
      have HO6 : Hid (∀ b, (Value.slice A6 k c6).ownBlock = some b → b < b8) := fun b e => by rw [← hb8]; exact (HR6.out.lt b e).2
      rw [hb8] at h8 hbl ⊢
      have o0 := blk_cell h8 0
      have o1 := blk_cell h8 1
      simp at o0 o1
      have l8 := blk_lt h8
      have H8 := Lib.hid h8
      clear h8 hb0 hb8 hbl
      by_cases h60 : 60 < m
      · have t3 : decide ((60 : Int) < m) = true := by simp; omega
        have t3' : decide (60 < m) = true := by simp; omega
        go_wp2_with fail
        go_ret
        exact ⟨rfl, HI0.out.below⟩
      have t3 : decide ((60 : Int) < m) = false := by simp; omega
      have t3' : decide (60 < m) = false := by simp; omega
      have hm60 : m ≤ 60 := by omega
      clear h60
      go_upto_region 10 with fail
      refine wp_region_steps 14 [[], [], [1], [], [3], [4], [2, 5], [6], [0, 7], [], [], [10], [11], [9, 12]] (fun D a w' => ∃ g : Nat → Value, a = ⟨#[.slice (some ⟨b, o, none⟩) n c, .int .u8 kind, undef, undef, u4, .slice A5 k c5, .slice A6 k c6, undef, .pointer (some ⟨b8, 0, none⟩), undef, undef, undef, undef, undef, undef, undef, undef, undef, undef, undef, .slice (some ⟨b, o, none⟩) n c, .int .i64 n, .bool false, .slice (some ⟨b, o, none⟩) n c, .int .i64 n, .int .i64 k, .bool true, .pointer (some ⟨b, o + k * 2, none⟩), .agg #[.int .u8 kd, .slice A1 m n1], .pointer (some ⟨b8, 1, none⟩), .slice A1 m n1, .int .i64 m, .bool false, g 0, g 1, g 2, g 3, g 4, g 5, g 6, g 7, g 8, g 9, g 10, g 11, g 12, g 13, u47, undef, undef, undef, undef, undef, undef, undef, undef, undef, undef, undef, undef, undef, undef, undef, undef, undef, undef, undef, undef, undef, undef, undef, undef, undef, undef, undef, undef, undef, undef, undef, undef, undef, undef, undef, undef, undef, undef, undef, undef, undef, undef, undef, undef, undef, undef, undef, undef, undef, undef, undef, undef, undef, undef, undef, undef, undef, undef, undef, undef, undef, undef, undef, undef, undef, undef, undef, undef, undef, undef, undef, undef, undef, undef, undef, undef, undef, undef, undef, undef, undef, undef, undef, undef, undef, undef, undef], []⟩ ∧ I2 w.heap.size k k 8 13 (.slice A5 k c5) (.slice A6 k c6) css5.flatten css6.flatten (YA X0.heap.size kd d m) (YB X0.heap.size kd d m) X0 (PX X0.heap.size m kd d ([.slice A5 k c5, .pointer (some ⟨b8, 0, none⟩), .int .u8 kd, .pointer (some ⟨b8, 1, none⟩), .slice A1 m n1, undef, undef, undef, undef, .slice A6 k c6, .agg #[.int .u8 kd, .slice A1 m n1], undef, undef, undef] : List Value)) D g w') (by kernel_rfl) (by kernel_rfl) ⟨fun i => if i = 0 then u33 else if i = 1 then u34 else if i = 2 then u35 else if i = 3 then u36 else if i = 4 then u37 else if i = 5 then u38 else if i = 6 then u39 else if i = 7 then u40 else if i = 8 then u41 else if i = 9 then u42 else if i = 10 then u43 else if i = 11 then u44 else if i = 12 then u45 else if i = 13 then u46 else undef, rfl, I2.zero HI0.out.below.size HS5.out HS6.out _⟩ ?_ ?_
      · simp only [List.take_succ_cons, List.take_zero]
        refine ⟨?_, ?_, ?_, ?_, ?_, ?_, ?_, ?_, ?_, ?_, ?_, ?_, ?_, ?_, trivial⟩
        · intro D a w' hn hp hI
          obtain ⟨g, rfl, hR⟩ := hI
          clear hn hp
          go_wp2_with fail
          exact ⟨fun ix => if ix = 0 then .slice A5 k c5 else g ix, by rfl, hR.upd (fun i v => PX.new i v) YA.new YB.new 0 (by decide) (by decide) _ (Below.refl _ _) rfl⟩
        · intro D a w' hn hp hI
          obtain ⟨g, rfl, hR⟩ := hI
          clear hn hp
          go_wp2_with fail
          exact ⟨fun ix => if ix = 1 then .pointer (some ⟨b8, 0, none⟩) else g ix, by rfl, hR.upd (fun i v => PX.new i v) YA.new YB.new 1 (by decide) (by decide) _ (Below.refl _ _) rfl⟩
        · intro D a w' hn hp hI
          obtain ⟨g, rfl, hR⟩ := hI
          have e1 : g 1 = .pointer (some ⟨b8, 0, none⟩) := hR.e 1 hp.1 (by decide) (by decide)
          rw [e1]
          have cc := (hR.cell8 HO5.out HO6.out H8.out 0).trans o0
          clear hn hp
          go_wp2_with fail
          exact ⟨fun ix => if ix = 2 then .int .u8 kd else g ix, by simp [e1], hR.upd (fun i v => PX.new i v) YA.new YB.new 2 (by decide) (by decide) _ (Below.refl _ _) rfl⟩
        · intro D a w' hn hp hI
          obtain ⟨g, rfl, hR⟩ := hI
          clear hn hp
          go_wp2_with fail
          exact ⟨fun ix => if ix = 3 then .pointer (some ⟨b8, 1, none⟩) else g ix, by rfl, hR.upd (fun i v => PX.new i v) YA.new YB.new 3 (by decide) (by decide) _ (Below.refl _ _) rfl⟩
        · intro D a w' hn hp hI
          obtain ⟨g, rfl, hR⟩ := hI
          have e3 : g 3 = .pointer (some ⟨b8, 1, none⟩) := hR.e 3 hp.1 (by decide) (by decide)
          rw [e3]
          have cc := (hR.cell8 HO5.out HO6.out H8.out 1).trans o1
          clear hn hp
          go_wp2_with fail
          exact ⟨fun ix => if ix = 4 then .slice A1 m n1 else g ix, by simp [e3], hR.upd (fun i v => PX.new i v) YA.new YB.new 4 (by decide) (by decide) _ (Below.refl _ _) rfl⟩
        · intro D a w' hn hp hI
          obtain ⟨g, rfl, hR⟩ := hI
          have e4 : g 4 = .slice A1 m n1 := hR.e 4 hp.1 (by decide) (by decide)
          rw [e4]
          have HB2 := Lib.hid hR.b
          have hsz := hR.size
          clear hn hp
          go_wp2_with fail
          refine (lent_w d m A1 n1 _ HM.out (HBy.out.below (HI0.out.below.trans HB2.out)) (by omega) HNIL.out).mono ?_
          rintro e Y ⟨q, rfl, hq1, hq2, hby⟩
          have hq3 := Nat.le_trans hsz hq1
          clear hq1 hsz
          go_wp2_with fail
          exact ⟨fun ix => if ix = 5 then .slice (some ⟨q, 0, none⟩) m (m + 12) else g ix, by simp [e4], hR.upd (fun i v => PX.new i v) YA.new YB.new 5 (by decide) (by decide) _ hby ⟨_, rfl, hq3, hq2⟩⟩
        · intro D a w' hn hp hI
          obtain ⟨g, rfl, hR⟩ := hI
          have e2 : g 2 = .int .u8 kd := hR.e 2 hp.1 (by decide) (by decide)
          rw [e2]
          obtain ⟨q, e5, hq3, hq4⟩ : ∃ q, g 5 = .slice (some ⟨q, 0, none⟩) m (m + 12) ∧ X0.heap.size ≤ q ∧ w'.heap[q]? = some (.cells (lentC d) 5 (0, 0)) := hR.e 5 hp.2.1 (by decide) (by decide)
          rw [e5]
          clear hn hp
          go_wp2_with fail
          exact ⟨fun ix => if ix = 6 then .agg #[.int .u8 kd, .slice (some ⟨q, 0, none⟩) m (m + 12)] else g ix, by simp [e2, e5], hR.upd (fun i v => PX.new i v) YA.new YB.new 6 (by decide) (by decide) _ (Below.refl _ _) ⟨_, rfl, hq3, hq4⟩⟩
        · intro D a w' hn hp hI
          obtain ⟨g, rfl, hR⟩ := hI
          obtain ⟨q, e6, hq3, hq4⟩ : ∃ q, g 6 = .agg #[.int .u8 kd, .slice (some ⟨q, 0, none⟩) m (m + 12)] ∧ X0.heap.size ≤ q ∧ w'.heap[q]? = some (.cells (lentC d) 5 (0, 0)) := hR.e 6 hp.1 (by decide) (by decide)
          rw [e6]
          clear hn hp
          go_wp2_with fail
          exact ⟨fun ix => if ix = 7 then .slice (some ⟨w'.heap.size, 0, none⟩) 1 1 else g ix, by simp [e6], hR.upd (fun i v => PX.new i v) YA.new YB.new 7 (by decide) (by decide) _ ((Below.refl _ _).alloc (Nat.le_refl _) _) ⟨_, _, rfl, hR.size, heap_alloc_last _ _, hq3, blk_below ((Below.refl _ _).alloc (Nat.le_refl _) _) hq4⟩⟩
        · intro D a w' hn hp hI
          obtain ⟨g, rfl, hR⟩ := hI
          have e0 : g 0 = .slice A5 k c5 := hR.e 0 hp.1 (by decide) (by decide)
          rw [e0]
          obtain ⟨b, q, e7, hb7, hk7, hq3, hq4⟩ : ∃ b q, g 7 = .slice (some ⟨b, 0, none⟩) 1 1 ∧ X0.heap.size ≤ b ∧ w'.heap[b]? = some (.cells #[.int .u8 kd, .slice (some ⟨q, 0, none⟩) m (m + 12)] 36 (0, 0)) ∧ X0.heap.size ≤ q ∧ w'.heap[q]? = some (.cells (lentC d) 5 (0, 0)) := hR.e 7 hp.2.1 (by decide) (by decide)
          rw [e7]
          have r2 := hR.r5 hn
          have HNN := hn
          obtain ⟨i0, hi, hz0, hz1, hz2⟩ := info_parts info36
          have HBS : Hid (w.heap.size ≤ w'.heap.size) := Nat.le_trans HI0.out.below.size (by have := hR.b.size; omega)
          clear hn hp
          go_wp2_with (at_builtin; refine wpList_append_own _ rfl _ _ 26 rfl w.heap.size 36 i0 (.agg #[.int .u8 0, .slice none 0 0]) 2 32 Try.underlying26 hi hz0 hz1 hz2 rfl (by decide) _ _ _ rfl r2 ⟨b, 0, none⟩ 1 1 [.int .u8 kd, .slice (some ⟨q, 0, none⟩) m (m + 12)] rfl rfl (World.news_of_block hk7) (by simp [Value.oneCell']) (lt_maxLen' (by omega)) (by omega) HBS.out ?_; intro v8 w8 hown8 hgrow8 hnil8; (try dsimp only [Act.put]); (try simp only [List.setIfInBounds_toArray, List.set_cons_succ, List.set_cons_zero]); have H8O := Lib.hid hown8; have HG8 := Lib.hid hgrow8; clear hown8 hgrow8 hnil8)
          exact ⟨fun ix => if ix = 8 then v8 else g ix, by simp [e0, e7], hR.turn5 (fun i v => PX.new i v) YA.new YB.new (by decide) HNN _ HG8.out ⟨q, rfl, hq3, hq4⟩ H8O.out⟩
        · intro D a w' hn hp hI
          obtain ⟨g, rfl, hR⟩ := hI
          clear hn hp
          go_wp2_with fail
          exact ⟨fun ix => if ix = 9 then .slice A6 k c6 else g ix, by rfl, hR.upd (fun i v => PX.new i v) YA.new YB.new 9 (by decide) (by decide) _ (Below.refl _ _) rfl⟩
        · intro D a w' hn hp hI
          obtain ⟨g, rfl, hR⟩ := hI
          have cc0 := (hR.cell8 HO5.out HO6.out H8.out 0).trans o0
          have cc1 := (hR.cell8 HO5.out HO6.out H8.out 1).trans o1
          clear hn hp
          go_wp2_with fail
          exact ⟨fun ix => if ix = 10 then .agg #[.int .u8 kd, .slice A1 m n1] else g ix, by rfl, hR.upd (fun i v => PX.new i v) YA.new YB.new 10 (by decide) (by decide) _ (Below.refl _ _) rfl⟩
        · intro D a w' hn hp hI
          obtain ⟨g, rfl, hR⟩ := hI
          have e10 : g 10 = .agg #[.int .u8 kd, .slice A1 m n1] := hR.e 10 hp.1 (by decide) (by decide)
          rw [e10]
          have HB2 := Lib.hid hR.b
          have hsz := hR.size
          clear hn hp
          go_wp2_with fail
          refine (theirs_w kd d m A1 n1 _ HM.out (HBy.out.below (HI0.out.below.trans HB2.out)) (by omega) HNIL.out).mono ?_
          rintro e Y ⟨Aq, cq, rfl, hq2, hby⟩
          have hq3 := own_base hq2 hsz
          clear hq2 hsz
          go_wp2_with fail
          exact ⟨fun ix => if ix = 11 then .agg #[.int .u8 kd, .slice Aq m cq] else g ix, by simp [e10], hR.upd (fun i v => PX.new i v) YA.new YB.new 11 (by decide) (by decide) _ hby ⟨_, _, rfl, hq3⟩⟩
        · intro D a w' hn hp hI
          obtain ⟨g, rfl, hR⟩ := hI
          obtain ⟨Aq, cq, e11, hq3⟩ : ∃ A c, g 11 = .agg #[.int .u8 kd, .slice A m c] ∧ w'.ownsRow X0.heap.size 5 1 (.slice A m c) m (d.map (Value.int .u8)) := hR.e 11 hp.1 (by decide) (by decide)
          rw [e11]
          clear hn hp
          go_wp2_with fail
          exact ⟨fun ix => if ix = 12 then .slice (some ⟨w'.heap.size, 0, none⟩) 1 1 else g ix, by simp [e11], hR.upd (fun i v => PX.new i v) YA.new YB.new 12 (by decide) (by decide) _ ((Below.refl _ _).alloc (Nat.le_refl _) _) ⟨_, _, _, rfl, hR.size, heap_alloc_last _ _, own_below hq3 ((Below.refl _ _).alloc (Nat.le_refl _) _)⟩⟩
        · intro D a w' hn hp hI
          obtain ⟨g, rfl, hR⟩ := hI
          have e9 : g 9 = .slice A6 k c6 := hR.e 9 hp.1 (by decide) (by decide)
          rw [e9]
          obtain ⟨b, Aq, cq, e12, hb7, hk7, hq3⟩ : ∃ b A c, g 12 = .slice (some ⟨b, 0, none⟩) 1 1 ∧ X0.heap.size ≤ b ∧ w'.heap[b]? = some (.cells #[.int .u8 kd, .slice A m c] 80 (0, 0)) ∧ w'.ownsRow X0.heap.size 5 1 (.slice A m c) m (d.map (Value.int .u8)) := hR.e 12 hp.2.1 (by decide) (by decide)
          rw [e12]
          have r2 := hR.r6 hn
          have HNN := hn
          obtain ⟨i0, hi, hz0, hz1, hz2⟩ := info_parts info80
          have HBS : Hid (w.heap.size ≤ w'.heap.size) := Nat.le_trans HI0.out.below.size (by have := hR.b.size; omega)
          clear hn hp
          go_wp2_with (at_builtin; refine wpList_append_own _ rfl _ _ 60 rfl w.heap.size 80 i0 (.agg #[.int .u8 0, .slice none 0 0]) 2 32 Try.underlying60 hi hz0 hz1 hz2 rfl (by decide) _ _ _ rfl r2 ⟨b, 0, none⟩ 1 1 [.int .u8 kd, .slice Aq m cq] rfl rfl (World.news_of_block hk7) (by simp [Value.oneCell']) (lt_maxLen' (by omega)) (by omega) HBS.out ?_; intro v8 w8 hown8 hgrow8 hnil8; (try dsimp only [Act.put]); (try simp only [List.setIfInBounds_toArray, List.set_cons_succ, List.set_cons_zero]); have H8O := Lib.hid hown8; have HG8 := Lib.hid hgrow8; clear hown8 hgrow8 hnil8)
          exact ⟨fun ix => if ix = 13 then v8 else g ix, by simp [e9, e12], hR.turn6 (fun i v => PX.new i v) YA.new YB.new (by decide) HNN _ HG8.out ⟨Aq, cq, rfl, hq3⟩ H8O.out⟩
      intro D a w' hD hI
      obtain ⟨g, rfl, hR⟩ := hI
      obtain ⟨cs5, cs6, hJ⟩ := HI0.out.push HX.out HM.out (by omega) ⟨hk0, hk1⟩ HBy.out.rng hR (hD 8 (by decide)) (hD 13 (by decide))
      have h60t : ∀ o ∈ l.take (k + 1), o.2.length ≤ 60 := fun o ho => by
        rw [List.take_add_one, HX.out] at ho
        rcases List.mem_append.1 ho with ho | ho
        · exact HS60.out o ho
        · simp at ho
          rw [ho]
          show d.length ≤ 60
          rw [HM.out]
          exact hm60
      have HJ := Lib.hid hJ
      have H60T := Lib.hid h60t
      simp only [List.drop_succ_cons, List.drop_zero]
      clear hD hR hJ h60t o0 o1 l8
      go_wp2_with fail
      exact ⟨⟨k + 1, _, _, by omega, by go_num, H60T.out, HJ.out⟩, by simp [intOf]; omega⟩
    · obtain rfl : k = n := by omega
      have t2 : decide ((k : Int) < k) = false := by simp
      have t2' : decide (k < k) = false := by simp
      have htl : l.take k = l := List.take_of_length_le (by rw [HN.out]; exact Nat.le_refl _)
      rw [htl] at h60s
      have hI' : WsI w l l.length (.slice A5 k c5) (.slice A6 k c6) css5 css6 wr := by rw [HN.out]; exact hI
      obtain ⟨_, _, e5, h5a, h5b, hO5⟩ := hI'.ops5
      injection e5 with e51 e52 e53
      subst e51 e53
      obtain ⟨_, _, e6, h6a, h6b, hO6⟩ := hI'.ops6
      injection e6 with e61 e62 e63
      subst e61 e63
      clear e52 e62
      rw [HN.out] at h5a h6a
      have hcl5 : css5.length = k := by rw [← HN.out, ← htl]; exact hI.got.each.opvs.length
      obtain ⟨⟨er, bs⟩, hWR⟩ : ∃ r, writeS l = r := ⟨_, rfl⟩
      obtain ⟨⟨is, ko, dd⟩, hFN⟩ : ∃ r, fnS l kind = r := ⟨_, rfl⟩
      obtain ⟨rt, hRT⟩ : ∃ r, routedS l = r := ⟨_, rfl⟩
      have hfacts := opvs_facts (hI'.got.each.opvs)
      rw [List.take_length] at hfacts
      have hbs : bs.length ≤ 43 ∧ ∀ x ∈ bs, 0 ≤ x ∧ x ≤ 255 := by
        have := write_small hfacts
        rw [hWR] at this
        exact this
      have hdd : dd.length ≤ 60 ∧ ∀ x ∈ dd, 0 ≤ x ∧ x ≤ 255 := by
        have := fnS_mem (l := l) (kind := kind) (P := fun o => o.2.length ≤ 60 ∧ ∀ x ∈ o.2, 0 ≤ x ∧ x ≤ 255) (by simp) fun o ho => ⟨h60s o ho, (hfacts o ho).2⟩
        rw [hFN] at this
        exact this
      have HBS := Lib.hid hbs
      have HDD := Lib.hid hdd
      have HWR := Lib.hid hWR
      have HFN := Lib.hid hFN
      have HRT := Lib.hid hRT
      have H40 : Hid (∀ o ∈ l, o.2.length ≤ 2 ^ 40) := fun o ho => by have := h60s o ho; omega
      have H20 : Hid (∀ o ∈ l, o.2.length ≤ 2 ^ 20) := fun o ho => by have := h60s o ho; omega
      have HI := Lib.hid hI
      have HTL := Lib.hid htl
      have HCL := Lib.hid hcl5
      have HO5 := Lib.hid hO5
      have HO6 := Lib.hid hO6
      have HC6 := Lib.hid h6a
      have HS0 := Lib.hid hI.below.size
      clear hbs hdd hWR hFN hRT hI hI' htl hcl5 hO5 hO6 h5a h5b h6a h6b hfacts h60s hr5 hr6 hkl
      go_wp2_with fail
      refine (write_w l k A5 c5 _ HN.out HO5.out (by omega) H40.out HWR.out).mono ?_
      rintro e Y1 ⟨A9, c9, rfl, hrow, hb⟩
      have HB9 := Lib.hid hrow
      have HI1 := Lib.hid (HI.out.later hb)
      have HS1 := Lib.hid hb.size
      have HO51 := Lib.hid (HO5.out.below hb)
      have HO61 := Lib.hid (HO6.out.below hb)
      clear hb hrow
      go_wp2_with fail
      refine (refWrite_w l k A6 c6 _ HN.out HO61.out (by omega) HC6.out H40.out HWR.out).mono ?_
      rintro e Y2 ⟨A11, c11, rfl, hrow, hb⟩
      have HB11 := Lib.hid hrow
      have HB92 := Lib.hid (own_below HB9.out hb)
      have HI2 := Lib.hid (HI1.out.later hb)
      have HS2 := Lib.hid hb.size
      have HO52 := Lib.hid (HO51.out.below hb)
      have HO62 := Lib.hid (HO61.out.below hb)
      clear hb hrow
      go_wp2_with fail
      refine (find_w l k A5 c5 kind _ HN.out HO52.out (by omega) H40.out HFN.out).mono ?_
      rintro e Y3 ⟨A13, c13, rfl, hrow, hb⟩
      have HB13 := Lib.hid hrow
      have HB93 := Lib.hid (own_below HB92.out hb)
      have HB113 := Lib.hid (own_below HB11.out hb)
      have HI3 := Lib.hid (HI2.out.later hb)
      have HS3 := Lib.hid hb.size
      have HO53 := Lib.hid (HO52.out.below hb)
      have HO63 := Lib.hid (HO62.out.below hb)
      clear hb hrow
      go_upto_region 15 with fail
      have HV9 : Hid (∀ b, (Value.slice A9 bs.length c9).ownBlock = some b → b < Y2.heap.size) := fun b e => (HB92.out.lt b e).2
      have HB133 := HB13
      have HZB : Hid (∀ t ∈ datL css5, ∀ b, t.g = some b → b < wr.heap.size) := fun t ht b e => by
        have hg := HI.out.got
        rw [HTL.out] at hg
        obtain ⟨_, _, h3⟩ := datL_got hg.each hg.ord H20.out (by rw [HN.out]; omega)
        obtain ⟨cs, h4, h5⟩ := h3 t ht b e
        exact (hg.each.lt cs h4 b h5).2
      obtain ⟨Z3, hZ⟩ : ∃ X, Y3.alloc (Obj.cells #[Value.int IntKind.u8 ko, Value.slice A13 dd.length c13] 36) = X := ⟨_, rfl⟩
      have hb : Below Y3.heap.size Y3 Z3 := by rw [← hZ]; exact (Below.refl _ _).alloc (Nat.le_refl _) _
      have hcl := heap_alloc_last Y3 (Obj.cells #[Value.int IntKind.u8 ko, Value.slice A13 dd.length c13] 36)
      rw [hZ] at hcl ⊢
      obtain ⟨b13, hb13⟩ : ∃ b, Y3.heap.size = b := ⟨_, rfl⟩
      rw [hb13] at hcl ⊢
      have Hb134 := Lib.hid hcl
      have HI4 := Lib.hid (HI3.out.later hb)
      have HB94 := Lib.hid (own_below HB93.out hb)
      have HB114 := Lib.hid (own_below HB113.out hb)
      have HB134 := Lib.hid (own_below HB133.out hb)
      have HO54 := Lib.hid (HO53.out.below hb)
      have HO64 := Lib.hid (HO63.out.below hb)
      clear hb hcl hZ hb13
      go_wp2_with fail
      refine (refFind_w l k A6 c6 kind _ HN.out HO64.out (by omega) H40.out HFN.out).mono ?_
      rintro e Y4 ⟨A15, c15, rfl, hby, hb⟩
      have HI5 := Lib.hid (HI4.out.later hb)
      have HB95 := Lib.hid (own_below HB94.out hb)
      have HB115 := Lib.hid (own_below HB114.out hb)
      have HB135 := Lib.hid (own_below HB134.out hb)
      have HO55 := Lib.hid (HO54.out.below hb)
      have HO65 := Lib.hid (HO64.out.below hb)
      have Hb135 := Lib.hid (blk_below hb Hb134.out)
      have HBY5 := Lib.hid hby
      clear hb hby
      go_upto_region 16 with fail
      obtain ⟨Z4, hZ⟩ : ∃ X, Y4.alloc (Obj.cells #[Value.int IntKind.u8 ko, Value.slice A15 dd.length c15] 80) = X := ⟨_, rfl⟩
      have hb : Below Y4.heap.size Y4 Z4 := by rw [← hZ]; exact (Below.refl _ _).alloc (Nat.le_refl _) _
      have hcl := heap_alloc_last Y4 (Obj.cells #[Value.int IntKind.u8 ko, Value.slice A15 dd.length c15] 80)
      rw [hZ] at hcl ⊢
      obtain ⟨b15, hb15⟩ : ∃ b, Y4.heap.size = b := ⟨_, rfl⟩
      rw [hb15] at hcl ⊢
      have Hb156 := Lib.hid hcl
      have HI6 := Lib.hid (HI5.out.later hb)
      have HB96 := Lib.hid (own_below HB95.out hb)
      have HB116 := Lib.hid (own_below HB115.out hb)
      have HB136 := Lib.hid (own_below HB135.out hb)
      have HO56 := Lib.hid (HO55.out.below hb)
      have HO66 := Lib.hid (HO65.out.below hb)
      have Hb136 := Lib.hid (blk_below hb Hb135.out)
      have HBY6 := Lib.hid (HBY5.out.below hb)
      have l15 := blk_lt hcl
      clear hb hcl hZ hb15
      have o0 := blk_cell Hb136.out 0
      have o1 := blk_cell Hb136.out 1
      have p0 := blk_cell Hb156.out 0
      have p1 := blk_cell Hb156.out 1
      simp at o0 o1 p0 p1
      have hisq : (is != is) = false := by cases is <;> rfl
      have hrtq : (rt != rt) = false := by cases rt <;> rfl
      go_wp2_with fail
      refine (sameB_w bs A9 A11 c9 c11 _ (by_own_w HB96.out HBS.out.2) (by_own_w HB116.out HBS.out.2) (by have := HBS.out.1; omega)).mono ?_
      rintro e Y5 ⟨rfl, hb⟩
      have HI7 := Lib.hid (HI6.out.later hb)
      have HB97 := Lib.hid (own_below HB96.out hb)
      have HB117 := Lib.hid (own_below HB116.out hb)
      have HB137 := Lib.hid (own_below HB136.out hb)
      have HO57 := Lib.hid (HO56.out.below hb)
      have HO67 := Lib.hid (HO66.out.below hb)
      have HBY7 := Lib.hid (HBY6.out.below hb)
      replace o0 := kc hb o0
      replace o1 := kc hb o1
      replace p0 := kc hb p0
      replace p1 := kc hb p1
      clear hb
      go_wp2_with fail
      refine (same1_w ko dd A13 A15 c13 c15 _ (by_own_w HB137.out HDD.out.2) HBY7.out (by have := HDD.out.1; omega)).mono ?_
      rintro e Y6 ⟨rfl, hb⟩
      have HI8 := Lib.hid (HI7.out.later hb)
      have HB98 := Lib.hid (own_below HB97.out hb)
      have HB118 := Lib.hid (own_below HB117.out hb)
      have HB138 := Lib.hid (own_below HB137.out hb)
      have HO58 := Lib.hid (HO57.out.below hb)
      have HO68 := Lib.hid (HO67.out.below hb)
      replace o0 := kc hb o0
      replace o1 := kc hb o1
      clear hb p0 p1
      go_wp2_with fail
      refine (routed_w l k A5 c5 _ HN.out HO58.out (by omega) HRT.out).mono ?_
      rintro e Y7 ⟨rfl, hb⟩
      have HI9 := Lib.hid (HI8.out.later hb)
      have HB99 := Lib.hid (own_below HB98.out hb)
      have HB119 := Lib.hid (own_below HB118.out hb)
      have HB139 := Lib.hid (own_below HB138.out hb)
      have HO59 := Lib.hid (HO58.out.below hb)
      have HO69 := Lib.hid (HO68.out.below hb)
      replace o0 := kc hb o0
      replace o1 := kc hb o1
      clear hb
      go_wp2_with fail
      refine (refRouted_w l k A6 c6 _ HN.out HO69.out (by omega) HRT.out).mono ?_
      rintro e Y8 ⟨rfl, hb⟩
      have HI10 := Lib.hid (HI9.out.later hb)
      have HB910 := Lib.hid (own_below HB99.out hb)
      have HB1110 := Lib.hid (own_below HB119.out hb)
      have HB1310 := Lib.hid (own_below HB139.out hb)
      have HO510 := Lib.hid (HO59.out.below hb)
      have HO610 := Lib.hid (HO69.out.below hb)
      replace o0 := kc hb o0
      replace o1 := kc hb o1
      clear hb
      go_upto_region 19 with fail
      obtain ⟨S, hS⟩ : ∃ S, Y8.heap.size = S := ⟨_, rfl⟩
      have hal := heap_alloc_last Y8 (Obj.cells #[Value.slice A9 bs.length c9, Value.slice A13 dd.length c13] 22)
      have hba : Below Y8.heap.size Y8 (Y8.alloc (Obj.cells #[Value.slice A9 bs.length c9, Value.slice A13 dd.length c13] 22)) := (Below.refl _ _).alloc (Nat.le_refl _) _
      obtain ⟨X7, hX7⟩ : ∃ X, Y8.alloc (Obj.cells #[Value.slice A9 bs.length c9, Value.slice A13 dd.length c13] 22) = X := ⟨_, rfl⟩
      rw [hX7] at hal hba ⊢
      rw [hS] at hal ⊢
      have HROW0 := Lib.hid (row2_w hal)
      have HBA := Lib.hid hba
      have HSS := Lib.hid hS
      have hgt := HI10.out.got
      have hln := HI10.out.lnt
      rw [HTL.out] at hgt hln
      have HGT := Lib.hid hgt
      have HLN := Lib.hid hln
      have HBY8 := Lib.hid HI10.out.below
      obtain ⟨i0, hi, hz0, hz1, hz2⟩ := info_parts info22s
      clear hX7 hal hba hS hgt hln hisq hrtq o0 o1
      go_wp2_with fail
      go_loopw [17, 103] (fun v17 v103 wx => ∃ j : Nat, j ≤ k ∧ v103 = .int .i64 j ∧ wx.ownsRow S 22 1 v17 (j + 2) (.slice A9 bs.length c9 :: .slice A13 dd.length c13 :: (css5.take j).map fun cs => cs.getD 1 undef) ∧ Below Y8.heap.size Y8 wx) (fun _ v _ => k - (intOf v).toNat)
      case atStart => exact ⟨0, by omega, rfl, HROW0.out, HBA.out⟩
      case round =>
        obtain ⟨j, hj, rfl, hrow, hb⟩ := hrel
        obtain ⟨A17, c17, rfl⟩ := own_form hrow
        by_cases hlt : j < k
        · have t3 : decide ((j : Int) < k) = true := by simp; omega
          have t3' : decide (j < k) = true := by simp; omega
          have hjp : (j : Int) < k := by omega
          have hj0 : (0 : Int) ≤ j := by omega
          obtain ⟨⟨kd, d⟩, hx⟩ : ∃ x, l[j]? = some x := ⟨l[j]'(by rw [HN.out]; omega), List.getElem?_eq_getElem _⟩
          obtain ⟨b5, q, rfl, hcs, x0, x1, hq⟩ := got_at_w HGT.out HLN.out hx
          obtain ⟨bl, ol, rfl, hbl⟩ := HL.out.pos (by rw [HN.out]; omega)
          obtain ⟨A1, n1, y0, y1, hc1, hc1m, by1, hk0, hk1, hnil⟩ := HL.out.at hx
          have hm60 : d.length ≤ 2 ^ 20 := H20.out _ (List.mem_of_getElem? hx)
          simp only at y0 y1 hc1 by1 hk0 hk1
          obtain ⟨m, hM⟩ : ∃ m, d.length = m := ⟨_, rfl⟩
          rw [hM] at x1 y1 hcs hm60 hc1
          replace x0 := kc hb x0
          replace x1 := kc hb x1
          replace y0 := kc hb (kc HBY8.out y0)
          replace y1 := kc hb (kc HBY8.out y1)
          have HQ := Lib.hid (blk_below hb hq)
          have hbx := cell_lt x0
          replace hbx : b5 < wr.heap.size := hbx
          have hby := cell_lt y0
          replace hby : bl < wr.heap.size := hby
          have HM := Lib.hid hM
          have HCS := Lib.hid hcs
          have HROW := Lib.hid hrow
          have HB := Lib.hid hb
          have HLT := Lib.hid hlt
          have HBy := Lib.hid by1
          clear hx hcs hrow hb hlt by1 hnil hM hq
          go_upto_region 22 with fail
          obtain ⟨X, hX⟩ : ∃ X, wr.alloc (Obj.cells #[Value.int IntKind.u8 kd, Value.slice (some { block := q, off := 0 }) m (m + 12)] 36) = X := ⟨_, rfl⟩
          have hbX : Below wr.heap.size wr X := by rw [← hX]; exact (Below.refl _ _).alloc (Nat.le_refl _) _
          have h5 : X.heap[wr.heap.size]? = some (.cells #[.int .u8 kd, .slice (some ⟨q, 0, none⟩) m (m + 12)] 36 (0, 0)) := by rw [← hX]; exact heap_alloc_last _ _
          rw [hX]
          have HRX := Lib.hid (own_below HROW.out hbX)
          have HBX := Lib.hid (HB.out.trans (hbX.mono HB.out.size))
          have HQX := Lib.hid (blk_below hbX HQ.out)
          replace y0 := kc hbX y0
          replace y1 := kc hbX y1
          replace hby : bl < X.heap.size := Nat.lt_of_lt_of_le hby hbX.size
          obtain ⟨b19, hb19⟩ : ∃ b, wr.heap.size = b := ⟨_, rfl⟩
          rw [hb19] at h5 ⊢
          have z0 := blk_cell h5 0
          have z1 := blk_cell h5 1
          simp at z0 z1
          have l19 := blk_lt h5
          clear hX hbX h5 x0 x1 hbx hb19
          refine wp_region_steps 18 [[], [0], [], [], [2, 3], [4], [5], [1, 6], [7], [8], [8, 9], [8], [8], [8, 11, 12], [8, 13], [8, 14], [8, 10, 15], [8, 16]] (fun D a w' => ∃ gv : Nat → Value, a = ⟨#[.slice (some ⟨bl, ol, none⟩) k c, .int .u8 kind, undef, undef, u4, .slice (some ⟨b5, 0, none⟩) k c5, .slice A6 k c6, undef, u8, .slice A9 bs.length c9, .int .i64 er, .slice A11 bs.length c11, .int .i64 er, .pointer (some ⟨b13, 0, none⟩), .bool is, .pointer (some ⟨b15, 0, none⟩), .bool is, .slice A17 (j + 2) c17, .int .i64 j, .pointer (some ⟨b19, 0, none⟩), .slice (some ⟨bl, ol, none⟩) k c, .int .i64 k, .bool false, .slice (some ⟨bl, ol, none⟩) k c, .int .i64 k, .int .i64 k, .bool false, u27, u28, u29, u30, u31, u32, u33, u34, u35, u36, u37, u38, u39, u40, u41, u42, u43, u44, u45, u46, u47, .tuple #[.slice A9 bs.length c9, .int .i64 er], .slice (some ⟨b5, 0, none⟩) k c5, .tuple #[.slice A9 bs.length c9, .int .i64 er], .slice A9 bs.length c9, .int .i64 er, .tuple #[.slice A11 bs.length c11, .int .i64 er], .slice A6 k c6, .tuple #[.slice A11 bs.length c11, .int .i64 er], .slice A11 bs.length c11, .int .i64 er, .tuple #[.agg #[.int .u8 ko, .slice A13 dd.length c13], .bool is], .slice (some ⟨b5, 0, none⟩) k c5, .int .u8 kind, .tuple #[.agg #[.int .u8 ko, .slice A13 dd.length c13], .bool is], .agg #[.int .u8 ko, .slice A13 dd.length c13], .bool is, .tuple #[.agg #[.int .u8 ko, .slice A15 dd.length c15], .bool is], .slice A6 k c6, .int .u8 kind, .tuple #[.agg #[.int .u8 ko, .slice A15 dd.length c15], .bool is], .agg #[.int .u8 ko, .slice A15 dd.length c15], .bool is, .int .i64 er, .int .i64 er, .bool false, .bool false, .slice A9 bs.length c9, .slice A11 bs.length c11, .bool true, .bool false, .bool false, .bool false, .bool is, .bool is, .bool false, .bool false, .bool false, .agg #[.int .u8 ko, .slice A13 dd.length c13], .agg #[.int .u8 ko, .slice A15 dd.length c15], .bool true, .bool false, .bool false, .bool false, .slice (some ⟨b5, 0, none⟩) k c5, .bool rt, .slice A6 k c6, .bool rt, .bool false, .bool false, .slice A9 bs.length c9, .pointer (some ⟨b13, 1, none⟩), .slice A13 dd.length c13, .slice (some ⟨S, 0, none⟩) 2 2, .slice (some ⟨b5, 0, none⟩) k c5, .int .i64 k, .int .i64 j, .bool true, .int .i64 j, .pointer (some ⟨b5, j * 2, none⟩), .agg #[.int .u8 kd, .slice (some ⟨q, 0, none⟩) m (m + 12)], gv 0, gv 1, gv 2, gv 3, gv 4, gv 5, gv 6, gv 7, gv 8, gv 9, gv 10, gv 11, gv 12, gv 13, gv 14, gv 15, gv 16, gv 17, u126, u127, u128, u129, u130, u131, u132, undef, undef], []⟩ ∧ Iq X (PW ([.pointer (some ⟨b19, 0, none⟩), .int .u8 kd, .slice (some ⟨bl, ol, none⟩) k c, .int .i64 j, .pointer (some ⟨bl, ol + j * 2, none⟩), .pointer (some ⟨bl, ol + j * 2, none⟩), .int .u8 kd, .bool false, .bool false, .pointer (some ⟨b19, 1, none⟩), .slice (some ⟨q, 0, none⟩) m (m + 12), .slice (some ⟨bl, ol, none⟩) k c, .int .i64 j, .pointer (some ⟨bl, ol + j * 2, none⟩), .pointer (some ⟨bl, ol + j * 2 + 1, none⟩), .slice A1 m n1, .bool true, .bool false] : List Value)) D gv w') (by kernel_rfl) (by kernel_rfl) ⟨fun i => if i = 0 then u108 else if i = 1 then u109 else if i = 2 then u110 else if i = 3 then u111 else if i = 4 then u112 else if i = 5 then u113 else if i = 6 then u114 else if i = 7 then u115 else if i = 8 then u116 else if i = 9 then u117 else if i = 10 then u118 else if i = 11 then u119 else if i = 12 then u120 else if i = 13 then u121 else if i = 14 then u122 else if i = 15 then u123 else if i = 16 then u124 else if i = 17 then u125 else undef, rfl, Iq.zero _ _ _⟩ ?_ ?_
          · simp only [List.take_succ_cons, List.take_zero]
            refine ⟨?_, ?_, ?_, ?_, ?_, ?_, ?_, ?_, ?_, ?_, ?_, ?_, ?_, ?_, ?_, ?_, ?_, ?_, trivial⟩
            · intro D a w' hn hp hI
              obtain ⟨gv, rfl, hR⟩ := hI
              clear hn hp
              go_wp2_with fail
              exact ⟨fun ix => if ix = 0 then .pointer (some ⟨b19, 0, none⟩) else gv ix, by rfl, hR.upd PW.below 0 _ (Below.refl _ _) rfl⟩
            · intro D a w' hn hp hI
              obtain ⟨gv, rfl, hR⟩ := hI
              have e0 : gv 0 = .pointer (some ⟨b19, 0, none⟩) := hR.e 0 hp.1
              rw [e0]
              have ca := kc hR.b z0
              clear hn hp
              go_wp2_with fail
              exact ⟨fun ix => if ix = 1 then .int .u8 kd else gv ix, by simp [e0], hR.upd PW.below 1 _ (Below.refl _ _) rfl⟩
            · intro D a w' hn hp hI
              obtain ⟨gv, rfl, hR⟩ := hI
              clear hn hp
              go_wp2_with fail
              exact ⟨fun ix => if ix = 2 then .slice (some ⟨bl, ol, none⟩) k c else gv ix, by rfl, hR.upd PW.below 2 _ (Below.refl _ _) rfl⟩
            · intro D a w' hn hp hI
              obtain ⟨gv, rfl, hR⟩ := hI
              clear hn hp
              go_wp2_with fail
              exact ⟨fun ix => if ix = 3 then .int .i64 j else gv ix, by rfl, hR.upd PW.below 3 _ (Below.refl _ _) rfl⟩
            · intro D a w' hn hp hI
              obtain ⟨gv, rfl, hR⟩ := hI
              have e2 : gv 2 = .slice (some ⟨bl, ol, none⟩) k c := hR.e 2 hp.1
              rw [e2]
              have e3 : gv 3 = .int .i64 j := hR.e 3 hp.2.1
              rw [e3]
              clear hn hp
              go_wp2_with fail
              exact ⟨fun ix => if ix = 4 then .pointer (some ⟨bl, ol + j * 2, none⟩) else gv ix, by simp [e2, e3], hR.upd PW.below 4 _ (Below.refl _ _) rfl⟩
            · intro D a w' hn hp hI
              obtain ⟨gv, rfl, hR⟩ := hI
              have e4 : gv 4 = .pointer (some ⟨bl, ol + j * 2, none⟩) := hR.e 4 hp.1
              rw [e4]
              clear hn hp
              go_wp2_with fail
              exact ⟨fun ix => if ix = 5 then .pointer (some ⟨bl, ol + j * 2, none⟩) else gv ix, by simp [e4], hR.upd PW.below 5 _ (Below.refl _ _) rfl⟩
            · intro D a w' hn hp hI
              obtain ⟨gv, rfl, hR⟩ := hI
              have e5 : gv 5 = .pointer (some ⟨bl, ol + j * 2, none⟩) := hR.e 5 hp.1
              rw [e5]
              have ca := kc hR.b y0
              clear hn hp
              go_wp2_with fail
              exact ⟨fun ix => if ix = 6 then .int .u8 kd else gv ix, by simp [e5], hR.upd PW.below 6 _ (Below.refl _ _) rfl⟩
            · intro D a w' hn hp hI
              obtain ⟨gv, rfl, hR⟩ := hI
              have e1 : gv 1 = .int .u8 kd := hR.e 1 hp.1
              rw [e1]
              have e6 : gv 6 = .int .u8 kd := hR.e 6 hp.2.1
              rw [e6]
              clear hn hp
              go_wp2_with fail
              exact ⟨fun ix => if ix = 7 then .bool false else gv ix, by simp [e1, e6], hR.upd PW.below 7 _ (Below.refl _ _) rfl⟩
            · intro D a w' hn hp hI
              obtain ⟨gv, rfl, hR⟩ := hI
              have e7 : gv 7 = .bool false := hR.e 7 hp.1
              rw [e7]
              clear hn hp
              go_wp2_with fail
              exact ⟨fun ix => if ix = 8 then .bool false else gv ix, by simp [e7], hR.upd PW.below 8 _ (Below.refl _ _) rfl⟩
            · intro D a w' hn hp hI
              obtain ⟨gv, rfl, hR⟩ := hI
              have e8 : gv 8 = .bool false := hR.e 8 hp.1
              rw [e8]
              clear hn hp
              go_wp2_with fail
              exact ⟨fun ix => if ix = 9 then .pointer (some ⟨b19, 1, none⟩) else gv ix, by simp [e8], hR.upd PW.below 9 _ (Below.refl _ _) rfl⟩
            · intro D a w' hn hp hI
              obtain ⟨gv, rfl, hR⟩ := hI
              have e8 : gv 8 = .bool false := hR.e 8 hp.1
              rw [e8]
              have e9 : gv 9 = .pointer (some ⟨b19, 1, none⟩) := hR.e 9 hp.2.1
              rw [e9]
              have ca := kc hR.b z1
              clear hn hp
              go_wp2_with fail
              exact ⟨fun ix => if ix = 10 then .slice (some ⟨q, 0, none⟩) m (m + 12) else gv ix, by simp [e8, e9], hR.upd PW.below 10 _ (Below.refl _ _) rfl⟩
            · intro D a w' hn hp hI
              obtain ⟨gv, rfl, hR⟩ := hI
              have e8 : gv 8 = .bool false := hR.e 8 hp.1
              rw [e8]
              clear hn hp
              go_wp2_with fail
              exact ⟨fun ix => if ix = 11 then .slice (some ⟨bl, ol, none⟩) k c else gv ix, by simp [e8], hR.upd PW.below 11 _ (Below.refl _ _) rfl⟩
            · intro D a w' hn hp hI
              obtain ⟨gv, rfl, hR⟩ := hI
              have e8 : gv 8 = .bool false := hR.e 8 hp.1
              rw [e8]
              clear hn hp
              go_wp2_with fail
              exact ⟨fun ix => if ix = 12 then .int .i64 j else gv ix, by simp [e8], hR.upd PW.below 12 _ (Below.refl _ _) rfl⟩
            · intro D a w' hn hp hI
              obtain ⟨gv, rfl, hR⟩ := hI
              have e8 : gv 8 = .bool false := hR.e 8 hp.1
              rw [e8]
              have e11 : gv 11 = .slice (some ⟨bl, ol, none⟩) k c := hR.e 11 hp.2.1
              rw [e11]
              have e12 : gv 12 = .int .i64 j := hR.e 12 hp.2.2.1
              rw [e12]
              clear hn hp
              go_wp2_with fail
              exact ⟨fun ix => if ix = 13 then .pointer (some ⟨bl, ol + j * 2, none⟩) else gv ix, by simp [e8, e11, e12], hR.upd PW.below 13 _ (Below.refl _ _) rfl⟩
            · intro D a w' hn hp hI
              obtain ⟨gv, rfl, hR⟩ := hI
              have e8 : gv 8 = .bool false := hR.e 8 hp.1
              rw [e8]
              have e13 : gv 13 = .pointer (some ⟨bl, ol + j * 2, none⟩) := hR.e 13 hp.2.1
              rw [e13]
              clear hn hp
              go_wp2_with fail
              exact ⟨fun ix => if ix = 14 then .pointer (some ⟨bl, ol + j * 2 + 1, none⟩) else gv ix, by simp [e8, e13], hR.upd PW.below 14 _ (Below.refl _ _) rfl⟩
            · intro D a w' hn hp hI
              obtain ⟨gv, rfl, hR⟩ := hI
              have e8 : gv 8 = .bool false := hR.e 8 hp.1
              rw [e8]
              have e14 : gv 14 = .pointer (some ⟨bl, ol + j * 2 + 1, none⟩) := hR.e 14 hp.2.1
              rw [e14]
              have ca := kc hR.b y1
              clear hn hp
              go_wp2_with fail
              exact ⟨fun ix => if ix = 15 then .slice A1 m n1 else gv ix, by simp [e8, e14], hR.upd PW.below 15 _ (Below.refl _ _) rfl⟩
            · intro D a w' hn hp hI
              obtain ⟨gv, rfl, hR⟩ := hI
              have e8 : gv 8 = .bool false := hR.e 8 hp.1
              rw [e8]
              have e10 : gv 10 = .slice (some ⟨q, 0, none⟩) m (m + 12) := hR.e 10 hp.2.1
              rw [e10]
              have e15 : gv 15 = .slice A1 m n1 := hR.e 15 hp.2.2.1
              rw [e15]
              have HB2 := Lib.hid hR.b
              clear hn hp
              go_wp2_with fail
              refine (kept_w d m q A1 n1 _ HM.out (blk_below HB2.out HQX.out) (HBy.out.below (HBY8.out.trans ((HBX.out.trans (HB2.out.mono HBX.out.size)).mono HBY8.out.size))) (by omega)).mono ?_
              rintro e Y ⟨rfl, hbk⟩
              go_wp2_with fail
              exact ⟨fun ix => if ix = 16 then .bool true else gv ix, by simp [e8, e10, e15], hR.upd PW.below 16 _ hbk rfl⟩
            · intro D a w' hn hp hI
              obtain ⟨gv, rfl, hR⟩ := hI
              have e8 : gv 8 = .bool false := hR.e 8 hp.1
              rw [e8]
              have e16 : gv 16 = .bool true := hR.e 16 hp.2.1
              rw [e16]
              clear hn hp
              go_wp2_with fail
              exact ⟨fun ix => if ix = 17 then .bool false else gv ix, by simp [e8, e16], hR.upd PW.below 17 _ (Below.refl _ _) rfl⟩
          intro D a w' hD2 hI2
          obtain ⟨g9, rfl, hR⟩ := hI2
          have e8 : g9 8 = .bool false := hR.e 8 (hD2 8 (by decide))
          have e17 : g9 17 = .bool false := hR.e 17 (hD2 17 (by decide))
          rw [e8, e17]
          have hb := hR.b
          have HRW := Lib.hid (own_below HRX.out hb)
          have HBW := Lib.hid (HBX.out.trans (hb.mono HBX.out.size))
          have HSW : Hid (S ≤ w'.heap.size) := by show _ ≤ _; rw [← HSS.out]; exact HBW.out.size
          have l19' : b19 < w'.heap.size := Nat.lt_of_lt_of_le l19 hb.size
          replace z0 := kc hb z0
          replace z1 := kc hb z1
          simp only [List.drop_succ_cons, List.drop_zero]
          clear hD2 hR hb e8 e17 y0 y1 hby l19
          go_wp2_with (at_builtin; refine wpList_append_own _ rfl _ _ 65 rfl S 22 i0 (.slice none 0 0) 1 24 Try.underlying65 hi hz0 hz1 hz2 rfl (by decide) _ _ _ rfl (HRW.out.alloc _) ⟨w'.heap.size, 0, none⟩ 1 1 [.slice (some ⟨q, 0, none⟩) m (m + 12)] rfl rfl (cell_one_new _ _ _) (by simp [Value.oneCell']) (lt_maxLen' (by omega)) (by omega) (by have := HSW.out; simp; omega) ?_; intro v3 w3 hown3 hgrow3 hnil3; (try dsimp only [Act.put]); (try simp only [List.setIfInBounds_toArray, List.set_cons_succ, List.set_cons_zero]); obtain ⟨g3, cap3, rfl⟩ := ownsRow_succ hown3; have HO3 := Lib.hid hown3; have HB3' := Lib.hid ((HBW.out.alloc HBW.out.size (.cells #[.slice (some ⟨q, 0, none⟩) m (m + 12)] 22)).grown hgrow3 (by simp; have := HBW.out.size; omega) fun k e => by have := (HRW.out.lt k e).1; have := HSS.out; omega); clear hown3 hgrow3 hnil3)
          exact ⟨⟨j + 1, HLT.out, by go_num, by
            rw [List.take_add_one, HCS.out, List.map_append]
            exact HO3.out, HB3'.out⟩, by have := HLT.out; simp [intOf]; omega⟩
        · obtain rfl : j = k := by omega
          have t3 : decide ((j : Int) < j) = false := by simp
          have t3' : decide (j < j) = false := by simp
          rw [List.take_of_length_le (by rw [HCL.out]; exact Nat.le_refl _)] at hrow
          obtain ⟨hz, hzv, _⟩ := datL_got HGT.out.each HGT.out.ord H20.out (by rw [HN.out]; omega)
          have hdl : (datL css5).length = j := by simp [datL, HCL.out]
          obtain ⟨hlz, hv9, hv13⟩ := wr_lz hz HZB.out HB910.out HV9.out HB1310.out HS0.out (Nat.le_trans HS1.out HS2.out) (by have := HBS.out.1; omega) (by have := HDD.out.1; omega) (by omega)
          have HLZ := Lib.hid (hlz.bel hb)
          have HROW : Hid (wr.ownsRow S 22 1 (.slice A17 (j + 2) c17) (j + 2) ((sliOf (.slice A9 bs.length c9) :: sliOf (.slice A13 dd.length c13) :: datL css5).map Sli.v)) := by
            show wr.ownsRow S 22 1 _ _ ((sliOf _).v :: (sliOf _).v :: (datL css5).map Sli.v)
            rw [hzv, hv9, hv13]
            exact hrow
          have hll : (sliOf (.slice A9 bs.length c9) :: sliOf (.slice A13 dd.length c13) :: datL css5).length = j + 2 := by simp [hdl]
          have HLL := Lib.hid hll
          have HBW := Lib.hid (HBY8.out.trans (hb.mono HBY8.out.size))
          clear hrow hb hz hzv hdl hlz hv9 hv13 hll hlt
          go_wp2_with fail
          refine (apartB_any (xs := []) HLZ.out.lg HLL.out HROW.out HLZ.out.bl HBW.out.size (fun y hy => by cases hy) (fun y hy => by cases hy)).mono ?_
          rintro e Z ⟨rfl, hb, _⟩
          have HBZ := Lib.hid (HBW.out.trans hb)
          clear hb
          go_wp2_with fail
          go_ret
          exact ⟨rfl, HBZ.out⟩

set_option maxRecDepth 100000 in
theorem optsWrites_walk (l : List Op1) (A : Option Addr) (c : Nat) (kind : Int) (w : World) (hl : Ops w A l) (hk : 0 ≤ kind ∧ kind ≤ 255) :
    Calls Try.prog 10 #[.slice A l.length c, .int .u8 kind] w fun e w' => e = .returned (.bool true) ∧ Below w.heap.size w w' := by
  have HR := Lib.hid (writes_any l A c kind w hl)
  clear hl
  go_enter Try.func10, Try.ntmps10
  go_wp2_with fail
  refine HR.out.mono ?_
  rintro e Y ⟨rfl, hb⟩
  have HB := Lib.hid hb
  clear hb
  go_wp2_with fail
  refine (awake_any _).mono ?_
  rintro e Y2 ⟨rfl, hb⟩
  have HB2 := Lib.hid (HB.out.trans (hb.mono HB.out.size))
  clear hb
  go_wp2_with fail
  go_ret
  exact ⟨rfl, HB2.out⟩

end Go.Proofs.Ytjfnnclbfaakkaa

/-
  The contract of the laws' own 'awake': the examples of the chapter.
-/
import Derived.Test.YtchephpmkommfaaBel
import Derived.Maps.RangeWalk
namespace Go.Proofs.Ytchephpmkommfaa
open Go.RowKit
set_option linter.unusedVariables false
set_option linter.unusedSimpArgs false

/-- A packet that says no more than this. -/
def pk (flags seq ack win len : Int) : Array Value := #[.int .u8 0, .int .u32 0, .int .u32 0, .int .u16 0, .int .u16 0, .int .u8 0, .int .u8 flags, .int .u8 0, .int .u8 0, .int .u32 seq, .int .u32 ack, .int .i64 win, .int .i64 len, .int .u8 0, .int .u32 0, .int .u32 0, .int .u16 0, .int .u16 0, .int .u8 0]
theorem fa_pk (flags seq ack win len : Int) (h1 : 0 ≤ flags ∧ flags ≤ 255) (h2 : 0 ≤ seq ∧ seq ≤ 4294967295) (h3 : 0 ≤ ack ∧ ack ≤ 4294967295) (h4 : -9223372036854775808 ≤ win ∧ win ≤ 9223372036854775807) (h5 : -9223372036854775808 ≤ len ∧ len ≤ 9223372036854775807) : Fa (pk flags seq ack win len) flags seq ack win len :=
  ⟨rfl, rfl, rfl, rfl, rfl, rfl, by simp [pk, Value.oneCell'], h1, h2, h3, h4, h5⟩
theorem after_is (a b : Int) (r : Bool) (w : World) (ha : 0 ≤ a ∧ a ≤ 4294967295) (hb : 0 ≤ b ∧ b ≤ 4294967295) (h : aft a b = r) : Calls Try.prog 12 #[.int .u32 a, .int .u32 b] w fun e w' => e = .returned (.bool r) ∧ w = w' := by
  subst h
  exact after_any a b w ha hb
theorem see0_is (a b a' : Sd) (F : Array Value) (flags seq ack win len : Int) (w : World) (h : Fa F flags seq ack win len) (ha : a.wf) (he : seeS a flags seq ack win len = a') :
    Calls Try.prog 14 #[.agg (trk a b), .int .u8 0, .agg F] w fun e w' => e = .returned (.agg (trk a' b)) ∧ Below w.heap.size w w' := by
  subst he
  exact see0_any a b F flags seq ack win len w h ha
theorem see1_is (a b b' : Sd) (F : Array Value) (flags seq ack win len : Int) (w : World) (h : Fa F flags seq ack win len) (hb : b.wf) (he : seeS b flags seq ack win len = b') :
    Calls Try.prog 14 #[.agg (trk a b), .int .u8 1, .agg F] w fun e w' => e = .returned (.agg (trk a b')) ∧ Below w.heap.size w w' := by
  subst he
  exact see1_any a b F flags seq ack win len w h hb
theorem believe0_is (a b : Sd) (r : Bool) (F : Array Value) (flags seq ack win len : Int) (w : World) (h : Fa F flags seq ack win len) (hb : b.wf) (he : bel a b flags seq ack = r) :
    Calls Try.prog 16 #[.agg (trk a b), .int .u8 0, .agg F] w fun e w' => e = .returned (.bool r) ∧ Below w.heap.size w w' := by
  subst he
  exact believe0_any a b F flags seq ack win len w h hb
theorem believe1_is (a b : Sd) (r : Bool) (F : Array Value) (flags seq ack win len : Int) (w : World) (h : Fa F flags seq ack win len) (ha : a.wf) (he : bel b a flags seq ack = r) :
    Calls Try.prog 16 #[.agg (trk a b), .int .u8 1, .agg F] w fun e w' => e = .returned (.bool r) ∧ Below w.heap.size w w' := by
  subst he
  exact believe1_any a b F flags seq ack win len w h ha
theorem aft1 : aft 5 4294967290 = true := by decide +kernel
theorem aft2 : aft 5 5 = false := by decide +kernel
theorem aft3 : aft 0 2147483648 = false := by decide +kernel
def sA : Sd := ⟨true, false, 101, 0, 0⟩
def sB : Sd := ⟨true, true, 901, 101, 1000⟩
theorem sA_wf : sA.wf := ⟨by decide, by decide⟩
theorem sB_wf : sB.wf := ⟨by decide, by decide⟩
theorem sd0_wf : sd0.wf := ⟨by decide, by decide⟩
theorem bel1 : bel sB sA 20 0 101 = true := by kernel_rfl
theorem bel2 : bel sB sA 20 0 102 = false := by kernel_rfl
theorem bel3 : bel sB sA 4 901 0 = true := by kernel_rfl
theorem bel4 : bel sB sA 4 900 0 = false := by kernel_rfl
theorem seeA : seeS sd0 2 100 0 0 0 = sA := by kernel_rfl
theorem seeB : seeS sd0 18 900 101 1000 0 = sB := by kernel_rfl
/-- 'make(map ..)'. -/
theorem wpList_makeMap_own {H : Type} {P : Program} (w : World) {ops : Array Oper} {rest : List Oper} {o : Oper} {a : Act} {Q : Exit → Act → World → Prop} (hg : o.guard = none) (t : TypeId) (hop : o.op = Op.makeMap t none) (k : TypeId) (R : Value → Option (DataW H × List MemPlace)) (b : Nat) (hb : w.heap.size = b)
    (hK : ∀ w', w'.ownsMap P k R b 0 (.map []) → w.grownBy w' none → wpList P ops Q rest (a.put o.dst (.map (some b))) w') : wpList P ops Q (o :: rest) a w := by
  subst hb
  refine wpList_plain hg fun K' hK' => ?_
  unfold Oper.wp
  have hr : (Instr.makeMap t none).run P w = .ok (.map (some w.heap.size)) (w.alloc (.map #[] 0)) := rfl
  simp [execOp, hop, hr, Result.andThen]
  exact hK' _ _ (hK _ (World.ownsMap_made _ _ _ _) (World.grownBy_alloc w _ none))
/-- An entry of a map's literal. -/
theorem wpList_insert_own {H : Type} {P : Program} (w : World) {ops : Array Oper} {rest : List Oper} {o : Oper} {a : Act} {Q : Exit → Act → World → Prop}
    (hg : o.guard = none) (m x v : Operand) (t : TypeId) (hop : o.op = Op.insert t m x v)
    (k e : TypeId) (K : Maps.Keyed P k) (ht : P.underlying t = some (.map k e)) (R : Value → Option (DataW H × List MemPlace)) (b n : Nat) (D : DataW H)
    (hm : a.eval m = .map (some b)) (hown : w.ownsMap P k R b n D) (hn : n < maxLen) (key val : Value) (kl : Lit) (hx : a.eval x = key) (hv : a.eval v = val) (hkey : keyOf P k key = some kl)
    (d : DataW H) (ps : List MemPlace) (hval : R val = some (d, ps))
    (hK : ∀ w', w'.ownsMap P k R b (n + 1) (D.put kl d) → w.grownBy w' (some b) → wpList P ops Q rest (a.put o.dst undef) w') :
    wpList P ops Q (o :: rest) a w := by
  refine wpList_plain hg fun K' hK' => ?_
  obtain ⟨w', hrun, r1, r2⟩ := hown.update K ht hn hkey hval
  unfold Oper.wp
  simp [execOp, hop, hm, hx, hv, hrun, Result.andThen]
  exact hK' _ _ (hK w' r1 r2)
/-- A step of a range over a map of bools keyed by integers. -/
theorem wpList_next_ranges_ib {H : Type} {P : Program} (w : World) {ops : Array Oper} {rest : List Oper} {o : Oper} {a : Act} {Q : Exit → Act → World → Prop} (hg : o.guard = none) (it : Operand) (hop : o.op = Op.next it false) (k e : TypeId) (qk : IntKind) (K : Maps.Keyed P k) (hk : P.underlying k = some (.int qk)) (he : P.underlying e = some .bool)
    (b r n : Nat) (D : DataW H) (left : Lit → Bool) (cnt : Nat) (hit : a.eval it = .pointer (some ⟨r, 0, none⟩)) (h : w.ranges P k (plainElem P e) b r n D left cnt)
    (hDone : cnt = 0 → (∀ kl, left kl = false) → wpList P ops Q rest (a.put o.dst (.tuple #[.bool false])) w)
    (hMore : ∀ (x : Int) (c : Bool) (w' : World) (cnt' : Nat), (Lit.int qk x).wf = true → left (.int qk x) = true → (∀ zd, D.atKey (.int qk x) zd = .lit (.bool c)) → w'.ranges P k (plainElem P e) b r n D (fun z => left z && !z.sameKey (.int qk x)) cnt' → cnt' < cnt →
      w.grownBy w' (some r) → w'.heap.size = w.heap.size → (Instr.entry (.pointer (some ⟨r, 0, none⟩))).run P w' = .ok (.tuple #[.int qk x, .bool c]) w' → wpList P ops Q rest (a.put o.dst (.tuple #[.bool true, .int qk x, .bool c])) w') :
    wpList P ops Q (o :: rest) a w :=
  wpList_next_ranges w hg it hop k K (plainElem P e) (Value.int qk) Value.bool (fun key kl hkey => by obtain ⟨x, rfl, _⟩ := Maps.keyOf_int_inv hk hkey; exact ⟨x, rfl⟩) (fun v y hv => by
      cases v <;> simp [plainElem, he] at hv
      exact ⟨_, rfl⟩)
    b r n D left cnt hit h hDone (fun x c kl y w' cnt' hkey hlk hv hat hrg hlt hgr hsz hen => by
      obtain ⟨x', ex, rfl, hwx⟩ := Maps.keyOf_int_inv hk hkey
      cases ex
      simp [plainElem, he] at hv
      subst hv
      exact hMore x c w' cnt' hwx hlk hat hrg hlt hgr hsz hen)
/-- The examples of the sequence numbers that are believed. -/
def exD : DataW Unit := ((((DataW.map []).put (.int .u32 100) (.lit (.bool false))).put (.int .u32 101) (.lit (.bool true))).put (.int .u32 1100) (.lit (.bool true))).put (.int .u32 1101) (.lit (.bool false))
theorem exD_eq : exD = .map [(.int .u32 100, .lit (.bool false)), (.int .u32 101, .lit (.bool true)), (.int .u32 1100, .lit (.bool true)), (.int .u32 1101, .lit (.bool false))] := by rfl
theorem exD_has {x : Int} (h : Maps.has exD (.int .u32 x) = true) : x = 100 ∨ x = 101 ∨ x = 1100 ∨ x = 1101 := by
  rw [exD_eq] at h
  simp [Maps.has, Lit.sameKey] at h
  omega
theorem bx1 : bel sA sB 4 100 0 = false := by kernel_rfl
theorem bx2 : bel sA sB 4 101 0 = true := by kernel_rfl
theorem bx3 : bel sA sB 4 1100 0 = true := by kernel_rfl
theorem bx4 : bel sA sB 4 1101 0 = false := by kernel_rfl
theorem exD_bel {x : Int} {c : Bool} (h : Maps.has exD (.int .u32 x) = true) (hat : ∀ zd, exD.atKey (.int .u32 x) zd = .lit (.bool c)) : (0 ≤ x ∧ x ≤ 4294967295) ∧ bel sA sB 4 x 0 = c := by
  have hc := hat (.lit (.bool c))
  rcases exD_has h with rfl | rfl | rfl | rfl
  · have : (DataW.lit (.bool false) : DataW Unit) = .lit (.bool c) := hc
    injection this with this; injection this with this; subst this
    exact ⟨by decide, bx1⟩
  · have : (DataW.lit (.bool true) : DataW Unit) = .lit (.bool c) := hc
    injection this with this; injection this with this; subst this
    exact ⟨by decide, bx2⟩
  · have : (DataW.lit (.bool true) : DataW Unit) = .lit (.bool c) := hc
    injection this with this; injection this with this; subst this
    exact ⟨by decide, bx3⟩
  · have : (DataW.lit (.bool false) : DataW Unit) = .lit (.bool c) := hc
    injection this with this; injection this with this; subst this
    exact ⟨by decide, bx4⟩
theorem mx10 (n : Nat) (h : n < 10) : n < maxLen := Nat.lt_of_lt_of_le h (by decide)
theorem key22 (x : Int) (h : 0 ≤ x ∧ x ≤ 4294967295) : keyOf Try.prog 22 (.int .u32 x) = some (.int .u32 x) := Maps.keyOf_int_mk Try.underlying22 (WalkArith.wf_u32 (by omega))
theorem elem4 (c : Bool) : plainElem (H := Unit) Try.prog 4 (.bool c) = some (.lit (.bool c), []) := by simp [plainElem, Try.underlying4]
theorem hsz (T : Sd × Sd) : (Try.prog.info? 29).map (·.size) = some (trk T.1 T.2).toList.length := info29
theorem trk_one (a b : Sd) : (trk a b).all (·.oneCell') = true := by simp [trk, Sd.cells, Value.oneCell']

set_option maxRecDepth 100000 in
set_option maxHeartbeats 4000000 in
theorem awake_any (w : World) : Calls Try.prog 11 #[] w fun e w' => e = .returned (.bool true) ∧ Below w.heap.size w w' := by
  have hN : ∀ W, (binOp .neq 29 (.agg (trk sA sB)) (.agg #[.bool true, .bool false, .int .u32 101, .int .u32 0, .int .i64 0, .bool true, .bool true, .int .u32 901, .int .u32 101, .int .i64 1000])).run Try.prog W = .ok (.bool false) W := fun W => trk_neq sA sB sA sB W
  have C1 : Hid (∀ W, Calls Try.prog 14 #[.agg (trk sd0 sd0), .int .u8 0, .agg (pk 2 100 0 0 0)] W fun e w' => e = .returned (.agg (trk sA sd0)) ∧ Below W.heap.size W w') := fun W => see0_is sd0 sd0 sA _ 2 100 0 0 0 W (fa_pk 2 100 0 0 0 (by decide) (by decide) (by decide) (by decide) (by decide)) sd0_wf seeA
  have C2 : Hid (∀ W, Calls Try.prog 14 #[.agg (trk sA sd0), .int .u8 1, .agg (pk 18 900 101 1000 0)] W fun e w' => e = .returned (.agg (trk sA sB)) ∧ Below W.heap.size W w') := fun W => see1_is sA sd0 sB _ 18 900 101 1000 0 W (fa_pk 18 900 101 1000 0 (by decide) (by decide) (by decide) (by decide) (by decide)) sd0_wf seeB
  have B1 : Hid (∀ seq : Int, 0 ≤ seq ∧ seq ≤ 4294967295 → ∀ r, bel sA sB 4 seq 0 = r → ∀ W, Calls Try.prog 16 #[.agg (trk sA sB), .int .u8 0, .agg (pk 4 seq 0 0 0)] W fun e w' => e = .returned (.bool r) ∧ Below W.heap.size W w') := fun seq hs r hr W => believe0_is sA sB r _ 4 seq 0 0 0 W (fa_pk 4 seq 0 0 0 (by decide) hs (by decide) (by decide) (by decide)) sB_wf hr
  have B2 : Hid (∀ W, Calls Try.prog 16 #[.agg (trk sA sB), .int .u8 1, .agg (pk 20 0 101 0 0)] W fun e w' => e = .returned (.bool true) ∧ Below W.heap.size W w') := fun W => believe1_is sA sB true _ 20 0 101 0 0 W (fa_pk 20 0 101 0 0 (by decide) (by decide) (by decide) (by decide) (by decide)) sA_wf bel1
  have B3 : Hid (∀ W, Calls Try.prog 16 #[.agg (trk sA sB), .int .u8 1, .agg (pk 20 0 102 0 0)] W fun e w' => e = .returned (.bool false) ∧ Below W.heap.size W w') := fun W => believe1_is sA sB false _ 20 0 102 0 0 W (fa_pk 20 0 102 0 0 (by decide) (by decide) (by decide) (by decide) (by decide)) sA_wf bel2
  have B4 : Hid (∀ W, Calls Try.prog 16 #[.agg (trk sA sB), .int .u8 1, .agg (pk 4 901 0 0 0)] W fun e w' => e = .returned (.bool true) ∧ Below W.heap.size W w') := fun W => believe1_is sA sB true _ 4 901 0 0 0 W (fa_pk 4 901 0 0 0 (by decide) (by decide) (by decide) (by decide) (by decide)) sA_wf bel3
  have B5 : Hid (∀ W, Calls Try.prog 16 #[.agg (trk sA sB), .int .u8 1, .agg (pk 4 900 0 0 0)] W fun e w' => e = .returned (.bool false) ∧ Below W.heap.size W w') := fun W => believe1_is sA sB false _ 4 900 0 0 0 W (fa_pk 4 900 0 0 0 (by decide) (by decide) (by decide) (by decide) (by decide)) sA_wf bel4
  have I1 : Hid ((Try.prog.info? 29).map (·.size) = some (trk sA sd0).size) := info29
  have I2 : Hid ((Try.prog.info? 29).map (·.size) = some (trk sA sB).size) := info29
  have I3 : Hid ((Try.prog.info? 29).map (·.size) = some (trk sA sd0).toList.length) := info29
  have I4 : Hid ((Try.prog.info? 29).map (·.size) = some (trk sA sB).toList.length) := info29
  have O1 : Hid ((trk sA sd0).all (·.oneCell') = true) := trk_one _ _
  have O2 : Hid ((trk sA sB).all (·.oneCell') = true) := trk_one _ _
  have Z1 : Hid ((trk sA sd0).size = 10) := show _ = _ from rfl
  have Z2 : Hid ((trk sA sB).size = 10) := show _ = _ from rfl
  generalize trk sA sd0 = T1 at *
  generalize trk sA sB = T2 at *
  go_enter Try.func11, Try.ntmps11
  go_wp2_with fail
  refine (after_is 5 4294967290 true _ (by decide) (by decide) aft1).mono ?_
  rintro e w' ⟨rfl, rfl⟩
  go_wp2_with fail
  refine (after_is 5 5 false _ (by decide) (by decide) aft2).mono ?_
  rintro e w' ⟨rfl, rfl⟩
  go_wp2_with fail
  refine (after_is 0 2147483648 false _ (by decide) (by decide) aft3).mono ?_
  rintro e w' ⟨rfl, rfl⟩
  go_wp2_with fail
  refine (C1.out _).mono ?_
  rintro e w1 ⟨rfl, hb⟩
  go_wp2_with (first | (refine wpList_store_wide 29 (.tmp 1) (.tmp 14) rfl rfl w1.heap.size 0 T1 rfl rfl w.heap.size w I1.out O1.out (hb.alloc hb.size _) hb.size (there_new _ _ _ _ _ rfl ?_) ?_; (· (rw [Z1.out]; rfl)); intro v1 e1 z1 r1 j1 t1 j2; clear j1 j2; have th1 := t1 _ _ _ (there_new w1 _ 29 _ 10 rfl rfl); have y1 : w1.heap.size < v1.heap.size := (by rw [z1]; simp); clear t1 z1) | (refine wpList_load_wide 29 (.tmp 1) rfl (by rfl) w1.heap.size 0 rfl T1 _ Try.underlying29 rfl I3.out r1 ?_))
  refine (C2.out _).mono ?_
  rintro e w2 ⟨rfl, hb2⟩
  have e2 := bthen e1 hb2
  have th2 := there_below hb2 y1 th1
  have y2 : w1.heap.size < w2.heap.size := Nat.lt_of_lt_of_le y1 hb2.size
  clear r1 th1 hb2 e1 y1
  have k1 := hb.size
  obtain ⟨B, hB⟩ : ∃ B, w1.heap.size = B := ⟨_, rfl⟩
  rw [hB] at y2 th2 k1 ⊢
  clear hb hB
  have hmm := @run_makeMap Try.prog
  go_wp2_with (first | (refine wpList_store_wide 29 (.tmp 1) (.tmp 17) rfl rfl B 0 T2 rfl rfl w.heap.size w I2.out O2.out e2 k1 (by rw [Z2.out]; exact th2) ?_; intro v3 e3 z3 r3 j1 j2 j3; have y3 : B < v3.heap.size := (by rw [z3]; exact y2); clear j1 j2 j3 z3) | (refine wpList_load_wide 29 (.tmp 1) rfl (by rfl) B 0 rfl T2 _ Try.underlying29 rfl I4.out r3 ?_) | (refine wpList_insert_own _ rfl (.tmp 23) (.const (.int .u32 100)) (.const (.bool false)) 57 rfl 22 4 (Maps.int_keyed Try.underlying22) Try.underlying57 (plainElem Try.prog 4) v3.heap.size 0 _ rfl (World.ownsMap_made v3 _ _ _) (mx10 _ (by decide)) (.int .u32 100) (.bool false) _ rfl rfl (key22 100 (by decide)) (.lit (.bool false)) [] (elem4 false) ?_; intro x1 m1 g1; obtain ⟨M, hM⟩ : ∃ M, v3.heap.size = M := ⟨_, rfl⟩; rw [hM] at m1 g1 ⊢; have hBM : B < M := (by omega); have hwM : w.heap.size ≤ M := (by have := e3.size; omega); have f1 := (e3.alloc e3.size (.map #[] 0)).grown g1 (by simp; omega) (fun k hk => by cases hk; omega); have r31 : x1.rangeAt B 0 T2.toList := (fun j v hv => g1.cell (World.rangeAt_alloc r3 _ j v hv) (by intro e; injection e with e; have e2 : B = M := e; omega)); clear g1 r3 e3; refine wpList_insert_own _ rfl (.tmp 23) (.const (.int .u32 101)) (.const (.bool true)) 57 rfl 22 4 (Maps.int_keyed Try.underlying22) Try.underlying57 (plainElem Try.prog 4) M 1 _ rfl m1 (mx10 _ (by decide)) (.int .u32 101) (.bool true) _ rfl rfl (key22 101 (by decide)) (.lit (.bool true)) [] (elem4 true) ?_; intro x2 m2 g2; have f2 := f1.grown g2 (by have := f1.size; omega) (fun k hk => by cases hk; omega); have r32 : x2.rangeAt B 0 T2.toList := (fun j v hv => g2.cell (r31 j v hv) (by intro e; injection e with e; have e2 : B = M := e; omega)); clear m1 g2 r31 f1; refine wpList_insert_own _ rfl (.tmp 23) (.const (.int .u32 1100)) (.const (.bool true)) 57 rfl 22 4 (Maps.int_keyed Try.underlying22) Try.underlying57 (plainElem Try.prog 4) M 2 _ rfl m2 (mx10 _ (by decide)) (.int .u32 1100) (.bool true) _ rfl rfl (key22 1100 (by decide)) (.lit (.bool true)) [] (elem4 true) ?_; intro x3 m3 g3; have f3 := f2.grown g3 (by have := f2.size; omega) (fun k hk => by cases hk; omega); have r33 : x3.rangeAt B 0 T2.toList := (fun j v hv => g3.cell (r32 j v hv) (by intro e; injection e with e; have e2 : B = M := e; omega)); clear m2 g3 r32 f2; refine wpList_insert_own _ rfl (.tmp 23) (.const (.int .u32 1101)) (.const (.bool false)) 57 rfl 22 4 (Maps.int_keyed Try.underlying22) Try.underlying57 (plainElem Try.prog 4) M 3 _ rfl m3 (mx10 _ (by decide)) (.int .u32 1101) (.bool false) _ rfl rfl (key22 1101 (by decide)) (.lit (.bool false)) [] (elem4 false) ?_; intro x4 m4 g4; have f4 := f3.grown g4 (by have := f3.size; omega) (fun k hk => by cases hk; omega); have r34 : x4.rangeAt B 0 T2.toList := (fun j v hv => g4.cell (r33 j v hv) (by intro e; injection e with e; have e2 : B = M := e; omega)); clear m3 g4 r33 f3) | (at_range; refine wpList_range_own _ rfl (.tmp 24) 57 rfl 22 4 (Maps.int_keyed Try.underlying22) Try.underlying57 (plainElem Try.prog 4) M 4 exD rfl m4 ?_; intro x5 hrg g5 s5; obtain ⟨r, hr⟩ : ∃ r, x4.heap.size = r := ⟨_, rfl⟩; rw [hr] at hrg ⊢; have hBr : B < r := (by have := m4.lt; omega); have hwr : w.heap.size ≤ r := (by have := f4.size; omega); have f5 := f4.grown g5 (by have := f4.size; omega) (fun k hk => by cases hk); have r35 : x5.rangeAt B 0 T2.toList := (fun j v hv => g5.cell (r34 j v hv) (by simp)); clear m4 g5 s5 r34 f4 hr))
  clear y2
  try go_frame
  go_loopw [2] (fun _ wr => ∃ left cnt, wr.ranges Try.prog 22 (plainElem Try.prog 4) M r 4 exD left cnt ∧ (∀ kl, left kl = true → Maps.has exD kl = true) ∧ wr.rangeAt B 0 T2.toList ∧ Below w.heap.size w wr) (fun _ wr => wr.rangeLeft M r)
  case atStart => exact ⟨_, _, hrg, fun _ h => h, r35, f5⟩
  case round =>
    obtain ⟨left, cnt, hrg1, hl1, hr1, hb1⟩ := hrel
    clear hrg r35 f5
    rcases hrg1.next (Maps.int_keyed Try.underlying22) 0 with ⟨h0, hl0, hrun⟩ | ⟨key, v, kl, y, w5, cnt5, hkey, hlk, hv, hat, hrun, hrg5, hlt, g5, s5, hen⟩
    · have lt0 : B < wr.heap.size := by have := hrg1.lt; omega
      clear hmm hN
      go_wp2_with (refine wpList_load_wide 29 (.tmp 1) rfl (by rfl) B 0 rfl T2 _ Try.underlying29 rfl I4.out hr1 ?_)
      refine (B2.out _).mono ?_
      rintro e u1 ⟨rfl, hu⟩
      have b2 := bthen hb1 hu
      have R1 := range_below hu lt0 hr1
      have lt1 := Nat.lt_of_lt_of_le lt0 hu.size
      clear hu hr1 hb1
      go_wp2_with (refine wpList_load_wide 29 (.tmp 1) rfl (by rfl) B 0 rfl T2 _ Try.underlying29 rfl I4.out R1 ?_)
      refine (B3.out _).mono ?_
      rintro e u2 ⟨rfl, hu⟩
      have b3 := bthen b2 hu
      have R2 := range_below hu lt1 R1
      have lt2 := Nat.lt_of_lt_of_le lt1 hu.size
      clear hu R1 b2
      go_wp2_with (refine wpList_load_wide 29 (.tmp 1) rfl (by rfl) B 0 rfl T2 _ Try.underlying29 rfl I4.out R2 ?_)
      refine (B4.out _).mono ?_
      rintro e u3 ⟨rfl, hu⟩
      have b4 := bthen b3 hu
      have R3 := range_below hu lt2 R2
      have lt3 := Nat.lt_of_lt_of_le lt2 hu.size
      clear hu R2 b3
      go_wp2_with (refine wpList_load_wide 29 (.tmp 1) rfl (by rfl) B 0 rfl T2 _ Try.underlying29 rfl I4.out R3 ?_)
      refine (B5.out _).mono ?_
      rintro e u4 ⟨rfl, hu⟩
      have b5 := bthen b4 hu
      have R4 := range_below hu lt3 R3
      have lt4 := Nat.lt_of_lt_of_le lt3 hu.size
      clear hu R3 b4
      go_wp2_with fail
      go_ret
      exact ⟨by first | rfl | simp, b5⟩
    · obtain ⟨x, rfl, rfl, hwx⟩ := Maps.keyOf_int_inv Try.underlying22 hkey
      obtain ⟨c, rfl⟩ : ∃ c, v = .bool c := by
        cases v <;> simp [plainElem, Try.underlying4] at hv
        exact ⟨_, rfl⟩
      have hy : y.1 = .lit (.bool c) := by
        simp [plainElem, Try.underlying4] at hv
        rw [← hv]
      rw [hy] at hat
      obtain ⟨hx1, hx2⟩ := exD_bel (hl1 _ hlk) hat
      have HX := Lib.hid hx2
      have f6 := hb1.grown g5 (by have := hb1.size; omega) (fun k hk => by cases hk; exact hwr)
      have r36 : w5.rangeAt B 0 T2.toList := fun j v hv => g5.cell (hr1 j v hv) (by intro e; injection e with e; have e2 : B = r := e; omega)
      have HRG := Lib.hid hrg5
      have HLT := Lib.hid hlt
      have HL : Hid (∀ kl, (left kl && !kl.sameKey (.int .u32 x)) = true → Maps.has exD kl = true) := fun kl hk => hl1 kl (by simp only [Bool.and_eq_true] at hk; exact hk.1)
      have HOLD := Lib.hid hrg1
      clear hkey hv hy hat hl1 hlk hx2 hrg5 hlt g5 s5 hb1 hr1 hrg1
      go_wp2_with (refine wpList_load_wide 29 (.tmp 1) rfl (by rfl) B 0 rfl T2 _ Try.underlying29 rfl I4.out r36 ?_)
      refine (B1.out x hx1 c HX.out _).mono ?_
      rintro e w6 ⟨rfl, hb6⟩
      have f7 := bthen f6 hb6
      have r37 := range_below hb6 (by have := hBr; have := HRG.out.lt; omega) r36
      have HRG2 := Lib.hid (HRG.out.kept (row := none) ⟨hb6.os, hb6.tape, hb6.output, hb6.size, fun k hk _ => hb6.block k hk⟩ (by simp) (by simp))
      clear hb6 f6 r36 hrun hen
      go_wp2_with fail
      go_roundw
      case rel => exact ⟨_, _, HRG2.out, HL.out, r37, f7⟩
      case measure => rw [HRG2.out.left_eq, HOLD.out.left_eq]; exact HLT.out
end Go.Proofs.Ytchephpmkommfaa

/-
  The walk of TimeoutSmall: the small scales and the limits, every class's name. Condition: the table of names is laid.
-/
import Derived.Test.YtkcgijkccpiljaaDoorAllL
import Derived.Test.YtkcgijkccpiljaaDoorNames
import Derived.Deep.DeepCutAuto
namespace Go.Proofs.YtkcgijkccpiljaaDoor
open Go.RowKit
set_option linter.unusedVariables false
set_option linter.unusedSimpArgs false

def limL : List Value := [.int .i64 (-9223372036854775808), .int .i64 (-1), .int .i64 0, .int .i64 1, .int .i64 2, .int .i64 1048575, .int .i64 1048576, .int .i64 1048577, .int .i64 16777214, .int .i64 16777215, .int .i64 16777216, .int .i64 1099511627776, .int .i64 1099511627777, .int .i64 9223372036854775807]
theorem lim_int (k : Nat) (hk : k < 14) : ∃ v : Int, limL[k]? = some (.int .i64 v) ∧ -9223372036854775808 ≤ v ∧ v ≤ 9223372036854775807 := by
  have : k = 0 ∨ k = 1 ∨ k = 2 ∨ k = 3 ∨ k = 4 ∨ k = 5 ∨ k = 6 ∨ k = 7 ∨ k = 8 ∨ k = 9 ∨ k = 10 ∨ k = 11 ∨ k = 12 ∨ k = 13 := by omega
  rcases this with rfl | rfl | rfl | rfl | rfl | rfl | rfl | rfl | rfl | rfl | rfl | rfl | rfl | rfl <;> exact ⟨_, rfl, by decide, by decide⟩
/-- A base of nine numbers. -/
def nn (b : Nat → Int) : Array Value := #[.int .i64 (b 0), .int .i64 (b 1), .int .i64 (b 2), .int .i64 (b 3), .int .i64 (b 4), .int .i64 (b 5), .int .i64 (b 6), .int .i64 (b 7), .int .i64 (b 8)]
def nl (k : Nat) : Int := k + 1
def nw (m : Nat) (x : Int) (k : Nat) : Int := if k = m then x else nl k
theorem nn_hi (b : Nat → Int) : (Tryd.prog.info? 42).map (·.size) = some (nn b).toList.length := info42
theorem nn_set (m : Nat) (x : Int) (hm : m < 9) : (nn nl).toList.set m (.int .i64 x) = (nn (nw m x)).toList := by
  rcases nine_cases hm with rfl | rfl | rfl | rfl | rfl | rfl | rfl | rfl | rfl <;> rfl
theorem nn_back (m : Nat) (x y : Int) (hm : m < 9) (hy : y = nl m) : (nn (nw m x)).toList.set m (.int .i64 y) = (nn nl).toList := by
  subst hy
  rcases nine_cases hm with rfl | rfl | rfl | rfl | rfl | rfl | rfl | rfl | rfl <;> rfl
theorem rput9 {W : World} {b i : Nat} {T : List Value} (h : W.rangeAt b 0 T) (ht : W.there b 0 T.length) (v : Value) : (W.setCell ⟨b, i, none⟩ v).rangeAt b 0 (T.set i v) := by
  intro j u hu
  rw [Nat.zero_add]
  by_cases hij : i = j
  · subst hij
    have hl : i < T.length := by
      have := (List.getElem?_eq_some_iff.1 hu).1
      simpa using this
    rw [List.getElem?_set_self hl] at hu
    cases hu
    obtain ⟨x, hx⟩ := Option.isSome_iff_exists.1 (ht i hl).1
    rw [Nat.zero_add] at hx
    rw [World.cell?_setCell_same' _ _ _ (by rw [hx]; rfl)]
  · rw [List.getElem?_set_ne hij] at hu
    rw [World.cell?_setCell_other _ _ _ _ (fun e => hij (by injection e))]
    simpa using h j u hu
theorem bases_nn (b : Nat → Int) (c s e l : Int) (w : World) (hc0 : 0 ≤ c) : Calls Tryd.prog 22 #[.agg (nn b), .int .u8 c, .agg #[.int .i64 s, .int .i64 e], .int .i64 l] w fun r w' => r = .returned (.bool true) ∧ Below w.heap.size w w' := bases_any b c s e l w hc0
/-- What lies where in loops 5 to 7. -/
structure Lm (w0 W : World) (NB : Nat) : Prop where
  b : Below w0.heap.size w0 W
  r : W.rangeAt NB 0 limL
  lt : NB < W.heap.size
theorem Lm.below {w0 W W' : World} {NB : Nat} (h : Lm w0 W NB) (hb : Below W.heap.size W W') : Lm w0 W' NB := ⟨bthen h.b hb, range_below hb h.lt h.r, Nat.lt_of_lt_of_le h.lt hb.size⟩
structure Bs (w0 W : World) (NB p : Nat) (b : Nat → Int) : Prop where
  l : Lm w0 W NB
  lo : w0.heap.size ≤ p
  ne : NB ≠ p
  r : W.rangeAt p 0 (nn b).toList
  t : W.there p 0 9
theorem Bs.below {w0 W W' : World} {NB p : Nat} {b : Nat → Int} (h : Bs w0 W NB p b) (hb : Below W.heap.size W W') : Bs w0 W' NB p b := ⟨h.l.below hb, h.lo, h.ne, range_below hb (there_lt h.t) h.r, there_below hb (there_lt h.t) h.t⟩
theorem Bs.put {w0 W : World} {NB p : Nat} {b b' : Nat → Int} (h : Bs w0 W NB p b) (m : Nat) (x : Int) (hs : (nn b).toList.set m (.int .i64 x) = (nn b').toList) : Bs w0 (W.setCell ⟨p, m, none⟩ (.int .i64 x)) NB p b' :=
  ⟨⟨h.l.b.setCell (p := ⟨p, m, none⟩) h.lo _, World.rangeAt_setCells_apart h.l.r p m [.int .i64 x] (.inl h.ne), by simpa using h.l.lt⟩, h.lo, h.ne, hs ▸ rput9 h.r h.t _, World.there_setCells h.t p m [.int .i64 x]⟩
theorem Bs.free {w0 W : World} {NB p : Nat} {b : Nat → Int} (h : Bs w0 W NB p b) (m : Nat) (hm : m < 9) : W.frozen? ⟨p, m, none⟩ = false := by simpa using (h.t m hm).2
theorem nn_get (b : Nat → Int) (k : Nat) (hk : k < 9) : (nn b).toList[k]? = some (.int .i64 (b k)) := by
  rcases nine_cases hk with rfl | rfl | rfl | rfl | rfl | rfl | rfl | rfl | rfl <;> rfl
theorem Bs.cell {w0 W : World} {NB p : Nat} {b : Nat → Int} (h : Bs w0 W NB p b) (m : Nat) (hm : m < 9) : W.cell? ⟨p, m, none⟩ = some (.int .i64 (b m)) := by simpa using h.r m _ (nn_get b m hm)
/-- What the done operations of a region have left: operation i the value val i, in g i. -/
structure Iv (w1 : World) (val : Nat → Value) (D : Nat → Prop) (g : Nat → Value) (w' : World) : Prop where
  b : Below w1.heap.size w1 w'
  e : ∀ i, D i → g i = val i
theorem Iv.step {w1 w' w'' : World} {val g : Nat → Value} {D : Nat → Prop} (h : Iv w1 val D g w') (i : Nat) (x : Value) (hx : x = val i) (hb : Below w'.heap.size w' w'') : Iv w1 val (fun j => D j ∨ j = i) (fun j => if j = i then x else g j) w'' :=
  ⟨bthen h.b hb, fun j hj => by
    show (if j = i then x else g j) = val j
    by_cases hji : j = i
    · rw [if_pos hji, hx, hji]
    · rw [if_neg hji]
      exact h.e j (hj.resolve_right hji)⟩
theorem Iv.zero (w1 : World) (val g : Nat → Value) : Iv w1 val (fun _ => False) g w1.drew := ⟨(Below.refl _ _).drew, fun _ h => h.elim⟩
def bv22 (NB k j M1 M2 : Nat) (av bv v1 v2 mn : Int) : List Value := [.int .i64 av, .int .i64 bv, .slice (some ⟨NB, 0, none⟩) 14 14, .int .i64 (k : Int), .int .i64 (j : Int), .int .i64 ((k : Int) + (j : Int)), .int .i64 (M1 : Int), .pointer (some ⟨NB, M1, none⟩), .int .i64 v1, .agg #[.int .i64 bv, .int .i64 v1], .slice (some ⟨NB, 0, none⟩) 14 14, .int .i64 (k : Int), .int .i64 (2 * (k : Int)), .int .i64 (j : Int), .int .i64 (2 * (k : Int) + (j : Int)), .int .i64 (M2 : Int), .pointer (some ⟨NB, M2, none⟩), .int .i64 v2, .int .i64 bv, .bool true, .bool false, .bool false, .int .i64 av, .agg #[.int .i64 0, .int .i64 1048576], .int .i64 bv, .int .i64 bv, .bool true, .bool false, .bool false, .bool false, .int .i64 bv, .agg #[.int .i64 5, .int .i64 1048576], .int .i64 av, .int .i64 mn, .int .i64 av, .bool true, .bool false, .bool false, .bool false, .int .i64 av, .int .i64 bv, .agg #[.int .i64 av, .int .i64 bv], .int .i64 (j : Int), .bool true, .bool false]
theorem next_any {P : Program} (W : World) (B : Nat) (s : ByteArray) (pos : Nat) (hB : W.heap[B]? = some (.stringIter s pos)) (h : pos < s.size) (ty : TypeId) :
    (Instr.next (.pointer (some ⟨B, 0, none⟩)) true ty).run P W = .ok (.tuple #[.bool true, .int .i64 pos, .int .i32 (Utf8.decode s pos).1]) { W with heap := W.heap.setIfInBounds B (.stringIter s (pos + (Utf8.decode s pos).2)) } := by
  simp only [Instr.next, getObj, setObj, Sem.run_bind, Sem.run, hB, Result.andThen, h, if_true]
  simp [goInt]
theorem next_none {P : Program} (W : World) (B : Nat) (s : ByteArray) (pos : Nat) (hB : W.heap[B]? = some (.stringIter s pos)) (h : ¬ pos < s.size) (ty : TypeId) :
    (Instr.next (.pointer (some ⟨B, 0, none⟩)) true ty).run P W = .ok (.tuple #[.bool false]) W := by
  simp [Instr.next, getObj, Sem.run, hB, h]
theorem width_pos (s : ByteArray) (pos : Nat) (h : pos < s.size) : 1 ≤ (Utf8.decode s pos).2 := by
  by_cases ha : (s[pos]'h).toNat < 128
  · rw [decode_ascii s pos h ha]
    exact Nat.le_refl _
  · exact (decode_high s pos h (by omega)).2
/-- The iterator's block is B, and what lies below is as it was. -/
structure It (w0 W : World) (B : Nat) (s : ByteArray) (pos : Nat) : Prop where
  b : Below w0.heap.size w0 W
  lo : w0.heap.size ≤ B
  lt : B < W.heap.size
  it : W.heap[B]? = some (.stringIter s pos)
theorem It.pos {w0 W : World} {B : Nat} {s : ByteArray} {pos : Nat} (h : It w0 W B s pos) : W.iterPos B = pos := by
  simp [World.iterPos, h.it]
theorem It.below {w0 W W' : World} {B : Nat} {s : ByteArray} {pos : Nat} (h : It w0 W B s pos) (hb : Below W.heap.size W W') : It w0 W' B s pos := ⟨bthen h.b hb, h.lo, Nat.lt_of_lt_of_le h.lt hb.size, (hb.block B h.lt).trans h.it⟩
theorem It.next {w0 W : World} {B : Nat} {s : ByteArray} {pos : Nat} (h : It w0 W B s pos) (p' : Nat) : It w0 { W with heap := W.heap.setIfInBounds B (.stringIter s p') } B s p' :=
  ⟨h.b.trans ⟨rfl, rfl, rfl, by simp, fun k hk => by have := h.lo; simp [show B ≠ k by omega]⟩, h.lo, by simpa using h.lt, by simp [h.lt]⟩
theorem It.new {w0 W : World} {s : ByteArray} (h : Below w0.heap.size w0 W) : It w0 (W.iter s 0) W.heap.size s 0 := ⟨h.alloc h.size _, h.size, by simp [World.iter], W.iter_heap s 0⟩
def nv50 (c pos : Nat) (s : ByteArray) : List Value := [.int .u8 (c : Int), .string s, .bool true, .bool false, .bool false, .int .u8 (c : Int), .string s, .int .i64 (pos : Int), .string (s.extract 0 pos), .string s, .int .i64 (pos : Int), .int .i64 ((pos : Int) + 1), .string (s.extract (pos + 1) s.size), .string (s.extract 0 pos ++ s.extract (pos + 1) s.size), .bool true, .bool false, .bool false, .bool false, .int .u8 (c : Int), .string s, .int .i64 (pos : Int), .string (s.extract 0 pos), .string (s.extract 0 pos ++ (ByteArray.mk #[111])), .string s, .int .i64 (pos : Int), .int .i64 ((pos : Int) + 1), .string (s.extract (pos + 1) s.size), .string (s.extract 0 pos ++ (ByteArray.mk #[111]) ++ s.extract (pos + 1) s.size), .bool true, .bool false, .bool false, .bool false, .int .u8 (c : Int), .string s, .int .i64 (pos : Int), .string (s.extract 0 pos), .bool true, .bool false, .bool false, .bool false, .int .u8 (c : Int), .string s, .string s, .int .i64 (pos : Int), .string (s.extract pos s.size), .string (s ++ s.extract pos s.size), .bool true, .bool false]
theorem nmi_small (c : Nat) (h : c < 9) : (nmi (c : Int)).size ≤ 100 := by
  rcases nine_cases h with rfl | rfl | rfl | rfl | rfl | rfl | rfl | rfl | rfl <;> decide +kernel
set_option maxRecDepth 100000 in
set_option maxHeartbeats 16000000 in
theorem timeoutSmall_walk (w : World) (hT : Tab w) : Calls Tryd.prog 12 #[] w fun r w' => r = .returned (.bool true) ∧ Below w.heap.size w w' := by
  have HT := Lib.hid hT
  clear hT
  have HTl := Lib.hid tells_any
  go_enter Tryd.func12, Tryd.ntmps12
  have hb : Below w.heap.size w w := Below.refl _ _
  go_wp2_with fail
  go_loopw [1] (fun i wr => ∃ x : Int, -1 ≤ x ∧ x ≤ 13 ∧ i = .int .i64 x ∧ Below w.heap.size w wr) (fun i _ => (13 - intOf i).toNat)
  case atStart => exact ⟨_, by decide, by decide, rfl, hb⟩
  case round =>
    clear hb
    obtain ⟨x1, lo1, hi1, rfl, hb⟩ := hrel
    by_cases le1 : x1 ≤ 12
    · have t1 : decide (x1 ≤ 12) = true := by simpa using le1
      go_wp2_with fail
      go_loopw [2] (fun i wr => ∃ x : Int, -1 ≤ x ∧ x ≤ 6 ∧ i = .int .i64 x ∧ Below w.heap.size w wr) (fun i _ => (6 - intOf i).toNat)
      case atStart => exact ⟨_, by decide, by decide, rfl, hb⟩
      case round =>
        clear hb
        obtain ⟨x2, lo2, hi2, rfl, hb⟩ := hrel
        by_cases le2 : x2 ≤ 5
        · have t2 : decide (x2 ≤ 5) = true := by simpa using le2
          go_wp2_with fail
          go_loopw [3] (fun i wr => ∃ x : Int, 0 ≤ x ∧ x ≤ 7 ∧ i = .int .i64 x ∧ Below w.heap.size w wr) (fun i _ => (7 - intOf i).toNat)
          case atStart => exact ⟨_, by decide, by decide, rfl, hb⟩
          case round =>
            clear hb
            obtain ⟨x3, lo3, hi3, rfl, hb⟩ := hrel
            by_cases le3 : x3 ≤ 6
            · have t3 : decide (x3 ≤ 6) = true := by simpa using le3
              go_wp2_with fail
              go_loopw [4] (fun i wr => ∃ x : Int, -1 ≤ x ∧ x ≤ 8 ∧ i = .int .i64 x ∧ Below w.heap.size w wr) (fun i _ => (8 - intOf i).toNat)
              case atStart => exact ⟨_, by decide, by decide, rfl, hb⟩
              case round =>
                clear hb
                obtain ⟨x4, lo4, hi4, rfl, hb⟩ := hrel
                by_cases le4 : x4 ≤ 7
                · have t4 : decide (x4 ≤ 7) = true := by simpa using le4
                  go_wp2_with fail
                  refine (HTl.out _ _ _ _ _ _).mono ?_
                  rintro e w' ⟨rfl, hb'⟩
                  replace hb := bthen hb hb'
                  clear hb'
                  go_wp2_with fail
                  go_roundw
                  case rel => exact ⟨x4 + 1, by omega, by omega, rfl, hb⟩
                  case measure => simp [intOf]; omega
                · have t4 : decide (x4 ≤ 7) = false := by simpa using le4
                  go_wp2_with fail
                  go_roundw
                  case rel => exact ⟨x3 + 1, by omega, by omega, rfl, hb⟩
                  case measure => simp [intOf]; omega
            · have t3 : decide (x3 ≤ 6) = false := by simpa using le3
              go_wp2_with fail
              go_roundw
              case rel => exact ⟨x2 + 1, by omega, by omega, rfl, hb⟩
              case measure => simp [intOf]; omega
        · have t2 : decide (x2 ≤ 5) = false := by simpa using le2
          go_wp2_with fail
          go_roundw
          case rel => exact ⟨x1 + 1, by omega, by omega, rfl, hb⟩
          case measure => simp [intOf]; omega
    · have t1 : decide (x1 ≤ 12) = false := by simpa using le1
      go_wp2_with fail
      obtain ⟨NB, hNB⟩ : ∃ n, wr.heap.size = n := ⟨_, rfl⟩
      rw [hNB]
      have hNB0 : w.heap.size ≤ NB := by rw [← hNB]; exact hb.size
      go_loopw [44] (fun i wr => ∃ k : Nat, k ≤ 14 ∧ i = .int .i64 k ∧ Lm w wr NB) (fun i _ => 14 - (intOf i).toNat)
      case atStart => exact ⟨0, by omega, rfl, hb.alloc hb.size _, range_new' _ _ _ _ hNB, by simp [hNB]⟩
      case round =>
        clear hb hNB
        obtain ⟨k, hk, rfl, HM⟩ := hrel
        by_cases hk2 : k < 14
        · obtain ⟨av, ha, haB⟩ := lim_int k hk2
          have ca : wr.cell? ⟨NB, k, none⟩ = some (.int .i64 av) := by have := HM.r k _ ha; simpa using this
          have kk : (0 : Int) ≤ k ∧ (k : Int) ≤ 13 := by omega
          have kd : decide ((k : Int) < 14) = true := by simp; omega
          clear ha
          go_wp2_with fail
          clear ca
          go_loopw [51] (fun i wr => ∃ j : Nat, j ≤ 14 ∧ i = .int .i64 j ∧ Lm w wr NB) (fun i _ => 14 - (intOf i).toNat)
          case atStart => exact ⟨0, by omega, rfl, HM⟩
          case round =>
            clear HM
            obtain ⟨j, hj, rfl, HM⟩ := hrel
            by_cases hj2 : j < 14
            · obtain ⟨bv, hbb, hbB⟩ := lim_int j hj2
              obtain ⟨M1, m1⟩ : ∃ M : Nat, (k + j) % 14 = M := ⟨_, rfl⟩
              obtain ⟨M2, m2⟩ : ∃ M : Nat, (2 * k + j) % 14 = M := ⟨_, rfl⟩
              obtain ⟨v1, hv1, vB1⟩ := lim_int M1 (by omega)
              obtain ⟨v2, hv2, vB2⟩ := lim_int M2 (by omega)
              have cb : wr.cell? ⟨NB, j, none⟩ = some (.int .i64 bv) := by have := HM.r j _ hbb; simpa using this
              have c1 : wr.cell? ⟨NB, M1, none⟩ = some (.int .i64 v1) := by have := HM.r M1 _ hv1; simpa using this
              have c2 : wr.cell? ⟨NB, M2, none⟩ = some (.int .i64 v2) := by have := HM.r M2 _ hv2; simpa using this
              have jj : (0 : Int) ≤ j ∧ (j : Int) ≤ 13 := by omega
              have jd : decide ((j : Int) < 14) = true := by simp; omega
              have e1 : ((k : Int) + j) % 14 = M1 := by omega
              have e1t : ((k : Int) + j).tmod 14 = M1 := by rw [Int.tmod_eq_emod_of_nonneg (by omega)]; omega
              have e2 : (2 * (k : Int) + j) % 14 = M2 := by omega
              have e2t : (2 * (k : Int) + j).tmod 14 = M2 := by rw [Int.tmod_eq_emod_of_nonneg (by omega)]; omega
              have g1 : (0 : Int) ≤ M1 ∧ (M1 : Int) ≤ 13 := by omega
              have g2 : (0 : Int) ≤ M2 ∧ (M2 : Int) ≤ 13 := by omega
              obtain ⟨mn, hmn⟩ : ∃ m, (if 1048575 < av then 1048575 else av) = m := ⟨_, rfl⟩
              clear hbb hv1 hv2 hbB vB1 vB2 m1 m2
              go_upto_region 22 with fail
              go_cut [101] (fun v wx => v = .bool false ∧ Below wr.heap.size wr wx)
              case first => 
                refine wp_region_steps 45 [[], [], [], [], [], [3, 4], [5], [2, 6], [7], [1, 8], [], [], [11], [], [12, 13], [14], [10, 15], [16], [], [0, 9, 17, 18], [19], [20, 19], [21], [21], [21], [21], [22, 23, 24, 25, 21], [26, 21], [21, 27], [28, 26], [29], [29], [29], [32, 29], [29], [30, 31, 33, 34, 29], [35, 29], [29, 36], [37, 35], [38], [38], [39, 40, 38], [38], [41, 42, 38], [43, 38]] (fun D a w' => ∃ g : Nat → Value, a = ⟨#[u0, .int .i64 x1, u2, u3, u4, .slice (some ⟨NB, 0, none⟩) 14 14, .int .i64 ↑k, .int .i64 av, .int .i64 ↑j, .int .i64 bv, u10, u11, undef, undef, undef, undef, undef, .int .i64 x1, .bool false, u19, u20, u21, u22, u23, u24, u25, u26, u27, u28, u29, u30, u31, u32, u33, u34, u35, u36, u37, u38, u39, u40, .slice (some ⟨NB, 0, none⟩) 14 14, .slice (some ⟨NB, 0, none⟩) 14 14, .int .i64 14, .int .i64 ↑k, .bool true, .int .i64 ↑k, .pointer (some ⟨NB, k, none⟩), .int .i64 av, .slice (some ⟨NB, 0, none⟩) 14 14, .int .i64 14, .int .i64 ↑j, .bool true, .int .i64 ↑j, .pointer (some ⟨NB, j, none⟩), .int .i64 bv, g 0, g 1, g 2, g 3, g 4, g 5, g 6, g 7, g 8, g 9, g 10, g 11, g 12, g 13, g 14, g 15, g 16, g 17, g 18, g 19, g 20, g 21, g 22, g 23, g 24, g 25, g 26, g 27, g 28, g 29, g 30, g 31, g 32, g 33, g 34, g 35, g 36, g 37, g 38, g 39, g 40, g 41, g 42, g 43, g 44, u101, u102, u103, u104, u105, u106, u107, u108, u109, u110, u111, u112, u113, u114, u115, u116, u117, u118, u119, u120, u121, u122, u123, u124, u125, u126, u127, u128, u129, u130, undef, undef, undef, undef, undef, undef, undef, undef, undef, undef, undef, undef, undef, undef, undef, undef, undef, undef, undef, undef, undef, undef, undef, undef, undef, undef, undef, undef, undef, undef, undef, undef, undef, undef, undef, undef, undef, undef, undef, undef, undef, undef, undef, undef, undef, undef, undef, undef, undef, undef, undef, undef, undef, undef, undef, undef, undef, undef, undef, undef, undef, undef, undef, undef, undef, undef, undef, undef, undef, undef, undef, undef], []⟩ ∧ Iv wr (fun i => (bv22 NB k j M1 M2 av bv v1 v2 mn).getD i undef) D g w') (by kernel_rfl) (by kernel_rfl) ⟨fun i => if i = 0 then u56 else if i = 1 then u57 else if i = 2 then u58 else if i = 3 then u59 else if i = 4 then u60 else if i = 5 then u61 else if i = 6 then u62 else if i = 7 then u63 else if i = 8 then u64 else if i = 9 then u65 else if i = 10 then u66 else if i = 11 then u67 else if i = 12 then u68 else if i = 13 then u69 else if i = 14 then u70 else if i = 15 then u71 else if i = 16 then u72 else if i = 17 then u73 else if i = 18 then u74 else if i = 19 then u75 else if i = 20 then u76 else if i = 21 then u77 else if i = 22 then u78 else if i = 23 then u79 else if i = 24 then u80 else if i = 25 then u81 else if i = 26 then u82 else if i = 27 then u83 else if i = 28 then u84 else if i = 29 then u85 else if i = 30 then u86 else if i = 31 then u87 else if i = 32 then u88 else if i = 33 then u89 else if i = 34 then u90 else if i = 35 then u91 else if i = 36 then u92 else if i = 37 then u93 else if i = 38 then u94 else if i = 39 then u95 else if i = 40 then u96 else if i = 41 then u97 else if i = 42 then u98 else if i = 43 then u99 else if i = 44 then u100 else undef, rfl, Iv.zero wr _ _⟩ ?_ ?_
                · simp only [List.take_succ_cons, List.take_zero]
                  refine ⟨?_, ?_, ?_, ?_, ?_, ?_, ?_, ?_, ?_, ?_, ?_, ?_, ?_, ?_, ?_, ?_, ?_, ?_, ?_, ?_, ?_, ?_, ?_, ?_, ?_, ?_, ?_, ?_, ?_, ?_, ?_, ?_, ?_, ?_, ?_, ?_, ?_, ?_, ?_, ?_, ?_, ?_, ?_, ?_, ?_, trivial⟩
                  · intro D a w' hn hp hI
                    obtain ⟨g, rfl, hR⟩ := hI
                    clear hn hp
                    go_wp2_with fail
                    exact ⟨fun ix => if ix = 0 then .int .i64 av else g ix, by rfl, hR.step 0 _ rfl (Below.refl _ _)⟩
                  · intro D a w' hn hp hI
                    obtain ⟨g, rfl, hR⟩ := hI
                    clear hn hp
                    go_wp2_with fail
                    exact ⟨fun ix => if ix = 1 then .int .i64 bv else g ix, by rfl, hR.step 1 _ rfl (Below.refl _ _)⟩
                  · intro D a w' hn hp hI
                    obtain ⟨g, rfl, hR⟩ := hI
                    clear hn hp
                    go_wp2_with fail
                    exact ⟨fun ix => if ix = 2 then .slice (some ⟨NB, 0, none⟩) 14 14 else g ix, by rfl, hR.step 2 _ rfl (Below.refl _ _)⟩
                  · intro D a w' hn hp hI
                    obtain ⟨g, rfl, hR⟩ := hI
                    clear hn hp
                    go_wp2_with fail
                    exact ⟨fun ix => if ix = 3 then .int .i64 (k : Int) else g ix, by rfl, hR.step 3 _ rfl (Below.refl _ _)⟩
                  · intro D a w' hn hp hI
                    obtain ⟨g, rfl, hR⟩ := hI
                    clear hn hp
                    go_wp2_with fail
                    exact ⟨fun ix => if ix = 4 then .int .i64 (j : Int) else g ix, by rfl, hR.step 4 _ rfl (Below.refl _ _)⟩
                  · intro D a w' hn hp hI
                    obtain ⟨g, rfl, hR⟩ := hI
                    have e3 : g 3 = .int .i64 (k : Int) := hR.e 3 hp.1
                    have e4 : g 4 = .int .i64 (j : Int) := hR.e 4 hp.2.1
                    rw [e3, e4]
                    clear hn hp
                    go_wp2_with fail
                    exact ⟨fun ix => if ix = 5 then .int .i64 ((k : Int) + (j : Int)) else g ix, by simp [e3, e4], hR.step 5 _ rfl (Below.refl _ _)⟩
                  · intro D a w' hn hp hI
                    obtain ⟨g, rfl, hR⟩ := hI
                    have e5 : g 5 = .int .i64 ((k : Int) + (j : Int)) := hR.e 5 hp.1
                    rw [e5]
                    clear hn hp
                    go_wp2_with fail
                    exact ⟨fun ix => if ix = 6 then .int .i64 (M1 : Int) else g ix, by simp [e5], hR.step 6 _ rfl (Below.refl _ _)⟩
                  · intro D a w' hn hp hI
                    obtain ⟨g, rfl, hR⟩ := hI
                    have e2 : g 2 = .slice (some ⟨NB, 0, none⟩) 14 14 := hR.e 2 hp.1
                    have e6 : g 6 = .int .i64 (M1 : Int) := hR.e 6 hp.2.1
                    rw [e2, e6]
                    clear hn hp
                    go_wp2_with fail
                    exact ⟨fun ix => if ix = 7 then .pointer (some ⟨NB, M1, none⟩) else g ix, by simp [e2, e6], hR.step 7 _ rfl (Below.refl _ _)⟩
                  · intro D a w' hn hp hI
                    obtain ⟨g, rfl, hR⟩ := hI
                    have e7 : g 7 = .pointer (some ⟨NB, M1, none⟩) := hR.e 7 hp.1
                    rw [e7]
                    have c1' := kc hR.b c1
                    clear hn hp
                    go_wp2_with fail
                    exact ⟨fun ix => if ix = 8 then .int .i64 v1 else g ix, by simp [e7], hR.step 8 _ rfl (Below.refl _ _)⟩
                  · intro D a w' hn hp hI
                    obtain ⟨g, rfl, hR⟩ := hI
                    have e1 : g 1 = .int .i64 bv := hR.e 1 hp.1
                    have e8 : g 8 = .int .i64 v1 := hR.e 8 hp.2.1
                    rw [e1, e8]
                    clear hn hp
                    go_wp2_with fail
                    exact ⟨fun ix => if ix = 9 then .agg #[.int .i64 bv, .int .i64 v1] else g ix, by simp [e1, e8], hR.step 9 _ rfl (Below.refl _ _)⟩
                  · intro D a w' hn hp hI
                    obtain ⟨g, rfl, hR⟩ := hI
                    clear hn hp
                    go_wp2_with fail
                    exact ⟨fun ix => if ix = 10 then .slice (some ⟨NB, 0, none⟩) 14 14 else g ix, by rfl, hR.step 10 _ rfl (Below.refl _ _)⟩
                  · intro D a w' hn hp hI
                    obtain ⟨g, rfl, hR⟩ := hI
                    clear hn hp
                    go_wp2_with fail
                    exact ⟨fun ix => if ix = 11 then .int .i64 (k : Int) else g ix, by rfl, hR.step 11 _ rfl (Below.refl _ _)⟩
                  · intro D a w' hn hp hI
                    obtain ⟨g, rfl, hR⟩ := hI
                    have e11 : g 11 = .int .i64 (k : Int) := hR.e 11 hp.1
                    rw [e11]
                    clear hn hp
                    go_wp2_with fail
                    exact ⟨fun ix => if ix = 12 then .int .i64 (2 * (k : Int)) else g ix, by simp [e11], hR.step 12 _ rfl (Below.refl _ _)⟩
                  · intro D a w' hn hp hI
                    obtain ⟨g, rfl, hR⟩ := hI
                    clear hn hp
                    go_wp2_with fail
                    exact ⟨fun ix => if ix = 13 then .int .i64 (j : Int) else g ix, by rfl, hR.step 13 _ rfl (Below.refl _ _)⟩
                  · intro D a w' hn hp hI
                    obtain ⟨g, rfl, hR⟩ := hI
                    have e12 : g 12 = .int .i64 (2 * (k : Int)) := hR.e 12 hp.1
                    have e13 : g 13 = .int .i64 (j : Int) := hR.e 13 hp.2.1
                    rw [e12, e13]
                    clear hn hp
                    go_wp2_with fail
                    exact ⟨fun ix => if ix = 14 then .int .i64 (2 * (k : Int) + (j : Int)) else g ix, by simp [e12, e13], hR.step 14 _ rfl (Below.refl _ _)⟩
                  · intro D a w' hn hp hI
                    obtain ⟨g, rfl, hR⟩ := hI
                    have e14 : g 14 = .int .i64 (2 * (k : Int) + (j : Int)) := hR.e 14 hp.1
                    rw [e14]
                    clear hn hp
                    go_wp2_with fail
                    exact ⟨fun ix => if ix = 15 then .int .i64 (M2 : Int) else g ix, by simp [e14], hR.step 15 _ rfl (Below.refl _ _)⟩
                  · intro D a w' hn hp hI
                    obtain ⟨g, rfl, hR⟩ := hI
                    have e10 : g 10 = .slice (some ⟨NB, 0, none⟩) 14 14 := hR.e 10 hp.1
                    have e15 : g 15 = .int .i64 (M2 : Int) := hR.e 15 hp.2.1
                    rw [e10, e15]
                    clear hn hp
                    go_wp2_with fail
                    exact ⟨fun ix => if ix = 16 then .pointer (some ⟨NB, M2, none⟩) else g ix, by simp [e10, e15], hR.step 16 _ rfl (Below.refl _ _)⟩
                  · intro D a w' hn hp hI
                    obtain ⟨g, rfl, hR⟩ := hI
                    have e16 : g 16 = .pointer (some ⟨NB, M2, none⟩) := hR.e 16 hp.1
                    rw [e16]
                    have c2' := kc hR.b c2
                    clear hn hp
                    go_wp2_with fail
                    exact ⟨fun ix => if ix = 17 then .int .i64 v2 else g ix, by simp [e16], hR.step 17 _ rfl (Below.refl _ _)⟩
                  · intro D a w' hn hp hI
                    obtain ⟨g, rfl, hR⟩ := hI
                    clear hn hp
                    go_wp2_with fail
                    exact ⟨fun ix => if ix = 18 then .int .i64 bv else g ix, by rfl, hR.step 18 _ rfl (Below.refl _ _)⟩
                  · intro D a w' hn hp hI
                    obtain ⟨g, rfl, hR⟩ := hI
                    have e0 : g 0 = .int .i64 av := hR.e 0 hp.1
                    have e9 : g 9 = .agg #[.int .i64 bv, .int .i64 v1] := hR.e 9 hp.2.1
                    have e17 : g 17 = .int .i64 v2 := hR.e 17 hp.2.2.1
                    have e18 : g 18 = .int .i64 bv := hR.e 18 hp.2.2.2.1
                    rw [e0, e9, e17, e18]
                    clear hn hp
                    go_wp2_with fail
                    refine (HTl.out _ _ _ _ _ _).mono ?_
                    rintro e w'' ⟨rfl, hb'⟩
                    go_wp2_with fail
                    exact ⟨fun ix => if ix = 19 then .bool true else g ix, by simp [e0, e9, e17, e18], hR.step 19 _ rfl hb'⟩
                  · intro D a w' hn hp hI
                    obtain ⟨g, rfl, hR⟩ := hI
                    have e19 : g 19 = .bool true := hR.e 19 hp.1
                    rw [e19]
                    clear hn hp
                    go_wp2_with fail
                    exact ⟨fun ix => if ix = 20 then .bool false else g ix, by simp [e19], hR.step 20 _ rfl (Below.refl _ _)⟩
                  · intro D a w' hn hp hI
                    obtain ⟨g, rfl, hR⟩ := hI
                    have e20 : g 20 = .bool false := hR.e 20 hp.1
                    have e19 : g 19 = .bool true := hR.e 19 hp.2.1
                    rw [e20, e19]
                    clear hn hp
                    go_wp2_with fail
                    exact ⟨fun ix => if ix = 21 then .bool false else g ix, by simp [e20, e19], hR.step 21 _ rfl (Below.refl _ _)⟩
                  · intro D a w' hn hp hI
                    obtain ⟨g, rfl, hR⟩ := hI
                    have e21 : g 21 = .bool false := hR.e 21 hp.1
                    rw [e21]
                    clear hn hp
                    go_wp2_with fail
                    exact ⟨fun ix => if ix = 22 then .int .i64 av else g ix, by simp [e21], hR.step 22 _ rfl (Below.refl _ _)⟩
                  · intro D a w' hn hp hI
                    obtain ⟨g, rfl, hR⟩ := hI
                    have e21 : g 21 = .bool false := hR.e 21 hp.1
                    rw [e21]
                    clear hn hp
                    go_wp2_with fail
                    exact ⟨fun ix => if ix = 23 then .agg #[.int .i64 0, .int .i64 1048576] else g ix, by simp [e21], hR.step 23 _ rfl (Below.refl _ _)⟩
                  · intro D a w' hn hp hI
                    obtain ⟨g, rfl, hR⟩ := hI
                    have e21 : g 21 = .bool false := hR.e 21 hp.1
                    rw [e21]
                    clear hn hp
                    go_wp2_with fail
                    exact ⟨fun ix => if ix = 24 then .int .i64 bv else g ix, by simp [e21], hR.step 24 _ rfl (Below.refl _ _)⟩
                  · intro D a w' hn hp hI
                    obtain ⟨g, rfl, hR⟩ := hI
                    have e21 : g 21 = .bool false := hR.e 21 hp.1
                    rw [e21]
                    clear hn hp
                    go_wp2_with fail
                    exact ⟨fun ix => if ix = 25 then .int .i64 bv else g ix, by simp [e21], hR.step 25 _ rfl (Below.refl _ _)⟩
                  · intro D a w' hn hp hI
                    obtain ⟨g, rfl, hR⟩ := hI
                    have e22 : g 22 = .int .i64 av := hR.e 22 hp.1
                    have e23 : g 23 = .agg #[.int .i64 0, .int .i64 1048576] := hR.e 23 hp.2.1
                    have e24 : g 24 = .int .i64 bv := hR.e 24 hp.2.2.1
                    have e25 : g 25 = .int .i64 bv := hR.e 25 hp.2.2.2.1
                    have e21 : g 21 = .bool false := hR.e 21 hp.2.2.2.2.1
                    rw [e22, e23, e24, e25, e21]
                    clear hn hp
                    go_wp2_with fail
                    refine (HTl.out _ _ _ _ _ _).mono ?_
                    rintro e w'' ⟨rfl, hb'⟩
                    go_wp2_with fail
                    exact ⟨fun ix => if ix = 26 then .bool true else g ix, by simp [e22, e23, e24, e25, e21], hR.step 26 _ rfl hb'⟩
                  · intro D a w' hn hp hI
                    obtain ⟨g, rfl, hR⟩ := hI
                    have e26 : g 26 = .bool true := hR.e 26 hp.1
                    have e21 : g 21 = .bool false := hR.e 21 hp.2.1
                    rw [e26, e21]
                    clear hn hp
                    go_wp2_with fail
                    exact ⟨fun ix => if ix = 27 then .bool false else g ix, by simp [e26, e21], hR.step 27 _ rfl (Below.refl _ _)⟩
                  · intro D a w' hn hp hI
                    obtain ⟨g, rfl, hR⟩ := hI
                    have e21 : g 21 = .bool false := hR.e 21 hp.1
                    have e27 : g 27 = .bool false := hR.e 27 hp.2.1
                    rw [e21, e27]
                    clear hn hp
                    go_wp2_with fail
                    exact ⟨fun ix => if ix = 28 then .bool false else g ix, by simp [e21, e27], hR.step 28 _ rfl (Below.refl _ _)⟩
                  · intro D a w' hn hp hI
                    obtain ⟨g, rfl, hR⟩ := hI
                    have e28 : g 28 = .bool false := hR.e 28 hp.1
                    have e26 : g 26 = .bool true := hR.e 26 hp.2.1
                    rw [e28, e26]
                    clear hn hp
                    go_wp2_with fail
                    exact ⟨fun ix => if ix = 29 then .bool false else g ix, by simp [e28, e26], hR.step 29 _ rfl (Below.refl _ _)⟩
                  · intro D a w' hn hp hI
                    obtain ⟨g, rfl, hR⟩ := hI
                    have e29 : g 29 = .bool false := hR.e 29 hp.1
                    rw [e29]
                    clear hn hp
                    go_wp2_with fail
                    exact ⟨fun ix => if ix = 30 then .int .i64 bv else g ix, by simp [e29], hR.step 30 _ rfl (Below.refl _ _)⟩
                  · intro D a w' hn hp hI
                    obtain ⟨g, rfl, hR⟩ := hI
                    have e29 : g 29 = .bool false := hR.e 29 hp.1
                    rw [e29]
                    clear hn hp
                    go_wp2_with fail
                    exact ⟨fun ix => if ix = 31 then .agg #[.int .i64 5, .int .i64 1048576] else g ix, by simp [e29], hR.step 31 _ rfl (Below.refl _ _)⟩
                  · intro D a w' hn hp hI
                    obtain ⟨g, rfl, hR⟩ := hI
                    have e29 : g 29 = .bool false := hR.e 29 hp.1
                    rw [e29]
                    clear hn hp
                    go_wp2_with fail
                    exact ⟨fun ix => if ix = 32 then .int .i64 av else g ix, by simp [e29], hR.step 32 _ rfl (Below.refl _ _)⟩
                  · intro D a w' hn hp hI
                    obtain ⟨g, rfl, hR⟩ := hI
                    have e32 : g 32 = .int .i64 av := hR.e 32 hp.1
                    have e29 : g 29 = .bool false := hR.e 29 hp.2.1
                    rw [e32, e29]
                    clear hn hp
                    go_wp2_with fail
                    exact ⟨fun ix => if ix = 33 then .int .i64 mn else g ix, by simp [e32, e29], hR.step 33 _ rfl (Below.refl _ _)⟩
                  · intro D a w' hn hp hI
                    obtain ⟨g, rfl, hR⟩ := hI
                    have e29 : g 29 = .bool false := hR.e 29 hp.1
                    rw [e29]
                    clear hn hp
                    go_wp2_with fail
                    exact ⟨fun ix => if ix = 34 then .int .i64 av else g ix, by simp [e29], hR.step 34 _ rfl (Below.refl _ _)⟩
                  · intro D a w' hn hp hI
                    obtain ⟨g, rfl, hR⟩ := hI
                    have e30 : g 30 = .int .i64 bv := hR.e 30 hp.1
                    have e31 : g 31 = .agg #[.int .i64 5, .int .i64 1048576] := hR.e 31 hp.2.1
                    have e33 : g 33 = .int .i64 mn := hR.e 33 hp.2.2.1
                    have e34 : g 34 = .int .i64 av := hR.e 34 hp.2.2.2.1
                    have e29 : g 29 = .bool false := hR.e 29 hp.2.2.2.2.1
                    rw [e30, e31, e33, e34, e29]
                    clear hn hp
                    go_wp2_with fail
                    refine (HTl.out _ _ _ _ _ _).mono ?_
                    rintro e w'' ⟨rfl, hb'⟩
                    go_wp2_with fail
                    exact ⟨fun ix => if ix = 35 then .bool true else g ix, by simp [e30, e31, e33, e34, e29], hR.step 35 _ rfl hb'⟩
                  · intro D a w' hn hp hI
                    obtain ⟨g, rfl, hR⟩ := hI
                    have e35 : g 35 = .bool true := hR.e 35 hp.1
                    have e29 : g 29 = .bool false := hR.e 29 hp.2.1
                    rw [e35, e29]
                    clear hn hp
                    go_wp2_with fail
                    exact ⟨fun ix => if ix = 36 then .bool false else g ix, by simp [e35, e29], hR.step 36 _ rfl (Below.refl _ _)⟩
                  · intro D a w' hn hp hI
                    obtain ⟨g, rfl, hR⟩ := hI
                    have e29 : g 29 = .bool false := hR.e 29 hp.1
                    have e36 : g 36 = .bool false := hR.e 36 hp.2.1
                    rw [e29, e36]
                    clear hn hp
                    go_wp2_with fail
                    exact ⟨fun ix => if ix = 37 then .bool false else g ix, by simp [e29, e36], hR.step 37 _ rfl (Below.refl _ _)⟩
                  · intro D a w' hn hp hI
                    obtain ⟨g, rfl, hR⟩ := hI
                    have e37 : g 37 = .bool false := hR.e 37 hp.1
                    have e35 : g 35 = .bool true := hR.e 35 hp.2.1
                    rw [e37, e35]
                    clear hn hp
                    go_wp2_with fail
                    exact ⟨fun ix => if ix = 38 then .bool false else g ix, by simp [e37, e35], hR.step 38 _ rfl (Below.refl _ _)⟩
                  · intro D a w' hn hp hI
                    obtain ⟨g, rfl, hR⟩ := hI
                    have e38 : g 38 = .bool false := hR.e 38 hp.1
                    rw [e38]
                    clear hn hp
                    go_wp2_with fail
                    exact ⟨fun ix => if ix = 39 then .int .i64 av else g ix, by simp [e38], hR.step 39 _ rfl (Below.refl _ _)⟩
                  · intro D a w' hn hp hI
                    obtain ⟨g, rfl, hR⟩ := hI
                    have e38 : g 38 = .bool false := hR.e 38 hp.1
                    rw [e38]
                    clear hn hp
                    go_wp2_with fail
                    exact ⟨fun ix => if ix = 40 then .int .i64 bv else g ix, by simp [e38], hR.step 40 _ rfl (Below.refl _ _)⟩
                  · intro D a w' hn hp hI
                    obtain ⟨g, rfl, hR⟩ := hI
                    have e39 : g 39 = .int .i64 av := hR.e 39 hp.1
                    have e40 : g 40 = .int .i64 bv := hR.e 40 hp.2.1
                    have e38 : g 38 = .bool false := hR.e 38 hp.2.2.1
                    rw [e39, e40, e38]
                    clear hn hp
                    go_wp2_with fail
                    exact ⟨fun ix => if ix = 41 then .agg #[.int .i64 av, .int .i64 bv] else g ix, by simp [e39, e40, e38], hR.step 41 _ rfl (Below.refl _ _)⟩
                  · intro D a w' hn hp hI
                    obtain ⟨g, rfl, hR⟩ := hI
                    have e38 : g 38 = .bool false := hR.e 38 hp.1
                    rw [e38]
                    clear hn hp
                    go_wp2_with fail
                    exact ⟨fun ix => if ix = 42 then .int .i64 (j : Int) else g ix, by simp [e38], hR.step 42 _ rfl (Below.refl _ _)⟩
                  · intro D a w' hn hp hI
                    obtain ⟨g, rfl, hR⟩ := hI
                    have e41 : g 41 = .agg #[.int .i64 av, .int .i64 bv] := hR.e 41 hp.1
                    have e42 : g 42 = .int .i64 (j : Int) := hR.e 42 hp.2.1
                    have e38 : g 38 = .bool false := hR.e 38 hp.2.2.1
                    rw [e41, e42, e38]
                    clear hn hp
                    go_wp2_with fail
                    refine (HTl.out _ _ _ _ _ _).mono ?_
                    rintro e w'' ⟨rfl, hb'⟩
                    go_wp2_with fail
                    exact ⟨fun ix => if ix = 43 then .bool true else g ix, by simp [e41, e42, e38], hR.step 43 _ rfl hb'⟩
                  · intro D a w' hn hp hI
                    obtain ⟨g, rfl, hR⟩ := hI
                    have e43 : g 43 = .bool true := hR.e 43 hp.1
                    have e38 : g 38 = .bool false := hR.e 38 hp.2.1
                    rw [e43, e38]
                    clear hn hp
                    go_wp2_with fail
                    exact ⟨fun ix => if ix = 44 then .bool false else g ix, by simp [e43, e38], hR.step 44 _ rfl (Below.refl _ _)⟩
                intro D a w' hD hI
                obtain ⟨g22, rfl, hR⟩ := hI
                have e38 : g22 38 = .bool false := hR.e 38 (hD 38 (by decide))
                have e44 : g22 44 = .bool false := hR.e 44 (hD 44 (by decide))
                rw [e38, e44]
                have dR := hR.b
                clear hD hR e38 e44
                simp only [List.drop_succ_cons, List.drop_zero]
                go_wp2_with fail
                go_meet
                exact ⟨rfl, dR⟩
              obtain ⟨rfl, dX⟩ := hcut
              have HM2 := HM.below dX
              clear dX HM
              go_wp2_with fail
              go_roundw
              case rel => exact ⟨j + 1, by omega, by go_num, HM2⟩
              case measure => simp [intOf]; omega
            · obtain rfl : j = 14 := by omega
              rw [show ((14 : Nat) : Int) = 14 from rfl]
              have jd : decide ((14 : Int) < 14) = false := by decide
              go_upto_region 25 with fail
              go_cut [10] (fun v wx => ∃ p : Nat, v = .pointer (some ⟨p, 0, none⟩) ∧ Bs w wx NB p nl)
              case first => 
                go_wp2_with fail
                go_meet
                have hlt := HM.lt
                have hsz := HM.b.size
                exact ⟨_, rfl, HM.below ((Below.refl _ _).alloc (Nat.le_refl _) _), hsz, by omega, range_new _ _ _, there_new _ _ _ _ _ rfl rfl⟩
              obtain ⟨p, rfl, HB⟩ := hcut
              obtain ⟨X, hX⟩ : ∃ X, X = wc := ⟨_, rfl⟩
              subst hX
              clear HM
              go_wp2_with fail
              go_loopw [104] (fun i wr => ∃ c : Nat, c ≤ 11 ∧ i = .int .u8 c ∧ Bs w wr NB p nl) (fun i _ => 11 - (intOf i).toNat)
              case atStart => exact ⟨0, by omega, rfl, HB⟩
              case round =>
                clear HB
                obtain ⟨c, hc, rfl, HB⟩ := hrel
                by_cases hc2 : c < 11
                · obtain ⟨m, hm⟩ : ∃ m, c % 9 = m := ⟨_, rfl⟩
                  have hm9 : m < 9 := by omega
                  have cd : decide ((c : Int) < 11) = true := by simp; omega
                  have et : (c : Int).tmod 9 = (m : Int) := by rw [Int.tmod_eq_emod_of_nonneg (by omega)]; omega
                  have ee : (c : Int) % 9 = (m : Int) := by omega
                  have cc : (0 : Int) ≤ c ∧ (c : Int) ≤ 10 := by omega
                  have mm : (0 : Int) ≤ m ∧ (m : Int) ≤ 8 := by omega
                  have RB := HB.r
                  clear hm
                  go_wp2_with (refine wpList_load_wide 42 _ rfl (by rfl) _ _ rfl (nn nl) _ Tryd.underlying42 rfl (nn_hi _) ?_ ?_; · with_reducible assumption)
                  refine (bases_nn nl c 2 9 k _ (by omega)).mono ?_
                  rintro e w1 ⟨rfl, hv1⟩
                  have HB1 := HB.below hv1
                  have HB2 := HB1.put m av (nn_set m av hm9)
                  have fz := HB1.free m hm9
                  have cm := HB1.cell m hm9
                  have RB2 := HB2.r
                  clear HB RB hv1
                  go_wp2_with (refine wpList_load_wide 42 _ rfl (by rfl) _ _ rfl (nn (nw m av)) _ Tryd.underlying42 rfl (nn_hi _) ?_ ?_; · with_reducible assumption)
                  refine (bases_nn (nw m av) c 2 9 6 _ (by omega)).mono ?_
                  rintro e w2 ⟨rfl, hv2⟩
                  have HB3 := HB2.below hv2
                  have HB4 := HB3.put m ((m : Int) + 1) (nn_back m av _ hm9 rfl)
                  have fz := HB3.free m hm9
                  have cm := HB3.cell m hm9
                  clear HB1 HB2 RB2 hv2
                  go_wp2_with fail
                  go_roundw
                  case rel => exact ⟨c + 1, by omega, by go_num, HB4⟩
                  case measure => simp [intOf]; omega
                · obtain rfl : c = 11 := by omega
                  rw [show ((11 : Nat) : Int) = 11 from rfl]
                  have cd : decide ((11 : Int) < 11) = false := by decide
                  go_wp2_with fail
                  go_roundw
                  case rel => exact ⟨k + 1, by omega, by go_num, HB.l⟩
                  case measure => simp [intOf]; omega
        · obtain rfl : k = 14 := by omega
          rw [show ((14 : Nat) : Int) = 14 from rfl]
          have kd : decide ((14 : Int) < 14) = false := by decide
          have hb := HM.b
          clear HM
          go_wp2_with fail
          go_loopw [131] (fun i wr => ∃ n : Nat, n ≤ 256 ∧ i = .int .i64 n ∧ Below w.heap.size w wr) (fun i _ => 256 - (intOf i).toNat)
          case atStart => exact ⟨0, by omega, rfl, hb⟩
          case round =>
            clear hb
            obtain ⟨n, hn, rfl, hb⟩ := hrel
            by_cases hn2 : n < 256
            · have nd : decide ((n : Int) < 256) = true := by simp; omega
              have n8 : (n : Int) % 256 = n := by omega
              have nw8 : IntKind.u8.wrap (n : Int) = n := by unfold IntKind.wrap; simp [IntKind.bits, IntKind.signed]; omega
              go_wp2_with fail
              refine (names_any n _ _ (HT.out.below hb) (by omega)).mono ?_
              rintro e w1 ⟨rfl, hv1⟩
              have hb1 := bthen hb hv1
              clear hv1 hb
              go_wp2_with fail
              go_roundw
              case rel => exact ⟨n + 1, by omega, by go_num, hb1⟩
              case measure => simp [intOf]; omega
            · obtain rfl : n = 256 := by omega
              rw [show ((256 : Nat) : Int) = 256 from rfl]
              have nd : decide ((256 : Int) < 256) = false := by decide
              go_wp2_with fail
              go_loopw [139] (fun i wr => ∃ c : Nat, c ≤ 9 ∧ i = .int .u8 c ∧ Below w.heap.size w wr) (fun i _ => 9 - (intOf i).toNat)
              case atStart => exact ⟨0, by omega, rfl, hb⟩
              case round =>
                clear hb
                obtain ⟨c, hc, rfl, hb⟩ := hrel
                by_cases hc2 : c < 9
                · have cd : decide ((c : Int) < 9) = true := by simp; omega
                  have cc : (0 : Int) ≤ c ∧ (c : Int) ≤ 8 := by omega
                  go_wp2_with fail
                  refine (rname_any c _ (by omega)).mono ?_
                  rintro e w1 ⟨rfl, hv1⟩
                  have hb1 := bthen hb hv1
                  clear hv1 hb
                  go_wp2_with fail
                  obtain ⟨s, hs⟩ : ∃ s, nmi (c : Int) = s := ⟨_, rfl⟩
                  rw [hs]
                  have hsz := nmi_small c hc2
                  rw [hs] at hsz
                  have H0 : It w (w1.iter s 0) w1.heap.size s 0 := .new hb1
                  generalize w1.iter s 0 = W0 at H0 ⊢
                  obtain ⟨B, hB⟩ : ∃ n, w1.heap.size = n := ⟨_, rfl⟩
                  rw [hB] at H0 ⊢
                  clear hB hs hb1
                  go_loopw [16] (fun v wr => ∃ pos : Nat, It w wr B s pos) (fun _ wr => s.size - wr.iterPos B)
                  case atStart => exact ⟨0, H0⟩
                  case round =>
                    clear H0
                    obtain ⟨pos, HI⟩ := hrel
                    by_cases hps : pos < s.size
                    · have hnx := fun ty => next_any (P := Tryd.prog) wr B s pos HI.it hps ty
                      have HI1 := HI.next (pos + (Utf8.decode s pos).2)
                      have hip := HI.pos
                      have hwd := width_pos s pos hps
                      generalize hW1 : ({ wr with heap := wr.heap.setIfInBounds B (.stringIter s (pos + (Utf8.decode s pos).2)) } : World) = W1 at hnx HI1
                      clear hW1 HI
                      obtain ⟨p2, hp2⟩ : ∃ n, pos + (Utf8.decode s pos).2 = n := ⟨_, rfl⟩
                      rw [hp2] at HI1
                      obtain ⟨rn, hrn⟩ : ∃ n, (Utf8.decode s pos).1 = n := ⟨_, rfl⟩
                      rw [hrn] at hnx
                      have hp3 : pos < p2 := by omega
                      clear hrn
                      have q0 : (0 : Int) ≤ pos := by omega
                      have q1 : (pos : Int) ≤ s.size := by omega
                      have q2 : (0 : Int) ≤ (pos : Int) + 1 := by omega
                      have q3 : (pos : Int) + 1 ≤ s.size := by omega
                      have q4 : IntKind.i64.wrap ((pos : Int) + 1) = (pos : Int) + 1 := IntWalk.i64_in _ (by omega)
                      go_upto_region 50 with fail
                      go_cut [200] (fun v wx => v = .bool false ∧ Below W1.heap.size W1 wx)
                      case first => 
                        refine wp_region_steps 48 [[], [], [0, 1], [2], [3], [4], [4], [4], [6, 7, 4], [4], [4], [10, 4], [9, 11, 4], [8, 12, 4], [5, 13, 4], [14, 4], [4, 15], [16], [17], [17], [17], [19, 20, 17], [21, 17], [17], [17], [24, 17], [23, 25, 17], [22, 26, 17], [18, 27, 17], [28, 17], [17, 29], [30], [31], [31], [31], [33, 34, 31], [32, 35, 31], [36, 31], [31, 37], [38], [39], [39], [39], [39], [42, 43, 39], [41, 44, 39], [40, 45, 39], [46, 39]] (fun D a w' => ∃ g : Nat → Value, a = ⟨#[u0, .int .i64 x1, u2, u3, u4, .slice (some ⟨NB, 0, none⟩) 14 14, u6, u7, u8, u9, u10, u11, u12, .int .u8 ↑c, .string s, .int .i64 (nme ↑c), .int .i64 ↑pos, .int .i64 x1, .bool false, u19, u20, u21, u22, u23, u24, u25, u26, u27, u28, u29, u30, u31, u32, u33, u34, u35, u36, u37, u38, u39, u40, .slice (some ⟨NB, 0, none⟩) 14 14, .slice (some ⟨NB, 0, none⟩) 14 14, .int .i64 14, .int .i64 14, .bool false, u46, u47, u48, u49, u50, u51, u52, u53, u54, u55, u56, u57, u58, u59, u60, u61, u62, u63, u64, u65, u66, u67, u68, u69, u70, u71, u72, u73, u74, u75, u76, u77, u78, u79, u80, u81, u82, u83, u84, u85, u86, u87, u88, u89, u90, u91, u92, u93, u94, u95, u96, u97, u98, u99, u100, u101, u102, u103, u104, u105, u106, u107, u108, u109, u110, u111, u112, u113, u114, u115, u116, u117, u118, u119, u120, u121, u122, u123, u124, u125, u126, u127, u128, u129, u130, .int .i64 256, .bool false, u133, u134, u135, u136, u137, u138, .int .u8 ↑c, .bool true, .int .u8 ↑c, .tuple #[.string s, .int .i64 (nme ↑c)], .int .u8 ↑c, .tuple #[.string s, .int .i64 (nme ↑c)], .string s, .int .i64 (nme ↑c), .string s, .pointer (some ⟨B, 0, none⟩), .tuple #[.bool true, .int .i64 ↑pos, .int .i32 ↑rn], .bool true, .int .i64 ↑pos, g 0, g 1, g 2, g 3, g 4, g 5, g 6, g 7, g 8, g 9, g 10, g 11, g 12, g 13, g 14, g 15, g 16, g 17, g 18, g 19, g 20, g 21, g 22, g 23, g 24, g 25, g 26, g 27, g 28, g 29, g 30, g 31, g 32, g 33, g 34, g 35, g 36, g 37, g 38, g 39, g 40, g 41, g 42, g 43, g 44, g 45, g 46, g 47, u200, u201, undef], []⟩ ∧ Iv W1 (fun i => (nv50 c pos s).getD i undef) D g w') (by kernel_rfl) (by kernel_rfl) ⟨fun i => if i = 0 then u152 else if i = 1 then u153 else if i = 2 then u154 else if i = 3 then u155 else if i = 4 then u156 else if i = 5 then u157 else if i = 6 then u158 else if i = 7 then u159 else if i = 8 then u160 else if i = 9 then u161 else if i = 10 then u162 else if i = 11 then u163 else if i = 12 then u164 else if i = 13 then u165 else if i = 14 then u166 else if i = 15 then u167 else if i = 16 then u168 else if i = 17 then u169 else if i = 18 then u170 else if i = 19 then u171 else if i = 20 then u172 else if i = 21 then u173 else if i = 22 then u174 else if i = 23 then u175 else if i = 24 then u176 else if i = 25 then u177 else if i = 26 then u178 else if i = 27 then u179 else if i = 28 then u180 else if i = 29 then u181 else if i = 30 then u182 else if i = 31 then u183 else if i = 32 then u184 else if i = 33 then u185 else if i = 34 then u186 else if i = 35 then u187 else if i = 36 then u188 else if i = 37 then u189 else if i = 38 then u190 else if i = 39 then u191 else if i = 40 then u192 else if i = 41 then u193 else if i = 42 then u194 else if i = 43 then u195 else if i = 44 then u196 else if i = 45 then u197 else if i = 46 then u198 else if i = 47 then u199 else undef, rfl, Iv.zero W1 _ _⟩ ?_ ?_
                        · simp only [List.take_succ_cons, List.take_zero]
                          refine ⟨?_, ?_, ?_, ?_, ?_, ?_, ?_, ?_, ?_, ?_, ?_, ?_, ?_, ?_, ?_, ?_, ?_, ?_, ?_, ?_, ?_, ?_, ?_, ?_, ?_, ?_, ?_, ?_, ?_, ?_, ?_, ?_, ?_, ?_, ?_, ?_, ?_, ?_, ?_, ?_, ?_, ?_, ?_, ?_, ?_, ?_, ?_, ?_, trivial⟩
                          · intro D a w' hn hp hI
                            obtain ⟨g, rfl, hR⟩ := hI
                            clear hn hp
                            go_wp2_with fail
                            exact ⟨fun ix => if ix = 0 then .int .u8 (c : Int) else g ix, by rfl, hR.step 0 _ rfl (Below.refl _ _)⟩
                          · intro D a w' hn hp hI
                            obtain ⟨g, rfl, hR⟩ := hI
                            clear hn hp
                            go_wp2_with fail
                            exact ⟨fun ix => if ix = 1 then .string s else g ix, by rfl, hR.step 1 _ rfl (Below.refl _ _)⟩
                          · intro D a w' hn hp hI
                            obtain ⟨g, rfl, hR⟩ := hI
                            have e0 : g 0 = .int .u8 (c : Int) := hR.e 0 hp.1
                            have e1 : g 1 = .string s := hR.e 1 hp.2.1
                            rw [e0, e1]
                            clear hn hp
                            go_wp2_with fail
                            refine (names_any c _ _ (HT.out.below (HI1.below hR.b).b) (by omega)).mono ?_
                            rintro e w'' ⟨rfl, hb'⟩
                            go_wp2_with fail
                            exact ⟨fun ix => if ix = 2 then .bool true else g ix, by simp [e0, e1], hR.step 2 _ rfl hb'⟩
                          · intro D a w' hn hp hI
                            obtain ⟨g, rfl, hR⟩ := hI
                            have e2 : g 2 = .bool true := hR.e 2 hp.1
                            rw [e2]
                            clear hn hp
                            go_wp2_with fail
                            exact ⟨fun ix => if ix = 3 then .bool false else g ix, by simp [e2], hR.step 3 _ rfl (Below.refl _ _)⟩
                          · intro D a w' hn hp hI
                            obtain ⟨g, rfl, hR⟩ := hI
                            have e3 : g 3 = .bool false := hR.e 3 hp.1
                            rw [e3]
                            clear hn hp
                            go_wp2_with fail
                            exact ⟨fun ix => if ix = 4 then .bool false else g ix, by simp [e3], hR.step 4 _ rfl (Below.refl _ _)⟩
                          · intro D a w' hn hp hI
                            obtain ⟨g, rfl, hR⟩ := hI
                            have e4 : g 4 = .bool false := hR.e 4 hp.1
                            rw [e4]
                            clear hn hp
                            go_wp2_with fail
                            exact ⟨fun ix => if ix = 5 then .int .u8 (c : Int) else g ix, by simp [e4], hR.step 5 _ rfl (Below.refl _ _)⟩
                          · intro D a w' hn hp hI
                            obtain ⟨g, rfl, hR⟩ := hI
                            have e4 : g 4 = .bool false := hR.e 4 hp.1
                            rw [e4]
                            clear hn hp
                            go_wp2_with fail
                            exact ⟨fun ix => if ix = 6 then .string s else g ix, by simp [e4], hR.step 6 _ rfl (Below.refl _ _)⟩
                          · intro D a w' hn hp hI
                            obtain ⟨g, rfl, hR⟩ := hI
                            have e4 : g 4 = .bool false := hR.e 4 hp.1
                            rw [e4]
                            clear hn hp
                            go_wp2_with fail
                            exact ⟨fun ix => if ix = 7 then .int .i64 (pos : Int) else g ix, by simp [e4], hR.step 7 _ rfl (Below.refl _ _)⟩
                          · intro D a w' hn hp hI
                            obtain ⟨g, rfl, hR⟩ := hI
                            have e6 : g 6 = .string s := hR.e 6 hp.1
                            have e7 : g 7 = .int .i64 (pos : Int) := hR.e 7 hp.2.1
                            have e4 : g 4 = .bool false := hR.e 4 hp.2.2.1
                            rw [e6, e7, e4]
                            clear hn hp
                            go_wp2_with fail
                            exact ⟨fun ix => if ix = 8 then .string (s.extract 0 pos) else g ix, by simp [e6, e7, e4], hR.step 8 _ rfl (Below.refl _ _)⟩
                          · intro D a w' hn hp hI
                            obtain ⟨g, rfl, hR⟩ := hI
                            have e4 : g 4 = .bool false := hR.e 4 hp.1
                            rw [e4]
                            clear hn hp
                            go_wp2_with fail
                            exact ⟨fun ix => if ix = 9 then .string s else g ix, by simp [e4], hR.step 9 _ rfl (Below.refl _ _)⟩
                          · intro D a w' hn hp hI
                            obtain ⟨g, rfl, hR⟩ := hI
                            have e4 : g 4 = .bool false := hR.e 4 hp.1
                            rw [e4]
                            clear hn hp
                            go_wp2_with fail
                            exact ⟨fun ix => if ix = 10 then .int .i64 (pos : Int) else g ix, by simp [e4], hR.step 10 _ rfl (Below.refl _ _)⟩
                          · intro D a w' hn hp hI
                            obtain ⟨g, rfl, hR⟩ := hI
                            have e10 : g 10 = .int .i64 (pos : Int) := hR.e 10 hp.1
                            have e4 : g 4 = .bool false := hR.e 4 hp.2.1
                            rw [e10, e4]
                            clear hn hp
                            go_wp2_with fail
                            exact ⟨fun ix => if ix = 11 then .int .i64 ((pos : Int) + 1) else g ix, by simp [e10, e4], hR.step 11 _ rfl (Below.refl _ _)⟩
                          · intro D a w' hn hp hI
                            obtain ⟨g, rfl, hR⟩ := hI
                            have e9 : g 9 = .string s := hR.e 9 hp.1
                            have e11 : g 11 = .int .i64 ((pos : Int) + 1) := hR.e 11 hp.2.1
                            have e4 : g 4 = .bool false := hR.e 4 hp.2.2.1
                            rw [e9, e11, e4]
                            clear hn hp
                            go_wp2_with fail
                            exact ⟨fun ix => if ix = 12 then .string (s.extract (pos + 1) s.size) else g ix, by simp [e9, e11, e4], hR.step 12 _ rfl (Below.refl _ _)⟩
                          · intro D a w' hn hp hI
                            obtain ⟨g, rfl, hR⟩ := hI
                            have e8 : g 8 = .string (s.extract 0 pos) := hR.e 8 hp.1
                            have e12 : g 12 = .string (s.extract (pos + 1) s.size) := hR.e 12 hp.2.1
                            have e4 : g 4 = .bool false := hR.e 4 hp.2.2.1
                            rw [e8, e12, e4]
                            clear hn hp
                            go_wp2_with fail
                            exact ⟨fun ix => if ix = 13 then .string (s.extract 0 pos ++ s.extract (pos + 1) s.size) else g ix, by simp [e8, e12, e4], hR.step 13 _ rfl (Below.refl _ _)⟩
                          · intro D a w' hn hp hI
                            obtain ⟨g, rfl, hR⟩ := hI
                            have e5 : g 5 = .int .u8 (c : Int) := hR.e 5 hp.1
                            have e13 : g 13 = .string (s.extract 0 pos ++ s.extract (pos + 1) s.size) := hR.e 13 hp.2.1
                            have e4 : g 4 = .bool false := hR.e 4 hp.2.2.1
                            rw [e5, e13, e4]
                            clear hn hp
                            go_wp2_with fail
                            refine (names_any c _ _ (HT.out.below (HI1.below hR.b).b) (by omega)).mono ?_
                            rintro e w'' ⟨rfl, hb'⟩
                            go_wp2_with fail
                            exact ⟨fun ix => if ix = 14 then .bool true else g ix, by simp [e5, e13, e4], hR.step 14 _ rfl hb'⟩
                          · intro D a w' hn hp hI
                            obtain ⟨g, rfl, hR⟩ := hI
                            have e14 : g 14 = .bool true := hR.e 14 hp.1
                            have e4 : g 4 = .bool false := hR.e 4 hp.2.1
                            rw [e14, e4]
                            clear hn hp
                            go_wp2_with fail
                            exact ⟨fun ix => if ix = 15 then .bool false else g ix, by simp [e14, e4], hR.step 15 _ rfl (Below.refl _ _)⟩
                          · intro D a w' hn hp hI
                            obtain ⟨g, rfl, hR⟩ := hI
                            have e4 : g 4 = .bool false := hR.e 4 hp.1
                            have e15 : g 15 = .bool false := hR.e 15 hp.2.1
                            rw [e4, e15]
                            clear hn hp
                            go_wp2_with fail
                            exact ⟨fun ix => if ix = 16 then .bool false else g ix, by simp [e4, e15], hR.step 16 _ rfl (Below.refl _ _)⟩
                          · intro D a w' hn hp hI
                            obtain ⟨g, rfl, hR⟩ := hI
                            have e16 : g 16 = .bool false := hR.e 16 hp.1
                            rw [e16]
                            clear hn hp
                            go_wp2_with fail
                            exact ⟨fun ix => if ix = 17 then .bool false else g ix, by simp [e16], hR.step 17 _ rfl (Below.refl _ _)⟩
                          · intro D a w' hn hp hI
                            obtain ⟨g, rfl, hR⟩ := hI
                            have e17 : g 17 = .bool false := hR.e 17 hp.1
                            rw [e17]
                            clear hn hp
                            go_wp2_with fail
                            exact ⟨fun ix => if ix = 18 then .int .u8 (c : Int) else g ix, by simp [e17], hR.step 18 _ rfl (Below.refl _ _)⟩
                          · intro D a w' hn hp hI
                            obtain ⟨g, rfl, hR⟩ := hI
                            have e17 : g 17 = .bool false := hR.e 17 hp.1
                            rw [e17]
                            clear hn hp
                            go_wp2_with fail
                            exact ⟨fun ix => if ix = 19 then .string s else g ix, by simp [e17], hR.step 19 _ rfl (Below.refl _ _)⟩
                          · intro D a w' hn hp hI
                            obtain ⟨g, rfl, hR⟩ := hI
                            have e17 : g 17 = .bool false := hR.e 17 hp.1
                            rw [e17]
                            clear hn hp
                            go_wp2_with fail
                            exact ⟨fun ix => if ix = 20 then .int .i64 (pos : Int) else g ix, by simp [e17], hR.step 20 _ rfl (Below.refl _ _)⟩
                          · intro D a w' hn hp hI
                            obtain ⟨g, rfl, hR⟩ := hI
                            have e19 : g 19 = .string s := hR.e 19 hp.1
                            have e20 : g 20 = .int .i64 (pos : Int) := hR.e 20 hp.2.1
                            have e17 : g 17 = .bool false := hR.e 17 hp.2.2.1
                            rw [e19, e20, e17]
                            clear hn hp
                            go_wp2_with fail
                            exact ⟨fun ix => if ix = 21 then .string (s.extract 0 pos) else g ix, by simp [e19, e20, e17], hR.step 21 _ rfl (Below.refl _ _)⟩
                          · intro D a w' hn hp hI
                            obtain ⟨g, rfl, hR⟩ := hI
                            have e21 : g 21 = .string (s.extract 0 pos) := hR.e 21 hp.1
                            have e17 : g 17 = .bool false := hR.e 17 hp.2.1
                            rw [e21, e17]
                            clear hn hp
                            go_wp2_with fail
                            exact ⟨fun ix => if ix = 22 then .string (s.extract 0 pos ++ (ByteArray.mk #[111])) else g ix, by simp [e21, e17], hR.step 22 _ rfl (Below.refl _ _)⟩
                          · intro D a w' hn hp hI
                            obtain ⟨g, rfl, hR⟩ := hI
                            have e17 : g 17 = .bool false := hR.e 17 hp.1
                            rw [e17]
                            clear hn hp
                            go_wp2_with fail
                            exact ⟨fun ix => if ix = 23 then .string s else g ix, by simp [e17], hR.step 23 _ rfl (Below.refl _ _)⟩
                          · intro D a w' hn hp hI
                            obtain ⟨g, rfl, hR⟩ := hI
                            have e17 : g 17 = .bool false := hR.e 17 hp.1
                            rw [e17]
                            clear hn hp
                            go_wp2_with fail
                            exact ⟨fun ix => if ix = 24 then .int .i64 (pos : Int) else g ix, by simp [e17], hR.step 24 _ rfl (Below.refl _ _)⟩
                          · intro D a w' hn hp hI
                            obtain ⟨g, rfl, hR⟩ := hI
                            have e24 : g 24 = .int .i64 (pos : Int) := hR.e 24 hp.1
                            have e17 : g 17 = .bool false := hR.e 17 hp.2.1
                            rw [e24, e17]
                            clear hn hp
                            go_wp2_with fail
                            exact ⟨fun ix => if ix = 25 then .int .i64 ((pos : Int) + 1) else g ix, by simp [e24, e17], hR.step 25 _ rfl (Below.refl _ _)⟩
                          · intro D a w' hn hp hI
                            obtain ⟨g, rfl, hR⟩ := hI
                            have e23 : g 23 = .string s := hR.e 23 hp.1
                            have e25 : g 25 = .int .i64 ((pos : Int) + 1) := hR.e 25 hp.2.1
                            have e17 : g 17 = .bool false := hR.e 17 hp.2.2.1
                            rw [e23, e25, e17]
                            clear hn hp
                            go_wp2_with fail
                            exact ⟨fun ix => if ix = 26 then .string (s.extract (pos + 1) s.size) else g ix, by simp [e23, e25, e17], hR.step 26 _ rfl (Below.refl _ _)⟩
                          · intro D a w' hn hp hI
                            obtain ⟨g, rfl, hR⟩ := hI
                            have e22 : g 22 = .string (s.extract 0 pos ++ (ByteArray.mk #[111])) := hR.e 22 hp.1
                            have e26 : g 26 = .string (s.extract (pos + 1) s.size) := hR.e 26 hp.2.1
                            have e17 : g 17 = .bool false := hR.e 17 hp.2.2.1
                            rw [e22, e26, e17]
                            clear hn hp
                            go_wp2_with fail
                            exact ⟨fun ix => if ix = 27 then .string (s.extract 0 pos ++ (ByteArray.mk #[111]) ++ s.extract (pos + 1) s.size) else g ix, by simp [e22, e26, e17], hR.step 27 _ rfl (Below.refl _ _)⟩
                          · intro D a w' hn hp hI
                            obtain ⟨g, rfl, hR⟩ := hI
                            have e18 : g 18 = .int .u8 (c : Int) := hR.e 18 hp.1
                            have e27 : g 27 = .string (s.extract 0 pos ++ (ByteArray.mk #[111]) ++ s.extract (pos + 1) s.size) := hR.e 27 hp.2.1
                            have e17 : g 17 = .bool false := hR.e 17 hp.2.2.1
                            rw [e18, e27, e17]
                            clear hn hp
                            go_wp2_with fail
                            refine (names_any c _ _ (HT.out.below (HI1.below hR.b).b) (by omega)).mono ?_
                            rintro e w'' ⟨rfl, hb'⟩
                            go_wp2_with fail
                            exact ⟨fun ix => if ix = 28 then .bool true else g ix, by simp [e18, e27, e17], hR.step 28 _ rfl hb'⟩
                          · intro D a w' hn hp hI
                            obtain ⟨g, rfl, hR⟩ := hI
                            have e28 : g 28 = .bool true := hR.e 28 hp.1
                            have e17 : g 17 = .bool false := hR.e 17 hp.2.1
                            rw [e28, e17]
                            clear hn hp
                            go_wp2_with fail
                            exact ⟨fun ix => if ix = 29 then .bool false else g ix, by simp [e28, e17], hR.step 29 _ rfl (Below.refl _ _)⟩
                          · intro D a w' hn hp hI
                            obtain ⟨g, rfl, hR⟩ := hI
                            have e17 : g 17 = .bool false := hR.e 17 hp.1
                            have e29 : g 29 = .bool false := hR.e 29 hp.2.1
                            rw [e17, e29]
                            clear hn hp
                            go_wp2_with fail
                            exact ⟨fun ix => if ix = 30 then .bool false else g ix, by simp [e17, e29], hR.step 30 _ rfl (Below.refl _ _)⟩
                          · intro D a w' hn hp hI
                            obtain ⟨g, rfl, hR⟩ := hI
                            have e30 : g 30 = .bool false := hR.e 30 hp.1
                            rw [e30]
                            clear hn hp
                            go_wp2_with fail
                            exact ⟨fun ix => if ix = 31 then .bool false else g ix, by simp [e30], hR.step 31 _ rfl (Below.refl _ _)⟩
                          · intro D a w' hn hp hI
                            obtain ⟨g, rfl, hR⟩ := hI
                            have e31 : g 31 = .bool false := hR.e 31 hp.1
                            rw [e31]
                            clear hn hp
                            go_wp2_with fail
                            exact ⟨fun ix => if ix = 32 then .int .u8 (c : Int) else g ix, by simp [e31], hR.step 32 _ rfl (Below.refl _ _)⟩
                          · intro D a w' hn hp hI
                            obtain ⟨g, rfl, hR⟩ := hI
                            have e31 : g 31 = .bool false := hR.e 31 hp.1
                            rw [e31]
                            clear hn hp
                            go_wp2_with fail
                            exact ⟨fun ix => if ix = 33 then .string s else g ix, by simp [e31], hR.step 33 _ rfl (Below.refl _ _)⟩
                          · intro D a w' hn hp hI
                            obtain ⟨g, rfl, hR⟩ := hI
                            have e31 : g 31 = .bool false := hR.e 31 hp.1
                            rw [e31]
                            clear hn hp
                            go_wp2_with fail
                            exact ⟨fun ix => if ix = 34 then .int .i64 (pos : Int) else g ix, by simp [e31], hR.step 34 _ rfl (Below.refl _ _)⟩
                          · intro D a w' hn hp hI
                            obtain ⟨g, rfl, hR⟩ := hI
                            have e33 : g 33 = .string s := hR.e 33 hp.1
                            have e34 : g 34 = .int .i64 (pos : Int) := hR.e 34 hp.2.1
                            have e31 : g 31 = .bool false := hR.e 31 hp.2.2.1
                            rw [e33, e34, e31]
                            clear hn hp
                            go_wp2_with fail
                            exact ⟨fun ix => if ix = 35 then .string (s.extract 0 pos) else g ix, by simp [e33, e34, e31], hR.step 35 _ rfl (Below.refl _ _)⟩
                          · intro D a w' hn hp hI
                            obtain ⟨g, rfl, hR⟩ := hI
                            have e32 : g 32 = .int .u8 (c : Int) := hR.e 32 hp.1
                            have e35 : g 35 = .string (s.extract 0 pos) := hR.e 35 hp.2.1
                            have e31 : g 31 = .bool false := hR.e 31 hp.2.2.1
                            rw [e32, e35, e31]
                            clear hn hp
                            go_wp2_with fail
                            refine (names_any c _ _ (HT.out.below (HI1.below hR.b).b) (by omega)).mono ?_
                            rintro e w'' ⟨rfl, hb'⟩
                            go_wp2_with fail
                            exact ⟨fun ix => if ix = 36 then .bool true else g ix, by simp [e32, e35, e31], hR.step 36 _ rfl hb'⟩
                          · intro D a w' hn hp hI
                            obtain ⟨g, rfl, hR⟩ := hI
                            have e36 : g 36 = .bool true := hR.e 36 hp.1
                            have e31 : g 31 = .bool false := hR.e 31 hp.2.1
                            rw [e36, e31]
                            clear hn hp
                            go_wp2_with fail
                            exact ⟨fun ix => if ix = 37 then .bool false else g ix, by simp [e36, e31], hR.step 37 _ rfl (Below.refl _ _)⟩
                          · intro D a w' hn hp hI
                            obtain ⟨g, rfl, hR⟩ := hI
                            have e31 : g 31 = .bool false := hR.e 31 hp.1
                            have e37 : g 37 = .bool false := hR.e 37 hp.2.1
                            rw [e31, e37]
                            clear hn hp
                            go_wp2_with fail
                            exact ⟨fun ix => if ix = 38 then .bool false else g ix, by simp [e31, e37], hR.step 38 _ rfl (Below.refl _ _)⟩
                          · intro D a w' hn hp hI
                            obtain ⟨g, rfl, hR⟩ := hI
                            have e38 : g 38 = .bool false := hR.e 38 hp.1
                            rw [e38]
                            clear hn hp
                            go_wp2_with fail
                            exact ⟨fun ix => if ix = 39 then .bool false else g ix, by simp [e38], hR.step 39 _ rfl (Below.refl _ _)⟩
                          · intro D a w' hn hp hI
                            obtain ⟨g, rfl, hR⟩ := hI
                            have e39 : g 39 = .bool false := hR.e 39 hp.1
                            rw [e39]
                            clear hn hp
                            go_wp2_with fail
                            exact ⟨fun ix => if ix = 40 then .int .u8 (c : Int) else g ix, by simp [e39], hR.step 40 _ rfl (Below.refl _ _)⟩
                          · intro D a w' hn hp hI
                            obtain ⟨g, rfl, hR⟩ := hI
                            have e39 : g 39 = .bool false := hR.e 39 hp.1
                            rw [e39]
                            clear hn hp
                            go_wp2_with fail
                            exact ⟨fun ix => if ix = 41 then .string s else g ix, by simp [e39], hR.step 41 _ rfl (Below.refl _ _)⟩
                          · intro D a w' hn hp hI
                            obtain ⟨g, rfl, hR⟩ := hI
                            have e39 : g 39 = .bool false := hR.e 39 hp.1
                            rw [e39]
                            clear hn hp
                            go_wp2_with fail
                            exact ⟨fun ix => if ix = 42 then .string s else g ix, by simp [e39], hR.step 42 _ rfl (Below.refl _ _)⟩
                          · intro D a w' hn hp hI
                            obtain ⟨g, rfl, hR⟩ := hI
                            have e39 : g 39 = .bool false := hR.e 39 hp.1
                            rw [e39]
                            clear hn hp
                            go_wp2_with fail
                            exact ⟨fun ix => if ix = 43 then .int .i64 (pos : Int) else g ix, by simp [e39], hR.step 43 _ rfl (Below.refl _ _)⟩
                          · intro D a w' hn hp hI
                            obtain ⟨g, rfl, hR⟩ := hI
                            have e42 : g 42 = .string s := hR.e 42 hp.1
                            have e43 : g 43 = .int .i64 (pos : Int) := hR.e 43 hp.2.1
                            have e39 : g 39 = .bool false := hR.e 39 hp.2.2.1
                            rw [e42, e43, e39]
                            clear hn hp
                            go_wp2_with fail
                            exact ⟨fun ix => if ix = 44 then .string (s.extract pos s.size) else g ix, by simp [e42, e43, e39], hR.step 44 _ rfl (Below.refl _ _)⟩
                          · intro D a w' hn hp hI
                            obtain ⟨g, rfl, hR⟩ := hI
                            have e41 : g 41 = .string s := hR.e 41 hp.1
                            have e44 : g 44 = .string (s.extract pos s.size) := hR.e 44 hp.2.1
                            have e39 : g 39 = .bool false := hR.e 39 hp.2.2.1
                            rw [e41, e44, e39]
                            clear hn hp
                            go_wp2_with fail
                            exact ⟨fun ix => if ix = 45 then .string (s ++ s.extract pos s.size) else g ix, by simp [e41, e44, e39], hR.step 45 _ rfl (Below.refl _ _)⟩
                          · intro D a w' hn hp hI
                            obtain ⟨g, rfl, hR⟩ := hI
                            have e40 : g 40 = .int .u8 (c : Int) := hR.e 40 hp.1
                            have e45 : g 45 = .string (s ++ s.extract pos s.size) := hR.e 45 hp.2.1
                            have e39 : g 39 = .bool false := hR.e 39 hp.2.2.1
                            rw [e40, e45, e39]
                            clear hn hp
                            go_wp2_with fail
                            refine (names_any c _ _ (HT.out.below (HI1.below hR.b).b) (by omega)).mono ?_
                            rintro e w'' ⟨rfl, hb'⟩
                            go_wp2_with fail
                            exact ⟨fun ix => if ix = 46 then .bool true else g ix, by simp [e40, e45, e39], hR.step 46 _ rfl hb'⟩
                          · intro D a w' hn hp hI
                            obtain ⟨g, rfl, hR⟩ := hI
                            have e46 : g 46 = .bool true := hR.e 46 hp.1
                            have e39 : g 39 = .bool false := hR.e 39 hp.2.1
                            rw [e46, e39]
                            clear hn hp
                            go_wp2_with fail
                            exact ⟨fun ix => if ix = 47 then .bool false else g ix, by simp [e46, e39], hR.step 47 _ rfl (Below.refl _ _)⟩
                        intro D a w' hD hI
                        obtain ⟨g50, rfl, hR⟩ := hI
                        have e39 : g50 39 = .bool false := hR.e 39 (hD 39 (by decide))
                        have e47 : g50 47 = .bool false := hR.e 47 (hD 47 (by decide))
                        rw [e39, e47]
                        have dR := hR.b
                        clear hD hR e39 e47
                        simp only [List.drop_succ_cons, List.drop_zero]
                        go_wp2_with fail
                        go_meet
                        exact ⟨rfl, dR⟩
                      obtain ⟨rfl, dX⟩ := hcut
                      have HI2 := HI1.below dX
                      have hip2 := HI2.pos
                      clear dX HI1 hnx
                      go_wp2_with fail
                      go_roundw
                      case rel => exact ⟨p2, HI2⟩
                      case measure => rw [hip, hip2]; omega
                    · have hnx := fun ty => next_none (P := Tryd.prog) wr B s pos HI.it hps ty
                      go_wp2_with fail
                      go_roundw
                      case rel => exact ⟨c + 1, by omega, by go_num, HI.b⟩
                      case measure => simp [intOf]; omega
                · obtain rfl : c = 9 := by omega
                  rw [show ((9 : Nat) : Int) = 9 from rfl]
                  have cd : decide ((9 : Int) < 9) = false := by decide
                  go_wp2_with fail
                  refine (awake_any _ (HT.out.below hb)).mono ?_
                  rintro e w1 ⟨rfl, hv1⟩
                  go_wp2_with fail
                  go_ret
                  exact ⟨rfl, bthen hb hv1⟩

end Go.Proofs.YtkcgijkccpiljaaDoor

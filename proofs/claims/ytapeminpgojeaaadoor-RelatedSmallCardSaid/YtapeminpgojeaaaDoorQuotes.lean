/-
  The contract of package related's Quotes: the direction in which an error quotes a flow, and whether it does. Conditions: the numbers lie in their types' ranges, and the two package maps lie as the program's text lays them.
-/
import Derived.Test.YtapeminpgojeaaaDoorWays
namespace Go.Proofs.YtapeminpgojeaaaDoor
open Go.RowKit Go.Shelf
set_option linter.unusedVariables false
set_option linter.unusedSimpArgs false
attribute [local go_sem] Oper.semAt_some

/-- Two keys are one. -/
def eqK (p s d sp dp p' s' d' sp' dp' : Int) : Bool := p == p' && (s == s' && (d == d' && (sp == sp' && dp == dp')))
theorem key_eql (p s d sp dp p' s' d' sp' dp' : Int) (W : World) : (binOp .eql 25 (.agg #[.int .u8 p, .int .u32 s, .int .u32 d, .int .u16 sp, .int .u16 dp]) (.agg #[.int .u8 p', .int .u32 s', .int .u32 d', .int .u16 sp', .int .u16 dp'])).run Tryd.prog W = .ok (.bool (eqK p s d sp dp p' s' d' sp' dp')) W := by
  unfold eqK
  go_simp
  by_cases h1 : p = p' <;> by_cases h2 : s = s' <;> by_cases h3 : d = d' <;> by_cases h4 : sp = sp' <;> by_cases h5 : dp = dp' <;> simp [h1, h2, h3, h4, h5]
/-- A direction is the one that is quoted. -/
def Wy.hit (y : Wy) (qp qs qd qsp qdp qk src : Int) : Bool := eqK y.p y.s y.d y.sp y.dp qp qs qd qsp qdp && (y.kind == qk && y.to == src)

theorem lookup_below (F : Array Value) (dst kind typ qp qs qd qsp qdp qk : Int) (w : World) (h : Fa F dst kind typ qp qs qd qsp qdp qk) (hT : Tabs w) :
    Calls Tryd.prog 16 #[.agg F] w fun e w' => e = .returned (.tuple #[.agg #[.int .u8 (pk (can dst kind typ qp qs qk) qp), .int .u32 (pk (can dst kind typ qp qs qk) qs), .int .u32 (pk (can dst kind typ qp qs qk) qd), .int .u16 (pk (can dst kind typ qp qs qk) qsp), .int .u16 (pk (can dst kind typ qp qs qk) qdp)], .bool (can dst kind typ qp qs qk)]) ∧ Below w.heap.size w w' :=
  (lookup_any F dst kind typ qp qs qd qsp qdp qk w h hT).mono fun e w' ⟨h1, h2⟩ => ⟨h1, by subst h2; exact (((Below.refl _ _).alloc (Nat.le_refl _) _).alloc (by simp) _).alloc (by simp; omega) _⟩

theorem info29 : (Tryd.prog.info? 29).map (·.size) = some 19 := by kernel_rfl

/-- No direction so far was the one that is quoted. -/
def QIn (W0 : World) (qp qs qd qsp qdp qk src : Int) (pre : List Wy) (W : World) : Prop := Below W0.heap.size W0 W ∧ ∀ y ∈ pre, y.hit qp qs qd qsp qdp qk src = false
/-- The last direction was. -/
def QOut (w : World) (b6 b7 : Nat) (qp qs qd qsp qdp qk src : Int) (c : Code) (pre : List Wy) (W : World) : Prop :=
  c = .ret ∧ Below w.heap.size w W ∧ b7 < W.heap.size ∧ ∃ pre' y, pre = pre' ++ [y] ∧ (∀ z ∈ pre', z.hit qp qs qd qsp qdp qk src = false) ∧ y.hit qp qs qd qsp qdp qk src = true ∧ W.cell? ⟨b6, 0, none⟩ = some (.int .u8 y.dir) ∧ W.cell? ⟨b7, 0, none⟩ = some (.bool true)
def undefAct : Act := ⟨#[], []⟩
theorem last_one {a y : Wy} {pre : List Wy} (h : pre ++ [y] = [a]) : pre = [] ∧ a = y := by
  cases pre with
  | nil => simp at h; exact ⟨rfl, h.symm⟩
  | cons b r => simp at h
theorem last_two {a b y : Wy} {pre : List Wy} (h : pre ++ [y] = [a, b]) : pre = [a] ∧ b = y := by
  cases pre with
  | nil => simp at h
  | cons c r =>
    simp at h
    obtain ⟨rfl, h⟩ := h
    cases r with
    | nil => simp at h; exact ⟨rfl, h.symm⟩
    | cons d r => simp at h
/-- What Quotes gives. -/
def quo (p s d sp dp side dst kind typ qp qs qd qsp qdp qk src : Int) : Int × Bool :=
  if can dst kind typ qp qs qk && (decide (side ≤ 1) && decide (src ≤ 1)) then
    if (way0 p s d sp dp side).hit qp qs qd qsp qdp qk src then (0, true) else if (way1 p s d sp dp side).hit qp qs qd qsp qdp qk src then (1, true) else (0, false)
  else (0, false)

set_option maxRecDepth 100000 in
set_option maxHeartbeats 4000000 in
theorem quotes_yes (F : Array Value) (p s d sp dp side dst kind typ qp qs qd qsp qdp qk src : Int) (w : World) (h : Fa F dst kind typ qp qs qd qsp qdp qk) (hT : Tabs w) (hp : 0 ≤ p ∧ p ≤ 255)
    (hc : can dst kind typ qp qs qk = true) (hs : 0 ≤ side ∧ side ≤ 1) (hr : 0 ≤ src ∧ src ≤ 1) :
    Calls Tryd.prog 15 #[.agg #[.int .u8 p, .int .u32 s, .int .u32 d, .int .u16 sp, .int .u16 dp, .int .u8 side], .agg F, .int .u8 src] w fun e w' =>
      e = .returned (.tuple #[.int .u8 (quo p s d sp dp side dst kind typ qp qs qd qsp qdp qk src).1, .bool (quo p s d sp dp side dst kind typ qp qs qd qsp qdp qk src).2]) ∧ Below w.heap.size w w' := by
  have HL := Lib.hid (fun W (hW : Tabs W) => lookup_below F dst kind typ qp qs qd qsp qdp qk W h hW)
  rw [hc] at HL
  simp only [pk, if_true] at HL
  have g18 := h.c18
  have hsz : (Tryd.prog.info? 29).map (·.size) = some F.toList.length := by rw [info29, Array.length_toList, h.size]
  have Hsz := Lib.hid hsz
  have hone := h.one
  have hi29 : (Tryd.prog.info? 29).map (·.size) = some F.size := by rw [info29, h.size]
  have Hone := Lib.hid (show F.all (·.oneCell') = true from h.one)
  clear hsz hone h hi29
  obtain ⟨Q, hQ⟩ : ∃ Q, quo p s d sp dp side dst kind typ qp qs qd qsp qdp qk src = Q := ⟨_, rfl⟩
  have HQ := Lib.hid hQ
  rw [hQ]
  clear hQ
  have Hc := Lib.hid hc
  clear hc
  refine (callsIn_wide (n := 3)).1 ?_
  refine callsIn_of_wp_marks Tryd.func15 rfl trivial ?_ rfl
  simp only [Tryd.ntmps15, List.size_toArray, List.length_cons, List.length_nil, Nat.reduceAdd, Nat.reduceSub, Array.replicate_succ, Array.replicate_zero, List.push_toArray, List.append_toArray, List.nil_append, List.cons_append]
  refine wpIn_wide.2 ?_
  go_wp2_with (refine wpList_load_wide 29 _ rfl (by rfl) _ _ rfl F _ Tryd.underlying29 rfl Hsz.out ?_ ?_; (· (repeat (first | (refine range_new' _ _ _ _ ?_; first | rfl | (simp; done)) | refine World.rangeAt_alloc ?_ _))))
  obtain ⟨W5, hW5⟩ : ∃ W5, (((((w.alloc (.cells #[.int .u8 p, .int .u32 s, .int .u32 d, .int .u16 sp, .int .u16 dp, .int .u8 side] 27)).alloc (.cells F 29)).alloc (.cells #[.int .u8 src] 5)).alloc (.cells #[.int .u8 0] 5)).alloc (.cells #[.bool false] 4)) = W5 := ⟨_, rfl⟩
  have hB5 : Below w.heap.size w W5 := by
    rw [← hW5]
    (repeat' (first | exact Below.refl _ _ | refine Below.alloc ?_ (by first | omega | (simp; done) | (simp; omega)) _))
  have hz5 : W5.heap.size = w.heap.size + 1 + 1 + 1 + 1 + 1 := by rw [← hW5]; simp
  have x0 : W5.cell? ⟨w.heap.size, 0, none⟩ = some (.int .u8 p) := by rw [← hW5]; simp [go_sem]
  have x1 : W5.cell? ⟨w.heap.size, 1, none⟩ = some (.int .u32 s) := by rw [← hW5]; simp [go_sem]
  have x2 : W5.cell? ⟨w.heap.size, 2, none⟩ = some (.int .u32 d) := by rw [← hW5]; simp [go_sem]
  have x3 : W5.cell? ⟨w.heap.size, 3, none⟩ = some (.int .u16 sp) := by rw [← hW5]; simp [go_sem]
  have x4 : W5.cell? ⟨w.heap.size, 4, none⟩ = some (.int .u16 dp) := by rw [← hW5]; simp [go_sem]
  have x5 : W5.cell? ⟨w.heap.size, 5, none⟩ = some (.int .u8 side) := by rw [← hW5]; simp [go_sem]
  have f18 : W5.cell? ⟨w.heap.size + 1, 18, none⟩ = some (.int .u8 qk) := by rw [← hW5]; simp [go_sem, g18]
  have r0 : W5.cell? ⟨w.heap.size + 1 + 1, 0, none⟩ = some (.int .u8 src) := by rw [← hW5]; simp [go_sem]
  have a0 : W5.cell? ⟨w.heap.size + 1 + 1 + 1, 0, none⟩ = some (.int .u8 0) := by rw [← hW5]; simp [go_sem]
  have b0 : W5.cell? ⟨w.heap.size + 1 + 1 + 1 + 1, 0, none⟩ = some (.bool false) := by rw [← hW5]; simp [go_sem]
  have fa : W5.frozen? ⟨w.heap.size + 1 + 1 + 1, 0, none⟩ = false := by rw [← hW5]; simp [go_sem]
  have fb : W5.frozen? ⟨w.heap.size + 1 + 1 + 1 + 1, 0, none⟩ = false := by rw [← hW5]; simp [go_sem]
  rw [hW5]
  clear hW5
  refine (HL.out _ (hT.below hB5)).mono ?_
  rintro e w2 ⟨rfl, hb⟩
  replace x0 := (hb.cell (p := ⟨w.heap.size, 0, none⟩) (by show w.heap.size < W5.heap.size; omega)).trans x0
  replace x1 := (hb.cell (p := ⟨w.heap.size, 1, none⟩) (by show w.heap.size < W5.heap.size; omega)).trans x1
  replace x2 := (hb.cell (p := ⟨w.heap.size, 2, none⟩) (by show w.heap.size < W5.heap.size; omega)).trans x2
  replace x3 := (hb.cell (p := ⟨w.heap.size, 3, none⟩) (by show w.heap.size < W5.heap.size; omega)).trans x3
  replace x4 := (hb.cell (p := ⟨w.heap.size, 4, none⟩) (by show w.heap.size < W5.heap.size; omega)).trans x4
  replace x5 := (hb.cell (p := ⟨w.heap.size, 5, none⟩) (by show w.heap.size < W5.heap.size; omega)).trans x5
  replace f18 := (hb.cell (p := ⟨w.heap.size + 1, 18, none⟩) (by show w.heap.size + 1 < W5.heap.size; omega)).trans f18
  replace r0 := (hb.cell (p := ⟨w.heap.size + 1 + 1, 0, none⟩) (by show w.heap.size + 1 + 1 < W5.heap.size; omega)).trans r0
  replace a0 := (hb.cell (p := ⟨w.heap.size + 1 + 1 + 1, 0, none⟩) (by show w.heap.size + 1 + 1 + 1 < W5.heap.size; omega)).trans a0
  replace b0 := (hb.cell (p := ⟨w.heap.size + 1 + 1 + 1 + 1, 0, none⟩) (by show w.heap.size + 1 + 1 + 1 + 1 < W5.heap.size; omega)).trans b0
  replace fa := (hb.frozen (p := ⟨w.heap.size + 1 + 1 + 1, 0, none⟩) (by show w.heap.size + 1 + 1 + 1 < W5.heap.size; omega)).trans fa
  replace fb := (hb.frozen (p := ⟨w.heap.size + 1 + 1 + 1 + 1, 0, none⟩) (by show w.heap.size + 1 + 1 + 1 + 1 < W5.heap.size; omega)).trans fb
  have hB2 : Below w.heap.size w w2 := bthen hB5 hb
  have hz2 : w.heap.size + 1 + 1 + 1 + 1 < w2.heap.size := by have := hb.size; omega
  have hz20 : w.heap.size < w2.heap.size := by omega
  have hz21 : w.heap.size + 1 < w2.heap.size := by omega
  have hz22 : w.heap.size + 1 + 1 < w2.heap.size := by omega
  have hz23 : w.heap.size + 1 + 1 + 1 < w2.heap.size := by omega
  have hT2 := hT.below hB2
  clear hb hB5 hz5 HL hT
  obtain ⟨hs0, hs1⟩ := hs
  obtain ⟨hr0, hr1⟩ := hr
  have e1 : decide (1 < side) = false := decide_eq_false (by omega)
  have e2 : decide (1 < src) = false := decide_eq_false (by omega)
  go_wp2_with fail
  refine (ways_any p s d sp dp side _).mono ?_
  rintro e W0 ⟨rfl, hW0⟩
  simp only [World.size_alloc]
  clear e1 e2
  have hbW : Below w2.heap.size w2 W0 := by rw [← hW0]; exact ((Below.refl _ _).alloc (Nat.le_refl _) _).alloc (by simp) _
  clear x0 x1 x2 x3 x4 x5
  replace f18 := (hbW.cell (p := ⟨w.heap.size + 1, 18, none⟩) (by show w.heap.size + 1 < w2.heap.size; omega)).trans f18
  replace r0 := (hbW.cell (p := ⟨w.heap.size + 1 + 1, 0, none⟩) (by show w.heap.size + 1 + 1 < w2.heap.size; omega)).trans r0
  replace a0 := (hbW.cell (p := ⟨w.heap.size + 1 + 1 + 1, 0, none⟩) (by show w.heap.size + 1 + 1 + 1 < w2.heap.size; omega)).trans a0
  replace b0 := (hbW.cell (p := ⟨w.heap.size + 1 + 1 + 1 + 1, 0, none⟩) (by show w.heap.size + 1 + 1 + 1 + 1 < w2.heap.size; omega)).trans b0
  replace fa := (hbW.frozen (p := ⟨w.heap.size + 1 + 1 + 1, 0, none⟩) (by show w.heap.size + 1 + 1 + 1 < w2.heap.size; omega)).trans fa
  replace fb := (hbW.frozen (p := ⟨w.heap.size + 1 + 1 + 1 + 1, 0, none⟩) (by show w.heap.size + 1 + 1 + 1 + 1 < w2.heap.size; omega)).trans fb
  have q0 : W0.cell? ⟨w2.heap.size, 0, none⟩ = some (.int .u8 qp) := by rw [← hW0]; simp [go_sem]
  have q1 : W0.cell? ⟨w2.heap.size, 1, none⟩ = some (.int .u32 qs) := by rw [← hW0]; simp [go_sem]
  have q2 : W0.cell? ⟨w2.heap.size, 2, none⟩ = some (.int .u32 qd) := by rw [← hW0]; simp [go_sem]
  have q3 : W0.cell? ⟨w2.heap.size, 3, none⟩ = some (.int .u16 qsp) := by rw [← hW0]; simp [go_sem]
  have q4 : W0.cell? ⟨w2.heap.size, 4, none⟩ = some (.int .u16 qdp) := by rw [← hW0]; simp [go_sem]
  have hBx : W0.heap[w2.heap.size + 1]? = some (.cells #[.int .u8 p, .int .u32 s, .int .u32 d, .int .u16 sp, .int .u16 dp, .int .u8 side] 27 (0, 0)) := by
    rw [← hW0]
    have := heap_alloc_last (w2.alloc (.cells #[.int .u8 qp, .int .u32 qs, .int .u32 qd, .int .u16 qsp, .int .u16 qdp] 25)) (.cells #[.int .u8 p, .int .u32 s, .int .u32 d, .int .u16 sp, .int .u16 dp, .int .u8 side] 27)
    simpa using this
  have hzW : W0.heap.size = w2.heap.size + 2 := by rw [← hW0]; simp
  have hTW := hT2.below hbW
  have hBW : Below w.heap.size w W0 := bthen hB2 hbW
  clear hW0 hbW hT2 hB2
  go_wp2_with fail
  refine wpIn_wide.1 (wpIn_yields (n := 3) (gf := 31) (lb := #[.pointer (some ⟨w2.heap.size + 1, 0, none⟩)]) rfl (enters_of Tryd.func31 (by kernel_rfl) rfl)
    (ways_yields 2 (w2.heap.size + 1) W0.heap.size p s d sp dp side W0 hp ⟨hs0, hs1⟩ hTW rfl hBx) (by decide) (Nat.le_refl _) (fun _ => rfl)
    (QIn W0 qp qs qd qsp qdp qk src) (QOut w (w.heap.size + 1 + 1 + 1) (w.heap.size + 1 + 1 + 1 + 1) qp qs qd qsp qdp qk src)
    (fun pre A B hA hb => ⟨hA.1.trans hb, hA.2⟩)
    (fun c pre A B hA hb => by
      obtain ⟨h1, h2, h3, pre', y, h4, h5, h6, h7, h8⟩ := hA
      exact ⟨h1, h2.trans (hb.mono hBW.size), Nat.le_trans h3 (by have := hb.size; omega), pre', y, h4, h5, h6, (hb.cell (p := ⟨w.heap.size + 1 + 1 + 1, 0, none⟩) (by show w.heap.size + 1 + 1 + 1 < W0.heap.size; omega)).trans h7, (hb.cell (p := ⟨w.heap.size + 1 + 1 + 1 + 1, 0, none⟩) (by show w.heap.size + 1 + 1 + 1 + 1 < W0.heap.size; omega)).trans h8⟩)
    ⟨Below.refl _ _, fun y hy => by cases hy⟩
    (fun y a' W => ∃ Bx, W.heap[Bx]? = some (.cells #[.int .u8 y.dir, .int .u8 y.p, .int .u32 y.s, .int .u32 y.d, .int .u16 y.sp, .int .u16 y.dp, .int .u8 y.kind, .int .u8 y.to] 62 (0, 0)) ∧ a' = { tmps := #[.agg #[.int .u8 p, .int .u32 s, .int .u32 d, .int .u16 sp, .int .u16 dp, .int .u8 side], .agg F, .int .u8 src, .pointer (some ⟨w.heap.size, 0, none⟩), .pointer (some ⟨w.heap.size + 1, 0, none⟩), .pointer (some ⟨w.heap.size + 1 + 1, 0, none⟩), .pointer (some ⟨w.heap.size + 1 + 1 + 1, 0, none⟩), .pointer (some ⟨w.heap.size + 1 + 1 + 1 + 1, 0, none⟩), .pointer (some ⟨w2.heap.size, 0, none⟩), .bool true, .pointer (some ⟨Bx, 0, none⟩), .tuple #[.agg #[.int .u8 qp, .int .u32 qs, .int .u32 qd, .int .u16 qsp, .int .u16 qdp], .bool true], .agg F, .tuple #[.agg #[.int .u8 qp, .int .u32 qs, .int .u32 qd, .int .u16 qsp, .int .u16 qdp], .bool true], .agg #[.int .u8 qp, .int .u32 qs, .int .u32 qd, .int .u16 qsp, .int .u16 qdp], .bool true, .bool true, .bool false, .bool false, .pointer (some ⟨w.heap.size, 5, none⟩), .int .u8 side, .bool false, .bool false, .bool false, .int .u8 src, .bool false, .bool false, .agg #[.int .u8 p, .int .u32 s, .int .u32 d, .int .u16 sp, .int .u16 dp, .int .u8 side], .func (.func 31) #[] #[.pointer (some ⟨w2.heap.size + 1, 0, none⟩)], .agg #[.int .u8 y.dir, .int .u8 y.p, .int .u32 y.s, .int .u32 y.d, .int .u16 y.sp, .int .u16 y.dp, .int .u8 y.kind, .int .u8 y.to], undef, undef, undef, undef, undef, undef, undef, undef, undef, undef, undef, undef, undef, undef, undef, undef, undef, undef, undef], defers := [] })
    (fun y a' W l o o' hx hl ho => by
      obtain ⟨Bx, h1, h2⟩ := hx
      refine ⟨Bx, (World.putObj_heap_other (fun e => ?_)).trans h1, h2⟩
      subst e
      rw [h1] at hl
      cases hl
      cases ho) ?assign ?body ?done ?stop)
  case assign =>
    intro l pre y W K hI hle hK
    unfold Wy.enc
    gi_wp2
    exact hK _ _ ((Below.refl _ _).alloc (Nat.le_refl _) _) ⟨W.heap.size, heap_alloc_last _ _, rfl⟩
  case body =>
    rintro l pre y a' W hle hI ⟨Bx, hbx, rfl⟩
    obtain ⟨hI1, hI2⟩ := hI
    have HI := Lib.hid hI2
    clear hI2
    have y0 := blk_cell hbx 0
    have y1 := blk_cell hbx 1
    have y2 := blk_cell hbx 2
    have y3 := blk_cell hbx 3
    have y4 := blk_cell hbx 4
    have y5 := blk_cell hbx 5
    have y6 := blk_cell hbx 6
    have y7 := blk_cell hbx 7
    simp at y0 y1 y2 y3 y4 y5 y6 y7
    have hBl := blk_lt hbx
    replace f18 := (hI1.cell (p := ⟨w.heap.size + 1, 18, none⟩) (by show w.heap.size + 1 < W0.heap.size; omega)).trans f18
    replace r0 := (hI1.cell (p := ⟨w.heap.size + 1 + 1, 0, none⟩) (by show w.heap.size + 1 + 1 < W0.heap.size; omega)).trans r0
    replace a0 := (hI1.cell (p := ⟨w.heap.size + 1 + 1 + 1, 0, none⟩) (by show w.heap.size + 1 + 1 + 1 < W0.heap.size; omega)).trans a0
    replace b0 := (hI1.cell (p := ⟨w.heap.size + 1 + 1 + 1 + 1, 0, none⟩) (by show w.heap.size + 1 + 1 + 1 + 1 < W0.heap.size; omega)).trans b0
    replace q0 := (hI1.cell (p := ⟨w2.heap.size, 0, none⟩) (by show w2.heap.size < W0.heap.size; omega)).trans q0
    replace q1 := (hI1.cell (p := ⟨w2.heap.size, 1, none⟩) (by show w2.heap.size < W0.heap.size; omega)).trans q1
    replace q2 := (hI1.cell (p := ⟨w2.heap.size, 2, none⟩) (by show w2.heap.size < W0.heap.size; omega)).trans q2
    replace q3 := (hI1.cell (p := ⟨w2.heap.size, 3, none⟩) (by show w2.heap.size < W0.heap.size; omega)).trans q3
    replace q4 := (hI1.cell (p := ⟨w2.heap.size, 4, none⟩) (by show w2.heap.size < W0.heap.size; omega)).trans q4
    replace fa := (hI1.frozen (p := ⟨w.heap.size + 1 + 1 + 1, 0, none⟩) (by show w.heap.size + 1 + 1 + 1 < W0.heap.size; omega)).trans fa
    replace fb := (hI1.frozen (p := ⟨w.heap.size + 1 + 1 + 1 + 1, 0, none⟩) (by show w.heap.size + 1 + 1 + 1 + 1 < W0.heap.size; omega)).trans fb
    have zz0 : w.heap.size < W.heap.size := by omega
    have zz1 : w.heap.size + 1 < W.heap.size := by omega
    have zz2 : w.heap.size + 1 + 1 < W.heap.size := by omega
    have zz3 : w.heap.size + 1 + 1 + 1 < W.heap.size := by omega
    have zz4 : w.heap.size + 1 + 1 + 1 + 1 < W.heap.size := by omega
    have zz5 : w2.heap.size < W.heap.size := by omega
    have HK := fun V => key_eql y.p y.s y.d y.sp y.dp qp qs qd qsp qdp V
    have hh : y.hit qp qs qd qsp qdp qk src = (eqK y.p y.s y.d y.sp y.dp qp qs qd qsp qdp && (y.kind == qk && y.to == src)) := rfl
    generalize eqK y.p y.s y.d y.sp y.dp qp qs qd qsp qdp = kb at *
    have no : y.hit qp qs qd qsp qdp qk src = false → bodyEnd W0.heap.size W0.heap.size (QIn W0 qp qs qd qsp qdp qk src) (QOut w (w.heap.size + 1 + 1 + 1) (w.heap.size + 1 + 1 + 1 + 1) qp qs qd qsp qdp qk src) (pre ++ [y]) W .normal undefAct W := fun h =>
      ⟨Keep.refl _ _ _, hI1, fun x hx => by rcases List.mem_append.1 hx with hx | hx; exact HI.out x hx; simp at hx; subst hx; exact h⟩
    have yes : y.hit qp qs qd qsp qdp qk src = true → bodyEnd W0.heap.size W0.heap.size (QIn W0 qp qs qd qsp qdp qk src) (QOut w (w.heap.size + 1 + 1 + 1) (w.heap.size + 1 + 1 + 1 + 1) qp qs qd qsp qdp qk src) (pre ++ [y]) W .ret undefAct ((W.setCell ⟨w.heap.size + 1 + 1 + 1, 0, none⟩ (.int .u8 y.dir)).setCell ⟨w.heap.size + 1 + 1 + 1 + 1, 0, none⟩ (.bool true)) := fun h =>
      ⟨((Keep.refl _ _ _).setCell (Nat.zero_le _) (by omega) _ _).setCell (Nat.zero_le _) (by omega) _ _, rfl,
        (((hBW.trans (hI1.mono hBW.size)).setCell (p := ⟨w.heap.size + 1 + 1 + 1, 0, none⟩) (by show w.heap.size ≤ w.heap.size + 1 + 1 + 1; omega) _).setCell (p := ⟨w.heap.size + 1 + 1 + 1 + 1, 0, none⟩) (by show w.heap.size ≤ w.heap.size + 1 + 1 + 1 + 1; omega) _),
        by simp [World.setCell]; omega, pre, y, rfl, HI.out, h, by simp [go_sem, a0, b0], by simp [go_sem, a0, b0]⟩
    have No := Lib.hid no
    have Yes := Lib.hid yes
    clear no yes hbx HI
    cases kb
    · have h := No.out (by rw [hh]; rfl)
      have H := Lib.hid h
      clear h hh No Yes
      gi_wp2
      exact H.out
    · cases h2 : y.kind == qk
      · have h := No.out (by rw [hh, h2]; rfl)
        have H := Lib.hid h
        clear h hh No Yes
        gi_wp2
        exact H.out
      · cases h3 : y.to == src
        · have h := No.out (by rw [hh, h2, h3]; rfl)
          have H := Lib.hid h
          clear h hh No Yes
          gi_wp2
          exact H.out
        · have h := Yes.out (by rw [hh, h2, h3]; rfl)
          have H := Lib.hid h
          clear h hh No Yes
          gi_wp2
          exact H.out
  case done =>
    rintro D xs W hD rfl ⟨hI1, hI2⟩ hK
    have hq : Q = (0, false) := by
      rw [← HQ.out]
      unfold quo
      rw [Hc.out, decide_eq_true hs1, decide_eq_true hr1, hI2 _ (by simp), hI2 (way1 p s d sp dp side) (by simp)]
      simp
    subst hq
    replace a0 := (hI1.cell (p := ⟨w.heap.size + 1 + 1 + 1, 0, none⟩) (by show w.heap.size + 1 + 1 + 1 < W0.heap.size; omega)).trans a0
    replace b0 := (hI1.cell (p := ⟨w.heap.size + 1 + 1 + 1 + 1, 0, none⟩) (by show w.heap.size + 1 + 1 + 1 + 1 < W0.heap.size; omega)).trans b0
    replace fa := (hI1.frozen (p := ⟨w.heap.size + 1 + 1 + 1, 0, none⟩) (by show w.heap.size + 1 + 1 + 1 < W0.heap.size; omega)).trans fa
    replace fb := (hI1.frozen (p := ⟨w.heap.size + 1 + 1 + 1 + 1, 0, none⟩) (by show w.heap.size + 1 + 1 + 1 + 1 < W0.heap.size; omega)).trans fb
    have hX : Below w.heap.size w ((W.setCell ⟨w.heap.size + 1 + 1 + 1, 0, none⟩ (.int .u8 0)).setCell ⟨w.heap.size + 1 + 1 + 1 + 1, 0, none⟩ (.bool false)) :=
      ((hBW.trans (hI1.mono hBW.size)).setCell (p := ⟨w.heap.size + 1 + 1 + 1, 0, none⟩) (by show w.heap.size ≤ w.heap.size + 1 + 1 + 1; omega) _).setCell (p := ⟨w.heap.size + 1 + 1 + 1 + 1, 0, none⟩) (by show w.heap.size ≤ w.heap.size + 1 + 1 + 1 + 1; omega) _
    have hK' := (KeepsOthers.setCell (W.setCell ⟨w.heap.size + 1 + 1 + 1, 0, none⟩ (.int .u8 0)) ⟨w.heap.size + 1 + 1 + 1 + 1, 0, none⟩ (.bool false)).same D _ ((KeepsOthers.setCell W ⟨w.heap.size + 1 + 1 + 1, 0, none⟩ (.int .u8 0)).same D _ hK rfl) rfl
    have u6 : ((W.setCell ⟨w.heap.size + 1 + 1 + 1, 0, none⟩ (.int .u8 0)).setCell ⟨w.heap.size + 1 + 1 + 1 + 1, 0, none⟩ (.bool false)).cell? ⟨w.heap.size + 1 + 1 + 1, 0, none⟩ = some (.int .u8 0) := by simp [go_sem, a0, b0]
    have u7 : ((W.setCell ⟨w.heap.size + 1 + 1 + 1, 0, none⟩ (.int .u8 0)).setCell ⟨w.heap.size + 1 + 1 + 1 + 1, 0, none⟩ (.bool false)).cell? ⟨w.heap.size + 1 + 1 + 1 + 1, 0, none⟩ = some (.bool false) := by simp [go_sem, a0, b0]
    have v6 := cell_kept u6 (grownBy_putObj' _ D (.deferred none)) (fun r e => by cases e; exact ⟨_, hK', rfl⟩)
    have v7 := cell_kept u7 (grownBy_putObj' _ D (.deferred none)) (fun r e => by cases e; exact ⟨_, hK', rfl⟩)
    have hE := hX.trans (belowK_b (w := w) (Nat.le_refl _) _ D _ (.deferred none) (by omega) hK' rfl rfl)
    have HE := Lib.hid (And.intro (And.intro hK' hE) (And.intro v6 v7))
    clear hK' hE v6 v7 u6 u7 hX
    go_wp2_with fail
    obtain ⟨⟨hK', hE⟩, v6, v7⟩ := HE.out
    refine ⟨by simp, .inl ⟨_, _, rfl, run_takeDeferred hK', ?_⟩⟩
    refine ⟨.tuple #[.int .u8 0, .bool false], ?_, rfl, hE⟩
    simp [results, Tryd.f15, go_sem, v6, v7]
  case stop =>
    rintro D c pre W hD hpre ⟨rfl, hB, hlt, pre', y, rfl, h5, h6, h7, h8⟩ hK
    have hq : Q = (y.dir, true) := by
      rw [← HQ.out]
      unfold quo
      rw [Hc.out, decide_eq_true hs1, decide_eq_true hr1]
      rcases hpre with hpre | hpre
      · obtain ⟨rfl, e⟩ := last_one hpre
        subst e
        rw [h6]
        rfl
      · obtain ⟨rfl, e⟩ := last_two hpre
        subst e
        rw [h6, h5 (way0 p s d sp dp side) (by simp)]
        rfl
    subst hq
    have v6 := cell_kept h7 (grownBy_putObj' _ D (.deferred none)) (fun r e => by cases e; exact ⟨_, hK, rfl⟩)
    have v7 := cell_kept h8 (grownBy_putObj' _ D (.deferred none)) (fun r e => by cases e; exact ⟨_, hK, rfl⟩)
    have hE := hB.trans (belowK_b (w := w) (Nat.le_refl _) _ D _ (.deferred none) (by omega) hK rfl rfl)
    have HE := Lib.hid (And.intro (And.intro hK hE) (And.intro v6 v7))
    clear hK hE v6 v7 h7 h8 h5 h6
    refine wpIn_wide.2 ?_
    go_wp2_with fail
    obtain ⟨⟨hK', hE⟩, v6, v7⟩ := HE.out
    refine ⟨by simp, .inl ⟨_, _, rfl, run_takeDeferred hK', ?_⟩⟩
    refine ⟨.tuple #[.int .u8 y.dir, .bool true], ?_, rfl, hE⟩
    simp [results, Tryd.f15, go_sem, v6, v7]

set_option maxHeartbeats 4000000 in
theorem quotes_no (F : Array Value) (p s d sp dp side dst kind typ qp qs qd qsp qdp qk src : Int) (w : World) (h : Fa F dst kind typ qp qs qd qsp qdp qk) (hT : Tabs w)
    (hn : can dst kind typ qp qs qk = false ∨ 1 < side ∨ 1 < src) :
    Calls Tryd.prog 15 #[.agg #[.int .u8 p, .int .u32 s, .int .u32 d, .int .u16 sp, .int .u16 dp, .int .u8 side], .agg F, .int .u8 src] w fun e w' => e = .returned (.tuple #[.int .u8 0, .bool false]) ∧ Below w.heap.size w w' := by
  have HL := Lib.hid (fun W (hW : Tabs W) => lookup_below F dst kind typ qp qs qd qsp qdp qk W h hW)
  have hsz : (Tryd.prog.info? 29).map (·.size) = some F.toList.length := by rw [info29, Array.length_toList, h.size]
  have Hsz := Lib.hid hsz
  clear hsz h
  generalize can dst kind typ qp qs qk = c at *
  cases c
  · clear hn
    go_enter Tryd.func15, Tryd.ntmps15
    go_wp2_with (refine wpList_load_wide 29 _ rfl (by rfl) _ _ rfl F _ Tryd.underlying29 rfl Hsz.out ?_ ?_; (· (repeat (first | (refine range_new' _ _ _ _ ?_; first | rfl | (simp; done)) | refine World.rangeAt_alloc ?_ _))))
    obtain ⟨W5, hW5⟩ : ∃ W5, (((((w.alloc (.cells #[.int .u8 p, .int .u32 s, .int .u32 d, .int .u16 sp, .int .u16 dp, .int .u8 side] 27)).alloc (.cells F 29)).alloc (.cells #[.int .u8 src] 5)).alloc (.cells #[.int .u8 0] 5)).alloc (.cells #[.bool false] 4)) = W5 := ⟨_, rfl⟩
    have hB5 : Below w.heap.size w W5 := by
      rw [← hW5]
      (repeat' (first | exact Below.refl _ _ | refine Below.alloc ?_ (by first | omega | (simp; done) | (simp; omega)) _))
    have hz5 : W5.heap.size = w.heap.size + 1 + 1 + 1 + 1 + 1 := by rw [← hW5]; simp
    have x5 : W5.cell? ⟨w.heap.size, 5, none⟩ = some (.int .u8 side) := by rw [← hW5]; simp [go_sem]
    have r0 : W5.cell? ⟨w.heap.size + 1 + 1, 0, none⟩ = some (.int .u8 src) := by rw [← hW5]; simp [go_sem]
    have a0 : W5.cell? ⟨w.heap.size + 1 + 1 + 1, 0, none⟩ = some (.int .u8 0) := by rw [← hW5]; simp [go_sem]
    have b0 : W5.cell? ⟨w.heap.size + 1 + 1 + 1 + 1, 0, none⟩ = some (.bool false) := by rw [← hW5]; simp [go_sem]
    have fa : W5.frozen? ⟨w.heap.size + 1 + 1 + 1, 0, none⟩ = false := by rw [← hW5]; simp [go_sem]
    have fb : W5.frozen? ⟨w.heap.size + 1 + 1 + 1 + 1, 0, none⟩ = false := by rw [← hW5]; simp [go_sem]
    rw [hW5]
    clear hW5
    refine (HL.out _ (hT.below hB5)).mono ?_
    rintro e w2 ⟨rfl, hb⟩
    replace x5 := (hb.cell (p := ⟨w.heap.size, 5, none⟩) (by show w.heap.size < W5.heap.size; omega)).trans x5
    replace r0 := (hb.cell (p := ⟨w.heap.size + 1 + 1, 0, none⟩) (by show w.heap.size + 1 + 1 < W5.heap.size; omega)).trans r0
    replace a0 := (hb.cell (p := ⟨w.heap.size + 1 + 1 + 1, 0, none⟩) (by show w.heap.size + 1 + 1 + 1 < W5.heap.size; omega)).trans a0
    replace b0 := (hb.cell (p := ⟨w.heap.size + 1 + 1 + 1 + 1, 0, none⟩) (by show w.heap.size + 1 + 1 + 1 + 1 < W5.heap.size; omega)).trans b0
    replace fa := (hb.frozen (p := ⟨w.heap.size + 1 + 1 + 1, 0, none⟩) (by show w.heap.size + 1 + 1 + 1 < W5.heap.size; omega)).trans fa
    replace fb := (hb.frozen (p := ⟨w.heap.size + 1 + 1 + 1 + 1, 0, none⟩) (by show w.heap.size + 1 + 1 + 1 + 1 < W5.heap.size; omega)).trans fb
    have hB2 : Below w.heap.size w w2 := bthen hB5 hb
    have hz2 : w.heap.size + 1 + 1 + 1 + 1 < w2.heap.size := by have := hb.size; omega
    have hz20 : w.heap.size < w2.heap.size := by omega
    have hz21 : w.heap.size + 1 < w2.heap.size := by omega
    have hz22 : w.heap.size + 1 + 1 < w2.heap.size := by omega
    have hz23 : w.heap.size + 1 + 1 + 1 < w2.heap.size := by omega
    clear hb hB5 hz5 HL hT
    go_wp2_with fail
    exact bodyPost_ret (v := .tuple #[.int .u8 0, .bool false]) (by simp [results, Tryd.results15, go_sem, a0, b0, fa, fb, hz2, hz20, hz21, hz22, hz23]) rfl ⟨rfl, by (repeat' (first | with_reducible exact hB2 | refine Below.setCell ?_ (by first | omega | (simp; done) | (simp; omega)) _ | refine Below.alloc ?_ (by first | omega | (simp; done) | (simp; omega)) _))⟩
  · by_cases h1 : 1 < side
    · have e1 : decide (1 < side) = true := decide_eq_true h1
      clear hn h1
      go_enter Tryd.func15, Tryd.ntmps15
      go_wp2_with (refine wpList_load_wide 29 _ rfl (by rfl) _ _ rfl F _ Tryd.underlying29 rfl Hsz.out ?_ ?_; (· (repeat (first | (refine range_new' _ _ _ _ ?_; first | rfl | (simp; done)) | refine World.rangeAt_alloc ?_ _))))
      obtain ⟨W5, hW5⟩ : ∃ W5, (((((w.alloc (.cells #[.int .u8 p, .int .u32 s, .int .u32 d, .int .u16 sp, .int .u16 dp, .int .u8 side] 27)).alloc (.cells F 29)).alloc (.cells #[.int .u8 src] 5)).alloc (.cells #[.int .u8 0] 5)).alloc (.cells #[.bool false] 4)) = W5 := ⟨_, rfl⟩
      have hB5 : Below w.heap.size w W5 := by
        rw [← hW5]
        (repeat' (first | exact Below.refl _ _ | refine Below.alloc ?_ (by first | omega | (simp; done) | (simp; omega)) _))
      have hz5 : W5.heap.size = w.heap.size + 1 + 1 + 1 + 1 + 1 := by rw [← hW5]; simp
      have x5 : W5.cell? ⟨w.heap.size, 5, none⟩ = some (.int .u8 side) := by rw [← hW5]; simp [go_sem]
      have r0 : W5.cell? ⟨w.heap.size + 1 + 1, 0, none⟩ = some (.int .u8 src) := by rw [← hW5]; simp [go_sem]
      have a0 : W5.cell? ⟨w.heap.size + 1 + 1 + 1, 0, none⟩ = some (.int .u8 0) := by rw [← hW5]; simp [go_sem]
      have b0 : W5.cell? ⟨w.heap.size + 1 + 1 + 1 + 1, 0, none⟩ = some (.bool false) := by rw [← hW5]; simp [go_sem]
      have fa : W5.frozen? ⟨w.heap.size + 1 + 1 + 1, 0, none⟩ = false := by rw [← hW5]; simp [go_sem]
      have fb : W5.frozen? ⟨w.heap.size + 1 + 1 + 1 + 1, 0, none⟩ = false := by rw [← hW5]; simp [go_sem]
      rw [hW5]
      clear hW5
      refine (HL.out _ (hT.below hB5)).mono ?_
      rintro e w2 ⟨rfl, hb⟩
      replace x5 := (hb.cell (p := ⟨w.heap.size, 5, none⟩) (by show w.heap.size < W5.heap.size; omega)).trans x5
      replace r0 := (hb.cell (p := ⟨w.heap.size + 1 + 1, 0, none⟩) (by show w.heap.size + 1 + 1 < W5.heap.size; omega)).trans r0
      replace a0 := (hb.cell (p := ⟨w.heap.size + 1 + 1 + 1, 0, none⟩) (by show w.heap.size + 1 + 1 + 1 < W5.heap.size; omega)).trans a0
      replace b0 := (hb.cell (p := ⟨w.heap.size + 1 + 1 + 1 + 1, 0, none⟩) (by show w.heap.size + 1 + 1 + 1 + 1 < W5.heap.size; omega)).trans b0
      replace fa := (hb.frozen (p := ⟨w.heap.size + 1 + 1 + 1, 0, none⟩) (by show w.heap.size + 1 + 1 + 1 < W5.heap.size; omega)).trans fa
      replace fb := (hb.frozen (p := ⟨w.heap.size + 1 + 1 + 1 + 1, 0, none⟩) (by show w.heap.size + 1 + 1 + 1 + 1 < W5.heap.size; omega)).trans fb
      have hB2 : Below w.heap.size w w2 := bthen hB5 hb
      have hz2 : w.heap.size + 1 + 1 + 1 + 1 < w2.heap.size := by have := hb.size; omega
      have hz20 : w.heap.size < w2.heap.size := by omega
      have hz21 : w.heap.size + 1 < w2.heap.size := by omega
      have hz22 : w.heap.size + 1 + 1 < w2.heap.size := by omega
      have hz23 : w.heap.size + 1 + 1 + 1 < w2.heap.size := by omega
      clear hb hB5 hz5 HL hT
      go_wp2_with fail
      exact bodyPost_ret (v := .tuple #[.int .u8 0, .bool false]) (by simp [results, Tryd.results15, go_sem, a0, b0, fa, fb, hz2, hz20, hz21, hz22, hz23]) rfl ⟨rfl, by (repeat' (first | with_reducible exact hB2 | refine Below.setCell ?_ (by first | omega | (simp; done) | (simp; omega)) _ | refine Below.alloc ?_ (by first | omega | (simp; done) | (simp; omega)) _))⟩
    · have h2 : 1 < src := by rcases hn with h | h | h; cases h; exact absurd h h1; exact h
      have e1 : decide (1 < side) = false := decide_eq_false h1
      have e2 : decide (1 < src) = true := decide_eq_true h2
      clear hn h1 h2
      go_enter Tryd.func15, Tryd.ntmps15
      go_wp2_with (refine wpList_load_wide 29 _ rfl (by rfl) _ _ rfl F _ Tryd.underlying29 rfl Hsz.out ?_ ?_; (· (repeat (first | (refine range_new' _ _ _ _ ?_; first | rfl | (simp; done)) | refine World.rangeAt_alloc ?_ _))))
      obtain ⟨W5, hW5⟩ : ∃ W5, (((((w.alloc (.cells #[.int .u8 p, .int .u32 s, .int .u32 d, .int .u16 sp, .int .u16 dp, .int .u8 side] 27)).alloc (.cells F 29)).alloc (.cells #[.int .u8 src] 5)).alloc (.cells #[.int .u8 0] 5)).alloc (.cells #[.bool false] 4)) = W5 := ⟨_, rfl⟩
      have hB5 : Below w.heap.size w W5 := by
        rw [← hW5]
        (repeat' (first | exact Below.refl _ _ | refine Below.alloc ?_ (by first | omega | (simp; done) | (simp; omega)) _))
      have hz5 : W5.heap.size = w.heap.size + 1 + 1 + 1 + 1 + 1 := by rw [← hW5]; simp
      have x5 : W5.cell? ⟨w.heap.size, 5, none⟩ = some (.int .u8 side) := by rw [← hW5]; simp [go_sem]
      have r0 : W5.cell? ⟨w.heap.size + 1 + 1, 0, none⟩ = some (.int .u8 src) := by rw [← hW5]; simp [go_sem]
      have a0 : W5.cell? ⟨w.heap.size + 1 + 1 + 1, 0, none⟩ = some (.int .u8 0) := by rw [← hW5]; simp [go_sem]
      have b0 : W5.cell? ⟨w.heap.size + 1 + 1 + 1 + 1, 0, none⟩ = some (.bool false) := by rw [← hW5]; simp [go_sem]
      have fa : W5.frozen? ⟨w.heap.size + 1 + 1 + 1, 0, none⟩ = false := by rw [← hW5]; simp [go_sem]
      have fb : W5.frozen? ⟨w.heap.size + 1 + 1 + 1 + 1, 0, none⟩ = false := by rw [← hW5]; simp [go_sem]
      rw [hW5]
      clear hW5
      refine (HL.out _ (hT.below hB5)).mono ?_
      rintro e w2 ⟨rfl, hb⟩
      replace x5 := (hb.cell (p := ⟨w.heap.size, 5, none⟩) (by show w.heap.size < W5.heap.size; omega)).trans x5
      replace r0 := (hb.cell (p := ⟨w.heap.size + 1 + 1, 0, none⟩) (by show w.heap.size + 1 + 1 < W5.heap.size; omega)).trans r0
      replace a0 := (hb.cell (p := ⟨w.heap.size + 1 + 1 + 1, 0, none⟩) (by show w.heap.size + 1 + 1 + 1 < W5.heap.size; omega)).trans a0
      replace b0 := (hb.cell (p := ⟨w.heap.size + 1 + 1 + 1 + 1, 0, none⟩) (by show w.heap.size + 1 + 1 + 1 + 1 < W5.heap.size; omega)).trans b0
      replace fa := (hb.frozen (p := ⟨w.heap.size + 1 + 1 + 1, 0, none⟩) (by show w.heap.size + 1 + 1 + 1 < W5.heap.size; omega)).trans fa
      replace fb := (hb.frozen (p := ⟨w.heap.size + 1 + 1 + 1 + 1, 0, none⟩) (by show w.heap.size + 1 + 1 + 1 + 1 < W5.heap.size; omega)).trans fb
      have hB2 : Below w.heap.size w w2 := bthen hB5 hb
      have hz2 : w.heap.size + 1 + 1 + 1 + 1 < w2.heap.size := by have := hb.size; omega
      have hz20 : w.heap.size < w2.heap.size := by omega
      have hz21 : w.heap.size + 1 < w2.heap.size := by omega
      have hz22 : w.heap.size + 1 + 1 < w2.heap.size := by omega
      have hz23 : w.heap.size + 1 + 1 + 1 < w2.heap.size := by omega
      clear hb hB5 hz5 HL hT
      go_wp2_with fail
      exact bodyPost_ret (v := .tuple #[.int .u8 0, .bool false]) (by simp [results, Tryd.results15, go_sem, a0, b0, fa, fb, hz2, hz20, hz21, hz22, hz23]) rfl ⟨rfl, by (repeat' (first | with_reducible exact hB2 | refine Below.setCell ?_ (by first | omega | (simp; done) | (simp; omega)) _ | refine Below.alloc ?_ (by first | omega | (simp; done) | (simp; omega)) _))⟩

theorem quotes_any (F : Array Value) (p s d sp dp side dst kind typ qp qs qd qsp qdp qk src : Int) (w : World) (h : Fa F dst kind typ qp qs qd qsp qdp qk) (hT : Tabs w) (hp : 0 ≤ p ∧ p ≤ 255) (hs : 0 ≤ side) (hr : 0 ≤ src) :
    Calls Tryd.prog 15 #[.agg #[.int .u8 p, .int .u32 s, .int .u32 d, .int .u16 sp, .int .u16 dp, .int .u8 side], .agg F, .int .u8 src] w fun e w' =>
      e = .returned (.tuple #[.int .u8 (quo p s d sp dp side dst kind typ qp qs qd qsp qdp qk src).1, .bool (quo p s d sp dp side dst kind typ qp qs qd qsp qdp qk src).2]) ∧ Below w.heap.size w w' := by
  by_cases hc : can dst kind typ qp qs qk = true ∧ side ≤ 1 ∧ src ≤ 1
  · exact quotes_yes F p s d sp dp side dst kind typ qp qs qd qsp qdp qk src w h hT hp hc.1 ⟨hs, hc.2.1⟩ ⟨hr, hc.2.2⟩
  · have e : quo p s d sp dp side dst kind typ qp qs qd qsp qdp qk src = (0, false) := by
      unfold quo
      rw [if_neg]
      intro hx
      simp only [Bool.and_eq_true, decide_eq_true_eq] at hx
      exact hc hx
    rw [e]
    refine quotes_no F p s d sp dp side dst kind typ qp qs qd qsp qdp qk src w h hT ?_
    by_cases h1 : 1 < side
    · exact .inr (.inl h1)
    · by_cases h2 : 1 < src
      · exact .inr (.inr h2)
      · left
        cases hcc : can dst kind typ qp qs qk with
        | false => rfl
        | true => exact absurd ⟨hcc, by omega, by omega⟩ hc

end Go.Proofs.YtapeminpgojeaaaDoor

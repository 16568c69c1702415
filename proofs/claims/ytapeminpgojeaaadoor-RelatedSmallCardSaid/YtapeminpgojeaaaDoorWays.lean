/-
  The iterator of package related's ways: whatever loop calls it, it hands over both directions of a flow, one after the other, and stops where the loop does. Conditions: the flow's numbers lie in their ranges, its side is one of both, and the two package maps lie as the program's text lays them.
-/
import Derived.Test.YtapeminpgojeaaaDoorLook
import Derived.Test.YtapeminpgojeaaaDoorRng
import Derived.Shelf.Abstract
import Derived.Shelf.RegionOpen
import Derived.OwnWalkIn
import Derived.TacticsInMore
import Derived.LoopNIn
import Derived.LoopIn
namespace Go.Proofs.YtapeminpgojeaaaDoor
open Go.RowKit Go.Shelf
set_option linter.unusedVariables false
attribute [local go_sem] Oper.semAt_some

/-- A direction of a flow. -/
structure Wy where
  dir : Int
  p : Int
  s : Int
  d : Int
  sp : Int
  dp : Int
  kind : Int
  to : Int
def Wy.enc (y : Wy) : Array Value := #[.agg #[.int .u8 y.dir, .int .u8 y.p, .int .u32 y.s, .int .u32 y.d, .int .u16 y.sp, .int .u16 y.dp, .int .u8 y.kind, .int .u8 y.to]]
def way0 (p s d sp dp side : Int) : Wy := ⟨0, p, s, d, sp, dp, ko p, 1 - side⟩
def way1 (p s d sp dp side : Int) : Wy := ⟨1, p, d, s, dp, sp, kr p, side⟩

theorem ways_any (p s d sp dp side : Int) (w : World) :
    Calls Tryd.prog 26 #[.agg #[.int .u8 p, .int .u32 s, .int .u32 d, .int .u16 sp, .int .u16 dp, .int .u8 side]] w fun e w' => e = .returned (.func (.func 31) #[] #[.pointer (some ⟨w.heap.size, 0, none⟩)]) ∧
      w.alloc (.cells #[.int .u8 p, .int .u32 s, .int .u32 d, .int .u16 sp, .int .u16 dp, .int .u8 side] 27) = w' := by
  go_enter Tryd.func26, Tryd.ntmps26
  go_wp2
  go_ret
  exact ⟨rfl, rfl⟩

theorem kind_below (p s d sp dp dir : Int) (w : World) (hp : 0 ≤ p ∧ p ≤ 255) (hd : 0 ≤ dir ∧ dir ≤ 255) (h : Tabs w) :
    Calls Tryd.prog 18 #[.agg #[.int .u8 p, .int .u32 s, .int .u32 d, .int .u16 sp, .int .u16 dp], .int .u8 dir] w fun e w' => e = .returned (.tuple #[.int .u8 (kd p dir), .bool (kok p dir)]) ∧ Below w.heap.size w w' :=
  (kind_any p s d sp dp dir w hp hd h).mono fun e w' ⟨h1, h2⟩ => ⟨h1, by subst h2; exact ((Below.refl _ _).alloc (Nat.le_refl _) _).alloc (by simp) _⟩
theorem kind_b0 (p s d sp dp : Int) (w : World) (hp : 0 ≤ p ∧ p ≤ 255) (h : Tabs w) :
    Calls Tryd.prog 18 #[.agg #[.int .u8 p, .int .u32 s, .int .u32 d, .int .u16 sp, .int .u16 dp], .int .u8 0] w fun e w' => e = .returned (.tuple #[.int .u8 (ko p), .bool (known p)]) ∧ Below w.heap.size w w' :=
  (kind_below p s d sp dp 0 w hp (by decide) h).mono fun e w' ⟨h1, h2⟩ => ⟨by rw [h1]; simp [kd, kok], h2⟩
theorem kind_b1 (p s d sp dp : Int) (w : World) (hp : 0 ≤ p ∧ p ≤ 255) (h : Tabs w) :
    Calls Tryd.prog 18 #[.agg #[.int .u8 p, .int .u32 s, .int .u32 d, .int .u16 sp, .int .u16 dp], .int .u8 1] w fun e w' => e = .returned (.tuple #[.int .u8 (kr p), .bool (known p)]) ∧ Below w.heap.size w w' :=
  (kind_below p s d sp dp 1 w hp (by decide) h).mono fun e w' ⟨h1, h2⟩ => ⟨by rw [h1]; simp [kd, kok], h2⟩
theorem turn_below (p s d sp dp : Int) (w : World) :
    Calls Tryd.prog 17 #[.agg #[.int .u8 p, .int .u32 s, .int .u32 d, .int .u16 sp, .int .u16 dp]] w fun e w' => e = .returned (.agg #[.int .u8 p, .int .u32 d, .int .u32 s, .int .u16 dp, .int .u16 sp]) ∧ Below w.heap.size w w' :=
  (turn_any p s d sp dp w).mono fun e w' ⟨h1, h2⟩ => ⟨h1, by subst h2; exact ((Below.refl _ _).alloc (Nat.le_refl _) _).alloc (by simp) _⟩

theorem blk_alloc {w : World} {b : Nat} {x : Obj} (h : w.heap[b]? = some x) (o : Obj) : (w.alloc o).heap[b]? = some x := blk_below ((Below.refl _ _).alloc (Nat.le_refl _) o) h
theorem set8 {w : World} {b : Nat} {a0 a1 a2 a3 a4 a5 a6 a7 : Value} {t : TypeId} (h : w.heap[b]? = some (.cells #[a0, a1, a2, a3, a4, a5, a6, a7] t (0, 0))) (v0 v1 v2 v3 v4 v5 v6 v7 : Value) :
    ((((((((w.setCell ⟨b, 0, none⟩ v0).setCell ⟨b, 1, none⟩ v1).setCell ⟨b, 2, none⟩ v2).setCell ⟨b, 3, none⟩ v3).setCell ⟨b, 4, none⟩ v4).setCell ⟨b, 5, none⟩ v5).setCell ⟨b, 6, none⟩ v6).setCell ⟨b, 7, none⟩ v7).heap[b]? = some (.cells #[v0, v1, v2, v3, v4, v5, v6, v7] t (0, 0)) := by
  have := blk_set (blk_set (blk_set (blk_set (blk_set (blk_set (blk_set (blk_set h 0 v0) 1 v1) 2 v2) 3 v3) 4 v4) 5 v5) 6 v6) 7 v7
  simpa using this
theorem turned_world {w : World} {b : Nat} {a0 a1 a2 a3 a4 a5 a6 a7 : Value} {t : TypeId} (h : w.heap[b]? = some (.cells #[a0, a1, a2, a3, a4, a5, a6, a7] t (0, 0))) (x y : Obj) (v0 v1 v2 v3 v4 v5 v6 v7 : Value) :
    ((((((((((w.setCell ⟨b, 0, none⟩ v0).setCell ⟨b, 1, none⟩ v1).setCell ⟨b, 2, none⟩ v2).setCell ⟨b, 3, none⟩ v3).setCell ⟨b, 4, none⟩ v4).setCell ⟨b, 5, none⟩ v5).setCell ⟨b, 6, none⟩ v6).setCell ⟨b, 7, none⟩ v7).alloc x).alloc y).drew.heap[b]? = some (.cells #[v0, v1, v2, v3, v4, v5, v6, v7] t (0, 0)) ∧ Below b w ((((((((((w.setCell ⟨b, 0, none⟩ v0).setCell ⟨b, 1, none⟩ v1).setCell ⟨b, 2, none⟩ v2).setCell ⟨b, 3, none⟩ v3).setCell ⟨b, 4, none⟩ v4).setCell ⟨b, 5, none⟩ v5).setCell ⟨b, 6, none⟩ v6).setCell ⟨b, 7, none⟩ v7).alloc x).alloc y).drew := by
  have hlt := blk_lt h
  have h8 := set8 h v0 v1 v2 v3 v4 v5 v6 v7
  have hlt8 := blk_lt h8
  have hb : Below b w ((((((((w.setCell ⟨b, 0, none⟩ v0).setCell ⟨b, 1, none⟩ v1).setCell ⟨b, 2, none⟩ v2).setCell ⟨b, 3, none⟩ v3).setCell ⟨b, 4, none⟩ v4).setCell ⟨b, 5, none⟩ v5).setCell ⟨b, 6, none⟩ v6).setCell ⟨b, 7, none⟩ v7) := (((((((((Below.refl b w).setCell (p := ⟨b, 0, none⟩) (Nat.le_refl _) v0).setCell (p := ⟨b, 1, none⟩) (Nat.le_refl _) v1).setCell (p := ⟨b, 2, none⟩) (Nat.le_refl _) v2).setCell (p := ⟨b, 3, none⟩) (Nat.le_refl _) v3).setCell (p := ⟨b, 4, none⟩) (Nat.le_refl _) v4).setCell (p := ⟨b, 5, none⟩) (Nat.le_refl _) v5).setCell (p := ⟨b, 6, none⟩) (Nat.le_refl _) v6).setCell (p := ⟨b, 7, none⟩) (Nat.le_refl _) v7)
  refine ⟨blk_alloc (blk_alloc h8 x) y, ?_⟩
  exact ((hb.alloc (by omega) x).alloc (by rw [World.size_alloc]; omega) y).drew
theorem wide_call {n : Nat} {P : Program} {f : FuncId} {args : Array Value} {w : World} {R : Ending → World → Prop} (h : Calls P f args w R) : Fence.wide.fn f ∧ (Fence.wide.depth.isSome = true → 1 ≤ n) ∧ CallsIn Fence.wide (n - 1) P f args w R :=
  ⟨trivial, fun h => (by cases h), callsIn_wide.2 h⟩
/-- How many rounds are to come. -/
def dirLeft (b : Nat) (w : World) : Nat :=
  match w.cell? ⟨b, 0, none⟩ with
  | some (.int _ n) => if n = 0 then 1 else 0
  | _ => 0

theorem dirLeft_blk {b : Nat} {n : Int} {r : List Value} {t : TypeId} {w : World} (h : w.heap[b]? = some (.cells (.int .u8 n :: r).toArray t (0, 0))) : dirLeft b w = if n = 0 then 1 else 0 := by
  unfold dirLeft
  rw [blk_cell h 0]
  rfl

set_option maxRecDepth 100000 in
set_option maxHeartbeats 4000000 in
theorem ways_yields (n B n₀ : Nat) (p s d sp dp side : Int) (w : World) (hp : 0 ≤ p ∧ p ≤ 255) (hs : 0 ≤ side ∧ side ≤ 1) (hT : Tabs w) (hn : n₀ = w.heap.size)
    (hB : w.heap[B]? = some (.cells #[.int .u8 p, .int .u32 s, .int .u32 d, .int .u16 sp, .int .u16 dp, .int .u8 side] 27 (0, 0))) :
    Yields n Tryd.prog 31 #[.pointer (some ⟨B, 0, none⟩)] Wy.enc (fun ys => ys = [way0 p s d sp dp side, way1 p s d sp dp side]) (fun ys => ys = [way0 p s d sp dp side] ∨ ys = [way0 p s d sp dp side, way1 p s d sp dp side]) n₀ w := by
  subst hn
  intro l J Jx W hW hJ hJx hY h0
  have hBlt := blk_lt hB
  have hsz : w.heap.size ≤ W.heap.size := hW.size
  obtain ⟨hs0, hs1⟩ := hs
  refine callsIn_of_wp Tryd.func31 rfl trivial ?_ rfl
  simp only [Tryd.ntmps31, List.size_toArray, List.length_cons, List.length_nil, Nat.reduceAdd, Nat.reduceSub, Array.replicate_succ, Array.replicate_zero, List.push_toArray, List.append_toArray, List.nil_append, List.cons_append]
  have c0 := blk_cell (blk_below hW hB) 0
  have c1 := blk_cell (blk_below hW hB) 1
  have c2 := blk_cell (blk_below hW hB) 2
  have c3 := blk_cell (blk_below hW hB) 3
  have c4 := blk_cell (blk_below hW hB) 4
  have c5 := blk_cell (blk_below hW hB) 5
  simp at c0 c1 c2 c3 c4 c5
  gi_wp2
  gi_loopw [] (fun wr => Below w.heap.size w wr ∧ ((J [] wr ∧ wr.heap[W.heap.size]? = some (.cells #[.int .u8 0, .int .u8 p, .int .u32 s, .int .u32 d, .int .u16 sp, .int .u16 dp, .int .u8 0, .int .u8 (1 - side)] 62 (0, 0))) ∨
      (J [way0 p s d sp dp side] wr ∧ wr.heap[W.heap.size]? = some (.cells #[.int .u8 1, .int .u8 p, .int .u32 d, .int .u32 s, .int .u16 dp, .int .u16 sp, .int .u8 0, .int .u8 side] 62 (0, 0)))))
    (fun wr => dirLeft W.heap.size wr)
  case atStart => exact ⟨hW.alloc hsz _, .inl ⟨hJ _ _ _ h0 ((Below.refl _ _).alloc (Nat.le_refl _) _), heap_alloc_last _ _⟩⟩
  case round =>
    clear c0 c1 c2 c3 c4 c5
    obtain ⟨hb0, ⟨hJ1, hk⟩ | ⟨hJ1, hk⟩⟩ := hrel
    · have hTr := hT.below hb0
      have hlt := blk_lt hk
      have dl := dirLeft_blk hk
      have d0 := blk_cell (blk_below hb0 hB) 0
      have d1 := blk_cell (blk_below hb0 hB) 1
      have d2 := blk_cell (blk_below hb0 hB) 2
      have d3 := blk_cell (blk_below hb0 hB) 3
      have d4 := blk_cell (blk_below hb0 hB) 4
      have d5 := blk_cell (blk_below hb0 hB) 5
      simp at d0 d1 d2 d3 d4 d5
      have e0 := blk_cell hk 0
      have e1 := blk_cell hk 1
      have e2 := blk_cell hk 2
      have e3 := blk_cell hk 3
      have e4 := blk_cell hk 4
      have e5 := blk_cell hk 5
      have e6 := blk_cell hk 6
      have e7 := blk_cell hk 7
      simp at e0 e1 e2 e3 e4 e5 e6 e7
      gi_wp2_with fail
      refine wide_call ((kind_b0 p s d sp dp _ hp hTr).mono ?_)
      rintro e w2 ⟨rfl, hb2⟩
      have hk2 := blk_below hb2 hk
      have hk3 := blk_set hk2 6 (.int .u8 (ko p))
      simp at hk3
      have hf := blk_free hk2 6
      clear d0 d1 d2 d3 d4 d5 e0 e1 e2 e3 e4 e5 e6 e7
      have e0 := blk_cell hk2 0
      have e1 := blk_cell hk2 1
      have e2 := blk_cell hk2 2
      have e3 := blk_cell hk2 3
      have e4 := blk_cell hk2 4
      have e5 := blk_cell hk2 5
      have e6 := blk_cell hk2 6
      have e7 := blk_cell hk2 7
      simp at e0 e1 e2 e3 e4 e5 e6 e7
      have hb3 : Below W.heap.size wr (w2.setCell ⟨W.heap.size, 6, none⟩ (.int .u8 (ko p))) := (hb2.mono (Nat.le_of_lt hlt)).setCell (p := ⟨W.heap.size, 6, none⟩) (Nat.le_refl _) _
      have hJ3 := hJ _ _ _ hJ1 hb3
      obtain ⟨fn, tmps, assign, body, hy, hR⟩ := hY _ (way0 p s d sp dp side) _ hJ3
      dsimp only [way0, way1, Wy.enc] at hy
      gi_wp2_with fail
      refine ⟨fun h => (by cases h), hR.mono ?_⟩
      rintro e W3 (⟨rfl, hJ4, hK⟩ | ⟨rfl, hJx4⟩)
      · clear hy hR e0 e1 e2 e3 e4 e5 e6 e7 hf
        have hk4 := blk_keep hK (.inr (Nat.le_refl _)) hk3
        have hb4 : Below w.heap.size w W3 := (hb0.trans (hb3.mono hsz)).trans hK.low
        have hf := blk_free hk4
        have e0 := blk_cell hk4 0
        have e1 := blk_cell hk4 1
        have e2 := blk_cell hk4 2
        have e3 := blk_cell hk4 3
        have e4 := blk_cell hk4 4
        have e5 := blk_cell hk4 5
        have e6 := blk_cell hk4 6
        have e7 := blk_cell hk4 7
        simp at e0 e1 e2 e3 e4 e5 e6 e7
        have d0 := blk_cell (blk_below hb4 hB) 0
        have d1 := blk_cell (blk_below hb4 hB) 1
        have d2 := blk_cell (blk_below hb4 hB) 2
        have d3 := blk_cell (blk_below hb4 hB) 3
        have d4 := blk_cell (blk_below hb4 hB) 4
        have d5 := blk_cell (blk_below hb4 hB) 5
        simp at d0 d1 d2 d3 d4 d5
        have hmx : Tryd.prog.follows .mixedOrders = true := by kernel_rfl
        have hlt4 := blk_lt hk4
        have hB4 := blk_lt (blk_below hb4 hB)
        clear hk2 hk3 hb2 hb3 hJ3 hJ1 hk hTr hb0 hlt
        gi_wp2_with fail
        clear hT hB hJx hY h0
        gi_region_with_o (refine ⟨trivial, fun h => (by cases h), ?_⟩; gi_at_call 17; refine (callsIn_wide.2 (turn_any p s d sp dp _)).mono ?_; rintro e w5 ⟨rfl, rfl⟩)
        all_goals
          obtain ⟨hb5, hb6⟩ := turned_world hk4 (.cells #[.int .u8 p, .int .u32 d, .int .u32 s, .int .u16 dp, .int .u16 sp] 25) (.cells #[.int .u8 p, .int .u32 d, .int .u32 s, .int .u16 dp, .int .u16 sp] 25) (.int .u8 1) (.int .u8 p) (.int .u32 d) (.int .u32 s) (.int .u16 dp) (.int .u16 sp) (.int .u8 0) (.int .u8 side)
          obtain ⟨X, hX⟩ : ∃ X, ((((((((((W3.setCell ⟨W.heap.size, 0, none⟩ (.int .u8 1)).setCell ⟨W.heap.size, 1, none⟩ (.int .u8 p)).setCell ⟨W.heap.size, 2, none⟩ (.int .u32 d)).setCell ⟨W.heap.size, 3, none⟩ (.int .u32 s)).setCell ⟨W.heap.size, 4, none⟩ (.int .u16 dp)).setCell ⟨W.heap.size, 5, none⟩ (.int .u16 sp)).setCell ⟨W.heap.size, 6, none⟩ (.int .u8 0)).setCell ⟨W.heap.size, 7, none⟩ (.int .u8 side)).alloc (.cells #[.int .u8 p, .int .u32 d, .int .u32 s, .int .u16 dp, .int .u16 sp] 25)).alloc (.cells #[.int .u8 p, .int .u32 d, .int .u32 s, .int .u16 dp, .int .u16 sp] 25)).drew = X := ⟨_, rfl⟩
          rw [hX] at hb5 hb6 ⊢
          have hb7 := hJ _ _ _ hJ4 hb6
          have hb8 : Below w.heap.size w X := hb4.trans (hb6.mono hsz)
          have hb9 : dirLeft W.heap.size X < dirLeft W.heap.size wr := by rw [dl, dirLeft_blk hb5]; simp
          clear hX hk4 hb6 hJ4 hK e0 e1 e2 e3 e4 e5 e6 e7 d0 d1 d2 d3 d4 d5 hf dl
          refine ⟨?_, hb9⟩
          exact ⟨_, _, _, _, _, _, _, _, _, _, _, _, _, _, _, _, _, _, _, _, _, _, _, _, ⟨hb8, .inr ⟨hb7, hb5⟩⟩, rfl⟩
      · clear hy hR e0 e1 e2 e3 e4 e5 e6 e7 hf
        gi_wp2_with fail
        refine bodyPost_ret (results_none rfl _ _ _) rfl ?_
        exact ⟨⟨_, rfl⟩, .inr ⟨_, .inl rfl, hJx4⟩⟩
    · have hTr := hT.below hb0
      have hlt := blk_lt hk
      have dl := dirLeft_blk hk
      have d0 := blk_cell (blk_below hb0 hB) 0
      have d1 := blk_cell (blk_below hb0 hB) 1
      have d2 := blk_cell (blk_below hb0 hB) 2
      have d3 := blk_cell (blk_below hb0 hB) 3
      have d4 := blk_cell (blk_below hb0 hB) 4
      have d5 := blk_cell (blk_below hb0 hB) 5
      simp at d0 d1 d2 d3 d4 d5
      have e0 := blk_cell hk 0
      have e1 := blk_cell hk 1
      have e2 := blk_cell hk 2
      have e3 := blk_cell hk 3
      have e4 := blk_cell hk 4
      have e5 := blk_cell hk 5
      have e6 := blk_cell hk 6
      have e7 := blk_cell hk 7
      simp at e0 e1 e2 e3 e4 e5 e6 e7
      gi_wp2_with fail
      refine wide_call ((kind_b1 p s d sp dp _ hp hTr).mono ?_)
      rintro e w2 ⟨rfl, hb2⟩
      have hk2 := blk_below hb2 hk
      have hk3 := blk_set hk2 6 (.int .u8 (kr p))
      simp at hk3
      have hf := blk_free hk2 6
      clear d0 d1 d2 d3 d4 d5 e0 e1 e2 e3 e4 e5 e6 e7
      have e0 := blk_cell hk2 0
      have e1 := blk_cell hk2 1
      have e2 := blk_cell hk2 2
      have e3 := blk_cell hk2 3
      have e4 := blk_cell hk2 4
      have e5 := blk_cell hk2 5
      have e6 := blk_cell hk2 6
      have e7 := blk_cell hk2 7
      simp at e0 e1 e2 e3 e4 e5 e6 e7
      have hb3 : Below W.heap.size wr (w2.setCell ⟨W.heap.size, 6, none⟩ (.int .u8 (kr p))) := (hb2.mono (Nat.le_of_lt hlt)).setCell (p := ⟨W.heap.size, 6, none⟩) (Nat.le_refl _) _
      have hJ3 := hJ _ _ _ hJ1 hb3
      obtain ⟨fn, tmps, assign, body, hy, hR⟩ := hY _ (way1 p s d sp dp side) _ hJ3
      dsimp only [way0, way1, Wy.enc] at hy
      gi_wp2_with fail
      refine ⟨fun h => (by cases h), hR.mono ?_⟩
      rintro e W3 (⟨rfl, hJ4, hK⟩ | ⟨rfl, hJx4⟩)
      · clear hy hR e0 e1 e2 e3 e4 e5 e6 e7 hf
        have hk4 := blk_keep hK (.inr (Nat.le_refl _)) hk3
        have hb4 : Below w.heap.size w W3 := (hb0.trans (hb3.mono hsz)).trans hK.low
        have hf := blk_free hk4
        have e0 := blk_cell hk4 0
        have e1 := blk_cell hk4 1
        have e2 := blk_cell hk4 2
        have e3 := blk_cell hk4 3
        have e4 := blk_cell hk4 4
        have e5 := blk_cell hk4 5
        have e6 := blk_cell hk4 6
        have e7 := blk_cell hk4 7
        simp at e0 e1 e2 e3 e4 e5 e6 e7
        gi_wp2_with fail
        refine bodyPost_ret (results_none rfl _ _ _) rfl ?_
        exact ⟨⟨_, rfl⟩, .inl ⟨_, rfl, hJ4⟩⟩
      · clear hy hR e0 e1 e2 e3 e4 e5 e6 e7 hf
        gi_wp2_with fail
        refine bodyPost_ret (results_none rfl _ _ _) rfl ?_
        exact ⟨⟨_, rfl⟩, .inr ⟨_, .inr rfl, hJx4⟩⟩

end Go.Proofs.YtapeminpgojeaaaDoor

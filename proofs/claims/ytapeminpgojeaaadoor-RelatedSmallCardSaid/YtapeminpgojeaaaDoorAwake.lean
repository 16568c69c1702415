/-
  The contract of the laws' own 'awake' (the chapter's examples): it returns true, and writes nothing that was there. Conditions: the two package maps lie as the program's text lays them.
-/
import Derived.Test.YtapeminpgojeaaaDoorTells
import Derived.Test.YtapeminpgojeaaaDoorInv
import Derived.Great.BuildSlice
namespace Go.Proofs.YtapeminpgojeaaaDoor
open Go.RowKit
set_option linter.unusedVariables false
set_option linter.unusedSimpArgs false

def FE : Array Value := #[.int .u8 1, .int .u32 151587081, .int .u32 167772161, .int .u16 0, .int .u16 0, .int .u8 5, .int .u8 0, .int .u8 3, .int .u8 0, .int .u32 0, .int .u32 0, .int .i64 0, .int .i64 0, .int .u8 6, .int .u32 167772161, .int .u32 134744072, .int .u16 40000, .int .u16 80, .int .u8 1]
theorem fa_FE : Fa FE 167772161 5 3 6 167772161 134744072 40000 80 1 := ⟨rfl, by decide +kernel, rfl, rfl, rfl, rfl, rfl, rfl, rfl, rfl, rfl, by decide, by decide, by decide, by decide, by decide, by decide, by decide, by decide, by decide⟩
theorem hi_FE : (Tryd.prog.info? 29).map (·.size) = some FE.toList.length := by rw [info29]; rfl
def FE7 : Array Value := #[.int .u8 1, .int .u32 151587081, .int .u32 167772162, .int .u16 0, .int .u16 0, .int .u8 5, .int .u8 0, .int .u8 3, .int .u8 0, .int .u32 0, .int .u32 0, .int .i64 0, .int .i64 0, .int .u8 6, .int .u32 167772161, .int .u32 134744072, .int .u16 40000, .int .u16 80, .int .u8 1]
theorem fa_FE7 : Fa FE7 167772162 5 3 6 167772161 134744072 40000 80 1 := ⟨rfl, by decide +kernel, rfl, rfl, rfl, rfl, rfl, rfl, rfl, rfl, rfl, by decide, by decide, by decide, by decide, by decide, by decide, by decide, by decide, by decide⟩
theorem hi_FE7 : (Tryd.prog.info? 29).map (·.size) = some FE7.toList.length := by rw [info29]; rfl
def FE8 : Array Value := #[.int .u8 1, .int .u32 151587081, .int .u32 167772161, .int .u16 0, .int .u16 0, .int .u8 5, .int .u8 0, .int .u8 5, .int .u8 0, .int .u32 0, .int .u32 0, .int .i64 0, .int .i64 0, .int .u8 6, .int .u32 167772161, .int .u32 134744072, .int .u16 40000, .int .u16 80, .int .u8 1]
theorem fa_FE8 : Fa FE8 167772161 5 5 6 167772161 134744072 40000 80 1 := ⟨rfl, by decide +kernel, rfl, rfl, rfl, rfl, rfl, rfl, rfl, rfl, rfl, by decide, by decide, by decide, by decide, by decide, by decide, by decide, by decide, by decide⟩
theorem hi_FE8 : (Tryd.prog.info? 29).map (·.size) = some FE8.toList.length := by rw [info29]; rfl
def FE9 : Array Value := #[.int .u8 1, .int .u32 151587081, .int .u32 167772161, .int .u16 0, .int .u16 0, .int .u8 5, .int .u8 0, .int .u8 3, .int .u8 0, .int .u32 0, .int .u32 0, .int .i64 0, .int .i64 0, .int .u8 6, .int .u32 167772161, .int .u32 134744072, .int .u16 80, .int .u16 40000, .int .u8 1]
theorem fa_FE9 : Fa FE9 167772161 5 3 6 167772161 134744072 80 40000 1 := ⟨rfl, by decide +kernel, rfl, rfl, rfl, rfl, rfl, rfl, rfl, rfl, rfl, by decide, by decide, by decide, by decide, by decide, by decide, by decide, by decide, by decide⟩
theorem hi_FE9 : (Tryd.prog.info? 29).map (·.size) = some FE9.toList.length := by rw [info29]; rfl
def FE10 : Array Value := #[.int .u8 1, .int .u32 151587081, .int .u32 134744072, .int .u16 0, .int .u16 0, .int .u8 5, .int .u8 0, .int .u8 3, .int .u8 0, .int .u32 0, .int .u32 0, .int .i64 0, .int .i64 0, .int .u8 6, .int .u32 134744072, .int .u32 167772161, .int .u16 80, .int .u16 40000, .int .u8 1]
theorem fa_FE10 : Fa FE10 134744072 5 3 6 134744072 167772161 80 40000 1 := ⟨rfl, by decide +kernel, rfl, rfl, rfl, rfl, rfl, rfl, rfl, rfl, rfl, by decide, by decide, by decide, by decide, by decide, by decide, by decide, by decide, by decide⟩
theorem hi_FE10 : (Tryd.prog.info? 29).map (·.size) = some FE10.toList.length := by rw [info29]; rfl

theorem range_put {w : World} {b : Nat} {cs : List Value} (h : w.rangeAt b 0 cs) (j : Nat) (v : Value) (hf : w.frozen? ⟨b, j, none⟩ = false) : (w.setCell ⟨b, j, none⟩ v).rangeAt b 0 (cs.set j v) := by
  intro i x hx
  rw [Nat.zero_add]
  have hi : i < cs.length := by
    have := (List.getElem?_eq_some_iff.1 hx).1
    simpa using this
  by_cases hij : j = i
  · subst hij
    have hx' : v = x := by
      rw [List.getElem?_set_self hi] at hx
      exact Option.some.inj hx
    subst hx'
    have h0 := h j _ (List.getElem?_eq_getElem hi)
    rw [Nat.zero_add] at h0
    exact World.cell?_setCell_same' _ _ _ (by rw [h0]; rfl)
  · rw [List.getElem?_set_ne hij] at hx
    have h0 := h i x hx
    rw [Nat.zero_add] at h0
    rw [← h0]
    exact World.cell?_setCell_other _ _ _ _ (by intro e; injection e with e1 e2; exact hij e2)

theorem cell_else (w : World) (b j : Nat) (v : Value) {o : Nat} {b' : Nat} (h : b' ≠ b) : (w.setCell ⟨b, j, none⟩ v).cell? ⟨b', o, none⟩ = w.cell? ⟨b', o, none⟩ :=
  World.cell?_setCell_other _ _ _ _ (by intro e; injection e with e1 e2; exact h e1.symm)
theorem range_else {w : World} {b b' : Nat} {cs : List Value} (h : w.rangeAt b' 0 cs) (hne : b' ≠ b) (j : Nat) (v : Value) : (w.setCell ⟨b, j, none⟩ v).rangeAt b' 0 cs := fun i x hx =>
  (World.cell?_setCell_other _ _ _ _ (by intro e; injection e with e1 e2; exact hne e1.symm)).trans (h i x hx)
theorem kept5 {V : World} {b n j : Nat} {v13 v14 v15 v16 v17 : Value} {A B : Obj} (hn : n ≠ b) (hz : n < V.heap.size) : ((((((((V.setCell ⟨b, 13, none⟩ v13).setCell ⟨b, 14, none⟩ v14).setCell ⟨b, 15, none⟩ v15).setCell ⟨b, 16, none⟩ v16).setCell ⟨b, 17, none⟩ v17).alloc A).alloc B).drew).cell? ⟨n, j, none⟩ = V.cell? ⟨n, j, none⟩ := by
  rw [World.cell?_drew, World.cell?_alloc_past _ _ _ (by simp [World.setCell]; omega), World.cell?_alloc_past _ _ _ (by simp [World.setCell]; omega)]
  simp only [cell_else _ _ _ _ hn]
theorem kept6 {V : World} {b n j : Nat} {v13 v14 v15 v16 v17 v2 : Value} {A B : Obj} (hn : n ≠ b) (hz : n < V.heap.size) : (((((((((V.setCell ⟨b, 13, none⟩ v13).setCell ⟨b, 14, none⟩ v14).setCell ⟨b, 15, none⟩ v15).setCell ⟨b, 16, none⟩ v16).setCell ⟨b, 17, none⟩ v17).setCell ⟨b, 2, none⟩ v2).alloc A).alloc B).drew).cell? ⟨n, j, none⟩ = V.cell? ⟨n, j, none⟩ := by
  rw [World.cell?_drew, World.cell?_alloc_past _ _ _ (by simp [World.setCell]; omega), World.cell?_alloc_past _ _ _ (by simp [World.setCell]; omega)]
  simp only [cell_else _ _ _ _ hn]
theorem results_two {P : Program} {fn : Func} {p q : Tmp} {ty ty' : TypeId} {a b : Addr} {v u : Value} {w : World} (h : fn.results = #[.cell p ty, .cell q ty']) (tmps : Array Value) (hp : tmps.getD p undef = .pointer (some a)) (hq : tmps.getD q undef = .pointer (some b))
    (hl : (loadVar ty a).run P w = .ok v w) (hm : (loadVar ty' b).run P w = .ok u w) : (results fn tmps).run P w = .ok (.tuple #[v, u]) w := by
  rw [Array.getD_eq_getD_getElem?] at hp hq
  simp only [results, h]
  simp [hp, hq, asAddr, hl, hm]
theorem quotes_is (F : Array Value) (p s d sp dp side dst kind typ qp qs qd qsp qdp qk src a : Int) (b : Bool) (w : World) (h : Fa F dst kind typ qp qs qd qsp qdp qk) (hT : Tabs w) (hp : 0 ≤ p ∧ p ≤ 255) (hs : 0 ≤ side) (hr : 0 ≤ src)
    (hq : quo p s d sp dp side dst kind typ qp qs qd qsp qdp qk src = (a, b)) :
    Calls Tryd.prog 15 #[.agg #[.int .u8 p, .int .u32 s, .int .u32 d, .int .u16 sp, .int .u16 dp, .int .u8 side], .agg F, .int .u8 src] w fun e w' => e = .returned (.tuple #[.int .u8 a, .bool b]) ∧ Below w.heap.size w w' := by
  have := quotes_any F p s d sp dp side dst kind typ qp qs qd qsp qdp qk src w h hT hp hs hr
  rw [hq] at this
  exact this

theorem info27 : (Tryd.prog.info? 27).map (·.size) = some 6 := by kernel_rfl
def Ky0 : Array Value := #[.int .u8 6, .int .u32 167772161, .int .u32 134744072, .int .u16 40000, .int .u16 80]
theorem built_FE : Tryd.prog.built 29 [(0, .agg #[.int .u8 1, .int .u32 151587081, .int .u32 167772161, .int .u16 0, .int .u16 0]), (1, .int .u8 5), (3, .int .u8 3), (9, .agg #[.int .u8 6, .int .u32 167772161, .int .u32 134744072, .int .u16 40000, .int .u16 80]), (10, .int .u8 1)] = some FE := by kernel_rfl
/-- A struct literal, its value said. -/
theorem wpList_buildSaid {P : Program} {ops : Array Oper} {rest : List Oper} {o : Oper} {a : Act} {w : World} {Q : Exit → Act → World → Prop} (hg : o.guard = none) (t : TypeId) (parts : Array (Nat × Operand)) (ho : o.op = .build t parts)
    (vs : List (Nat × Value)) (d : Option Tmp) (hd : o.dst = d) (hp : (parts.map fun (i, x) => (i, a.eval x)).toList = vs) (cells : Array Value) (hf : P.built t vs = some cells)
    (h : wpList P ops Q rest (a.put d (.agg cells)) w) : wpList P ops Q (o :: rest) a w :=
  wpList_buildTo hg t parts ho d hd cells (by rw [hp]; exact hf) h
def Fl0 : Array Value := #[.int .u8 6, .int .u32 167772161, .int .u32 134744072, .int .u16 40000, .int .u16 80, .int .u8 0]
theorem info25 : (Tryd.prog.info? 25).map (·.size) = some 5 := by kernel_rfl
structure ExR (w : World) (D : Nat → Prop) (v10 v11 v12 : Value) (w' : World) : Prop where
  b : Below w.heap.size w w'
  p : w'.rangeAt (w.heap.size + 1 + 1) 0 Ky0.toList
  r : w'.rangeAt (w.heap.size + 1 + 1 + 1) 0 FE.toList
  t0 : w'.there w.heap.size 0 6
  t1 : w'.there (w.heap.size + 1) 0 19
  e0 : D 0 → v10 = .agg Ky0
  e1 : D 1 → v11 = .agg Fl0
  e2 : D 2 → v12 = .agg FE
  e3 : D 3 → w'.rangeAt w.heap.size 0 Fl0.toList
set_option maxRecDepth 100000 in
set_option maxHeartbeats 2000000 in
theorem example_any (w : World) : Calls Tryd.prog 21 #[] w fun e w' => e = .returned (.tuple #[.agg #[.int .u8 6, .int .u32 167772161, .int .u32 134744072, .int .u16 40000, .int .u16 80, .int .u8 0], .agg FE]) ∧ Below w.heap.size w w' := by
  go_enter Tryd.func21, Tryd.ntmps21
  go_wp2_with (first | (refine wpList_buildSaid rfl 29 #[(0, .tmp 7), (1, .const (.int .u8 5)), (3, .const (.int .u8 3)), (9, .tmp 8), (10, .const (.int .u8 1))] rfl [(0, .agg #[.int .u8 1, .int .u32 151587081, .int .u32 167772161, .int .u16 0, .int .u16 0]), (1, .int .u8 5), (3, .int .u8 3), (9, .agg #[.int .u8 6, .int .u32 167772161, .int .u32 134744072, .int .u16 40000, .int .u16 80]), (10, .int .u8 1)] _ rfl ?_ FE built_FE ?_; (· simp; rfl)) | (refine wpList_store_wide 29 (.tmp 3) (.tmp 9) rfl rfl (w.heap.size + 1 + 1 + 1) 0 FE rfl rfl w.heap.size w (by rw [info29]; rfl) (by decide +kernel) ?_ (by omega) ?_ ?_; (· (repeat' (first | exact Below.refl _ _ | refine Below.setCell ?_ (by first | omega | (simp; done) | (simp; omega)) _ | refine Below.alloc ?_ (by first | omega | (simp; done) | (simp; omega)) _))); (· exact there_new _ _ _ _ _ (by simp) rfl); intro V hbV zV r3 _ thV hcV))
  have p0 : V.cell? ⟨w.heap.size + 1 + 1, 0, none⟩ = some (.int .u8 6) := (hcV (w.heap.size + 1 + 1) 0 (by omega)).trans (by simp [go_sem])
  have p1 : V.cell? ⟨w.heap.size + 1 + 1, 1, none⟩ = some (.int .u32 167772161) := (hcV (w.heap.size + 1 + 1) 1 (by omega)).trans (by simp [go_sem])
  have p2 : V.cell? ⟨w.heap.size + 1 + 1, 2, none⟩ = some (.int .u32 134744072) := (hcV (w.heap.size + 1 + 1) 2 (by omega)).trans (by simp [go_sem])
  have p3 : V.cell? ⟨w.heap.size + 1 + 1, 3, none⟩ = some (.int .u16 40000) := (hcV (w.heap.size + 1 + 1) 3 (by omega)).trans (by simp [go_sem])
  have p4 : V.cell? ⟨w.heap.size + 1 + 1, 4, none⟩ = some (.int .u16 80) := (hcV (w.heap.size + 1 + 1) 4 (by omega)).trans (by simp [go_sem])
  have t0 : V.there w.heap.size 0 6 := by
    refine thV _ _ _ (World.there_alloc (World.there_alloc (World.there_alloc ?_ _) _) _)
    exact there_new _ _ _ _ _ rfl rfl
  have t1 : V.there (w.heap.size + 1) 0 19 := by
    refine thV _ _ _ (World.there_alloc (World.there_alloc ?_ _) _)
    exact there_new _ _ _ _ _ (by simp) rfl
  have z3 : w.heap.size + 1 + 1 + 1 < V.heap.size := by rw [zV]; simp
  have z2 : w.heap.size + 1 + 1 < V.heap.size := by omega
  have z1 : w.heap.size + 1 < V.heap.size := by omega
  have z0 : w.heap.size < V.heap.size := by omega
  clear hcV thV zV
  have p : V.rangeAt (w.heap.size + 1 + 1) 0 Ky0.toList := by
    intro j v hv
    rw [Nat.zero_add]
    match j, hv with
    | 0, hv => exact p0.trans hv
    | 1, hv => exact p1.trans hv
    | 2, hv => exact p2.trans hv
    | 3, hv => exact p3.trans hv
    | 4, hv => exact p4.trans hv
  clear p0 p1 p2 p3 p4 z0 z1 z2 z3
  refine wp_region_steps 4 [[], [0], [], [1]] (fun D a w' => ∃ v10 v11 v12 : Value, a = ⟨#[.pointer (some ⟨w.heap.size, 0, none⟩), .pointer (some ⟨w.heap.size + 1, 0, none⟩), .pointer (some ⟨w.heap.size + 1 + 1, 0, none⟩), .pointer (some ⟨w.heap.size + 1 + 1 + 1, 0, none⟩), .agg #[.int .u8 6, .int .u32 167772161, .int .u32 134744072, .int .u16 40000, .int .u16 80], .pointer (some ⟨w.heap.size + 1 + 1, 1, none⟩), .int .u32 167772161, .agg #[.int .u8 1, .int .u32 151587081, .int .u32 167772161, .int .u16 0, .int .u16 0], .agg #[.int .u8 6, .int .u32 167772161, .int .u32 134744072, .int .u16 40000, .int .u16 80], .agg FE, v10, v11, v12], []⟩ ∧ ExR w D v10 v11 v12 w') (by kernel_rfl) (by kernel_rfl) ⟨undef, undef, undef, rfl, hbV.drew, p, r3, t0, t1, fun h => h.elim, fun h => h.elim, fun h => h.elim, fun h => h.elim⟩ ?_ ?_
  · simp only [List.take_succ_cons, List.take_zero]
    refine ⟨?_, ?_, ?_, ?_, trivial⟩
    · intro D a w' hn hp hI
      obtain ⟨v10, v11, v12, rfl, hR⟩ := hI
      have r := hR.p
      clear hn hp
      go_wp2_with (refine wpList_load_wide 25 _ rfl (by rfl) _ _ rfl Ky0 _ Tryd.underlying25 rfl (by rw [info25]; rfl) r ?_)
      exact ⟨_, _, _, rfl, hR.b, hR.p, hR.r, hR.t0, hR.t1, fun _ => rfl, or_keep hR.e1 (by decide), or_keep hR.e2 (by decide), or_keep hR.e3 (by decide)⟩
    · intro D a w' hn hp hI
      obtain ⟨v10, v11, v12, rfl, hR⟩ := hI
      obtain rfl := hR.e0 hp.1
      clear hn hp
      unfold Ky0
      go_wp2_with fail
      exact ⟨_, _, _, rfl, hR.b, hR.p, hR.r, hR.t0, hR.t1, fun _ => rfl, fun _ => rfl, or_keep hR.e2 (by decide), or_keep hR.e3 (by decide)⟩
    · intro D a w' hn hp hI
      obtain ⟨v10, v11, v12, rfl, hR⟩ := hI
      have r := hR.r
      clear hn hp
      go_wp2_with (refine wpList_load_wide 29 _ rfl (by rfl) _ _ rfl FE _ Tryd.underlying29 rfl hi_FE r ?_)
      exact ⟨_, _, _, rfl, hR.b, hR.p, hR.r, hR.t0, hR.t1, or_keep hR.e0 (by decide), or_keep hR.e1 (by decide), fun _ => rfl, or_keep hR.e3 (by decide)⟩
    · intro D a w' hn hp hI
      obtain ⟨v10, v11, v12, rfl, hR⟩ := hI
      obtain rfl := hR.e1 hp.1
      clear hn hp
      refine wpList_store_wide 27 (.tmp 0) (.tmp 11) rfl rfl w.heap.size 0 Fl0 rfl rfl w.heap.size w info27 (by decide +kernel) hR.b (Nat.le_refl _) hR.t0 ?_
      intro u1 q1 s1 r1 x1 y1 _
      have g1 := x1 _ _ _ (by omega) hR.p
      have g2 := x1 _ _ _ (by omega) hR.r
      go_wp2_with fail
      exact ⟨_, _, _, rfl, q1, g1, g2, y1 _ _ _ hR.t0, y1 _ _ _ hR.t1, or_keep hR.e0 (by decide), fun _ => rfl, or_keep hR.e2 (by decide), fun _ => r1⟩
  intro D a w' hD hI
  obtain ⟨v10, v11, v12, rfl, hR⟩ := hI
  obtain rfl := hR.e2 (hD 2 (by decide))
  have r1 := hR.e3 (hD 3 (by decide))
  simp only [List.drop_succ_cons, List.drop_zero]
  refine wpList_store_wide 29 (.tmp 1) (.tmp 12) rfl rfl (w.heap.size + 1) 0 FE rfl rfl w.heap.size w (by rw [info29]; rfl) (by decide +kernel) hR.b (by omega) hR.t1 ?_
  intro u2 q2 s2 r2 x2 _ _
  have r1' := x2 _ _ _ (by omega) r1
  have l1 := run_loadVar_mid u2 w.heap.size 0 27 Fl0.toList _ r1' Tryd.underlying27 rfl info27
  have l2 := run_loadVar_mid u2 (w.heap.size + 1) 0 29 FE.toList _ r2 Tryd.underlying29 rfl hi_FE
  rw [Array.toArray_toList] at l1 l2
  have HL := Lib.hid (And.intro l1 l2)
  clear hbV p r3 t0 t1 hD hR r1 r1' r2 x2 l1 l2
  go_wp2_with fail
  obtain ⟨l1, l2⟩ := HL.out
  exact bodyPost_ret (v := .tuple #[.agg Fl0, .agg FE]) (results_two Tryd.results21 _ rfl rfl l1 l2) rfl ⟨rfl, q2⟩

def FEm : Array Value := #[.int .u8 1, .int .u32 151587081, .int .u32 167772161, .int .u16 0, .int .u16 0, .int .u8 5, .int .u8 0, .int .u8 3, .int .u8 0, .int .u32 0, .int .u32 0, .int .i64 0, .int .i64 0, .int .u8 6, .int .u32 134744072, .int .u32 167772161, .int .u16 80, .int .u16 40000, .int .u8 1]
def KyT : Array Value := #[.int .u8 6, .int .u32 134744072, .int .u32 167772161, .int .u16 80, .int .u16 40000]
/-- What lies where, ahead of the chapter's last errors. -/
structure Wd8 (w : World) (a b7 b8 b9 b10 : Nat) (w' : World) : Prop where
  d : Below w.heap.size w w'
  R : w'.rangeAt (a + 1) 0 FE.toList
  g7 : w'.rangeAt b7 0 FE7.toList
  g8 : w'.rangeAt b8 0 FE8.toList
  g9 : w'.rangeAt b9 0 FE9.toList
  x : w'.rangeAt a 0 [.int .u8 6, .int .u32 167772161, .int .u32 134744072, .int .u16 40000, .int .u16 80, .int .u8 0]
  th : w'.there b10 0 19
  le : w.heap.size ≤ a
  zR : a + 1 < w'.heap.size
  zx : a < w'.heap.size
  z7 : b7 < w'.heap.size
  z8 : b8 < w'.heap.size
  z9 : b9 < w'.heap.size
  z10 : b10 < w'.heap.size
  ne : a + 1 < b7 ∧ a + 1 < b8 ∧ a + 1 < b9 ∧ a + 1 < b10 ∧ b7 ≠ b10 ∧ b8 ≠ b10 ∧ b9 ≠ b10
theorem Wd8.below {w : World} {a b7 b8 b9 b10 : Nat} {w' w'' : World} (h : Wd8 w a b7 b8 b9 b10 w') (hb : Below w'.heap.size w' w'') : Wd8 w a b7 b8 b9 b10 w'' :=
  ⟨bthen h.d hb, range_below hb h.zR h.R, range_below hb h.z7 h.g7, range_below hb h.z8 h.g8, range_below hb h.z9 h.g9, range_below hb h.zx h.x, there_below hb h.z10 h.th, h.le, Nat.lt_of_lt_of_le h.zR hb.size, Nat.lt_of_lt_of_le h.zx hb.size, Nat.lt_of_lt_of_le h.z7 hb.size, Nat.lt_of_lt_of_le h.z8 hb.size, Nat.lt_of_lt_of_le h.z9 hb.size, Nat.lt_of_lt_of_le h.z10 hb.size, h.ne⟩
theorem Wd8.put {w : World} {a b7 b8 b9 b10 : Nat} {w' : World} (h : Wd8 w a b7 b8 b9 b10 w') (j : Nat) (v : Value) : Wd8 w a b7 b8 b9 b10 (w'.setCell ⟨b10, j, none⟩ v) := by
  obtain ⟨d, R, g7, g8, g9, x, th, le, zR, zx, z7, z8, z9, z10, n1, n2, n3, n4, n5, n6, n7⟩ := h
  have hs := size_setC w' ⟨b10, j, none⟩ v
  exact ⟨d.setCell (p := ⟨b10, j, none⟩) (by show w.heap.size ≤ b10; omega) v, range_else R (by omega) _ _, range_else g7 n5 _ _, range_else g8 n6 _ _, range_else g9 n7 _ _, range_else x (by omega) _ _, World.there_setCells th b10 j [v], le, by rw [hs]; exact zR, by rw [hs]; exact zx, by rw [hs]; exact z7, by rw [hs]; exact z8, by rw [hs]; exact z9, by rw [hs]; exact z10, n1, n2, n3, n4, n5, n6, n7⟩
structure Aw8 (w : World) (a b7 b8 b9 b10 : Nat) (D : Nat → Prop) (v50 v51 v52 v53 v54 v55 v56 v57 v58 : Value) (w' : World) : Prop where
  W : Wd8 w a b7 b8 b9 b10 w'
  c7 : D 7 → w'.rangeAt b10 0 FEm.toList
  n7 : ¬ D 7 → w'.rangeAt b10 0 FE.toList
  e0 : D 0 → v50 = .pointer (some ⟨a + 1, 13, none⟩)
  e1 : D 1 → v51 = .agg Ky0
  e2 : D 2 → v52 = .agg KyT
  e3 : D 3 → v53 = .pointer (some ⟨a + 1, 13, none⟩)
  e4 : D 4 → v54 = .pointer (some ⟨a + 1, 15, none⟩)
  e5 : D 5 → v55 = .int .u32 134744072
  e6 : D 6 → v56 = .pointer (some ⟨b10, 13, none⟩)
  e8 : D 8 → v57 = .pointer (some ⟨b10, 0, none⟩)
  e9 : D 9 → v58 = .pointer (some ⟨b10, 2, none⟩)
structure AwR (w1 : World)  (D : Nat → Prop) (v7 v8 v9 v10 v35 v36 v37 v38 : Value) (w' : World) : Prop where
  b : Below w1.heap.size w1 w'
  e0 : D 0 → v35 = .agg FE
  e1 : D 1 → v36 = .agg FE
  e2 : D 2 → v37 = .agg FE
  e3 : D 3 → v38 = .agg FE
  m4 : D 4 → Made w1.heap.size 19 v7 w'
  m5 : D 5 → Made w1.heap.size 19 v8 w'
  m6 : D 6 → Made w1.heap.size 19 v9 w'
  m7 : D 7 → Made w1.heap.size 19 v10 w'
  n4_5 : D 4 → D 5 → v7 ≠ v8
  n4_6 : D 4 → D 6 → v7 ≠ v9
  n4_7 : D 4 → D 7 → v7 ≠ v10
  n5_6 : D 5 → D 6 → v8 ≠ v9
  n5_7 : D 5 → D 7 → v8 ≠ v10
  n6_7 : D 6 → D 7 → v9 ≠ v10
  r8 : D 8 → ∃ b, v7 = .pointer (some ⟨b, 0, none⟩) ∧ b < w'.heap.size ∧ w'.rangeAt b 0 FE.toList
  r9 : D 9 → ∃ b, v8 = .pointer (some ⟨b, 0, none⟩) ∧ b < w'.heap.size ∧ w'.rangeAt b 0 FE.toList
  r10 : D 10 → ∃ b, v9 = .pointer (some ⟨b, 0, none⟩) ∧ b < w'.heap.size ∧ w'.rangeAt b 0 FE.toList
  o8 : D 8 → D 4
  o9 : D 9 → D 5
  o10 : D 10 → D 6
theorem AwR.s0 {w1 : World}  {D : Nat → Prop} {v7 v8 v9 v10 v35 v36 v37 v38 : Value} {w' w'' : World} (h : AwR w1  D v7 v8 v9 v10 v35 v36 v37 v38 w') (hb : Below w'.heap.size w' w'') : AwR w1  (fun j => D j ∨ j = 0) v7 v8 v9 v10 (.agg FE) v36 v37 v38 w'' :=
  ⟨bthen h.b hb, fun _ => rfl, or_keep h.e1 (by decide), or_keep h.e2 (by decide), or_keep h.e3 (by decide), or_keep (fun hd => (h.m4 hd).below hb) (by decide), or_keep (fun hd => (h.m5 hd).below hb) (by decide), or_keep (fun hd => (h.m6 hd).below hb) (by decide), or_keep (fun hd => (h.m7 hd).below hb) (by decide), or_keep2 h.n4_5 (by decide) (by decide), or_keep2 h.n4_6 (by decide) (by decide), or_keep2 h.n4_7 (by decide) (by decide), or_keep2 h.n5_6 (by decide) (by decide), or_keep2 h.n5_7 (by decide) (by decide), or_keep2 h.n6_7 (by decide) (by decide), or_keep (fun hd => by obtain ⟨b, e, hl, hr⟩ := h.r8 hd; exact ⟨b, e, Nat.lt_of_lt_of_le hl hb.size, rangeAt_below hb hl hr⟩) (by decide), or_keep (fun hd => by obtain ⟨b, e, hl, hr⟩ := h.r9 hd; exact ⟨b, e, Nat.lt_of_lt_of_le hl hb.size, rangeAt_below hb hl hr⟩) (by decide), or_keep (fun hd => by obtain ⟨b, e, hl, hr⟩ := h.r10 hd; exact ⟨b, e, Nat.lt_of_lt_of_le hl hb.size, rangeAt_below hb hl hr⟩) (by decide), fun hd => .inl (h.o8 (hd.resolve_right (by decide))), fun hd => .inl (h.o9 (hd.resolve_right (by decide))), fun hd => .inl (h.o10 (hd.resolve_right (by decide)))⟩
theorem AwR.s1 {w1 : World}  {D : Nat → Prop} {v7 v8 v9 v10 v35 v36 v37 v38 : Value} {w' w'' : World} (h : AwR w1  D v7 v8 v9 v10 v35 v36 v37 v38 w') (hb : Below w'.heap.size w' w'') : AwR w1  (fun j => D j ∨ j = 1) v7 v8 v9 v10 v35 (.agg FE) v37 v38 w'' :=
  ⟨bthen h.b hb, or_keep h.e0 (by decide), fun _ => rfl, or_keep h.e2 (by decide), or_keep h.e3 (by decide), or_keep (fun hd => (h.m4 hd).below hb) (by decide), or_keep (fun hd => (h.m5 hd).below hb) (by decide), or_keep (fun hd => (h.m6 hd).below hb) (by decide), or_keep (fun hd => (h.m7 hd).below hb) (by decide), or_keep2 h.n4_5 (by decide) (by decide), or_keep2 h.n4_6 (by decide) (by decide), or_keep2 h.n4_7 (by decide) (by decide), or_keep2 h.n5_6 (by decide) (by decide), or_keep2 h.n5_7 (by decide) (by decide), or_keep2 h.n6_7 (by decide) (by decide), or_keep (fun hd => by obtain ⟨b, e, hl, hr⟩ := h.r8 hd; exact ⟨b, e, Nat.lt_of_lt_of_le hl hb.size, rangeAt_below hb hl hr⟩) (by decide), or_keep (fun hd => by obtain ⟨b, e, hl, hr⟩ := h.r9 hd; exact ⟨b, e, Nat.lt_of_lt_of_le hl hb.size, rangeAt_below hb hl hr⟩) (by decide), or_keep (fun hd => by obtain ⟨b, e, hl, hr⟩ := h.r10 hd; exact ⟨b, e, Nat.lt_of_lt_of_le hl hb.size, rangeAt_below hb hl hr⟩) (by decide), fun hd => .inl (h.o8 (hd.resolve_right (by decide))), fun hd => .inl (h.o9 (hd.resolve_right (by decide))), fun hd => .inl (h.o10 (hd.resolve_right (by decide)))⟩
theorem AwR.s2 {w1 : World}  {D : Nat → Prop} {v7 v8 v9 v10 v35 v36 v37 v38 : Value} {w' w'' : World} (h : AwR w1  D v7 v8 v9 v10 v35 v36 v37 v38 w') (hb : Below w'.heap.size w' w'') : AwR w1  (fun j => D j ∨ j = 2) v7 v8 v9 v10 v35 v36 (.agg FE) v38 w'' :=
  ⟨bthen h.b hb, or_keep h.e0 (by decide), or_keep h.e1 (by decide), fun _ => rfl, or_keep h.e3 (by decide), or_keep (fun hd => (h.m4 hd).below hb) (by decide), or_keep (fun hd => (h.m5 hd).below hb) (by decide), or_keep (fun hd => (h.m6 hd).below hb) (by decide), or_keep (fun hd => (h.m7 hd).below hb) (by decide), or_keep2 h.n4_5 (by decide) (by decide), or_keep2 h.n4_6 (by decide) (by decide), or_keep2 h.n4_7 (by decide) (by decide), or_keep2 h.n5_6 (by decide) (by decide), or_keep2 h.n5_7 (by decide) (by decide), or_keep2 h.n6_7 (by decide) (by decide), or_keep (fun hd => by obtain ⟨b, e, hl, hr⟩ := h.r8 hd; exact ⟨b, e, Nat.lt_of_lt_of_le hl hb.size, rangeAt_below hb hl hr⟩) (by decide), or_keep (fun hd => by obtain ⟨b, e, hl, hr⟩ := h.r9 hd; exact ⟨b, e, Nat.lt_of_lt_of_le hl hb.size, rangeAt_below hb hl hr⟩) (by decide), or_keep (fun hd => by obtain ⟨b, e, hl, hr⟩ := h.r10 hd; exact ⟨b, e, Nat.lt_of_lt_of_le hl hb.size, rangeAt_below hb hl hr⟩) (by decide), fun hd => .inl (h.o8 (hd.resolve_right (by decide))), fun hd => .inl (h.o9 (hd.resolve_right (by decide))), fun hd => .inl (h.o10 (hd.resolve_right (by decide)))⟩
theorem AwR.s3 {w1 : World}  {D : Nat → Prop} {v7 v8 v9 v10 v35 v36 v37 v38 : Value} {w' w'' : World} (h : AwR w1  D v7 v8 v9 v10 v35 v36 v37 v38 w') (hb : Below w'.heap.size w' w'') : AwR w1  (fun j => D j ∨ j = 3) v7 v8 v9 v10 v35 v36 v37 (.agg FE) w'' :=
  ⟨bthen h.b hb, or_keep h.e0 (by decide), or_keep h.e1 (by decide), or_keep h.e2 (by decide), fun _ => rfl, or_keep (fun hd => (h.m4 hd).below hb) (by decide), or_keep (fun hd => (h.m5 hd).below hb) (by decide), or_keep (fun hd => (h.m6 hd).below hb) (by decide), or_keep (fun hd => (h.m7 hd).below hb) (by decide), or_keep2 h.n4_5 (by decide) (by decide), or_keep2 h.n4_6 (by decide) (by decide), or_keep2 h.n4_7 (by decide) (by decide), or_keep2 h.n5_6 (by decide) (by decide), or_keep2 h.n5_7 (by decide) (by decide), or_keep2 h.n6_7 (by decide) (by decide), or_keep (fun hd => by obtain ⟨b, e, hl, hr⟩ := h.r8 hd; exact ⟨b, e, Nat.lt_of_lt_of_le hl hb.size, rangeAt_below hb hl hr⟩) (by decide), or_keep (fun hd => by obtain ⟨b, e, hl, hr⟩ := h.r9 hd; exact ⟨b, e, Nat.lt_of_lt_of_le hl hb.size, rangeAt_below hb hl hr⟩) (by decide), or_keep (fun hd => by obtain ⟨b, e, hl, hr⟩ := h.r10 hd; exact ⟨b, e, Nat.lt_of_lt_of_le hl hb.size, rangeAt_below hb hl hr⟩) (by decide), fun hd => .inl (h.o8 (hd.resolve_right (by decide))), fun hd => .inl (h.o9 (hd.resolve_right (by decide))), fun hd => .inl (h.o10 (hd.resolve_right (by decide)))⟩
theorem AwR.s4 {w1 : World}  {D : Nat → Prop} {v7 v8 v9 v10 v35 v36 v37 v38 : Value} {w' w'' : World} (h : AwR w1  D v7 v8 v9 v10 v35 v36 v37 v38 w') (hb : Below w'.heap.size w' w'') (hm : Made w1.heap.size 19 (.pointer (some ⟨w'.heap.size, 0, none⟩)) w'') (hn : ¬ D 4) : AwR w1  (fun j => D j ∨ j = 4) ((.pointer (some ⟨w'.heap.size, 0, none⟩))) v8 v9 v10 v35 v36 v37 v38 w'' :=
  ⟨bthen h.b hb, or_keep h.e0 (by decide), or_keep h.e1 (by decide), or_keep h.e2 (by decide), or_keep h.e3 (by decide), fun _ => hm, or_keep (fun hd => (h.m5 hd).below hb) (by decide), or_keep (fun hd => (h.m6 hd).below hb) (by decide), or_keep (fun hd => (h.m7 hd).below hb) (by decide), fun _ hd => ((h.m5 (hd.resolve_right (by decide))).ne).symm, fun _ hd => ((h.m6 (hd.resolve_right (by decide))).ne).symm, fun _ hd => ((h.m7 (hd.resolve_right (by decide))).ne).symm, or_keep2 h.n5_6 (by decide) (by decide), or_keep2 h.n5_7 (by decide) (by decide), or_keep2 h.n6_7 (by decide) (by decide), fun hd => absurd (h.o8 (hd.resolve_right (by decide))) hn, or_keep (fun hd => by obtain ⟨b, e, hl, hr⟩ := h.r9 hd; exact ⟨b, e, Nat.lt_of_lt_of_le hl hb.size, rangeAt_below hb hl hr⟩) (by decide), or_keep (fun hd => by obtain ⟨b, e, hl, hr⟩ := h.r10 hd; exact ⟨b, e, Nat.lt_of_lt_of_le hl hb.size, rangeAt_below hb hl hr⟩) (by decide), fun _ => .inr rfl, fun hd => .inl (h.o9 (hd.resolve_right (by decide))), fun hd => .inl (h.o10 (hd.resolve_right (by decide)))⟩
theorem AwR.s5 {w1 : World}  {D : Nat → Prop} {v7 v8 v9 v10 v35 v36 v37 v38 : Value} {w' w'' : World} (h : AwR w1  D v7 v8 v9 v10 v35 v36 v37 v38 w') (hb : Below w'.heap.size w' w'') (hm : Made w1.heap.size 19 (.pointer (some ⟨w'.heap.size, 0, none⟩)) w'') (hn : ¬ D 5) : AwR w1  (fun j => D j ∨ j = 5) v7 ((.pointer (some ⟨w'.heap.size, 0, none⟩))) v9 v10 v35 v36 v37 v38 w'' :=
  ⟨bthen h.b hb, or_keep h.e0 (by decide), or_keep h.e1 (by decide), or_keep h.e2 (by decide), or_keep h.e3 (by decide), or_keep (fun hd => (h.m4 hd).below hb) (by decide), fun _ => hm, or_keep (fun hd => (h.m6 hd).below hb) (by decide), or_keep (fun hd => (h.m7 hd).below hb) (by decide), fun hd _ => (h.m4 (hd.resolve_right (by decide))).ne, or_keep2 h.n4_6 (by decide) (by decide), or_keep2 h.n4_7 (by decide) (by decide), fun _ hd => ((h.m6 (hd.resolve_right (by decide))).ne).symm, fun _ hd => ((h.m7 (hd.resolve_right (by decide))).ne).symm, or_keep2 h.n6_7 (by decide) (by decide), or_keep (fun hd => by obtain ⟨b, e, hl, hr⟩ := h.r8 hd; exact ⟨b, e, Nat.lt_of_lt_of_le hl hb.size, rangeAt_below hb hl hr⟩) (by decide), fun hd => absurd (h.o9 (hd.resolve_right (by decide))) hn, or_keep (fun hd => by obtain ⟨b, e, hl, hr⟩ := h.r10 hd; exact ⟨b, e, Nat.lt_of_lt_of_le hl hb.size, rangeAt_below hb hl hr⟩) (by decide), fun hd => .inl (h.o8 (hd.resolve_right (by decide))), fun _ => .inr rfl, fun hd => .inl (h.o10 (hd.resolve_right (by decide)))⟩
theorem AwR.s6 {w1 : World}  {D : Nat → Prop} {v7 v8 v9 v10 v35 v36 v37 v38 : Value} {w' w'' : World} (h : AwR w1  D v7 v8 v9 v10 v35 v36 v37 v38 w') (hb : Below w'.heap.size w' w'') (hm : Made w1.heap.size 19 (.pointer (some ⟨w'.heap.size, 0, none⟩)) w'') (hn : ¬ D 6) : AwR w1  (fun j => D j ∨ j = 6) v7 v8 ((.pointer (some ⟨w'.heap.size, 0, none⟩))) v10 v35 v36 v37 v38 w'' :=
  ⟨bthen h.b hb, or_keep h.e0 (by decide), or_keep h.e1 (by decide), or_keep h.e2 (by decide), or_keep h.e3 (by decide), or_keep (fun hd => (h.m4 hd).below hb) (by decide), or_keep (fun hd => (h.m5 hd).below hb) (by decide), fun _ => hm, or_keep (fun hd => (h.m7 hd).below hb) (by decide), or_keep2 h.n4_5 (by decide) (by decide), fun hd _ => (h.m4 (hd.resolve_right (by decide))).ne, or_keep2 h.n4_7 (by decide) (by decide), fun hd _ => (h.m5 (hd.resolve_right (by decide))).ne, or_keep2 h.n5_7 (by decide) (by decide), fun _ hd => ((h.m7 (hd.resolve_right (by decide))).ne).symm, or_keep (fun hd => by obtain ⟨b, e, hl, hr⟩ := h.r8 hd; exact ⟨b, e, Nat.lt_of_lt_of_le hl hb.size, rangeAt_below hb hl hr⟩) (by decide), or_keep (fun hd => by obtain ⟨b, e, hl, hr⟩ := h.r9 hd; exact ⟨b, e, Nat.lt_of_lt_of_le hl hb.size, rangeAt_below hb hl hr⟩) (by decide), fun hd => absurd (h.o10 (hd.resolve_right (by decide))) hn, fun hd => .inl (h.o8 (hd.resolve_right (by decide))), fun hd => .inl (h.o9 (hd.resolve_right (by decide))), fun _ => .inr rfl⟩
theorem AwR.s7 {w1 : World}  {D : Nat → Prop} {v7 v8 v9 v10 v35 v36 v37 v38 : Value} {w' w'' : World} (h : AwR w1  D v7 v8 v9 v10 v35 v36 v37 v38 w') (hb : Below w'.heap.size w' w'') (hm : Made w1.heap.size 19 (.pointer (some ⟨w'.heap.size, 0, none⟩)) w'') : AwR w1  (fun j => D j ∨ j = 7) v7 v8 v9 ((.pointer (some ⟨w'.heap.size, 0, none⟩))) v35 v36 v37 v38 w'' :=
  ⟨bthen h.b hb, or_keep h.e0 (by decide), or_keep h.e1 (by decide), or_keep h.e2 (by decide), or_keep h.e3 (by decide), or_keep (fun hd => (h.m4 hd).below hb) (by decide), or_keep (fun hd => (h.m5 hd).below hb) (by decide), or_keep (fun hd => (h.m6 hd).below hb) (by decide), fun _ => hm, or_keep2 h.n4_5 (by decide) (by decide), or_keep2 h.n4_6 (by decide) (by decide), fun hd _ => (h.m4 (hd.resolve_right (by decide))).ne, or_keep2 h.n5_6 (by decide) (by decide), fun hd _ => (h.m5 (hd.resolve_right (by decide))).ne, fun hd _ => (h.m6 (hd.resolve_right (by decide))).ne, or_keep (fun hd => by obtain ⟨b, e, hl, hr⟩ := h.r8 hd; exact ⟨b, e, Nat.lt_of_lt_of_le hl hb.size, rangeAt_below hb hl hr⟩) (by decide), or_keep (fun hd => by obtain ⟨b, e, hl, hr⟩ := h.r9 hd; exact ⟨b, e, Nat.lt_of_lt_of_le hl hb.size, rangeAt_below hb hl hr⟩) (by decide), or_keep (fun hd => by obtain ⟨b, e, hl, hr⟩ := h.r10 hd; exact ⟨b, e, Nat.lt_of_lt_of_le hl hb.size, rangeAt_below hb hl hr⟩) (by decide), fun hd => .inl (h.o8 (hd.resolve_right (by decide))), fun hd => .inl (h.o9 (hd.resolve_right (by decide))), fun hd => .inl (h.o10 (hd.resolve_right (by decide)))⟩
theorem AwR.s8 {w1 : World}  {D : Nat → Prop} {v7 v8 v9 v10 v35 v36 v37 v38 : Value} {w' w'' : World} (h : AwR w1  D v7 v8 v9 v10 v35 v36 v37 v38 w') (hm : D 4) (hB : Below w1.heap.size w1 w'') (hth : ∀ b o n, w'.there b o n → w''.there b o n) (bi : Nat) (hbi : v7 = .pointer (some ⟨bi, 0, none⟩)) (hk : ∀ b' o' cs, b' ≠ bi → w'.rangeAt b' o' cs → w''.rangeAt b' o' cs) (hz : w'.heap.size ≤ w''.heap.size) (hr : ∃ b, v7 = .pointer (some ⟨b, 0, none⟩) ∧ b < w''.heap.size ∧ w''.rangeAt b 0 FE.toList) : AwR w1  (fun j => D j ∨ j = 8) v7 v8 v9 v10 v35 v36 v37 v38 w'' :=
  ⟨hB, or_keep h.e0 (by decide), or_keep h.e1 (by decide), or_keep h.e2 (by decide), or_keep h.e3 (by decide), or_keep (fun hd => by obtain ⟨b, e, hl, ht⟩ := h.m4 hd; exact ⟨b, e, hl, hth _ _ _ ht⟩) (by decide), or_keep (fun hd => by obtain ⟨b, e, hl, ht⟩ := h.m5 hd; exact ⟨b, e, hl, hth _ _ _ ht⟩) (by decide), or_keep (fun hd => by obtain ⟨b, e, hl, ht⟩ := h.m6 hd; exact ⟨b, e, hl, hth _ _ _ ht⟩) (by decide), or_keep (fun hd => by obtain ⟨b, e, hl, ht⟩ := h.m7 hd; exact ⟨b, e, hl, hth _ _ _ ht⟩) (by decide), or_keep2 h.n4_5 (by decide) (by decide), or_keep2 h.n4_6 (by decide) (by decide), or_keep2 h.n4_7 (by decide) (by decide), or_keep2 h.n5_6 (by decide) (by decide), or_keep2 h.n5_7 (by decide) (by decide), or_keep2 h.n6_7 (by decide) (by decide), fun _ => hr, or_keep (fun hd => by obtain ⟨b, e, hl, hr'⟩ := h.r9 hd; exact ⟨b, e, Nat.lt_of_lt_of_le hl hz, hk _ _ _ (fun e' => h.n4_5 hm (h.o9 hd) (by rw [e, hbi, e'])) hr'⟩) (by decide), or_keep (fun hd => by obtain ⟨b, e, hl, hr'⟩ := h.r10 hd; exact ⟨b, e, Nat.lt_of_lt_of_le hl hz, hk _ _ _ (fun e' => h.n4_6 hm (h.o10 hd) (by rw [e, hbi, e'])) hr'⟩) (by decide), fun _ => .inl hm, or_keep (fun hd => .inl (h.o9 hd)) (by decide), or_keep (fun hd => .inl (h.o10 hd)) (by decide)⟩
theorem AwR.s9 {w1 : World}  {D : Nat → Prop} {v7 v8 v9 v10 v35 v36 v37 v38 : Value} {w' w'' : World} (h : AwR w1  D v7 v8 v9 v10 v35 v36 v37 v38 w') (hm : D 5) (hB : Below w1.heap.size w1 w'') (hth : ∀ b o n, w'.there b o n → w''.there b o n) (bi : Nat) (hbi : v8 = .pointer (some ⟨bi, 0, none⟩)) (hk : ∀ b' o' cs, b' ≠ bi → w'.rangeAt b' o' cs → w''.rangeAt b' o' cs) (hz : w'.heap.size ≤ w''.heap.size) (hr : ∃ b, v8 = .pointer (some ⟨b, 0, none⟩) ∧ b < w''.heap.size ∧ w''.rangeAt b 0 FE.toList) : AwR w1  (fun j => D j ∨ j = 9) v7 v8 v9 v10 v35 v36 v37 v38 w'' :=
  ⟨hB, or_keep h.e0 (by decide), or_keep h.e1 (by decide), or_keep h.e2 (by decide), or_keep h.e3 (by decide), or_keep (fun hd => by obtain ⟨b, e, hl, ht⟩ := h.m4 hd; exact ⟨b, e, hl, hth _ _ _ ht⟩) (by decide), or_keep (fun hd => by obtain ⟨b, e, hl, ht⟩ := h.m5 hd; exact ⟨b, e, hl, hth _ _ _ ht⟩) (by decide), or_keep (fun hd => by obtain ⟨b, e, hl, ht⟩ := h.m6 hd; exact ⟨b, e, hl, hth _ _ _ ht⟩) (by decide), or_keep (fun hd => by obtain ⟨b, e, hl, ht⟩ := h.m7 hd; exact ⟨b, e, hl, hth _ _ _ ht⟩) (by decide), or_keep2 h.n4_5 (by decide) (by decide), or_keep2 h.n4_6 (by decide) (by decide), or_keep2 h.n4_7 (by decide) (by decide), or_keep2 h.n5_6 (by decide) (by decide), or_keep2 h.n5_7 (by decide) (by decide), or_keep2 h.n6_7 (by decide) (by decide), or_keep (fun hd => by obtain ⟨b, e, hl, hr'⟩ := h.r8 hd; exact ⟨b, e, Nat.lt_of_lt_of_le hl hz, hk _ _ _ (fun e' => h.n4_5 (h.o8 hd) hm (by rw [e, hbi, e'])) hr'⟩) (by decide), fun _ => hr, or_keep (fun hd => by obtain ⟨b, e, hl, hr'⟩ := h.r10 hd; exact ⟨b, e, Nat.lt_of_lt_of_le hl hz, hk _ _ _ (fun e' => h.n5_6 hm (h.o10 hd) (by rw [e, hbi, e'])) hr'⟩) (by decide), or_keep (fun hd => .inl (h.o8 hd)) (by decide), fun _ => .inl hm, or_keep (fun hd => .inl (h.o10 hd)) (by decide)⟩
theorem AwR.s10 {w1 : World}  {D : Nat → Prop} {v7 v8 v9 v10 v35 v36 v37 v38 : Value} {w' w'' : World} (h : AwR w1  D v7 v8 v9 v10 v35 v36 v37 v38 w') (hm : D 6) (hB : Below w1.heap.size w1 w'') (hth : ∀ b o n, w'.there b o n → w''.there b o n) (bi : Nat) (hbi : v9 = .pointer (some ⟨bi, 0, none⟩)) (hk : ∀ b' o' cs, b' ≠ bi → w'.rangeAt b' o' cs → w''.rangeAt b' o' cs) (hz : w'.heap.size ≤ w''.heap.size) (hr : ∃ b, v9 = .pointer (some ⟨b, 0, none⟩) ∧ b < w''.heap.size ∧ w''.rangeAt b 0 FE.toList) : AwR w1  (fun j => D j ∨ j = 10) v7 v8 v9 v10 v35 v36 v37 v38 w'' :=
  ⟨hB, or_keep h.e0 (by decide), or_keep h.e1 (by decide), or_keep h.e2 (by decide), or_keep h.e3 (by decide), or_keep (fun hd => by obtain ⟨b, e, hl, ht⟩ := h.m4 hd; exact ⟨b, e, hl, hth _ _ _ ht⟩) (by decide), or_keep (fun hd => by obtain ⟨b, e, hl, ht⟩ := h.m5 hd; exact ⟨b, e, hl, hth _ _ _ ht⟩) (by decide), or_keep (fun hd => by obtain ⟨b, e, hl, ht⟩ := h.m6 hd; exact ⟨b, e, hl, hth _ _ _ ht⟩) (by decide), or_keep (fun hd => by obtain ⟨b, e, hl, ht⟩ := h.m7 hd; exact ⟨b, e, hl, hth _ _ _ ht⟩) (by decide), or_keep2 h.n4_5 (by decide) (by decide), or_keep2 h.n4_6 (by decide) (by decide), or_keep2 h.n4_7 (by decide) (by decide), or_keep2 h.n5_6 (by decide) (by decide), or_keep2 h.n5_7 (by decide) (by decide), or_keep2 h.n6_7 (by decide) (by decide), or_keep (fun hd => by obtain ⟨b, e, hl, hr'⟩ := h.r8 hd; exact ⟨b, e, Nat.lt_of_lt_of_le hl hz, hk _ _ _ (fun e' => h.n4_6 (h.o8 hd) hm (by rw [e, hbi, e'])) hr'⟩) (by decide), or_keep (fun hd => by obtain ⟨b, e, hl, hr'⟩ := h.r9 hd; exact ⟨b, e, Nat.lt_of_lt_of_le hl hz, hk _ _ _ (fun e' => h.n5_6 (h.o9 hd) hm (by rw [e, hbi, e'])) hr'⟩) (by decide), fun _ => hr, or_keep (fun hd => .inl (h.o8 hd)) (by decide), or_keep (fun hd => .inl (h.o9 hd)) (by decide), fun _ => .inl hm⟩
theorem AwR.zero (w1 : World)  (v7 v8 v9 v10 v35 v36 v37 v38 : Value) : AwR w1  (fun _ => False) v7 v8 v9 v10 v35 v36 v37 v38 w1.drew :=
  ⟨(Below.refl _ _).drew, fun h => h.elim, fun h => h.elim, fun h => h.elim, fun h => h.elim, fun h => h.elim, fun h => h.elim, fun h => h.elim, fun h => h.elim, fun h => h.elim, fun h => h.elim, fun h => h.elim, fun h => h.elim, fun h => h.elim, fun h => h.elim, fun h => h.elim, fun h => h.elim, fun h => h.elim, fun h => h.elim, fun h => h.elim, fun h => h.elim⟩
set_option maxRecDepth 100000 in
set_option maxHeartbeats 16000000 in
theorem awake_any (w : World) (hT : Tabs w) : Calls Tryd.prog 12 #[] w fun e w' => e = .returned (.bool true) ∧ Below w.heap.size w w' := by
  have HT := Lib.hid hT
  clear hT
  go_enter Tryd.func12, Tryd.ntmps12
  go_wp2_with fail
  refine (example_any _).mono ?_
  rintro e u ⟨rfl, hb⟩
  have hbu : Below w.heap.size w u := bthen (by (repeat' (first | exact Below.refl _ _ | refine Below.setCell ?_ (by first | omega | (simp; done) | (simp; omega)) _ | refine Below.alloc ?_ (by first | omega | (simp; done) | (simp; omega)) _))) hb
  clear hb
  have hku := hbu.size
  go_wp2_with (first | (refine wpList_store_wide 29 _ _ rfl rfl (u.heap.size + 1) 0 FE rfl rfl w.heap.size w (by rw [info29]; rfl) (by decide +kernel) ?_ (by omega) ?_ ?_; (· (repeat' (first | with_reducible exact hbu | refine Below.setCell ?_ (by first | omega | (simp; done) | (simp; omega)) _ | refine Below.alloc ?_ (by first | omega | (simp; done) | (simp; omega)) _))); (· (repeat (first | (refine there_new _ _ _ _ _ ?_ rfl; first | rfl | (simp; done)) | refine World.there_alloc ?_ _))); intro V d0 hzV R_0 kV tV hcV) | (refine wpList_load_wide 29 _ rfl (by rfl) _ _ rfl FE _ Tryd.underlying29 rfl hi_FE ?_ ?_; · (repeat (first | with_reducible exact R_0 | refine World.rangeAt_alloc ?_ _))))
  have x0_0 := hcV u.heap.size 0 (by omega)
  have x1_0 := hcV u.heap.size 1 (by omega)
  have x2_0 := hcV u.heap.size 2 (by omega)
  have x3_0 := hcV u.heap.size 3 (by omega)
  have x4_0 := hcV u.heap.size 4 (by omega)
  have x5_0 := hcV u.heap.size 5 (by omega)
  simp [go_sem] at x0_0 x1_0 x2_0 x3_0 x4_0 x5_0
  have zx_0 : u.heap.size < V.heap.size := by rw [hzV]; simp; omega
  have zR_0 : u.heap.size + 1 < V.heap.size := by rw [hzV]; simp
  have k0 : w.heap.size ≤ V.heap.size := d0.size
  clear hcV hzV hbu kV tV
  refine (quotes_is FE 6 167772161 134744072 40000 80 0 167772161 5 3 6 167772161 134744072 40000 80 1 1 0 true _ fa_FE (HT.out.below (by (repeat' (first | with_reducible exact d0 | refine Below.setCell ?_ (by first | omega | (simp; done) | (simp; omega)) _ | refine Below.alloc ?_ (by first | omega | (simp; done) | (simp; omega)) _)))) (by decide) (by decide) (by decide) (by decide +kernel)).mono ?_
  rintro e w1 ⟨rfl, hb⟩
  have b1 : Below V.heap.size V w1 := bthen (by (repeat' (first | exact Below.refl _ _ | refine Below.setCell ?_ (by first | omega | (simp; done) | (simp; omega)) _ | refine Below.alloc ?_ (by first | omega | (simp; done) | (simp; omega)) _))) hb
  have d1 : Below w.heap.size w w1 := bthen d0 b1
  have k1 : w.heap.size ≤ w1.heap.size := d1.size
  have R_1 : w1.rangeAt (u.heap.size + 1) 0 (FE).toList := range_below b1 (by omega) R_0
  have zR_1 : u.heap.size + 1 < w1.heap.size := Nat.lt_of_lt_of_le zR_0 b1.size
  have x0_1 : w1.cell? ⟨u.heap.size, 0, none⟩ = some (.int .u8 6) := (b1.cell (p := ⟨u.heap.size, 0, none⟩) (by show u.heap.size < V.heap.size; omega)).trans x0_0
  have x1_1 : w1.cell? ⟨u.heap.size, 1, none⟩ = some (.int .u32 167772161) := (b1.cell (p := ⟨u.heap.size, 1, none⟩) (by show u.heap.size < V.heap.size; omega)).trans x1_0
  have x2_1 : w1.cell? ⟨u.heap.size, 2, none⟩ = some (.int .u32 134744072) := (b1.cell (p := ⟨u.heap.size, 2, none⟩) (by show u.heap.size < V.heap.size; omega)).trans x2_0
  have x3_1 : w1.cell? ⟨u.heap.size, 3, none⟩ = some (.int .u16 40000) := (b1.cell (p := ⟨u.heap.size, 3, none⟩) (by show u.heap.size < V.heap.size; omega)).trans x3_0
  have x4_1 : w1.cell? ⟨u.heap.size, 4, none⟩ = some (.int .u16 80) := (b1.cell (p := ⟨u.heap.size, 4, none⟩) (by show u.heap.size < V.heap.size; omega)).trans x4_0
  have x5_1 : w1.cell? ⟨u.heap.size, 5, none⟩ = some (.int .u8 0) := (b1.cell (p := ⟨u.heap.size, 5, none⟩) (by show u.heap.size < V.heap.size; omega)).trans x5_0
  have zx_1 : u.heap.size < w1.heap.size := Nat.lt_of_lt_of_le zx_0 b1.size
  clear hb b1 d0 k0 R_0 zR_0 x0_0 x1_0 x2_0 x3_0 x4_0 x5_0 zx_0
  go_wp2_with (refine wpList_load_wide 29 _ rfl (by rfl) _ _ rfl FE _ Tryd.underlying29 rfl hi_FE ?_ ?_; · (repeat (first | with_reducible exact R_1 | refine World.rangeAt_alloc ?_ _)))
  refine (quotes_is FE 6 167772161 134744072 40000 80 0 167772161 5 3 6 167772161 134744072 40000 80 1 0 0 false _ fa_FE (HT.out.below (by (repeat' (first | with_reducible exact d1 | refine Below.setCell ?_ (by first | omega | (simp; done) | (simp; omega)) _ | refine Below.alloc ?_ (by first | omega | (simp; done) | (simp; omega)) _)))) (by decide) (by decide) (by decide) (by decide +kernel)).mono ?_
  rintro e w2 ⟨rfl, hb⟩
  have b2 : Below w1.heap.size w1 w2 := bthen (by (repeat' (first | exact Below.refl _ _ | refine Below.setCell ?_ (by first | omega | (simp; done) | (simp; omega)) _ | refine Below.alloc ?_ (by first | omega | (simp; done) | (simp; omega)) _))) hb
  have d2 : Below w.heap.size w w2 := bthen d1 b2
  have k2 : w.heap.size ≤ w2.heap.size := d2.size
  have R_2 : w2.rangeAt (u.heap.size + 1) 0 (FE).toList := range_below b2 (by omega) R_1
  have zR_2 : u.heap.size + 1 < w2.heap.size := Nat.lt_of_lt_of_le zR_1 b2.size
  have x0_2 : w2.cell? ⟨u.heap.size, 0, none⟩ = some (.int .u8 6) := (b2.cell (p := ⟨u.heap.size, 0, none⟩) (by show u.heap.size < w1.heap.size; omega)).trans x0_1
  have x1_2 : w2.cell? ⟨u.heap.size, 1, none⟩ = some (.int .u32 167772161) := (b2.cell (p := ⟨u.heap.size, 1, none⟩) (by show u.heap.size < w1.heap.size; omega)).trans x1_1
  have x2_2 : w2.cell? ⟨u.heap.size, 2, none⟩ = some (.int .u32 134744072) := (b2.cell (p := ⟨u.heap.size, 2, none⟩) (by show u.heap.size < w1.heap.size; omega)).trans x2_1
  have x3_2 : w2.cell? ⟨u.heap.size, 3, none⟩ = some (.int .u16 40000) := (b2.cell (p := ⟨u.heap.size, 3, none⟩) (by show u.heap.size < w1.heap.size; omega)).trans x3_1
  have x4_2 : w2.cell? ⟨u.heap.size, 4, none⟩ = some (.int .u16 80) := (b2.cell (p := ⟨u.heap.size, 4, none⟩) (by show u.heap.size < w1.heap.size; omega)).trans x4_1
  have x5_2 : w2.cell? ⟨u.heap.size, 5, none⟩ = some (.int .u8 0) := (b2.cell (p := ⟨u.heap.size, 5, none⟩) (by show u.heap.size < w1.heap.size; omega)).trans x5_1
  have zx_2 : u.heap.size < w2.heap.size := Nat.lt_of_lt_of_le zx_1 b2.size
  clear hb b2 d1 k1 R_1 zR_1 x0_1 x1_1 x2_1 x3_1 x4_1 x5_1 zx_1
  go_wp2_with fail
  refine wp_region_steps 11 [[], [], [], [], [], [], [], [], [0, 4], [1, 5], [2, 6]] (fun D a w' => ∃ v7 v8 v9 v10 v35 v36 v37 v38 : Value, a = ⟨#[.bool false, .pointer (some ⟨u.heap.size, 0, none⟩), .pointer (some ⟨u.heap.size + 1, 0, none⟩), .int .u8 0, .bool true, .int .u8 0, .bool false, v7, v8, v9, v10, undef, undef, undef, undef, undef, undef, undef, undef, .tuple #[.agg #[.int .u8 6, .int .u32 167772161, .int .u32 134744072, .int .u16 40000, .int .u16 80, .int .u8 0], .agg FE], .tuple #[.agg #[.int .u8 6, .int .u32 167772161, .int .u32 134744072, .int .u16 40000, .int .u16 80, .int .u8 0], .agg FE], .agg #[.int .u8 6, .int .u32 167772161, .int .u32 134744072, .int .u16 40000, .int .u16 80, .int .u8 0], .agg FE, .tuple #[.int .u8 0, .bool true], .agg #[.int .u8 6, .int .u32 167772161, .int .u32 134744072, .int .u16 40000, .int .u16 80, .int .u8 0], .agg FE, .tuple #[.int .u8 0, .bool true], .int .u8 0, .bool true, .tuple #[.int .u8 0, .bool false], .agg #[.int .u8 6, .int .u32 167772161, .int .u32 134744072, .int .u16 40000, .int .u16 80, .int .u8 0], .agg FE, .tuple #[.int .u8 0, .bool false], .int .u8 0, .bool false, v35, v36, v37, v38, undef, undef, undef, undef, undef, undef, undef, undef, undef, undef, undef, undef, undef, undef, undef, undef, undef, undef, undef, undef, undef, undef, undef, undef, undef, undef, undef, undef, undef, undef, undef, undef, undef, undef, undef, undef, undef, undef, undef, undef, undef, undef, undef, undef, undef, undef, undef, undef, undef, undef, undef, undef, undef, undef, undef, undef, undef, undef, undef, undef, undef, undef, undef, undef, undef, undef, undef, undef, undef, undef, undef, undef], []⟩ ∧ AwR w2  D v7 v8 v9 v10 v35 v36 v37 v38 w') (by kernel_rfl) (by kernel_rfl) ⟨undef, undef, undef, undef, undef, undef, undef, undef, rfl, AwR.zero w2  (undef) (undef) (undef) (undef) (undef) (undef) (undef) (undef)⟩ ?_ ?_
  · simp only [List.take_succ_cons, List.take_zero]
    refine ⟨?_, ?_, ?_, ?_, ?_, ?_, ?_, ?_, ?_, ?_, ?_, trivial⟩
    · intro D a w' hn hp hI
      obtain ⟨v7, v8, v9, v10, v35, v36, v37, v38, rfl, hR⟩ := hI
      have r := range_below hR.b zR_2 R_2
      clear hn hp
      go_wp2_with (refine wpList_load_wide 29 _ rfl (by rfl) _ _ rfl FE _ Tryd.underlying29 rfl hi_FE r ?_)
      exact ⟨_, _, _, _, _, _, _, _, rfl, hR.s0 (Below.refl _ _)⟩
    · intro D a w' hn hp hI
      obtain ⟨v7, v8, v9, v10, v35, v36, v37, v38, rfl, hR⟩ := hI
      have r := range_below hR.b zR_2 R_2
      clear hn hp
      go_wp2_with (refine wpList_load_wide 29 _ rfl (by rfl) _ _ rfl FE _ Tryd.underlying29 rfl hi_FE r ?_)
      exact ⟨_, _, _, _, _, _, _, _, rfl, hR.s1 (Below.refl _ _)⟩
    · intro D a w' hn hp hI
      obtain ⟨v7, v8, v9, v10, v35, v36, v37, v38, rfl, hR⟩ := hI
      have r := range_below hR.b zR_2 R_2
      clear hn hp
      go_wp2_with (refine wpList_load_wide 29 _ rfl (by rfl) _ _ rfl FE _ Tryd.underlying29 rfl hi_FE r ?_)
      exact ⟨_, _, _, _, _, _, _, _, rfl, hR.s2 (Below.refl _ _)⟩
    · intro D a w' hn hp hI
      obtain ⟨v7, v8, v9, v10, v35, v36, v37, v38, rfl, hR⟩ := hI
      have r := range_below hR.b zR_2 R_2
      clear hn hp
      go_wp2_with (refine wpList_load_wide 29 _ rfl (by rfl) _ _ rfl FE _ Tryd.underlying29 rfl hi_FE r ?_)
      exact ⟨_, _, _, _, _, _, _, _, rfl, hR.s3 (Below.refl _ _)⟩
    · intro D a w' hn hp hI
      obtain ⟨v7, v8, v9, v10, v35, v36, v37, v38, rfl, hR⟩ := hI
      have hn' := hn
      clear hn hp
      go_wp2_with fail
      exact ⟨_, _, _, _, _, _, _, _, rfl, hR.s4 ((Below.refl _ _).alloc (Nat.le_refl _) _) ⟨_, rfl, hR.b.size, there_new _ _ _ _ _ rfl rfl⟩ hn'⟩
    · intro D a w' hn hp hI
      obtain ⟨v7, v8, v9, v10, v35, v36, v37, v38, rfl, hR⟩ := hI
      have hn' := hn
      clear hn hp
      go_wp2_with fail
      exact ⟨_, _, _, _, _, _, _, _, rfl, hR.s5 ((Below.refl _ _).alloc (Nat.le_refl _) _) ⟨_, rfl, hR.b.size, there_new _ _ _ _ _ rfl rfl⟩ hn'⟩
    · intro D a w' hn hp hI
      obtain ⟨v7, v8, v9, v10, v35, v36, v37, v38, rfl, hR⟩ := hI
      have hn' := hn
      clear hn hp
      go_wp2_with fail
      exact ⟨_, _, _, _, _, _, _, _, rfl, hR.s6 ((Below.refl _ _).alloc (Nat.le_refl _) _) ⟨_, rfl, hR.b.size, there_new _ _ _ _ _ rfl rfl⟩ hn'⟩
    · intro D a w' hn hp hI
      obtain ⟨v7, v8, v9, v10, v35, v36, v37, v38, rfl, hR⟩ := hI
      have hn' := hn
      clear hn hp
      go_wp2_with fail
      exact ⟨_, _, _, _, _, _, _, _, rfl, hR.s7 ((Below.refl _ _).alloc (Nat.le_refl _) _) ⟨_, rfl, hR.b.size, there_new _ _ _ _ _ rfl rfl⟩⟩
    · intro D a w' hn hp hI
      obtain ⟨v7, v8, v9, v10, v35, v36, v37, v38, rfl, hR⟩ := hI
      obtain rfl := hR.e0 hp.1
      obtain ⟨b, rfl, lb, tb⟩ := hR.m4 hp.2.1
      have hm := hp.2.1
      clear hn hp
      refine wpList_store_wide 29 (.tmp 7) (.tmp 35) rfl rfl b 0 FE rfl rfl w2.heap.size w2 (by rw [info29]; rfl) (by decide +kernel) hR.b lb tb ?_
      intro q qb qz qr qk qt qc
      go_wp2_with fail
      exact ⟨_, _, _, _, _, _, _, _, rfl, hR.s8 hm qb qt b rfl qk (by omega) ⟨b, rfl, (by have := there_lt tb; omega), qr⟩⟩
    · intro D a w' hn hp hI
      obtain ⟨v7, v8, v9, v10, v35, v36, v37, v38, rfl, hR⟩ := hI
      obtain rfl := hR.e1 hp.1
      obtain ⟨b, rfl, lb, tb⟩ := hR.m5 hp.2.1
      have hm := hp.2.1
      clear hn hp
      refine wpList_store_wide 29 (.tmp 8) (.tmp 36) rfl rfl b 0 FE rfl rfl w2.heap.size w2 (by rw [info29]; rfl) (by decide +kernel) hR.b lb tb ?_
      intro q qb qz qr qk qt qc
      go_wp2_with fail
      exact ⟨_, _, _, _, _, _, _, _, rfl, hR.s9 hm qb qt b rfl qk (by omega) ⟨b, rfl, (by have := there_lt tb; omega), qr⟩⟩
    · intro D a w' hn hp hI
      obtain ⟨v7, v8, v9, v10, v35, v36, v37, v38, rfl, hR⟩ := hI
      obtain rfl := hR.e2 hp.1
      obtain ⟨b, rfl, lb, tb⟩ := hR.m6 hp.2.1
      have hm := hp.2.1
      clear hn hp
      refine wpList_store_wide 29 (.tmp 9) (.tmp 37) rfl rfl b 0 FE rfl rfl w2.heap.size w2 (by rw [info29]; rfl) (by decide +kernel) hR.b lb tb ?_
      intro q qb qz qr qk qt qc
      go_wp2_with fail
      exact ⟨_, _, _, _, _, _, _, _, rfl, hR.s10 hm qb qt b rfl qk (by omega) ⟨b, rfl, (by have := there_lt tb; omega), qr⟩⟩
  intro D a w' hD hI
  obtain ⟨v7, v8, v9, v10, v35, v36, v37, v38, rfl, hR⟩ := hI
  obtain rfl := hR.e0 (hD 0 (by decide))
  obtain rfl := hR.e1 (hD 1 (by decide))
  obtain rfl := hR.e2 (hD 2 (by decide))
  obtain rfl := hR.e3 (hD 3 (by decide))
  obtain ⟨b7, rfl, lb7, tb7⟩ := hR.m4 (hD 4 (by decide))
  obtain ⟨b8, rfl, lb8, tb8⟩ := hR.m5 (hD 5 (by decide))
  obtain ⟨b9, rfl, lb9, tb9⟩ := hR.m6 (hD 6 (by decide))
  obtain ⟨b10, rfl, lb10, tb10⟩ := hR.m7 (hD 7 (by decide))
  have rb7 : w'.rangeAt b7 0 FE.toList := by
    obtain ⟨b, e, _, r⟩ := hR.r8 (hD 8 (by decide))
    injection e with e; injection e with e; injection e with e
    rw [e]
    exact r
  have rb8 : w'.rangeAt b8 0 FE.toList := by
    obtain ⟨b, e, _, r⟩ := hR.r9 (hD 9 (by decide))
    injection e with e; injection e with e; injection e with e
    rw [e]
    exact r
  have rb9 : w'.rangeAt b9 0 FE.toList := by
    obtain ⟨b, e, _, r⟩ := hR.r10 (hD 10 (by decide))
    injection e with e; injection e with e; injection e with e
    rw [e]
    exact r
  have n01 : b7 ≠ b8 := fun e => hR.n4_5 (hD 4 (by decide)) (hD 5 (by decide)) (by rw [e])
  have n02 : b7 ≠ b9 := fun e => hR.n4_6 (hD 4 (by decide)) (hD 6 (by decide)) (by rw [e])
  have n03 : b7 ≠ b10 := fun e => hR.n4_7 (hD 4 (by decide)) (hD 7 (by decide)) (by rw [e])
  have n12 : b8 ≠ b9 := fun e => hR.n5_6 (hD 5 (by decide)) (hD 6 (by decide)) (by rw [e])
  have n13 : b8 ≠ b10 := fun e => hR.n5_7 (hD 5 (by decide)) (hD 7 (by decide)) (by rw [e])
  have n23 : b9 ≠ b10 := fun e => hR.n6_7 (hD 6 (by decide)) (hD 7 (by decide)) (by rw [e])
  have q0 : Below w2.heap.size w2 w' := hR.b
  clear hD hR
  simp only [List.drop_succ_cons, List.drop_zero]
  refine wpList_store_wide 29 (.tmp 10) (.tmp 38) rfl rfl b10 0 FE rfl rfl w2.heap.size w2 (by rw [info29]; rfl) (by decide +kernel) q0 lb10 tb10 ?_
  intro U qU zU rU10 kU tU cU
  have g7 := kU _ _ _ n03 rb7
  have g8 := kU _ _ _ n13 rb8
  have g9 := kU _ _ _ n23 rb9
  have h7 := tU _ _ _ tb7
  have h8 := tU _ _ _ tb8
  have h9 := tU _ _ _ tb9
  have h10 := tU _ _ _ tb10
  have dU : Below w.heap.size w U := bthen d2 qU
  have gR := range_below qU zR_2 R_2
  have y0 := kc qU x0_2
  have y1 := kc qU x1_2
  have y2 := kc qU x2_2
  have y3 := kc qU x3_2
  have y4 := kc qU x4_2
  have y5 := kc qU x5_2
  have m01 : b8 ≠ b7 := Ne.symm n01
  have m02 : b9 ≠ b7 := Ne.symm n02
  have m03 : b10 ≠ b7 := Ne.symm n03
  have m12 : b9 ≠ b8 := Ne.symm n12
  have m13 : b10 ≠ b8 := Ne.symm n13
  have m23 : b10 ≠ b9 := Ne.symm n23
  have zR' := Nat.lt_of_lt_of_le zR_2 qU.size
  have zx' := Nat.lt_of_lt_of_le zx_2 qU.size
  have z7 := there_lt h7
  have z8 := there_lt h8
  have z9 := there_lt h9
  have z10 := there_lt h10
  clear cU kU tU zU rb7 rb8 rb9 tb7 tb8 tb9 tb10 R_2 x0_2 x1_2 x2_2 x3_2 x4_2 x5_2 q0
  have c7 : U.cell? ⟨b7, 2, none⟩ = some (.int .u32 167772161) := by have := g7 2 (.int .u32 167772161) rfl; rwa [Nat.zero_add] at this
  have c8 : U.cell? ⟨b8, 7, none⟩ = some (.int .u8 3) := by have := g8 7 (.int .u8 3) rfl; rwa [Nat.zero_add] at this
  have c16 : U.cell? ⟨b9, 16, none⟩ = some (.int .u16 40000) := by have := g9 16 (.int .u16 40000) rfl; rwa [Nat.zero_add] at this
  have c17 : U.cell? ⟨b9, 17, none⟩ = some (.int .u16 80) := by have := g9 17 (.int .u16 80) rfl; rwa [Nat.zero_add] at this
  have f7 := (h7 2 (by decide)).2
  have f8 := (h8 7 (by decide)).2
  have f16 := (h9 16 (by decide)).2
  have f17 := (h9 17 (by decide)).2
  simp only [Nat.zero_add] at f7 f8 f16 f17
  go_wp2_with fail
  obtain ⟨V8, hV8⟩ : ∃ V8, (((U.setCell ⟨b7, 2, none⟩ (.int .u32 167772162)).setCell ⟨b8, 7, none⟩ (.int .u8 5)).setCell ⟨b9, 16, none⟩ (.int .u16 80)).setCell ⟨b9, 17, none⟩ (.int .u16 40000) = V8 := ⟨_, rfl⟩
  have g7 := range_else (range_else (range_else (range_put g7 2 (.int .u32 167772162) f7) n01 7 (.int .u8 5)) n02 16 (.int .u16 80)) n02 17 (.int .u16 40000)
  have g8 := range_else (range_else (range_put (range_else g8 m01 2 (.int .u32 167772162)) 7 (.int .u8 5) (by rw [World.frozen?_setCell]; exact f8)) n12 16 (.int .u16 80)) n12 17 (.int .u16 40000)
  have g9 := range_put (range_put (range_else (range_else g9 m02 2 (.int .u32 167772162)) m12 7 (.int .u8 5)) 16 (.int .u16 80) (by rw [World.frozen?_setCell, World.frozen?_setCell]; exact f16)) 17 (.int .u16 40000) (by rw [World.frozen?_setCell, World.frozen?_setCell, World.frozen?_setCell]; exact f17)
  have g10 := range_else (range_else (range_else (range_else rU10 m03 2 (.int .u32 167772162)) m13 7 (.int .u8 5)) m23 16 (.int .u16 80)) m23 17 (.int .u16 40000)
  have gR := range_else (range_else (range_else (range_else gR (show u.heap.size + 1 ≠ b7 by omega) 2 (.int .u32 167772162)) (show u.heap.size + 1 ≠ b8 by omega) 7 (.int .u8 5)) (show u.heap.size + 1 ≠ b9 by omega) 16 (.int .u16 80)) (show u.heap.size + 1 ≠ b9 by omega) 17 (.int .u16 40000)
  have fr10 : ∀ j, j < 19 → V8.frozen? ⟨b10, j, none⟩ = false := by
    intro j hj
    rw [← hV8, World.frozen?_setCell, World.frozen?_setCell, World.frozen?_setCell, World.frozen?_setCell]
    have := (h10 j hj).2
    rwa [Nat.zero_add] at this
  have d8 : Below w.heap.size w V8 := by
    rw [← hV8]
    exact (((dU.setCell (p := ⟨b7, 2, none⟩) (by show w.heap.size ≤ b7; omega) _).setCell (p := ⟨b8, 7, none⟩) (by show w.heap.size ≤ b8; omega) _).setCell (p := ⟨b9, 16, none⟩) (by show w.heap.size ≤ b9; omega) _).setCell (p := ⟨b9, 17, none⟩) (by show w.heap.size ≤ b9; omega) _
  have s8 : V8.heap.size = U.heap.size := by rw [← hV8]; simp [World.setCell]
  have x0 : V8.cell? ⟨u.heap.size, 0, none⟩ = some (.int .u8 6) := by rw [← hV8, cell_else _ _ _ _ (show u.heap.size ≠ b9 by omega), cell_else _ _ _ _ (show u.heap.size ≠ b9 by omega), cell_else _ _ _ _ (show u.heap.size ≠ b8 by omega), cell_else _ _ _ _ (show u.heap.size ≠ b7 by omega)]; exact y0
  have x1 : V8.cell? ⟨u.heap.size, 1, none⟩ = some (.int .u32 167772161) := by rw [← hV8, cell_else _ _ _ _ (show u.heap.size ≠ b9 by omega), cell_else _ _ _ _ (show u.heap.size ≠ b9 by omega), cell_else _ _ _ _ (show u.heap.size ≠ b8 by omega), cell_else _ _ _ _ (show u.heap.size ≠ b7 by omega)]; exact y1
  have x2 : V8.cell? ⟨u.heap.size, 2, none⟩ = some (.int .u32 134744072) := by rw [← hV8, cell_else _ _ _ _ (show u.heap.size ≠ b9 by omega), cell_else _ _ _ _ (show u.heap.size ≠ b9 by omega), cell_else _ _ _ _ (show u.heap.size ≠ b8 by omega), cell_else _ _ _ _ (show u.heap.size ≠ b7 by omega)]; exact y2
  have x3 : V8.cell? ⟨u.heap.size, 3, none⟩ = some (.int .u16 40000) := by rw [← hV8, cell_else _ _ _ _ (show u.heap.size ≠ b9 by omega), cell_else _ _ _ _ (show u.heap.size ≠ b9 by omega), cell_else _ _ _ _ (show u.heap.size ≠ b8 by omega), cell_else _ _ _ _ (show u.heap.size ≠ b7 by omega)]; exact y3
  have x4 : V8.cell? ⟨u.heap.size, 4, none⟩ = some (.int .u16 80) := by rw [← hV8, cell_else _ _ _ _ (show u.heap.size ≠ b9 by omega), cell_else _ _ _ _ (show u.heap.size ≠ b9 by omega), cell_else _ _ _ _ (show u.heap.size ≠ b8 by omega), cell_else _ _ _ _ (show u.heap.size ≠ b7 by omega)]; exact y4
  have x5 : V8.cell? ⟨u.heap.size, 5, none⟩ = some (.int .u8 0) := by rw [← hV8, cell_else _ _ _ _ (show u.heap.size ≠ b9 by omega), cell_else _ _ _ _ (show u.heap.size ≠ b9 by omega), cell_else _ _ _ _ (show u.heap.size ≠ b8 by omega), cell_else _ _ _ _ (show u.heap.size ≠ b7 by omega)]; exact y5
  rw [hV8] at g7 g8 g9 g10 gR ⊢
  replace g7 : V8.rangeAt b7 0 FE7.toList := g7
  replace g8 : V8.rangeAt b8 0 FE8.toList := g8
  replace g9 : V8.rangeAt b9 0 FE9.toList := g9
  replace zR' : u.heap.size + 1 < V8.heap.size := by omega
  replace zx' : u.heap.size < V8.heap.size := by omega
  replace z7 : b7 < V8.heap.size := by omega
  replace z8 : b8 < V8.heap.size := by omega
  replace z9 : b9 < V8.heap.size := by omega
  replace z10 : b10 < V8.heap.size := by omega
  have nR : u.heap.size + 1 ≠ b10 := by omega
  have nR' : b10 ≠ u.heap.size + 1 := Ne.symm nR
  clear hV8 s8 c7 c8 c16 c17 f7 f8 f16 f17 h7 h8 h9 h10 y0 y1 y2 y3 y4 y5 dU rU10 qU
  have hx : V8.rangeAt u.heap.size 0 [.int .u8 6, .int .u32 167772161, .int .u32 134744072, .int .u16 40000, .int .u16 80, .int .u8 0] := by
    intro j v hv
    rw [Nat.zero_add]
    match j, hv with
    | 0, hv => exact x0.trans hv
    | 1, hv => exact x1.trans hv
    | 2, hv => exact x2.trans hv
    | 3, hv => exact x3.trans hv
    | 4, hv => exact x4.trans hv
    | 5, hv => exact x5.trans hv
  have h10' : V8.there b10 0 19 := by
    intro j hj
    rw [Nat.zero_add]
    have hl : j < FE.toList.length := hj
    have := g10 j _ (List.getElem?_eq_getElem hl)
    rw [Nat.zero_add] at this
    exact ⟨by rw [this]; rfl, fr10 j hj⟩
  have hW : Wd8 w u.heap.size b7 b8 b9 b10 V8 := ⟨d8, gR, g7, g8, g9, hx, h10', by omega, zR', zx', z7, z8, z9, z10, ⟨by omega, by omega, by omega, by omega, n03, n13, n23⟩⟩
  have G10 := g10
  clear hx x0 x1 x2 x3 x4 x5 h10' gR g7 g8 g9 g10 fr10 d8 zR' zx' z7 z8 z9 z10 nR nR'
  obtain ⟨a, ha⟩ : ∃ a, u.heap.size = a := ⟨_, rfl⟩
  rw [ha] at hW ⊢
  refine wp_region_steps 10 [[], [0], [1], [], [3], [4], [], [6, 2], [], [8]] (fun D A w' => ∃ v50 v51 v52 v53 v54 v55 v56 v57 v58 : Value, A = ⟨#[.bool false, .pointer (some ⟨a, 0, none⟩), .pointer (some ⟨a + 1, 0, none⟩), .int .u8 0, .bool true, .int .u8 0, .bool false, .pointer (some ⟨b7, 0, none⟩), .pointer (some ⟨b8, 0, none⟩), .pointer (some ⟨b9, 0, none⟩), .pointer (some ⟨b10, 0, none⟩), undef, undef, undef, undef, undef, undef, undef, undef, .tuple #[.agg #[.int .u8 6, .int .u32 167772161, .int .u32 134744072, .int .u16 40000, .int .u16 80, .int .u8 0], .agg FE], .tuple #[.agg #[.int .u8 6, .int .u32 167772161, .int .u32 134744072, .int .u16 40000, .int .u16 80, .int .u8 0], .agg FE], .agg #[.int .u8 6, .int .u32 167772161, .int .u32 134744072, .int .u16 40000, .int .u16 80, .int .u8 0], .agg FE, .tuple #[.int .u8 0, .bool true], .agg #[.int .u8 6, .int .u32 167772161, .int .u32 134744072, .int .u16 40000, .int .u16 80, .int .u8 0], .agg FE, .tuple #[.int .u8 0, .bool true], .int .u8 0, .bool true, .tuple #[.int .u8 0, .bool false], .agg #[.int .u8 6, .int .u32 167772161, .int .u32 134744072, .int .u16 40000, .int .u16 80, .int .u8 0], .agg FE, .tuple #[.int .u8 0, .bool false], .int .u8 0, .bool false, .agg FE, .agg FE, .agg FE, .agg FE, .pointer (some ⟨b7, 0, none⟩), .pointer (some ⟨b7, 2, none⟩), .int .u32 167772161, .int .u32 167772162, .pointer (some ⟨b7, 0, none⟩), .pointer (some ⟨b7, 2, none⟩), .pointer (some ⟨b8, 7, none⟩), .pointer (some ⟨b9, 13, none⟩), .pointer (some ⟨b9, 16, none⟩), .pointer (some ⟨b9, 13, none⟩), .pointer (some ⟨b9, 17, none⟩), v50, v51, v52, v53, v54, v55, v56, v57, v58, undef, undef, undef, undef, undef, undef, undef, undef, undef, undef, undef, undef, undef, undef, undef, undef, undef, undef, undef, undef, undef, undef, undef, undef, undef, undef, undef, undef, undef, undef, undef, undef, undef, undef, undef, undef, undef, undef, undef, undef, undef, undef, undef, undef, undef, undef, undef, undef, undef, undef, undef, undef], []⟩ ∧ Aw8 w a b7 b8 b9 b10 D v50 v51 v52 v53 v54 v55 v56 v57 v58 w') (by kernel_rfl) (by kernel_rfl) ⟨undef, undef, undef, undef, undef, undef, undef, undef, undef, rfl, hW.below (Below.refl _ _).drew, fun h => h.elim, fun _ => range_below (Below.refl _ _).drew hW.z10 G10, fun h => h.elim, fun h => h.elim, fun h => h.elim, fun h => h.elim, fun h => h.elim, fun h => h.elim, fun h => h.elim, fun h => h.elim, fun h => h.elim⟩ ?_ ?_
  · simp only [List.take_succ_cons, List.take_zero]
    refine ⟨?_, ?_, ?_, ?_, ?_, ?_, ?_, ?_, ?_, ?_, trivial⟩
    · intro D A w' hn hp hI
      obtain ⟨v50, v51, v52, v53, v54, v55, v56, v57, v58, rfl, hR⟩ := hI
      clear hn hp
      go_wp2_with fail
      exact ⟨_, _, _, _, _, _, _, _, _, rfl, hR.W, or_keep hR.c7 (by decide), fun h => hR.n7 (fun hd => h (.inl hd)), fun _ => rfl, or_keep hR.e1 (by decide), or_keep hR.e2 (by decide), or_keep hR.e3 (by decide), or_keep hR.e4 (by decide), or_keep hR.e5 (by decide), or_keep hR.e6 (by decide), or_keep hR.e8 (by decide), or_keep hR.e9 (by decide)⟩
    · intro D A w' hn hp hI
      obtain ⟨v50, v51, v52, v53, v54, v55, v56, v57, v58, rfl, hR⟩ := hI
      obtain rfl := hR.e0 hp.1
      clear hn hp
      have q0 : w'.cell? ⟨a + 1, 13, none⟩ = some (.int .u8 6) := by have := hR.W.R 13 (.int .u8 6) rfl; rwa [Nat.zero_add] at this
      have q1 : w'.cell? ⟨a + 1, 14, none⟩ = some (.int .u32 167772161) := by have := hR.W.R 14 (.int .u32 167772161) rfl; rwa [Nat.zero_add] at this
      have q2 : w'.cell? ⟨a + 1, 15, none⟩ = some (.int .u32 134744072) := by have := hR.W.R 15 (.int .u32 134744072) rfl; rwa [Nat.zero_add] at this
      have q3 : w'.cell? ⟨a + 1, 16, none⟩ = some (.int .u16 40000) := by have := hR.W.R 16 (.int .u16 40000) rfl; rwa [Nat.zero_add] at this
      have q4 : w'.cell? ⟨a + 1, 17, none⟩ = some (.int .u16 80) := by have := hR.W.R 17 (.int .u16 80) rfl; rwa [Nat.zero_add] at this
      go_wp2_with fail
      exact ⟨_, _, _, _, _, _, _, _, _, rfl, hR.W, or_keep hR.c7 (by decide), fun h => hR.n7 (fun hd => h (.inl hd)), or_keep hR.e0 (by decide), fun _ => rfl, or_keep hR.e2 (by decide), or_keep hR.e3 (by decide), or_keep hR.e4 (by decide), or_keep hR.e5 (by decide), or_keep hR.e6 (by decide), or_keep hR.e8 (by decide), or_keep hR.e9 (by decide)⟩
    · intro D A w' hn hp hI
      obtain ⟨v50, v51, v52, v53, v54, v55, v56, v57, v58, rfl, hR⟩ := hI
      obtain rfl := hR.e1 hp.1
      have hn2 := hn
      clear hn hp
      unfold Ky0
      go_wp2_with fail
      refine (turn_below _ _ _ _ _ _).mono ?_
      rintro e w'' ⟨rfl, hb⟩
      go_wp2_with fail
      exact ⟨_, _, _, _, _, _, _, _, _, rfl, hR.W.below hb, fun h => range_below hb hR.W.z10 (hR.c7 (h.resolve_right (by decide))), fun h => range_below hb hR.W.z10 (hR.n7 (fun hd => h (.inl hd))), or_keep hR.e0 (by decide), or_keep hR.e1 (by decide), fun _ => rfl, or_keep hR.e3 (by decide), or_keep hR.e4 (by decide), or_keep hR.e5 (by decide), or_keep hR.e6 (by decide), or_keep hR.e8 (by decide), or_keep hR.e9 (by decide)⟩
    · intro D A w' hn hp hI
      obtain ⟨v50, v51, v52, v53, v54, v55, v56, v57, v58, rfl, hR⟩ := hI
      clear hn hp
      go_wp2_with fail
      exact ⟨_, _, _, _, _, _, _, _, _, rfl, hR.W, or_keep hR.c7 (by decide), fun h => hR.n7 (fun hd => h (.inl hd)), or_keep hR.e0 (by decide), or_keep hR.e1 (by decide), or_keep hR.e2 (by decide), fun _ => rfl, or_keep hR.e4 (by decide), or_keep hR.e5 (by decide), or_keep hR.e6 (by decide), or_keep hR.e8 (by decide), or_keep hR.e9 (by decide)⟩
    · intro D A w' hn hp hI
      obtain ⟨v50, v51, v52, v53, v54, v55, v56, v57, v58, rfl, hR⟩ := hI
      obtain rfl := hR.e3 hp.1
      clear hn hp
      go_wp2_with fail
      exact ⟨_, _, _, _, _, _, _, _, _, rfl, hR.W, or_keep hR.c7 (by decide), fun h => hR.n7 (fun hd => h (.inl hd)), or_keep hR.e0 (by decide), or_keep hR.e1 (by decide), or_keep hR.e2 (by decide), or_keep hR.e3 (by decide), fun _ => rfl, or_keep hR.e5 (by decide), or_keep hR.e6 (by decide), or_keep hR.e8 (by decide), or_keep hR.e9 (by decide)⟩
    · intro D A w' hn hp hI
      obtain ⟨v50, v51, v52, v53, v54, v55, v56, v57, v58, rfl, hR⟩ := hI
      obtain rfl := hR.e4 hp.1
      clear hn hp
      have q0 : w'.cell? ⟨a + 1, 15, none⟩ = some (.int .u32 134744072) := by have := hR.W.R 15 (.int .u32 134744072) rfl; rwa [Nat.zero_add] at this
      go_wp2_with fail
      exact ⟨_, _, _, _, _, _, _, _, _, rfl, hR.W, or_keep hR.c7 (by decide), fun h => hR.n7 (fun hd => h (.inl hd)), or_keep hR.e0 (by decide), or_keep hR.e1 (by decide), or_keep hR.e2 (by decide), or_keep hR.e3 (by decide), or_keep hR.e4 (by decide), fun _ => rfl, or_keep hR.e6 (by decide), or_keep hR.e8 (by decide), or_keep hR.e9 (by decide)⟩
    · intro D A w' hn hp hI
      obtain ⟨v50, v51, v52, v53, v54, v55, v56, v57, v58, rfl, hR⟩ := hI
      clear hn hp
      go_wp2_with fail
      exact ⟨_, _, _, _, _, _, _, _, _, rfl, hR.W, or_keep hR.c7 (by decide), fun h => hR.n7 (fun hd => h (.inl hd)), or_keep hR.e0 (by decide), or_keep hR.e1 (by decide), or_keep hR.e2 (by decide), or_keep hR.e3 (by decide), or_keep hR.e4 (by decide), or_keep hR.e5 (by decide), fun _ => rfl, or_keep hR.e8 (by decide), or_keep hR.e9 (by decide)⟩
    · intro D A w' hn hp hI
      obtain ⟨v50, v51, v52, v53, v54, v55, v56, v57, v58, rfl, hR⟩ := hI
      have g := hR.n7 hn
      obtain rfl := hR.e6 hp.1
      obtain rfl := hR.e2 hp.2.1
      clear hn hp
      have q0 : w'.cell? ⟨b10, 13, none⟩ = some (.int .u8 6) := by have := g 13 (.int .u8 6) rfl; rwa [Nat.zero_add] at this
      have q1 : w'.cell? ⟨b10, 14, none⟩ = some (.int .u32 167772161) := by have := g 14 (.int .u32 167772161) rfl; rwa [Nat.zero_add] at this
      have q2 : w'.cell? ⟨b10, 15, none⟩ = some (.int .u32 134744072) := by have := g 15 (.int .u32 134744072) rfl; rwa [Nat.zero_add] at this
      have q3 : w'.cell? ⟨b10, 16, none⟩ = some (.int .u16 40000) := by have := g 16 (.int .u16 40000) rfl; rwa [Nat.zero_add] at this
      have q4 : w'.cell? ⟨b10, 17, none⟩ = some (.int .u16 80) := by have := g 17 (.int .u16 80) rfl; rwa [Nat.zero_add] at this
      have f0 : w'.frozen? ⟨b10, 13, none⟩ = false := by have := (hR.W.th 13 (by decide)).2; rwa [Nat.zero_add] at this
      have f1 : w'.frozen? ⟨b10, 14, none⟩ = false := by have := (hR.W.th 14 (by decide)).2; rwa [Nat.zero_add] at this
      have f2 : w'.frozen? ⟨b10, 15, none⟩ = false := by have := (hR.W.th 15 (by decide)).2; rwa [Nat.zero_add] at this
      have f3 : w'.frozen? ⟨b10, 16, none⟩ = false := by have := (hR.W.th 16 (by decide)).2; rwa [Nat.zero_add] at this
      have f4 : w'.frozen? ⟨b10, 17, none⟩ = false := by have := (hR.W.th 17 (by decide)).2; rwa [Nat.zero_add] at this
      have G := (range_put (range_put (range_put (range_put (range_put g 13 (.int .u8 6) f0) 14 (.int .u32 134744072) (by rw [World.frozen?_setCell]; exact f1)) 15 (.int .u32 167772161) (by rw [World.frozen?_setCell, World.frozen?_setCell]; exact f2)) 16 (.int .u16 80) (by rw [World.frozen?_setCell, World.frozen?_setCell, World.frozen?_setCell]; exact f3)) 17 (.int .u16 40000) (by rw [World.frozen?_setCell, World.frozen?_setCell, World.frozen?_setCell, World.frozen?_setCell]; exact f4))
      have HG := Lib.hid G
      clear G
      unfold KyT
      go_wp2_with fail
      exact ⟨_, _, _, _, _, _, _, _, _, rfl, (((((hR.W.put 13 (.int .u8 6)).put 14 (.int .u32 134744072)).put 15 (.int .u32 167772161)).put 16 (.int .u16 80)).put 17 (.int .u16 40000)), fun _ => HG.out, fun h => absurd (.inr rfl) h, or_keep hR.e0 (by decide), or_keep hR.e1 (by decide), or_keep hR.e2 (by decide), or_keep hR.e3 (by decide), or_keep hR.e4 (by decide), or_keep hR.e5 (by decide), or_keep hR.e6 (by decide), or_keep hR.e8 (by decide), or_keep hR.e9 (by decide)⟩
    · intro D A w' hn hp hI
      obtain ⟨v50, v51, v52, v53, v54, v55, v56, v57, v58, rfl, hR⟩ := hI
      clear hn hp
      go_wp2_with fail
      exact ⟨_, _, _, _, _, _, _, _, _, rfl, hR.W, or_keep hR.c7 (by decide), fun h => hR.n7 (fun hd => h (.inl hd)), or_keep hR.e0 (by decide), or_keep hR.e1 (by decide), or_keep hR.e2 (by decide), or_keep hR.e3 (by decide), or_keep hR.e4 (by decide), or_keep hR.e5 (by decide), or_keep hR.e6 (by decide), fun _ => rfl, or_keep hR.e9 (by decide)⟩
    · intro D A w' hn hp hI
      obtain ⟨v50, v51, v52, v53, v54, v55, v56, v57, v58, rfl, hR⟩ := hI
      obtain rfl := hR.e8 hp.1
      clear hn hp
      go_wp2_with fail
      exact ⟨_, _, _, _, _, _, _, _, _, rfl, hR.W, or_keep hR.c7 (by decide), fun h => hR.n7 (fun hd => h (.inl hd)), or_keep hR.e0 (by decide), or_keep hR.e1 (by decide), or_keep hR.e2 (by decide), or_keep hR.e3 (by decide), or_keep hR.e4 (by decide), or_keep hR.e5 (by decide), or_keep hR.e6 (by decide), or_keep hR.e8 (by decide), fun _ => rfl⟩
  intro D A w' hD hI
  obtain ⟨v50, v51, v52, v53, v54, v55, v56, v57, v58, rfl, hR⟩ := hI
  have g := hR.c7 (hD 7 (by decide))
  obtain rfl := hR.e0 (hD 0 (by decide))
  obtain rfl := hR.e1 (hD 1 (by decide))
  obtain rfl := hR.e2 (hD 2 (by decide))
  obtain rfl := hR.e3 (hD 3 (by decide))
  obtain rfl := hR.e4 (hD 4 (by decide))
  obtain rfl := hR.e5 (hD 5 (by decide))
  obtain rfl := hR.e6 (hD 6 (by decide))
  obtain rfl := hR.e8 (hD 8 (by decide))
  obtain rfl := hR.e9 (hD 9 (by decide))
  have W9 := hR.W
  have q : w'.cell? ⟨b10, 2, none⟩ = some (.int .u32 167772161) := by have := g 2 (.int .u32 167772161) rfl; rwa [Nat.zero_add] at this
  have f : w'.frozen? ⟨b10, 2, none⟩ = false := by have := (W9.th 2 (by decide)).2; rwa [Nat.zero_add] at this
  have G := range_put g 2 (.int .u32 134744072) f
  have W10 := W9.put 2 (.int .u32 134744072)
  obtain ⟨T, hT'⟩ : ∃ T, w'.setCell ⟨b10, 2, none⟩ (.int .u32 134744072) = T := ⟨_, rfl⟩
  rw [hT'] at G W10
  replace G : T.rangeAt b10 0 FE10.toList := G
  have HGW := Lib.hid (And.intro G W10)
  have HW9 := Lib.hid hT'
  clear G W10 W9 g hR hD hW G10 hT'
  simp only [List.drop_succ_cons, List.drop_zero]
  unfold KyT Ky0
  go_step
  go_step
  rw [HW9.out]
  clear HW9
  obtain ⟨p10_0, W10⟩ := HGW.out
  have d0 := W10.d
  have k0 : w.heap.size ≤ T.heap.size := d0.size
  have p7_0 := W10.g7
  have p8_0 := W10.g8
  have p9_0 := W10.g9
  have zp7_0 := W10.z7
  have zp8_0 := W10.z8
  have zp9_0 := W10.z9
  have zp10_0 := W10.z10
  have zx_0 := W10.zx
  have x0_0 : T.cell? ⟨a, 0, none⟩ = some (.int .u8 6) := by have := W10.x 0 (.int .u8 6) rfl; rwa [Nat.zero_add] at this
  have x1_0 : T.cell? ⟨a, 1, none⟩ = some (.int .u32 167772161) := by have := W10.x 1 (.int .u32 167772161) rfl; rwa [Nat.zero_add] at this
  have x2_0 : T.cell? ⟨a, 2, none⟩ = some (.int .u32 134744072) := by have := W10.x 2 (.int .u32 134744072) rfl; rwa [Nat.zero_add] at this
  have x3_0 : T.cell? ⟨a, 3, none⟩ = some (.int .u16 40000) := by have := W10.x 3 (.int .u16 40000) rfl; rwa [Nat.zero_add] at this
  have x4_0 : T.cell? ⟨a, 4, none⟩ = some (.int .u16 80) := by have := W10.x 4 (.int .u16 80) rfl; rwa [Nat.zero_add] at this
  have x5_0 : T.cell? ⟨a, 5, none⟩ = some (.int .u8 0) := by have := W10.x 5 (.int .u8 0) rfl; rwa [Nat.zero_add] at this
  clear HGW W10
  clear q f ha
  go_wp2_with (refine wpList_load_wide 29 _ rfl (by rfl) _ _ rfl FE7 _ Tryd.underlying29 rfl hi_FE7 ?_ ?_; · (repeat (first | with_reducible exact p7_0 | refine World.rangeAt_alloc ?_ _)))
  refine (quotes_is FE7 6 167772161 134744072 40000 80 0 167772162 5 3 6 167772161 134744072 40000 80 1 1 0 false _ fa_FE7 (HT.out.below (by (repeat' (first | with_reducible exact d0 | refine Below.setCell ?_ (by first | omega | (simp; done) | (simp; omega)) _ | refine Below.alloc ?_ (by first | omega | (simp; done) | (simp; omega)) _)))) (by decide) (by decide) (by decide) (by decide +kernel)).mono ?_
  rintro e w1 ⟨rfl, hb⟩
  have b1 : Below T.heap.size T w1 := bthen (by (repeat' (first | exact Below.refl _ _ | refine Below.setCell ?_ (by first | omega | (simp; done) | (simp; omega)) _ | refine Below.alloc ?_ (by first | omega | (simp; done) | (simp; omega)) _))) hb
  have d1 : Below w.heap.size w w1 := bthen d0 b1
  have k1 : w.heap.size ≤ w1.heap.size := d1.size
  have p7_1 : w1.rangeAt (b7) 0 (FE7).toList := range_below b1 (by omega) p7_0
  have zp7_1 : b7 < w1.heap.size := Nat.lt_of_lt_of_le zp7_0 b1.size
  have p8_1 : w1.rangeAt (b8) 0 (FE8).toList := range_below b1 (by omega) p8_0
  have zp8_1 : b8 < w1.heap.size := Nat.lt_of_lt_of_le zp8_0 b1.size
  have p9_1 : w1.rangeAt (b9) 0 (FE9).toList := range_below b1 (by omega) p9_0
  have zp9_1 : b9 < w1.heap.size := Nat.lt_of_lt_of_le zp9_0 b1.size
  have p10_1 : w1.rangeAt (b10) 0 (FE10).toList := range_below b1 (by omega) p10_0
  have zp10_1 : b10 < w1.heap.size := Nat.lt_of_lt_of_le zp10_0 b1.size
  have x0_1 : w1.cell? ⟨a, 0, none⟩ = some (.int .u8 6) := (b1.cell (p := ⟨a, 0, none⟩) (by show a < T.heap.size; omega)).trans x0_0
  have x1_1 : w1.cell? ⟨a, 1, none⟩ = some (.int .u32 167772161) := (b1.cell (p := ⟨a, 1, none⟩) (by show a < T.heap.size; omega)).trans x1_0
  have x2_1 : w1.cell? ⟨a, 2, none⟩ = some (.int .u32 134744072) := (b1.cell (p := ⟨a, 2, none⟩) (by show a < T.heap.size; omega)).trans x2_0
  have x3_1 : w1.cell? ⟨a, 3, none⟩ = some (.int .u16 40000) := (b1.cell (p := ⟨a, 3, none⟩) (by show a < T.heap.size; omega)).trans x3_0
  have x4_1 : w1.cell? ⟨a, 4, none⟩ = some (.int .u16 80) := (b1.cell (p := ⟨a, 4, none⟩) (by show a < T.heap.size; omega)).trans x4_0
  have x5_1 : w1.cell? ⟨a, 5, none⟩ = some (.int .u8 0) := (b1.cell (p := ⟨a, 5, none⟩) (by show a < T.heap.size; omega)).trans x5_0
  have zx_1 : a < w1.heap.size := Nat.lt_of_lt_of_le zx_0 b1.size
  clear hb b1 d0 k0 p7_0 zp7_0 p8_0 zp8_0 p9_0 zp9_0 p10_0 zp10_0 x0_0 x1_0 x2_0 x3_0 x4_0 x5_0 zx_0
  as_aux_lemma =>
    clear p7_1 zp7_1
    go_wp2_with (refine wpList_load_wide 29 _ rfl (by rfl) _ _ rfl FE8 _ Tryd.underlying29 rfl hi_FE8 ?_ ?_; · (repeat (first | with_reducible exact p8_1 | refine World.rangeAt_alloc ?_ _)))
    refine (quotes_is FE8 6 167772161 134744072 40000 80 0 167772161 5 5 6 167772161 134744072 40000 80 1 1 0 false _ fa_FE8 (HT.out.below (by (repeat' (first | with_reducible exact d1 | refine Below.setCell ?_ (by first | omega | (simp; done) | (simp; omega)) _ | refine Below.alloc ?_ (by first | omega | (simp; done) | (simp; omega)) _)))) (by decide) (by decide) (by decide) (by decide +kernel)).mono ?_
    rintro e w2 ⟨rfl, hb⟩
    have b2 : Below w1.heap.size w1 w2 := bthen (by (repeat' (first | exact Below.refl _ _ | refine Below.setCell ?_ (by first | omega | (simp; done) | (simp; omega)) _ | refine Below.alloc ?_ (by first | omega | (simp; done) | (simp; omega)) _))) hb
    have d2 : Below w.heap.size w w2 := bthen d1 b2
    have k2 : w.heap.size ≤ w2.heap.size := d2.size
    have p8_2 : w2.rangeAt (b8) 0 (FE8).toList := range_below b2 (by omega) p8_1
    have zp8_2 : b8 < w2.heap.size := Nat.lt_of_lt_of_le zp8_1 b2.size
    have p9_2 : w2.rangeAt (b9) 0 (FE9).toList := range_below b2 (by omega) p9_1
    have zp9_2 : b9 < w2.heap.size := Nat.lt_of_lt_of_le zp9_1 b2.size
    have p10_2 : w2.rangeAt (b10) 0 (FE10).toList := range_below b2 (by omega) p10_1
    have zp10_2 : b10 < w2.heap.size := Nat.lt_of_lt_of_le zp10_1 b2.size
    have x0_2 : w2.cell? ⟨a, 0, none⟩ = some (.int .u8 6) := (b2.cell (p := ⟨a, 0, none⟩) (by show a < w1.heap.size; omega)).trans x0_1
    have x1_2 : w2.cell? ⟨a, 1, none⟩ = some (.int .u32 167772161) := (b2.cell (p := ⟨a, 1, none⟩) (by show a < w1.heap.size; omega)).trans x1_1
    have x2_2 : w2.cell? ⟨a, 2, none⟩ = some (.int .u32 134744072) := (b2.cell (p := ⟨a, 2, none⟩) (by show a < w1.heap.size; omega)).trans x2_1
    have x3_2 : w2.cell? ⟨a, 3, none⟩ = some (.int .u16 40000) := (b2.cell (p := ⟨a, 3, none⟩) (by show a < w1.heap.size; omega)).trans x3_1
    have x4_2 : w2.cell? ⟨a, 4, none⟩ = some (.int .u16 80) := (b2.cell (p := ⟨a, 4, none⟩) (by show a < w1.heap.size; omega)).trans x4_1
    have x5_2 : w2.cell? ⟨a, 5, none⟩ = some (.int .u8 0) := (b2.cell (p := ⟨a, 5, none⟩) (by show a < w1.heap.size; omega)).trans x5_1
    have zx_2 : a < w2.heap.size := Nat.lt_of_lt_of_le zx_1 b2.size
    clear hb b2 d1 k1 p8_1 zp8_1 p9_1 zp9_1 p10_1 zp10_1 x0_1 x1_1 x2_1 x3_1 x4_1 x5_1 zx_1
    as_aux_lemma =>
      clear p8_2 zp8_2
      go_wp2_with (refine wpList_load_wide 29 _ rfl (by rfl) _ _ rfl FE9 _ Tryd.underlying29 rfl hi_FE9 ?_ ?_; · (repeat (first | with_reducible exact p9_2 | refine World.rangeAt_alloc ?_ _)))
      refine (quotes_is FE9 6 167772161 134744072 40000 80 0 167772161 5 3 6 167772161 134744072 80 40000 1 1 0 false _ fa_FE9 (HT.out.below (by (repeat' (first | with_reducible exact d2 | refine Below.setCell ?_ (by first | omega | (simp; done) | (simp; omega)) _ | refine Below.alloc ?_ (by first | omega | (simp; done) | (simp; omega)) _)))) (by decide) (by decide) (by decide) (by decide +kernel)).mono ?_
      rintro e w3 ⟨rfl, hb⟩
      have b3 : Below w2.heap.size w2 w3 := bthen (by (repeat' (first | exact Below.refl _ _ | refine Below.setCell ?_ (by first | omega | (simp; done) | (simp; omega)) _ | refine Below.alloc ?_ (by first | omega | (simp; done) | (simp; omega)) _))) hb
      have d3 : Below w.heap.size w w3 := bthen d2 b3
      have k3 : w.heap.size ≤ w3.heap.size := d3.size
      have p9_3 : w3.rangeAt (b9) 0 (FE9).toList := range_below b3 (by omega) p9_2
      have zp9_3 : b9 < w3.heap.size := Nat.lt_of_lt_of_le zp9_2 b3.size
      have p10_3 : w3.rangeAt (b10) 0 (FE10).toList := range_below b3 (by omega) p10_2
      have zp10_3 : b10 < w3.heap.size := Nat.lt_of_lt_of_le zp10_2 b3.size
      have x0_3 : w3.cell? ⟨a, 0, none⟩ = some (.int .u8 6) := (b3.cell (p := ⟨a, 0, none⟩) (by show a < w2.heap.size; omega)).trans x0_2
      have x1_3 : w3.cell? ⟨a, 1, none⟩ = some (.int .u32 167772161) := (b3.cell (p := ⟨a, 1, none⟩) (by show a < w2.heap.size; omega)).trans x1_2
      have x2_3 : w3.cell? ⟨a, 2, none⟩ = some (.int .u32 134744072) := (b3.cell (p := ⟨a, 2, none⟩) (by show a < w2.heap.size; omega)).trans x2_2
      have x3_3 : w3.cell? ⟨a, 3, none⟩ = some (.int .u16 40000) := (b3.cell (p := ⟨a, 3, none⟩) (by show a < w2.heap.size; omega)).trans x3_2
      have x4_3 : w3.cell? ⟨a, 4, none⟩ = some (.int .u16 80) := (b3.cell (p := ⟨a, 4, none⟩) (by show a < w2.heap.size; omega)).trans x4_2
      have x5_3 : w3.cell? ⟨a, 5, none⟩ = some (.int .u8 0) := (b3.cell (p := ⟨a, 5, none⟩) (by show a < w2.heap.size; omega)).trans x5_2
      have zx_3 : a < w3.heap.size := Nat.lt_of_lt_of_le zx_2 b3.size
      clear hb b3 d2 k2 p9_2 zp9_2 p10_2 zp10_2 x0_2 x1_2 x2_2 x3_2 x4_2 x5_2 zx_2
      as_aux_lemma =>
        clear p9_3 zp9_3
        go_wp2_with (refine wpList_load_wide 29 _ rfl (by rfl) _ _ rfl FE10 _ Tryd.underlying29 rfl hi_FE10 ?_ ?_; · (repeat (first | with_reducible exact p10_3 | refine World.rangeAt_alloc ?_ _)))
        refine (quotes_is FE10 6 167772161 134744072 40000 80 0 134744072 5 3 6 134744072 167772161 80 40000 1 0 1 true _ fa_FE10 (HT.out.below (by (repeat' (first | with_reducible exact d3 | refine Below.setCell ?_ (by first | omega | (simp; done) | (simp; omega)) _ | refine Below.alloc ?_ (by first | omega | (simp; done) | (simp; omega)) _)))) (by decide) (by decide) (by decide) (by decide +kernel)).mono ?_
        rintro e w4 ⟨rfl, hb⟩
        have b4 : Below w3.heap.size w3 w4 := bthen (by (repeat' (first | exact Below.refl _ _ | refine Below.setCell ?_ (by first | omega | (simp; done) | (simp; omega)) _ | refine Below.alloc ?_ (by first | omega | (simp; done) | (simp; omega)) _))) hb
        have d4 : Below w.heap.size w w4 := bthen d3 b4
        have k4 : w.heap.size ≤ w4.heap.size := d4.size
        have p10_4 : w4.rangeAt (b10) 0 (FE10).toList := range_below b4 (by omega) p10_3
        have zp10_4 : b10 < w4.heap.size := Nat.lt_of_lt_of_le zp10_3 b4.size
        have x0_4 : w4.cell? ⟨a, 0, none⟩ = some (.int .u8 6) := (b4.cell (p := ⟨a, 0, none⟩) (by show a < w3.heap.size; omega)).trans x0_3
        have x1_4 : w4.cell? ⟨a, 1, none⟩ = some (.int .u32 167772161) := (b4.cell (p := ⟨a, 1, none⟩) (by show a < w3.heap.size; omega)).trans x1_3
        have x2_4 : w4.cell? ⟨a, 2, none⟩ = some (.int .u32 134744072) := (b4.cell (p := ⟨a, 2, none⟩) (by show a < w3.heap.size; omega)).trans x2_3
        have x3_4 : w4.cell? ⟨a, 3, none⟩ = some (.int .u16 40000) := (b4.cell (p := ⟨a, 3, none⟩) (by show a < w3.heap.size; omega)).trans x3_3
        have x4_4 : w4.cell? ⟨a, 4, none⟩ = some (.int .u16 80) := (b4.cell (p := ⟨a, 4, none⟩) (by show a < w3.heap.size; omega)).trans x4_3
        have x5_4 : w4.cell? ⟨a, 5, none⟩ = some (.int .u8 0) := (b4.cell (p := ⟨a, 5, none⟩) (by show a < w3.heap.size; omega)).trans x5_3
        have zx_4 : a < w4.heap.size := Nat.lt_of_lt_of_le zx_3 b4.size
        clear hb b4 d3 k3 p10_3 zp10_3 x0_3 x1_3 x2_3 x3_3 x4_3 x5_3 zx_3
        as_aux_lemma =>
          clear x0_4 x1_4 x2_4 x3_4 x4_4 x5_4 zx_4 p10_4 zp10_4
          go_wp2_with fail
          go_ret
          exact ⟨rfl, (by (repeat' (first | with_reducible exact d4 | refine Below.setCell ?_ (by first | omega | (simp; done) | (simp; omega)) _ | refine Below.alloc ?_ (by first | omega | (simp; done) | (simp; omega)) _)))⟩

end Go.Proofs.YtapeminpgojeaaaDoor

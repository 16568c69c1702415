/-
  The contracts of the laws' own 'right' and 'quoting': a flow of a protocol that has packets, and the error that quotes it in a direction. Conditions: the numbers lie in their types' ranges, and the two package maps lie as the program's text lays them.
-/
import Derived.Test.YtapeminpgojeaaaDoorAwake
namespace Go.Proofs.YtapeminpgojeaaaDoor
open Go.RowKit
set_option linter.unusedVariables false
set_option linter.unusedSimpArgs false

/-- A protocol that has packets. -/
def rp (p : Int) : Int := if p % 3 = 0 then 6 else if p % 3 = 1 then 17 else 1
/-- Another address. -/
def rd (s d : Int) : Int := if s = d then (d + 1) % 4294967296 else d
theorem rp_range (p : Int) : (rp p = 6 ∨ rp p = 17 ∨ rp p = 1) := by
  unfold rp
  split
  · exact .inl rfl
  · split
    · exact .inr (.inl rfl)
    · exact .inr (.inr rfl)
theorem rd_ne (s d : Int) (hd : 0 ≤ d ∧ d ≤ 4294967295) : s ≠ rd s d ∧ 0 ≤ rd s d ∧ rd s d ≤ 4294967295 := by
  unfold rd
  split <;> omega

set_option maxHeartbeats 2000000 in
theorem right_core (p s d sp dp side m x r q : Int) (w : World) (hp0 : 0 ≤ p) (hp1 : p ≤ 255) (hd0 : 0 ≤ d) (hd1 : d ≤ 4294967295) (hs0 : 0 ≤ side) (hs1 : side ≤ 255) (hm : p % 3 = m) (hm' : p.tmod 3 = m) (hi : Hid (∀ W, (Instr.index 57 (.agg #[.int .u8 6, .int .u8 17, .int .u8 1]) (.int .u8 m)).run Tryd.prog W = .ok (.int .u8 x) W))
    (hb : (s == d) = true ∧ (d + 1) % 4294967296 = r ∨ (s == d) = false ∧ d = r) (hq : side % 2 = q) :
    Calls Tryd.prog 13 #[.agg #[.int .u8 p, .int .u32 s, .int .u32 d, .int .u16 sp, .int .u16 dp], .int .u8 side] w fun e w' => e = .returned (.agg #[.int .u8 x, .int .u32 s, .int .u32 r, .int .u16 sp, .int .u16 dp, .int .u8 q]) ∧ Below w.heap.size w w' := by
  have hI := hi.out
  clear hi
  rcases hb with ⟨hb, rfl⟩ | ⟨hb, rfl⟩
  all_goals
    subst hq
    go_enter Tryd.func13, Tryd.ntmps13
    go_wp2_with fail
    exact bodyPost_ret (by simp [results, Tryd.results13, go_sem]) rfl ⟨rfl, by (repeat' (first | exact Below.refl _ _ | refine Below.setCell ?_ (by first | omega | (simp; done) | (simp; omega)) _ | refine Below.alloc ?_ (by first | omega | (simp; done) | (simp; omega)) _))⟩
theorem right_any (p s d sp dp side : Int) (w : World) (hp : 0 ≤ p ∧ p ≤ 255) (hd : 0 ≤ d ∧ d ≤ 4294967295) (hs : 0 ≤ side ∧ side ≤ 255) :
    Calls Tryd.prog 13 #[.agg #[.int .u8 p, .int .u32 s, .int .u32 d, .int .u16 sp, .int .u16 dp], .int .u8 side] w fun e w' => e = .returned (.agg #[.int .u8 (rp p), .int .u32 s, .int .u32 (rd s d), .int .u16 sp, .int .u16 dp, .int .u8 (side % 2)]) ∧ Below w.heap.size w w' := by
  have hb : (s == d) = true ∧ (d + 1) % 4294967296 = rd s d ∨ (s == d) = false ∧ d = rd s d := by
    by_cases h : s = d
    · left; exact ⟨by simpa using h, by unfold rd; rw [if_pos h]⟩
    · right; exact ⟨by simpa using h, by unfold rd; rw [if_neg h]⟩
  have hm' : p.tmod 3 = p % 3 := by rw [Int.tmod_eq_emod_of_nonneg hp.1]
  have h3 : p % 3 = 0 ∨ p % 3 = 1 ∨ p % 3 = 2 := by omega
  rcases h3 with h | h | h
  · have e : rp p = 6 := by unfold rp; rw [if_pos h]
    rw [e]
    exact right_core p s d sp dp side 0 6 _ _ w hp.1 hp.2 hd.1 hd.2 hs.1 hs.2 h (hm'.trans h) (fun _ => by kernel_rfl) hb rfl
  · have e : rp p = 17 := by unfold rp; rw [if_neg (by omega), if_pos h]
    rw [e]
    exact right_core p s d sp dp side 1 17 _ _ w hp.1 hp.2 hd.1 hd.2 hs.1 hs.2 h (hm'.trans h) (fun _ => by kernel_rfl) hb rfl
  · have e : rp p = 1 := by unfold rp; rw [if_neg (by omega), if_neg (by omega)]
    rw [e]
    exact right_core p s d sp dp side 2 1 _ _ w hp.1 hp.2 hd.1 hd.2 hs.1 hs.2 h (hm'.trans h) (fun _ => by kernel_rfl) hb rfl
structure Qa (w1 : World) (n0 : Nat) (p s d sp dp side q0 : Int) (D : Nat → Prop) (v9 v13 v14 v15 v16 v17 v18 : Value) (w' : World) : Prop where
  b : Below w1.heap.size w1 w'
  e0 : D 0 → v13 = .pointer (some ⟨n0, 0, none⟩)
  e1 : D 1 → v14 = .agg #[.int .u8 p, .int .u32 s, .int .u32 d, .int .u16 sp, .int .u16 dp]
  e2 : D 2 → v15 = .pointer (some ⟨n0, 5, none⟩)
  e3 : D 3 → v16 = .int .u8 side
  e4 : D 4 → v17 = .int .u8 q0
  e5 : D 5 → v18 = .int .u8 (1 - q0)
  m6 : D 6 → Made w1.heap.size 5 v9 w'
  r7 : D 7 → ∃ b, v9 = .pointer (some ⟨b, 0, none⟩) ∧ b < w'.heap.size ∧ w'.rangeAt b 0 [.int .u8 p, .int .u32 s, .int .u32 d, .int .u16 sp, .int .u16 dp]
  o7 : D 7 → D 6
theorem Qa.s0 {w1 : World} {n0 : Nat} {p s d sp dp side q0 : Int} {D : Nat → Prop} {v9 v13 v14 v15 v16 v17 v18 : Value} {w' w'' : World} (h : Qa w1 n0 p s d sp dp side q0 D v9 v13 v14 v15 v16 v17 v18 w') (hb : Below w'.heap.size w' w'') : Qa w1 n0 p s d sp dp side q0 (fun j => D j ∨ j = 0) v9 (.pointer (some ⟨n0, 0, none⟩)) v14 v15 v16 v17 v18 w'' :=
  ⟨bthen h.b hb, fun _ => rfl, or_keep h.e1 (by decide), or_keep h.e2 (by decide), or_keep h.e3 (by decide), or_keep h.e4 (by decide), or_keep h.e5 (by decide), or_keep (fun hd => (h.m6 hd).below hb) (by decide), or_keep (fun hd => by obtain ⟨b, e, hl, hr⟩ := h.r7 hd; exact ⟨b, e, Nat.lt_of_lt_of_le hl hb.size, rangeAt_below hb hl hr⟩) (by decide), fun hd => .inl (h.o7 (hd.resolve_right (by decide)))⟩
theorem Qa.s1 {w1 : World} {n0 : Nat} {p s d sp dp side q0 : Int} {D : Nat → Prop} {v9 v13 v14 v15 v16 v17 v18 : Value} {w' w'' : World} (h : Qa w1 n0 p s d sp dp side q0 D v9 v13 v14 v15 v16 v17 v18 w') (hb : Below w'.heap.size w' w'') : Qa w1 n0 p s d sp dp side q0 (fun j => D j ∨ j = 1) v9 v13 (.agg #[.int .u8 p, .int .u32 s, .int .u32 d, .int .u16 sp, .int .u16 dp]) v15 v16 v17 v18 w'' :=
  ⟨bthen h.b hb, or_keep h.e0 (by decide), fun _ => rfl, or_keep h.e2 (by decide), or_keep h.e3 (by decide), or_keep h.e4 (by decide), or_keep h.e5 (by decide), or_keep (fun hd => (h.m6 hd).below hb) (by decide), or_keep (fun hd => by obtain ⟨b, e, hl, hr⟩ := h.r7 hd; exact ⟨b, e, Nat.lt_of_lt_of_le hl hb.size, rangeAt_below hb hl hr⟩) (by decide), fun hd => .inl (h.o7 (hd.resolve_right (by decide)))⟩
theorem Qa.s2 {w1 : World} {n0 : Nat} {p s d sp dp side q0 : Int} {D : Nat → Prop} {v9 v13 v14 v15 v16 v17 v18 : Value} {w' w'' : World} (h : Qa w1 n0 p s d sp dp side q0 D v9 v13 v14 v15 v16 v17 v18 w') (hb : Below w'.heap.size w' w'') : Qa w1 n0 p s d sp dp side q0 (fun j => D j ∨ j = 2) v9 v13 v14 (.pointer (some ⟨n0, 5, none⟩)) v16 v17 v18 w'' :=
  ⟨bthen h.b hb, or_keep h.e0 (by decide), or_keep h.e1 (by decide), fun _ => rfl, or_keep h.e3 (by decide), or_keep h.e4 (by decide), or_keep h.e5 (by decide), or_keep (fun hd => (h.m6 hd).below hb) (by decide), or_keep (fun hd => by obtain ⟨b, e, hl, hr⟩ := h.r7 hd; exact ⟨b, e, Nat.lt_of_lt_of_le hl hb.size, rangeAt_below hb hl hr⟩) (by decide), fun hd => .inl (h.o7 (hd.resolve_right (by decide)))⟩
theorem Qa.s3 {w1 : World} {n0 : Nat} {p s d sp dp side q0 : Int} {D : Nat → Prop} {v9 v13 v14 v15 v16 v17 v18 : Value} {w' w'' : World} (h : Qa w1 n0 p s d sp dp side q0 D v9 v13 v14 v15 v16 v17 v18 w') (hb : Below w'.heap.size w' w'') : Qa w1 n0 p s d sp dp side q0 (fun j => D j ∨ j = 3) v9 v13 v14 v15 (.int .u8 side) v17 v18 w'' :=
  ⟨bthen h.b hb, or_keep h.e0 (by decide), or_keep h.e1 (by decide), or_keep h.e2 (by decide), fun _ => rfl, or_keep h.e4 (by decide), or_keep h.e5 (by decide), or_keep (fun hd => (h.m6 hd).below hb) (by decide), or_keep (fun hd => by obtain ⟨b, e, hl, hr⟩ := h.r7 hd; exact ⟨b, e, Nat.lt_of_lt_of_le hl hb.size, rangeAt_below hb hl hr⟩) (by decide), fun hd => .inl (h.o7 (hd.resolve_right (by decide)))⟩
theorem Qa.s4 {w1 : World} {n0 : Nat} {p s d sp dp side q0 : Int} {D : Nat → Prop} {v9 v13 v14 v15 v16 v17 v18 : Value} {w' w'' : World} (h : Qa w1 n0 p s d sp dp side q0 D v9 v13 v14 v15 v16 v17 v18 w') (hb : Below w'.heap.size w' w'') : Qa w1 n0 p s d sp dp side q0 (fun j => D j ∨ j = 4) v9 v13 v14 v15 v16 (.int .u8 q0) v18 w'' :=
  ⟨bthen h.b hb, or_keep h.e0 (by decide), or_keep h.e1 (by decide), or_keep h.e2 (by decide), or_keep h.e3 (by decide), fun _ => rfl, or_keep h.e5 (by decide), or_keep (fun hd => (h.m6 hd).below hb) (by decide), or_keep (fun hd => by obtain ⟨b, e, hl, hr⟩ := h.r7 hd; exact ⟨b, e, Nat.lt_of_lt_of_le hl hb.size, rangeAt_below hb hl hr⟩) (by decide), fun hd => .inl (h.o7 (hd.resolve_right (by decide)))⟩
theorem Qa.s5 {w1 : World} {n0 : Nat} {p s d sp dp side q0 : Int} {D : Nat → Prop} {v9 v13 v14 v15 v16 v17 v18 : Value} {w' w'' : World} (h : Qa w1 n0 p s d sp dp side q0 D v9 v13 v14 v15 v16 v17 v18 w') (hb : Below w'.heap.size w' w'') : Qa w1 n0 p s d sp dp side q0 (fun j => D j ∨ j = 5) v9 v13 v14 v15 v16 v17 (.int .u8 (1 - q0)) w'' :=
  ⟨bthen h.b hb, or_keep h.e0 (by decide), or_keep h.e1 (by decide), or_keep h.e2 (by decide), or_keep h.e3 (by decide), or_keep h.e4 (by decide), fun _ => rfl, or_keep (fun hd => (h.m6 hd).below hb) (by decide), or_keep (fun hd => by obtain ⟨b, e, hl, hr⟩ := h.r7 hd; exact ⟨b, e, Nat.lt_of_lt_of_le hl hb.size, rangeAt_below hb hl hr⟩) (by decide), fun hd => .inl (h.o7 (hd.resolve_right (by decide)))⟩
theorem Qa.s6 {w1 : World} {n0 : Nat} {p s d sp dp side q0 : Int} {D : Nat → Prop} {v9 v13 v14 v15 v16 v17 v18 : Value} {w' w'' : World} (h : Qa w1 n0 p s d sp dp side q0 D v9 v13 v14 v15 v16 v17 v18 w') (hb : Below w'.heap.size w' w'') (hm : Made w1.heap.size 5 (.pointer (some ⟨w'.heap.size, 0, none⟩)) w'') (hn : ¬ D 6) : Qa w1 n0 p s d sp dp side q0 (fun j => D j ∨ j = 6) ((.pointer (some ⟨w'.heap.size, 0, none⟩))) v13 v14 v15 v16 v17 v18 w'' :=
  ⟨bthen h.b hb, or_keep h.e0 (by decide), or_keep h.e1 (by decide), or_keep h.e2 (by decide), or_keep h.e3 (by decide), or_keep h.e4 (by decide), or_keep h.e5 (by decide), fun _ => hm, fun hd => absurd (h.o7 (hd.resolve_right (by decide))) hn, fun _ => .inr rfl⟩
theorem Qa.s7 {w1 : World} {n0 : Nat} {p s d sp dp side q0 : Int} {D : Nat → Prop} {v9 v13 v14 v15 v16 v17 v18 : Value} {w' w'' : World} (h : Qa w1 n0 p s d sp dp side q0 D v9 v13 v14 v15 v16 v17 v18 w') (hm : D 6) (hB : Below w1.heap.size w1 w'') (hth : ∀ b o n, w'.there b o n → w''.there b o n) (hr : ∃ b, v9 = .pointer (some ⟨b, 0, none⟩) ∧ b < w''.heap.size ∧ w''.rangeAt b 0 [.int .u8 p, .int .u32 s, .int .u32 d, .int .u16 sp, .int .u16 dp]) : Qa w1 n0 p s d sp dp side q0 (fun j => D j ∨ j = 7) v9 v13 v14 v15 v16 v17 v18 w'' :=
  ⟨hB, or_keep h.e0 (by decide), or_keep h.e1 (by decide), or_keep h.e2 (by decide), or_keep h.e3 (by decide), or_keep h.e4 (by decide), or_keep h.e5 (by decide), or_keep (fun hd => by obtain ⟨b, e, hl, ht⟩ := h.m6 hd; exact ⟨b, e, hl, hth _ _ _ ht⟩) (by decide), fun _ => hr, fun _ => .inl hm⟩
theorem Qa.zero (w1 : World) (n0 : Nat) (p s d sp dp side q0 : Int) (v9 v13 v14 v15 v16 v17 v18 : Value) : Qa w1 n0 p s d sp dp side q0 (fun _ => False) v9 v13 v14 v15 v16 v17 v18 w1.drew :=
  ⟨(Below.refl _ _).drew, fun h => h.elim, fun h => h.elim, fun h => h.elim, fun h => h.elim, fun h => h.elim, fun h => h.elim, fun h => h.elim, fun h => h.elim, fun h => h.elim⟩

/-- The error that quotes a key. -/
def qF (k0 k1 k2 k3 k4 ty kv by' : Int) : Array Value := #[.int .u8 1, .int .u32 by', .int .u32 k1, .int .u16 0, .int .u16 0, .int .u8 5, .int .u8 0, .int .u8 ty, .int .u8 0, .int .u32 0, .int .u32 0, .int .i64 0, .int .i64 0, .int .u8 k0, .int .u32 k1, .int .u32 k2, .int .u16 k3, .int .u16 k4, .int .u8 kv]
theorem built_qF (k0 k1 k2 k3 k4 ty kv by' : Int) : Tryd.prog.built 29 [(0, .agg #[.int .u8 1, .int .u32 by', .int .u32 k1, .int .u16 0, .int .u16 0]), (1, .int .u8 5), (3, .int .u8 ty), (9, .agg #[.int .u8 k0, .int .u32 k1, .int .u32 k2, .int .u16 k3, .int .u16 k4]), (10, .int .u8 kv)] = some (qF k0 k1 k2 k3 k4 ty kv by') := by kernel_rfl
structure Qw (w : World) (n0 b9 : Nat) (fl : List Value) (w' : World) : Prop where
  d : Below w.heap.size w w'
  X : w'.rangeAt n0 0 fl
  T : w'.there (n0 + 1) 0 19
  K : w'.there b9 0 5
  le : w.heap.size ≤ n0
  zx : n0 + 1 < w'.heap.size
  z9 : b9 < w'.heap.size
  ne : n0 + 1 < b9
theorem Qw.below {w : World} {n0 b9 : Nat} {fl : List Value} {w' w'' : World} (h : Qw w n0 b9 fl w') (hb : Below w'.heap.size w' w'') : Qw w n0 b9 fl w'' :=
  ⟨bthen h.d hb, range_below hb (by have := h.zx; omega) h.X, there_below hb h.zx h.T, there_below hb h.z9 h.K, h.le, Nat.lt_of_lt_of_le h.zx hb.size, Nat.lt_of_lt_of_le h.z9 hb.size, h.ne⟩
structure Qb (w : World) (n0 b9 : Nat) (p s d sp dp side q0 : Int) (D : Nat → Prop) (v22 v23 v24 v25 v26 : Value) (w' : World) : Prop where
  W : Qw w n0 b9 [.int .u8 p, .int .u32 s, .int .u32 d, .int .u16 sp, .int .u16 dp, .int .u8 side] w'
  c5 : D 5 → w'.rangeAt b9 0 [.int .u8 p, .int .u32 d, .int .u32 s, .int .u16 dp, .int .u16 sp]
  n5 : ¬ D 5 → w'.rangeAt b9 0 [.int .u8 p, .int .u32 s, .int .u32 d, .int .u16 sp, .int .u16 dp]
  o5 : D 5 → D 1
  o1 : D 1 → D 0
  e0 : D 0 → v22 = .agg #[.int .u8 p, .int .u32 s, .int .u32 d, .int .u16 sp, .int .u16 dp]
  e1 : D 1 → v23 = .agg #[.int .u8 p, .int .u32 d, .int .u32 s, .int .u16 dp, .int .u16 sp]
  e2 : D 2 → v24 = .pointer (some ⟨n0, 5, none⟩)
  e3 : D 3 → v25 = .int .u8 side
  e4 : D 4 → v26 = .int .u8 q0
structure Qc (w : World) (n0 b9 : Nat) (fl : List Value) (k0 k1 k2 k3 k4 ty kv by' m3 fr : Int) (okv : Bool) (D : Nat → Prop) (v7 v35 v36 v37 v38 v39 v40 v41 v42 v43 v44 v45 v46 v47 : Value) (w' : World) : Prop where
  W : Qw w n0 b9 fl w'
  C : w'.rangeAt b9 0 [.int .u8 k0, .int .u32 k1, .int .u32 k2, .int .u16 k3, .int .u16 k4]
  s13 : D 13 → w'.rangeAt (n0 + 1) 0 (qF k0 k1 k2 k3 k4 ty kv by').toList
  e0 : D 0 → v35 = .int .u32 by'
  e1 : D 1 → v36 = .pointer (some ⟨b9, 1, none⟩)
  e2 : D 2 → v37 = .int .u32 k1
  e3 : D 3 → v38 = .agg #[.int .u8 1, .int .u32 by', .int .u32 k1, .int .u16 0, .int .u16 0]
  e4 : D 4 → v39 = .agg #[.int .u8 3, .int .u8 11, .int .u8 12]
  e5 : D 5 → v40 = .int .u32 by'
  e6 : D 6 → v41 = .int .u32 m3
  e7 : D 7 → v42 = .int .u8 ty
  e8 : D 8 → v43 = .agg #[.int .u8 k0, .int .u32 k1, .int .u32 k2, .int .u16 k3, .int .u16 k4]
  e9 : D 9 → v44 = .int .u8 kv
  e10 : D 10 → v45 = .agg (qF k0 k1 k2 k3 k4 ty kv by')
  e11 : D 11 → v46 = .int .u8 fr
  e12 : D 12 → v47 = .bool okv
  e14 : D 14 → v7 = .int .u8 fr
theorem results_three {P : Program} {fn : Func} {p q r : Tmp} {ty : TypeId} {a : Addr} {v : Value} {w : World} (h : fn.results = #[.cell p ty, .tmp q, .tmp r]) (tmps : Array Value) (hp : tmps.getD p undef = .pointer (some a))
    (hl : (loadVar ty a).run P w = .ok v w) : (results fn tmps).run P w = .ok (.tuple #[v, tmps.getD q undef, tmps.getD r undef]) w := by
  rw [Array.getD_eq_getD_getElem?] at hp
  simp only [results, h]
  simp [hp, asAddr, hl]
theorem one_key (p s d sp dp : Int) : (#[.int .u8 p, .int .u32 s, .int .u32 d, .int .u16 sp, .int .u16 dp] : Array Value).all (·.oneCell') = true := by simp [Value.oneCell']

set_option maxRecDepth 100000 in
set_option maxHeartbeats 16000000 in
theorem quoting_core (p s d sp dp side dir by' q0 q1 m3 ty : Int) (w : World) (HT : Hid (Tabs w)) (hp : 0 ≤ p ∧ p ≤ 255) (hq0 : 0 ≤ q0) (hq0' : q0 ≤ 1) (hs0 : 0 ≤ side) (hs1 : side ≤ 255) (hd0 : 0 ≤ dir) (hd1 : dir ≤ 255) (hb0 : 0 ≤ by') (hb1 : by' ≤ 4294967295)
    (HQ0 : Hid (side % 2 = q0)) (HQ0' : Hid (side.tmod 2 = q0)) (HQ1 : Hid (dir % 2 = q1)) (HQ1' : Hid (dir.tmod 2 = q1)) (HM : Hid (by' % 3 = m3)) (HM' : Hid (by'.tmod 3 = m3)) (hi : Hid (∀ W, (Instr.index 57 (.agg #[.int .u8 3, .int .u8 11, .int .u8 12]) (.int .u32 m3)).run Tryd.prog W = .ok (.int .u8 ty) W))
    (k1 k2 k3 k4 fr : Int) (hk : q1 = 0 ∧ s = k1 ∧ d = k2 ∧ sp = k3 ∧ dp = k4 ∧ 1 - q0 = fr ∨ q1 = 1 ∧ d = k1 ∧ s = k2 ∧ dp = k3 ∧ sp = k4 ∧ q0 = fr) :
    Calls Tryd.prog 14 #[.agg #[.int .u8 p, .int .u32 s, .int .u32 d, .int .u16 sp, .int .u16 dp, .int .u8 side], .int .u8 dir, .int .u32 by'] w fun e w' => e = .returned (.tuple #[.agg (qF p k1 k2 k3 k4 ty (kd p q1) by'), .int .u8 fr, .bool (kok p q1)]) ∧ Below w.heap.size w w' := by
  have HKd := Lib.hid (fun W (hq : 0 ≤ q1 ∧ q1 ≤ 255) (hW : Tabs W) => kind_below p s d sp dp q1 W hp hq hW)
  generalize kd p q1 = kv at *
  generalize kok p q1 = okv at *
  go_enter Tryd.func14, Tryd.ntmps14
  go_wp2_with fail
  obtain ⟨n0, hn0⟩ : ∃ n, w.heap.size = n := ⟨_, rfl⟩
  obtain ⟨V, hV⟩ : ∃ V, (w.alloc (.cells #[.int .u8 p, .int .u32 s, .int .u32 d, .int .u16 sp, .int .u16 dp, .int .u8 side] 27)).alloc (.cells #[.int .u8 0, .int .u32 0, .int .u32 0, .int .u16 0, .int .u16 0, .int .u8 0, .int .u8 0, .int .u8 0, .int .u8 0, .int .u32 0, .int .u32 0, .int .i64 0, .int .i64 0, .int .u8 0, .int .u32 0, .int .u32 0, .int .u16 0, .int .u16 0, .int .u8 0] 29) = V := ⟨_, rfl⟩
  have dV : Below w.heap.size w V := by rw [← hV]; exact ((Below.refl _ _).alloc (Nat.le_refl _) _).alloc (by simp) _
  have X : V.rangeAt n0 0 [.int .u8 p, .int .u32 s, .int .u32 d, .int .u16 sp, .int .u16 dp, .int .u8 side] := by
    rw [← hV, ← hn0]
    refine World.rangeAt_alloc ?_ _
    exact range_new w #[.int .u8 p, .int .u32 s, .int .u32 d, .int .u16 sp, .int .u16 dp, .int .u8 side] 27
  have T : V.there (n0 + 1) 0 19 := by
    rw [← hV, ← hn0]
    exact there_new _ _ _ _ _ (by simp) rfl
  have zx : n0 + 1 < V.heap.size := by rw [← hV, ← hn0]; simp
  rw [hV]
  rw [hn0]
  have dV' := dV.size
  rw [hn0] at dV'
  clear hV
  have x0 : V.cell? ⟨n0, 0, none⟩ = some (.int .u8 p) := by have := X 0 (.int .u8 p) rfl; rwa [Nat.zero_add] at this
  have x1 : V.cell? ⟨n0, 1, none⟩ = some (.int .u32 s) := by have := X 1 (.int .u32 s) rfl; rwa [Nat.zero_add] at this
  have x2 : V.cell? ⟨n0, 2, none⟩ = some (.int .u32 d) := by have := X 2 (.int .u32 d) rfl; rwa [Nat.zero_add] at this
  have x3 : V.cell? ⟨n0, 3, none⟩ = some (.int .u16 sp) := by have := X 3 (.int .u16 sp) rfl; rwa [Nat.zero_add] at this
  have x4 : V.cell? ⟨n0, 4, none⟩ = some (.int .u16 dp) := by have := X 4 (.int .u16 dp) rfl; rwa [Nat.zero_add] at this
  have x5 : V.cell? ⟨n0, 5, none⟩ = some (.int .u8 side) := by have := X 5 (.int .u8 side) rfl; rwa [Nat.zero_add] at this
  refine wp_region_steps 8 [[], [0], [], [2], [3], [4], [], [6, 1]] (fun D a w' => ∃ v9 v13 v14 v15 v16 v17 v18 : Value, a = ⟨#[.agg #[.int .u8 p, .int .u32 s, .int .u32 d, .int .u16 sp, .int .u16 dp, .int .u8 side], .int .u8 dir, .int .u32 by', .pointer (some ⟨n0, 0, none⟩), undef, undef, .pointer (some ⟨n0 + 1, 0, none⟩), .int .u8 0, .bool false, v9, undef, undef, undef, v13, v14, v15, v16, v17, v18, undef, undef, undef, undef, undef, undef, undef, undef, undef, undef, undef, undef, undef, undef, undef, undef, undef, undef, undef, undef, undef, undef, undef, undef, undef, undef, undef, undef, undef], []⟩ ∧ Qa V n0 p s d sp dp side q0 D v9 v13 v14 v15 v16 v17 v18 w') (by kernel_rfl) (by kernel_rfl) ⟨undef, undef, undef, undef, undef, undef, undef, rfl, Qa.zero V n0 p s d sp dp side q0 (undef) (undef) (undef) (undef) (undef) (undef) (undef)⟩ ?_ ?_
  · simp only [List.take_succ_cons, List.take_zero]
    refine ⟨?_, ?_, ?_, ?_, ?_, ?_, ?_, ?_, trivial⟩
    · intro D a w' hn hp hI
      obtain ⟨v9, v13, v14, v15, v16, v17, v18, rfl, hR⟩ := hI
      clear hn hp
      go_wp2_with fail
      exact ⟨_, _, _, _, _, _, _, rfl, hR.s0 (Below.refl _ _)⟩
    · intro D a w' hn hp hI
      obtain ⟨v9, v13, v14, v15, v16, v17, v18, rfl, hR⟩ := hI
      obtain rfl := hR.e0 hp.1
      have c0 := kc hR.b x0
      have c1 := kc hR.b x1
      have c2 := kc hR.b x2
      have c3 := kc hR.b x3
      have c4 := kc hR.b x4
      clear hn hp
      go_wp2_with fail
      exact ⟨_, _, _, _, _, _, _, rfl, hR.s1 (Below.refl _ _)⟩
    · intro D a w' hn hp hI
      obtain ⟨v9, v13, v14, v15, v16, v17, v18, rfl, hR⟩ := hI
      clear hn hp
      go_wp2_with fail
      exact ⟨_, _, _, _, _, _, _, rfl, hR.s2 (Below.refl _ _)⟩
    · intro D a w' hn hp hI
      obtain ⟨v9, v13, v14, v15, v16, v17, v18, rfl, hR⟩ := hI
      obtain rfl := hR.e2 hp.1
      have c5 := kc hR.b x5
      clear hn hp
      go_wp2_with fail
      exact ⟨_, _, _, _, _, _, _, rfl, hR.s3 (Below.refl _ _)⟩
    · intro D a w' hn hp hI
      obtain ⟨v9, v13, v14, v15, v16, v17, v18, rfl, hR⟩ := hI
      obtain rfl := hR.e3 hp.1
      have h1 := HQ0.out
      have h2 := HQ0'.out
      clear hn hp
      go_wp2_with fail
      exact ⟨_, _, _, _, _, _, _, rfl, hR.s4 (Below.refl _ _)⟩
    · intro D a w' hn hp hI
      obtain ⟨v9, v13, v14, v15, v16, v17, v18, rfl, hR⟩ := hI
      obtain rfl := hR.e4 hp.1
      clear hn hp
      go_wp2_with fail
      exact ⟨_, _, _, _, _, _, _, rfl, hR.s5 (Below.refl _ _)⟩
    · intro D a w' hn hp hI
      obtain ⟨v9, v13, v14, v15, v16, v17, v18, rfl, hR⟩ := hI
      have hn' := hn
      clear hn hp
      go_wp2_with fail
      exact ⟨_, _, _, _, _, _, _, rfl, hR.s6 ((Below.refl _ _).alloc (Nat.le_refl _) _) ⟨_, rfl, hR.b.size, there_new _ _ _ _ _ rfl rfl⟩ hn'⟩
    · intro D a w' hn hp hI
      obtain ⟨v9, v13, v14, v15, v16, v17, v18, rfl, hR⟩ := hI
      obtain rfl := hR.e1 hp.2.1
      obtain ⟨b, rfl, lb, tb⟩ := hR.m6 hp.1
      have hm := hp.1
      clear hn hp
      refine wpList_store_wide 25 (.tmp 9) (.tmp 14) rfl rfl b 0 #[.int .u8 p, .int .u32 s, .int .u32 d, .int .u16 sp, .int .u16 dp] rfl rfl V.heap.size V (by rw [info25]; rfl) (one_key _ _ _ _ _) hR.b lb tb ?_
      intro q qb qz qr qk qt qc
      go_wp2_with fail
      exact ⟨_, _, _, _, _, _, _, rfl, hR.s7 hm qb qt ⟨b, rfl, (by have := there_lt tb; omega), qr⟩⟩
  intro D a w' hD hI
  obtain ⟨v9, v13, v14, v15, v16, v17, v18, rfl, hR⟩ := hI
  obtain rfl := hR.e5 (hD 5 (by decide))
  obtain rfl := hR.e4 (hD 4 (by decide))
  obtain rfl := hR.e3 (hD 3 (by decide))
  obtain rfl := hR.e2 (hD 2 (by decide))
  obtain rfl := hR.e1 (hD 1 (by decide))
  obtain rfl := hR.e0 (hD 0 (by decide))
  obtain ⟨b9, rfl, l9, t9⟩ := hR.m6 (hD 6 (by decide))
  have r9 : w'.rangeAt b9 0 [.int .u8 p, .int .u32 s, .int .u32 d, .int .u16 sp, .int .u16 dp] := by
    obtain ⟨b, e, _, r⟩ := hR.r7 (hD 7 (by decide))
    injection e with e; injection e with e; injection e with e
    rw [e]
    exact r
  have hbR := hR.b
  have W0 : Qw w n0 b9 [.int .u8 p, .int .u32 s, .int .u32 d, .int .u16 sp, .int .u16 dp, .int .u8 side] w' := ⟨bthen dV hbR, range_below hbR (by omega) X, there_below hbR zx T, t9, by omega, Nat.lt_of_lt_of_le zx hbR.size, there_lt t9, by omega⟩
  clear hD hR X T zx x0 x1 x2 x3 x4 x5 dV t9 l9 hbR dV'
  simp only [List.drop_succ_cons, List.drop_zero]
  have hq01 := HQ1.out
  have hq02 := HQ1'.out
  rcases hk with ⟨rfl, rfl, rfl, rfl, rfl, rfl⟩ | ⟨rfl, rfl, rfl, rfl, rfl, rfl⟩
  · have x0 : w'.cell? ⟨n0, 0, none⟩ = some (.int .u8 p) := by have := W0.X 0 (.int .u8 p) rfl; rwa [Nat.zero_add] at this
    have x1 : w'.cell? ⟨n0, 1, none⟩ = some (.int .u32 s) := by have := W0.X 1 (.int .u32 s) rfl; rwa [Nat.zero_add] at this
    have x2 : w'.cell? ⟨n0, 2, none⟩ = some (.int .u32 d) := by have := W0.X 2 (.int .u32 d) rfl; rwa [Nat.zero_add] at this
    have x3 : w'.cell? ⟨n0, 3, none⟩ = some (.int .u16 sp) := by have := W0.X 3 (.int .u16 sp) rfl; rwa [Nat.zero_add] at this
    have x4 : w'.cell? ⟨n0, 4, none⟩ = some (.int .u16 dp) := by have := W0.X 4 (.int .u16 dp) rfl; rwa [Nat.zero_add] at this
    have x5 : w'.cell? ⟨n0, 5, none⟩ = some (.int .u8 side) := by have := W0.X 5 (.int .u8 side) rfl; rwa [Nat.zero_add] at this
    go_wp2_with fail
    refine (HKd.out _ (by decide) (HT.out.below W0.d)).mono ?_
    rintro e V3 ⟨rfl, hb⟩
    have W3 := W0.below hb
    have r3 := range_below hb W0.z9 r9
    clear hb r9 W0 x0 x1 x2 x3 x4 x5 hq01 hq02
    go_wp2_with fail
    refine wp_region_steps 15 [[], [], [1], [0, 2], [], [], [5], [4, 6], [], [], [3, 7, 8, 9], [], [], [10], [11]] (fun D A w' => ∃ v7 v35 v36 v37 v38 v39 v40 v41 v42 v43 v44 v45 v46 v47 : Value, A = ⟨#[.agg #[.int .u8 p, .int .u32 s, .int .u32 d, .int .u16 sp, .int .u16 dp, .int .u8 side], .int .u8 dir, .int .u32 by', .pointer (some ⟨n0, 0, none⟩), undef, undef, .pointer (some ⟨n0 + 1, 0, none⟩), v7, .bool false, .pointer (some ⟨b9, 0, none⟩), .int .u8 (1 - q0), .int .u8 kv, .bool okv, .pointer (some ⟨n0, 0, none⟩), .agg #[.int .u8 p, .int .u32 s, .int .u32 d, .int .u16 sp, .int .u16 dp], .pointer (some ⟨n0, 5, none⟩), .int .u8 side, .int .u8 q0, .int .u8 (1 - q0), .int .u8 dir, .int .u8 0, .bool false, undef, undef, undef, undef, undef, .tuple #[.int .u8 kv, .bool okv], .pointer (some ⟨n0, 0, none⟩), .agg #[.int .u8 p, .int .u32 s, .int .u32 d, .int .u16 sp, .int .u16 dp], .int .u8 dir, .int .u8 0, .tuple #[.int .u8 kv, .bool okv], .int .u8 kv, .bool okv, v35, v36, v37, v38, v39, v40, v41, v42, v43, v44, v45, v46, v47], []⟩ ∧ Qc w n0 b9 [.int .u8 p, .int .u32 s, .int .u32 d, .int .u16 sp, .int .u16 dp, .int .u8 side] p s d sp dp ty kv by' m3 (1 - q0) okv D v7 v35 v36 v37 v38 v39 v40 v41 v42 v43 v44 v45 v46 v47 w') (by kernel_rfl) (by kernel_rfl) ⟨.int .u8 0, undef, undef, undef, undef, undef, undef, undef, undef, undef, undef, undef, undef, undef, rfl, W3.below (Below.refl _ _).drew, range_below (Below.refl _ _).drew W3.z9 r3, fun h => h.elim, fun h => h.elim, fun h => h.elim, fun h => h.elim, fun h => h.elim, fun h => h.elim, fun h => h.elim, fun h => h.elim, fun h => h.elim, fun h => h.elim, fun h => h.elim, fun h => h.elim, fun h => h.elim, fun h => h.elim, fun h => h.elim⟩ ?_ ?_
    · simp only [List.take_succ_cons, List.take_zero]
      refine ⟨?_, ?_, ?_, ?_, ?_, ?_, ?_, ?_, ?_, ?_, ?_, ?_, ?_, ?_, ?_, trivial⟩
      · intro D A w' hn hp hI
        obtain ⟨v7, v35, v36, v37, v38, v39, v40, v41, v42, v43, v44, v45, v46, v47, rfl, hR⟩ := hI
        clear hn hp
        go_wp2_with fail
        exact ⟨_, _, _, _, _, _, _, _, _, _, _, _, _, _, rfl, hR.W, hR.C, or_keep hR.s13 (by decide), fun _ => rfl, or_keep hR.e1 (by decide), or_keep hR.e2 (by decide), or_keep hR.e3 (by decide), or_keep hR.e4 (by decide), or_keep hR.e5 (by decide), or_keep hR.e6 (by decide), or_keep hR.e7 (by decide), or_keep hR.e8 (by decide), or_keep hR.e9 (by decide), or_keep hR.e10 (by decide), or_keep hR.e11 (by decide), or_keep hR.e12 (by decide), or_keep hR.e14 (by decide)⟩
      · intro D A w' hn hp hI
        obtain ⟨v7, v35, v36, v37, v38, v39, v40, v41, v42, v43, v44, v45, v46, v47, rfl, hR⟩ := hI
        clear hn hp
        go_wp2_with fail
        exact ⟨_, _, _, _, _, _, _, _, _, _, _, _, _, _, rfl, hR.W, hR.C, or_keep hR.s13 (by decide), or_keep hR.e0 (by decide), fun _ => rfl, or_keep hR.e2 (by decide), or_keep hR.e3 (by decide), or_keep hR.e4 (by decide), or_keep hR.e5 (by decide), or_keep hR.e6 (by decide), or_keep hR.e7 (by decide), or_keep hR.e8 (by decide), or_keep hR.e9 (by decide), or_keep hR.e10 (by decide), or_keep hR.e11 (by decide), or_keep hR.e12 (by decide), or_keep hR.e14 (by decide)⟩
      · intro D A w' hn hp hI
        obtain ⟨v7, v35, v36, v37, v38, v39, v40, v41, v42, v43, v44, v45, v46, v47, rfl, hR⟩ := hI
        obtain rfl := hR.e1 hp.1
        clear hn hp
        have c1 : w'.cell? ⟨b9, 1, none⟩ = some (.int .u32 s) := by have := hR.C 1 (.int .u32 s) rfl; rwa [Nat.zero_add] at this
        go_wp2_with fail
        exact ⟨_, _, _, _, _, _, _, _, _, _, _, _, _, _, rfl, hR.W, hR.C, or_keep hR.s13 (by decide), or_keep hR.e0 (by decide), or_keep hR.e1 (by decide), fun _ => rfl, or_keep hR.e3 (by decide), or_keep hR.e4 (by decide), or_keep hR.e5 (by decide), or_keep hR.e6 (by decide), or_keep hR.e7 (by decide), or_keep hR.e8 (by decide), or_keep hR.e9 (by decide), or_keep hR.e10 (by decide), or_keep hR.e11 (by decide), or_keep hR.e12 (by decide), or_keep hR.e14 (by decide)⟩
      · intro D A w' hn hp hI
        obtain ⟨v7, v35, v36, v37, v38, v39, v40, v41, v42, v43, v44, v45, v46, v47, rfl, hR⟩ := hI
        obtain rfl := hR.e0 hp.1
        obtain rfl := hR.e2 hp.2.1
        clear hn hp
        go_wp2_with fail
        exact ⟨_, _, _, _, _, _, _, _, _, _, _, _, _, _, rfl, hR.W, hR.C, or_keep hR.s13 (by decide), or_keep hR.e0 (by decide), or_keep hR.e1 (by decide), or_keep hR.e2 (by decide), fun _ => rfl, or_keep hR.e4 (by decide), or_keep hR.e5 (by decide), or_keep hR.e6 (by decide), or_keep hR.e7 (by decide), or_keep hR.e8 (by decide), or_keep hR.e9 (by decide), or_keep hR.e10 (by decide), or_keep hR.e11 (by decide), or_keep hR.e12 (by decide), or_keep hR.e14 (by decide)⟩
      · intro D A w' hn hp hI
        obtain ⟨v7, v35, v36, v37, v38, v39, v40, v41, v42, v43, v44, v45, v46, v47, rfl, hR⟩ := hI
        clear hn hp
        go_wp2_with fail
        exact ⟨_, _, _, _, _, _, _, _, _, _, _, _, _, _, rfl, hR.W, hR.C, or_keep hR.s13 (by decide), or_keep hR.e0 (by decide), or_keep hR.e1 (by decide), or_keep hR.e2 (by decide), or_keep hR.e3 (by decide), fun _ => rfl, or_keep hR.e5 (by decide), or_keep hR.e6 (by decide), or_keep hR.e7 (by decide), or_keep hR.e8 (by decide), or_keep hR.e9 (by decide), or_keep hR.e10 (by decide), or_keep hR.e11 (by decide), or_keep hR.e12 (by decide), or_keep hR.e14 (by decide)⟩
      · intro D A w' hn hp hI
        obtain ⟨v7, v35, v36, v37, v38, v39, v40, v41, v42, v43, v44, v45, v46, v47, rfl, hR⟩ := hI
        clear hn hp
        go_wp2_with fail
        exact ⟨_, _, _, _, _, _, _, _, _, _, _, _, _, _, rfl, hR.W, hR.C, or_keep hR.s13 (by decide), or_keep hR.e0 (by decide), or_keep hR.e1 (by decide), or_keep hR.e2 (by decide), or_keep hR.e3 (by decide), or_keep hR.e4 (by decide), fun _ => rfl, or_keep hR.e6 (by decide), or_keep hR.e7 (by decide), or_keep hR.e8 (by decide), or_keep hR.e9 (by decide), or_keep hR.e10 (by decide), or_keep hR.e11 (by decide), or_keep hR.e12 (by decide), or_keep hR.e14 (by decide)⟩
      · intro D A w' hn hp hI
        obtain ⟨v7, v35, v36, v37, v38, v39, v40, v41, v42, v43, v44, v45, v46, v47, rfl, hR⟩ := hI
        obtain rfl := hR.e5 hp.1
        have h1 := HM.out
        have h2 := HM'.out
        clear hn hp
        go_wp2_with fail
        exact ⟨_, _, _, _, _, _, _, _, _, _, _, _, _, _, rfl, hR.W, hR.C, or_keep hR.s13 (by decide), or_keep hR.e0 (by decide), or_keep hR.e1 (by decide), or_keep hR.e2 (by decide), or_keep hR.e3 (by decide), or_keep hR.e4 (by decide), or_keep hR.e5 (by decide), fun _ => rfl, or_keep hR.e7 (by decide), or_keep hR.e8 (by decide), or_keep hR.e9 (by decide), or_keep hR.e10 (by decide), or_keep hR.e11 (by decide), or_keep hR.e12 (by decide), or_keep hR.e14 (by decide)⟩
      · intro D A w' hn hp hI
        obtain ⟨v7, v35, v36, v37, v38, v39, v40, v41, v42, v43, v44, v45, v46, v47, rfl, hR⟩ := hI
        obtain rfl := hR.e4 hp.1
        obtain rfl := hR.e6 hp.2.1
        have hi' := hi.out
        clear hn hp
        go_wp2_with fail
        exact ⟨_, _, _, _, _, _, _, _, _, _, _, _, _, _, rfl, hR.W, hR.C, or_keep hR.s13 (by decide), or_keep hR.e0 (by decide), or_keep hR.e1 (by decide), or_keep hR.e2 (by decide), or_keep hR.e3 (by decide), or_keep hR.e4 (by decide), or_keep hR.e5 (by decide), or_keep hR.e6 (by decide), fun _ => rfl, or_keep hR.e8 (by decide), or_keep hR.e9 (by decide), or_keep hR.e10 (by decide), or_keep hR.e11 (by decide), or_keep hR.e12 (by decide), or_keep hR.e14 (by decide)⟩
      · intro D A w' hn hp hI
        obtain ⟨v7, v35, v36, v37, v38, v39, v40, v41, v42, v43, v44, v45, v46, v47, rfl, hR⟩ := hI
        clear hn hp
        have c0 : w'.cell? ⟨b9, 0, none⟩ = some (.int .u8 p) := by have := hR.C 0 (.int .u8 p) rfl; rwa [Nat.zero_add] at this
        have c1 : w'.cell? ⟨b9, 1, none⟩ = some (.int .u32 s) := by have := hR.C 1 (.int .u32 s) rfl; rwa [Nat.zero_add] at this
        have c2 : w'.cell? ⟨b9, 2, none⟩ = some (.int .u32 d) := by have := hR.C 2 (.int .u32 d) rfl; rwa [Nat.zero_add] at this
        have c3 : w'.cell? ⟨b9, 3, none⟩ = some (.int .u16 sp) := by have := hR.C 3 (.int .u16 sp) rfl; rwa [Nat.zero_add] at this
        have c4 : w'.cell? ⟨b9, 4, none⟩ = some (.int .u16 dp) := by have := hR.C 4 (.int .u16 dp) rfl; rwa [Nat.zero_add] at this
        go_wp2_with fail
        exact ⟨_, _, _, _, _, _, _, _, _, _, _, _, _, _, rfl, hR.W, hR.C, or_keep hR.s13 (by decide), or_keep hR.e0 (by decide), or_keep hR.e1 (by decide), or_keep hR.e2 (by decide), or_keep hR.e3 (by decide), or_keep hR.e4 (by decide), or_keep hR.e5 (by decide), or_keep hR.e6 (by decide), or_keep hR.e7 (by decide), fun _ => rfl, or_keep hR.e9 (by decide), or_keep hR.e10 (by decide), or_keep hR.e11 (by decide), or_keep hR.e12 (by decide), or_keep hR.e14 (by decide)⟩
      · intro D A w' hn hp hI
        obtain ⟨v7, v35, v36, v37, v38, v39, v40, v41, v42, v43, v44, v45, v46, v47, rfl, hR⟩ := hI
        clear hn hp
        go_wp2_with fail
        exact ⟨_, _, _, _, _, _, _, _, _, _, _, _, _, _, rfl, hR.W, hR.C, or_keep hR.s13 (by decide), or_keep hR.e0 (by decide), or_keep hR.e1 (by decide), or_keep hR.e2 (by decide), or_keep hR.e3 (by decide), or_keep hR.e4 (by decide), or_keep hR.e5 (by decide), or_keep hR.e6 (by decide), or_keep hR.e7 (by decide), or_keep hR.e8 (by decide), fun _ => rfl, or_keep hR.e10 (by decide), or_keep hR.e11 (by decide), or_keep hR.e12 (by decide), or_keep hR.e14 (by decide)⟩
      · intro D A w' hn hp hI
        obtain ⟨v7, v35, v36, v37, v38, v39, v40, v41, v42, v43, v44, v45, v46, v47, rfl, hR⟩ := hI
        obtain rfl := hR.e3 hp.1
        obtain rfl := hR.e7 hp.2.1
        obtain rfl := hR.e8 hp.2.2.1
        obtain rfl := hR.e9 hp.2.2.2.1
        clear hn hp
        refine wpList_buildSaid rfl 29 #[(0, .tmp 38), (1, .const (.int .u8 5)), (3, .tmp 42), (9, .tmp 43), (10, .tmp 44)] rfl [(0, .agg #[.int .u8 1, .int .u32 by', .int .u32 s, .int .u16 0, .int .u16 0]), (1, .int .u8 5), (3, .int .u8 ty), (9, .agg #[.int .u8 p, .int .u32 s, .int .u32 d, .int .u16 sp, .int .u16 dp]), (10, .int .u8 kv)] (some 45) rfl ?_ (qF p s d sp dp ty kv by') (built_qF _ _ _ _ _ _ _ _) ?_
        · (simp; (repeat' (first | rfl | apply And.intro)))
        go_wp2_with fail
        exact ⟨_, _, _, _, _, _, _, _, _, _, _, _, _, _, rfl, hR.W, hR.C, or_keep hR.s13 (by decide), or_keep hR.e0 (by decide), or_keep hR.e1 (by decide), or_keep hR.e2 (by decide), or_keep hR.e3 (by decide), or_keep hR.e4 (by decide), or_keep hR.e5 (by decide), or_keep hR.e6 (by decide), or_keep hR.e7 (by decide), or_keep hR.e8 (by decide), or_keep hR.e9 (by decide), fun _ => rfl, or_keep hR.e11 (by decide), or_keep hR.e12 (by decide), or_keep hR.e14 (by decide)⟩
      · intro D A w' hn hp hI
        obtain ⟨v7, v35, v36, v37, v38, v39, v40, v41, v42, v43, v44, v45, v46, v47, rfl, hR⟩ := hI
        clear hn hp
        go_wp2_with fail
        exact ⟨_, _, _, _, _, _, _, _, _, _, _, _, _, _, rfl, hR.W, hR.C, or_keep hR.s13 (by decide), or_keep hR.e0 (by decide), or_keep hR.e1 (by decide), or_keep hR.e2 (by decide), or_keep hR.e3 (by decide), or_keep hR.e4 (by decide), or_keep hR.e5 (by decide), or_keep hR.e6 (by decide), or_keep hR.e7 (by decide), or_keep hR.e8 (by decide), or_keep hR.e9 (by decide), or_keep hR.e10 (by decide), fun _ => rfl, or_keep hR.e12 (by decide), or_keep hR.e14 (by decide)⟩
      · intro D A w' hn hp hI
        obtain ⟨v7, v35, v36, v37, v38, v39, v40, v41, v42, v43, v44, v45, v46, v47, rfl, hR⟩ := hI
        clear hn hp
        go_wp2_with fail
        exact ⟨_, _, _, _, _, _, _, _, _, _, _, _, _, _, rfl, hR.W, hR.C, or_keep hR.s13 (by decide), or_keep hR.e0 (by decide), or_keep hR.e1 (by decide), or_keep hR.e2 (by decide), or_keep hR.e3 (by decide), or_keep hR.e4 (by decide), or_keep hR.e5 (by decide), or_keep hR.e6 (by decide), or_keep hR.e7 (by decide), or_keep hR.e8 (by decide), or_keep hR.e9 (by decide), or_keep hR.e10 (by decide), or_keep hR.e11 (by decide), fun _ => rfl, or_keep hR.e14 (by decide)⟩
      · intro D A w' hn hp hI
        obtain ⟨v7, v35, v36, v37, v38, v39, v40, v41, v42, v43, v44, v45, v46, v47, rfl, hR⟩ := hI
        obtain rfl := hR.e10 hp.1
        clear hn hp
        refine wpList_store_wide 29 (.tmp 6) (.tmp 45) rfl rfl (n0 + 1) 0 (qF p s d sp dp ty kv by') rfl rfl w.heap.size w (by rw [info29]; rfl) (by simp [qF, Value.oneCell']) hR.W.d (by have := hR.W.le; omega) hR.W.T ?_
        intro u1 q1 s1 r1 x1 y1 _
        have ne := hR.W.ne
        have zz := hR.W.zx
        have z99 := hR.W.z9
        have g1 := x1 _ _ _ (by omega) hR.W.X
        have g2 := x1 _ _ _ (by omega) hR.C
        go_wp2_with fail
        exact ⟨_, _, _, _, _, _, _, _, _, _, _, _, _, _, rfl, ⟨q1, g1, y1 _ _ _ hR.W.T, y1 _ _ _ hR.W.K, hR.W.le, by omega, by omega, ne⟩, g2, fun _ => r1, or_keep hR.e0 (by decide), or_keep hR.e1 (by decide), or_keep hR.e2 (by decide), or_keep hR.e3 (by decide), or_keep hR.e4 (by decide), or_keep hR.e5 (by decide), or_keep hR.e6 (by decide), or_keep hR.e7 (by decide), or_keep hR.e8 (by decide), or_keep hR.e9 (by decide), or_keep hR.e10 (by decide), or_keep hR.e11 (by decide), or_keep hR.e12 (by decide), or_keep hR.e14 (by decide)⟩
      · intro D A w' hn hp hI
        obtain ⟨v7, v35, v36, v37, v38, v39, v40, v41, v42, v43, v44, v45, v46, v47, rfl, hR⟩ := hI
        obtain rfl := hR.e11 hp.1
        clear hn hp
        go_wp2_with fail
        exact ⟨_, _, _, _, _, _, _, _, _, _, _, _, _, _, rfl, hR.W, hR.C, or_keep hR.s13 (by decide), or_keep hR.e0 (by decide), or_keep hR.e1 (by decide), or_keep hR.e2 (by decide), or_keep hR.e3 (by decide), or_keep hR.e4 (by decide), or_keep hR.e5 (by decide), or_keep hR.e6 (by decide), or_keep hR.e7 (by decide), or_keep hR.e8 (by decide), or_keep hR.e9 (by decide), or_keep hR.e10 (by decide), or_keep hR.e11 (by decide), or_keep hR.e12 (by decide), fun _ => rfl⟩
    intro D A w' hD hI
    obtain ⟨v7, v35, v36, v37, v38, v39, v40, v41, v42, v43, v44, v45, v46, v47, rfl, hR⟩ := hI
    obtain rfl := hR.e14 (hD 14 (by decide))
    obtain rfl := hR.e12 (hD 12 (by decide))
    have r := hR.s13 (hD 13 (by decide))
    have l1 := run_loadVar_mid w' (n0 + 1) 0 29 (qF p s d sp dp ty kv by').toList _ r Tryd.underlying29 rfl (by rw [info29]; rfl)
    rw [Array.toArray_toList] at l1
    have HL := Lib.hid l1
    have hd := hR.W.d
    clear l1 r hR hD W3 r3
    simp only [List.drop_succ_cons, List.drop_zero]
    go_wp2_with fail
    exact bodyPost_ret (results_three Tryd.results14 _ rfl HL.out) rfl ⟨rfl, hd⟩
  · go_wp2_with fail
    refine wp_region_steps 6 [[], [0], [], [2], [3], [1]] (fun D A w' => ∃ v22 v23 v24 v25 v26 : Value, A = ⟨#[.agg #[.int .u8 p, .int .u32 s, .int .u32 d, .int .u16 sp, .int .u16 dp, .int .u8 side], .int .u8 dir, .int .u32 by', .pointer (some ⟨n0, 0, none⟩), undef, undef, .pointer (some ⟨n0 + 1, 0, none⟩), .int .u8 0, .bool false, .pointer (some ⟨b9, 0, none⟩), .int .u8 (1 - q0), undef, undef, .pointer (some ⟨n0, 0, none⟩), .agg #[.int .u8 p, .int .u32 s, .int .u32 d, .int .u16 sp, .int .u16 dp], .pointer (some ⟨n0, 5, none⟩), .int .u8 side, .int .u8 q0, .int .u8 (1 - q0), .int .u8 dir, .int .u8 1, .bool true, v22, v23, v24, v25, v26, undef, undef, undef, undef, undef, undef, undef, undef, undef, undef, undef, undef, undef, undef, undef, undef, undef, undef, undef, undef, undef], []⟩ ∧ Qb w n0 b9 p s d sp dp side q0 D v22 v23 v24 v25 v26 w') (by kernel_rfl) (by kernel_rfl) ⟨undef, undef, undef, undef, undef, rfl, W0.below (Below.refl _ _).drew, fun h => h.elim, fun _ => range_below (Below.refl _ _).drew W0.z9 r9, fun h => h.elim, fun h => h.elim, fun h => h.elim, fun h => h.elim, fun h => h.elim, fun h => h.elim, fun h => h.elim⟩ ?_ ?_
    · simp only [List.take_succ_cons, List.take_zero]
      refine ⟨?_, ?_, ?_, ?_, ?_, ?_, trivial⟩
      · intro D A w' hn hp hI
        obtain ⟨v22, v23, v24, v25, v26, rfl, hR⟩ := hI
        have g := hR.n5 (fun h => hn (hR.o1 (hR.o5 h)))
        clear hn hp
        have c0 : w'.cell? ⟨b9, 0, none⟩ = some (.int .u8 p) := by have := g 0 (.int .u8 p) rfl; rwa [Nat.zero_add] at this
        have c1 : w'.cell? ⟨b9, 1, none⟩ = some (.int .u32 s) := by have := g 1 (.int .u32 s) rfl; rwa [Nat.zero_add] at this
        have c2 : w'.cell? ⟨b9, 2, none⟩ = some (.int .u32 d) := by have := g 2 (.int .u32 d) rfl; rwa [Nat.zero_add] at this
        have c3 : w'.cell? ⟨b9, 3, none⟩ = some (.int .u16 sp) := by have := g 3 (.int .u16 sp) rfl; rwa [Nat.zero_add] at this
        have c4 : w'.cell? ⟨b9, 4, none⟩ = some (.int .u16 dp) := by have := g 4 (.int .u16 dp) rfl; rwa [Nat.zero_add] at this
        go_wp2_with fail
        exact ⟨_, _, _, _, _, rfl, hR.W, or_keep hR.c5 (by decide), fun h => hR.n5 (fun hd => h (.inl hd)), fun h => .inl (hR.o5 (h.resolve_right (by decide))), fun _ => .inr rfl, fun _ => rfl, or_keep hR.e1 (by decide), or_keep hR.e2 (by decide), or_keep hR.e3 (by decide), or_keep hR.e4 (by decide)⟩
      · intro D A w' hn hp hI
        obtain ⟨v22, v23, v24, v25, v26, rfl, hR⟩ := hI
        obtain rfl := hR.e0 hp.1
        have h0 := hp.1
        have hn5 : ¬ D 5 := fun h => hn (hR.o5 h)
        clear hn hp
        go_wp2_with fail
        refine (turn_below _ _ _ _ _ _).mono ?_
        rintro e w'' ⟨rfl, hb⟩
        go_wp2_with fail
        exact ⟨_, _, _, _, _, rfl, hR.W.below hb, fun h => absurd (h.resolve_right (by decide)) hn5, fun _ => range_below hb hR.W.z9 (hR.n5 hn5), fun _ => .inr rfl, fun _ => .inl h0, or_keep hR.e0 (by decide), fun _ => rfl, or_keep hR.e2 (by decide), or_keep hR.e3 (by decide), or_keep hR.e4 (by decide)⟩
      · intro D A w' hn hp hI
        obtain ⟨v22, v23, v24, v25, v26, rfl, hR⟩ := hI
        clear hn hp
        go_wp2_with fail
        exact ⟨_, _, _, _, _, rfl, hR.W, or_keep hR.c5 (by decide), fun h => hR.n5 (fun hd => h (.inl hd)), fun h => .inl (hR.o5 (h.resolve_right (by decide))), fun h => .inl (hR.o1 (h.resolve_right (by decide))), or_keep hR.e0 (by decide), or_keep hR.e1 (by decide), fun _ => rfl, or_keep hR.e3 (by decide), or_keep hR.e4 (by decide)⟩
      · intro D A w' hn hp hI
        obtain ⟨v22, v23, v24, v25, v26, rfl, hR⟩ := hI
        obtain rfl := hR.e2 hp.1
        clear hn hp
        have c5 : w'.cell? ⟨n0, 5, none⟩ = some (.int .u8 side) := by have := hR.W.X 5 (.int .u8 side) rfl; rwa [Nat.zero_add] at this
        go_wp2_with fail
        exact ⟨_, _, _, _, _, rfl, hR.W, or_keep hR.c5 (by decide), fun h => hR.n5 (fun hd => h (.inl hd)), fun h => .inl (hR.o5 (h.resolve_right (by decide))), fun h => .inl (hR.o1 (h.resolve_right (by decide))), or_keep hR.e0 (by decide), or_keep hR.e1 (by decide), or_keep hR.e2 (by decide), fun _ => rfl, or_keep hR.e4 (by decide)⟩
      · intro D A w' hn hp hI
        obtain ⟨v22, v23, v24, v25, v26, rfl, hR⟩ := hI
        obtain rfl := hR.e3 hp.1
        have h1 := HQ0.out
        have h2 := HQ0'.out
        clear hn hp
        go_wp2_with fail
        exact ⟨_, _, _, _, _, rfl, hR.W, or_keep hR.c5 (by decide), fun h => hR.n5 (fun hd => h (.inl hd)), fun h => .inl (hR.o5 (h.resolve_right (by decide))), fun h => .inl (hR.o1 (h.resolve_right (by decide))), or_keep hR.e0 (by decide), or_keep hR.e1 (by decide), or_keep hR.e2 (by decide), or_keep hR.e3 (by decide), fun _ => rfl⟩
      · intro D A w' hn hp hI
        obtain ⟨v22, v23, v24, v25, v26, rfl, hR⟩ := hI
        obtain rfl := hR.e1 hp.1
        have h1 := hp.1
        clear hn hp
        refine wpList_store_wide 25 (.tmp 9) (.tmp 23) rfl rfl b9 0 #[.int .u8 p, .int .u32 d, .int .u32 s, .int .u16 dp, .int .u16 sp] rfl rfl w.heap.size w (by rw [info25]; rfl) (one_key _ _ _ _ _) hR.W.d (by have := hR.W.le; have := hR.W.ne; omega) hR.W.K ?_
        intro u1 q1 s1 r1 x1 y1 _
        have ne := hR.W.ne
        have zz := hR.W.zx
        have z99 := hR.W.z9
        have g1 := x1 _ _ _ (by omega) hR.W.X
        go_wp2_with fail
        exact ⟨_, _, _, _, _, rfl, ⟨q1, g1, y1 _ _ _ hR.W.T, y1 _ _ _ hR.W.K, hR.W.le, by omega, by omega, ne⟩, fun _ => r1, fun h => absurd (.inr rfl) h, fun _ => .inl h1, fun h => .inl (hR.o1 (h.resolve_right (by decide))), or_keep hR.e0 (by decide), or_keep hR.e1 (by decide), or_keep hR.e2 (by decide), or_keep hR.e3 (by decide), or_keep hR.e4 (by decide)⟩
    intro D A w' hD hI
    obtain ⟨v22, v23, v24, v25, v26, rfl, hR⟩ := hI
    obtain rfl := hR.e4 (hD 4 (by decide))
    have r9' := hR.c5 (hD 5 (by decide))
    have W1 := hR.W
    clear hR hD W0 r9
    have W0 := W1
    have r9 := r9'
    clear W1 r9'
    simp only [List.drop_succ_cons, List.drop_zero]
    have x0 : w'.cell? ⟨n0, 0, none⟩ = some (.int .u8 p) := by have := W0.X 0 (.int .u8 p) rfl; rwa [Nat.zero_add] at this
    have x1 : w'.cell? ⟨n0, 1, none⟩ = some (.int .u32 s) := by have := W0.X 1 (.int .u32 s) rfl; rwa [Nat.zero_add] at this
    have x2 : w'.cell? ⟨n0, 2, none⟩ = some (.int .u32 d) := by have := W0.X 2 (.int .u32 d) rfl; rwa [Nat.zero_add] at this
    have x3 : w'.cell? ⟨n0, 3, none⟩ = some (.int .u16 sp) := by have := W0.X 3 (.int .u16 sp) rfl; rwa [Nat.zero_add] at this
    have x4 : w'.cell? ⟨n0, 4, none⟩ = some (.int .u16 dp) := by have := W0.X 4 (.int .u16 dp) rfl; rwa [Nat.zero_add] at this
    have x5 : w'.cell? ⟨n0, 5, none⟩ = some (.int .u8 side) := by have := W0.X 5 (.int .u8 side) rfl; rwa [Nat.zero_add] at this
    go_wp2_with fail
    refine (HKd.out _ (by decide) (HT.out.below W0.d)).mono ?_
    rintro e V3 ⟨rfl, hb⟩
    have W3 := W0.below hb
    have r3 := range_below hb W0.z9 r9
    clear hb r9 W0 x0 x1 x2 x3 x4 x5 hq01 hq02
    go_wp2_with fail
    refine wp_region_steps 15 [[], [], [1], [0, 2], [], [], [5], [4, 6], [], [], [3, 7, 8, 9], [], [], [10], [11]] (fun D A w' => ∃ v7 v35 v36 v37 v38 v39 v40 v41 v42 v43 v44 v45 v46 v47 : Value, A = ⟨#[.agg #[.int .u8 p, .int .u32 s, .int .u32 d, .int .u16 sp, .int .u16 dp, .int .u8 side], .int .u8 dir, .int .u32 by', .pointer (some ⟨n0, 0, none⟩), undef, undef, .pointer (some ⟨n0 + 1, 0, none⟩), v7, .bool false, .pointer (some ⟨b9, 0, none⟩), .int .u8 q0, .int .u8 kv, .bool okv, .pointer (some ⟨n0, 0, none⟩), .agg #[.int .u8 p, .int .u32 s, .int .u32 d, .int .u16 sp, .int .u16 dp], .pointer (some ⟨n0, 5, none⟩), .int .u8 side, .int .u8 q0, .int .u8 (1 - q0), .int .u8 dir, .int .u8 1, .bool true, v22, v23, v24, v25, .int .u8 q0, .tuple #[.int .u8 kv, .bool okv], .pointer (some ⟨n0, 0, none⟩), .agg #[.int .u8 p, .int .u32 s, .int .u32 d, .int .u16 sp, .int .u16 dp], .int .u8 dir, .int .u8 1, .tuple #[.int .u8 kv, .bool okv], .int .u8 kv, .bool okv, v35, v36, v37, v38, v39, v40, v41, v42, v43, v44, v45, v46, v47], []⟩ ∧ Qc w n0 b9 [.int .u8 p, .int .u32 s, .int .u32 d, .int .u16 sp, .int .u16 dp, .int .u8 side] p d s dp sp ty kv by' m3 q0 okv D v7 v35 v36 v37 v38 v39 v40 v41 v42 v43 v44 v45 v46 v47 w') (by kernel_rfl) (by kernel_rfl) ⟨.int .u8 0, undef, undef, undef, undef, undef, undef, undef, undef, undef, undef, undef, undef, undef, rfl, W3.below (Below.refl _ _).drew, range_below (Below.refl _ _).drew W3.z9 r3, fun h => h.elim, fun h => h.elim, fun h => h.elim, fun h => h.elim, fun h => h.elim, fun h => h.elim, fun h => h.elim, fun h => h.elim, fun h => h.elim, fun h => h.elim, fun h => h.elim, fun h => h.elim, fun h => h.elim, fun h => h.elim, fun h => h.elim⟩ ?_ ?_
    · simp only [List.take_succ_cons, List.take_zero]
      refine ⟨?_, ?_, ?_, ?_, ?_, ?_, ?_, ?_, ?_, ?_, ?_, ?_, ?_, ?_, ?_, trivial⟩
      · intro D A w' hn hp hI
        obtain ⟨v7, v35, v36, v37, v38, v39, v40, v41, v42, v43, v44, v45, v46, v47, rfl, hR⟩ := hI
        clear hn hp
        go_wp2_with fail
        exact ⟨_, _, _, _, _, _, _, _, _, _, _, _, _, _, rfl, hR.W, hR.C, or_keep hR.s13 (by decide), fun _ => rfl, or_keep hR.e1 (by decide), or_keep hR.e2 (by decide), or_keep hR.e3 (by decide), or_keep hR.e4 (by decide), or_keep hR.e5 (by decide), or_keep hR.e6 (by decide), or_keep hR.e7 (by decide), or_keep hR.e8 (by decide), or_keep hR.e9 (by decide), or_keep hR.e10 (by decide), or_keep hR.e11 (by decide), or_keep hR.e12 (by decide), or_keep hR.e14 (by decide)⟩
      · intro D A w' hn hp hI
        obtain ⟨v7, v35, v36, v37, v38, v39, v40, v41, v42, v43, v44, v45, v46, v47, rfl, hR⟩ := hI
        clear hn hp
        go_wp2_with fail
        exact ⟨_, _, _, _, _, _, _, _, _, _, _, _, _, _, rfl, hR.W, hR.C, or_keep hR.s13 (by decide), or_keep hR.e0 (by decide), fun _ => rfl, or_keep hR.e2 (by decide), or_keep hR.e3 (by decide), or_keep hR.e4 (by decide), or_keep hR.e5 (by decide), or_keep hR.e6 (by decide), or_keep hR.e7 (by decide), or_keep hR.e8 (by decide), or_keep hR.e9 (by decide), or_keep hR.e10 (by decide), or_keep hR.e11 (by decide), or_keep hR.e12 (by decide), or_keep hR.e14 (by decide)⟩
      · intro D A w' hn hp hI
        obtain ⟨v7, v35, v36, v37, v38, v39, v40, v41, v42, v43, v44, v45, v46, v47, rfl, hR⟩ := hI
        obtain rfl := hR.e1 hp.1
        clear hn hp
        have c1 : w'.cell? ⟨b9, 1, none⟩ = some (.int .u32 d) := by have := hR.C 1 (.int .u32 d) rfl; rwa [Nat.zero_add] at this
        go_wp2_with fail
        exact ⟨_, _, _, _, _, _, _, _, _, _, _, _, _, _, rfl, hR.W, hR.C, or_keep hR.s13 (by decide), or_keep hR.e0 (by decide), or_keep hR.e1 (by decide), fun _ => rfl, or_keep hR.e3 (by decide), or_keep hR.e4 (by decide), or_keep hR.e5 (by decide), or_keep hR.e6 (by decide), or_keep hR.e7 (by decide), or_keep hR.e8 (by decide), or_keep hR.e9 (by decide), or_keep hR.e10 (by decide), or_keep hR.e11 (by decide), or_keep hR.e12 (by decide), or_keep hR.e14 (by decide)⟩
      · intro D A w' hn hp hI
        obtain ⟨v7, v35, v36, v37, v38, v39, v40, v41, v42, v43, v44, v45, v46, v47, rfl, hR⟩ := hI
        obtain rfl := hR.e0 hp.1
        obtain rfl := hR.e2 hp.2.1
        clear hn hp
        go_wp2_with fail
        exact ⟨_, _, _, _, _, _, _, _, _, _, _, _, _, _, rfl, hR.W, hR.C, or_keep hR.s13 (by decide), or_keep hR.e0 (by decide), or_keep hR.e1 (by decide), or_keep hR.e2 (by decide), fun _ => rfl, or_keep hR.e4 (by decide), or_keep hR.e5 (by decide), or_keep hR.e6 (by decide), or_keep hR.e7 (by decide), or_keep hR.e8 (by decide), or_keep hR.e9 (by decide), or_keep hR.e10 (by decide), or_keep hR.e11 (by decide), or_keep hR.e12 (by decide), or_keep hR.e14 (by decide)⟩
      · intro D A w' hn hp hI
        obtain ⟨v7, v35, v36, v37, v38, v39, v40, v41, v42, v43, v44, v45, v46, v47, rfl, hR⟩ := hI
        clear hn hp
        go_wp2_with fail
        exact ⟨_, _, _, _, _, _, _, _, _, _, _, _, _, _, rfl, hR.W, hR.C, or_keep hR.s13 (by decide), or_keep hR.e0 (by decide), or_keep hR.e1 (by decide), or_keep hR.e2 (by decide), or_keep hR.e3 (by decide), fun _ => rfl, or_keep hR.e5 (by decide), or_keep hR.e6 (by decide), or_keep hR.e7 (by decide), or_keep hR.e8 (by decide), or_keep hR.e9 (by decide), or_keep hR.e10 (by decide), or_keep hR.e11 (by decide), or_keep hR.e12 (by decide), or_keep hR.e14 (by decide)⟩
      · intro D A w' hn hp hI
        obtain ⟨v7, v35, v36, v37, v38, v39, v40, v41, v42, v43, v44, v45, v46, v47, rfl, hR⟩ := hI
        clear hn hp
        go_wp2_with fail
        exact ⟨_, _, _, _, _, _, _, _, _, _, _, _, _, _, rfl, hR.W, hR.C, or_keep hR.s13 (by decide), or_keep hR.e0 (by decide), or_keep hR.e1 (by decide), or_keep hR.e2 (by decide), or_keep hR.e3 (by decide), or_keep hR.e4 (by decide), fun _ => rfl, or_keep hR.e6 (by decide), or_keep hR.e7 (by decide), or_keep hR.e8 (by decide), or_keep hR.e9 (by decide), or_keep hR.e10 (by decide), or_keep hR.e11 (by decide), or_keep hR.e12 (by decide), or_keep hR.e14 (by decide)⟩
      · intro D A w' hn hp hI
        obtain ⟨v7, v35, v36, v37, v38, v39, v40, v41, v42, v43, v44, v45, v46, v47, rfl, hR⟩ := hI
        obtain rfl := hR.e5 hp.1
        have h1 := HM.out
        have h2 := HM'.out
        clear hn hp
        go_wp2_with fail
        exact ⟨_, _, _, _, _, _, _, _, _, _, _, _, _, _, rfl, hR.W, hR.C, or_keep hR.s13 (by decide), or_keep hR.e0 (by decide), or_keep hR.e1 (by decide), or_keep hR.e2 (by decide), or_keep hR.e3 (by decide), or_keep hR.e4 (by decide), or_keep hR.e5 (by decide), fun _ => rfl, or_keep hR.e7 (by decide), or_keep hR.e8 (by decide), or_keep hR.e9 (by decide), or_keep hR.e10 (by decide), or_keep hR.e11 (by decide), or_keep hR.e12 (by decide), or_keep hR.e14 (by decide)⟩
      · intro D A w' hn hp hI
        obtain ⟨v7, v35, v36, v37, v38, v39, v40, v41, v42, v43, v44, v45, v46, v47, rfl, hR⟩ := hI
        obtain rfl := hR.e4 hp.1
        obtain rfl := hR.e6 hp.2.1
        have hi' := hi.out
        clear hn hp
        go_wp2_with fail
        exact ⟨_, _, _, _, _, _, _, _, _, _, _, _, _, _, rfl, hR.W, hR.C, or_keep hR.s13 (by decide), or_keep hR.e0 (by decide), or_keep hR.e1 (by decide), or_keep hR.e2 (by decide), or_keep hR.e3 (by decide), or_keep hR.e4 (by decide), or_keep hR.e5 (by decide), or_keep hR.e6 (by decide), fun _ => rfl, or_keep hR.e8 (by decide), or_keep hR.e9 (by decide), or_keep hR.e10 (by decide), or_keep hR.e11 (by decide), or_keep hR.e12 (by decide), or_keep hR.e14 (by decide)⟩
      · intro D A w' hn hp hI
        obtain ⟨v7, v35, v36, v37, v38, v39, v40, v41, v42, v43, v44, v45, v46, v47, rfl, hR⟩ := hI
        clear hn hp
        have c0 : w'.cell? ⟨b9, 0, none⟩ = some (.int .u8 p) := by have := hR.C 0 (.int .u8 p) rfl; rwa [Nat.zero_add] at this
        have c1 : w'.cell? ⟨b9, 1, none⟩ = some (.int .u32 d) := by have := hR.C 1 (.int .u32 d) rfl; rwa [Nat.zero_add] at this
        have c2 : w'.cell? ⟨b9, 2, none⟩ = some (.int .u32 s) := by have := hR.C 2 (.int .u32 s) rfl; rwa [Nat.zero_add] at this
        have c3 : w'.cell? ⟨b9, 3, none⟩ = some (.int .u16 dp) := by have := hR.C 3 (.int .u16 dp) rfl; rwa [Nat.zero_add] at this
        have c4 : w'.cell? ⟨b9, 4, none⟩ = some (.int .u16 sp) := by have := hR.C 4 (.int .u16 sp) rfl; rwa [Nat.zero_add] at this
        go_wp2_with fail
        exact ⟨_, _, _, _, _, _, _, _, _, _, _, _, _, _, rfl, hR.W, hR.C, or_keep hR.s13 (by decide), or_keep hR.e0 (by decide), or_keep hR.e1 (by decide), or_keep hR.e2 (by decide), or_keep hR.e3 (by decide), or_keep hR.e4 (by decide), or_keep hR.e5 (by decide), or_keep hR.e6 (by decide), or_keep hR.e7 (by decide), fun _ => rfl, or_keep hR.e9 (by decide), or_keep hR.e10 (by decide), or_keep hR.e11 (by decide), or_keep hR.e12 (by decide), or_keep hR.e14 (by decide)⟩
      · intro D A w' hn hp hI
        obtain ⟨v7, v35, v36, v37, v38, v39, v40, v41, v42, v43, v44, v45, v46, v47, rfl, hR⟩ := hI
        clear hn hp
        go_wp2_with fail
        exact ⟨_, _, _, _, _, _, _, _, _, _, _, _, _, _, rfl, hR.W, hR.C, or_keep hR.s13 (by decide), or_keep hR.e0 (by decide), or_keep hR.e1 (by decide), or_keep hR.e2 (by decide), or_keep hR.e3 (by decide), or_keep hR.e4 (by decide), or_keep hR.e5 (by decide), or_keep hR.e6 (by decide), or_keep hR.e7 (by decide), or_keep hR.e8 (by decide), fun _ => rfl, or_keep hR.e10 (by decide), or_keep hR.e11 (by decide), or_keep hR.e12 (by decide), or_keep hR.e14 (by decide)⟩
      · intro D A w' hn hp hI
        obtain ⟨v7, v35, v36, v37, v38, v39, v40, v41, v42, v43, v44, v45, v46, v47, rfl, hR⟩ := hI
        obtain rfl := hR.e3 hp.1
        obtain rfl := hR.e7 hp.2.1
        obtain rfl := hR.e8 hp.2.2.1
        obtain rfl := hR.e9 hp.2.2.2.1
        clear hn hp
        refine wpList_buildSaid rfl 29 #[(0, .tmp 38), (1, .const (.int .u8 5)), (3, .tmp 42), (9, .tmp 43), (10, .tmp 44)] rfl [(0, .agg #[.int .u8 1, .int .u32 by', .int .u32 d, .int .u16 0, .int .u16 0]), (1, .int .u8 5), (3, .int .u8 ty), (9, .agg #[.int .u8 p, .int .u32 d, .int .u32 s, .int .u16 dp, .int .u16 sp]), (10, .int .u8 kv)] (some 45) rfl ?_ (qF p d s dp sp ty kv by') (built_qF _ _ _ _ _ _ _ _) ?_
        · (simp; (repeat' (first | rfl | apply And.intro)))
        go_wp2_with fail
        exact ⟨_, _, _, _, _, _, _, _, _, _, _, _, _, _, rfl, hR.W, hR.C, or_keep hR.s13 (by decide), or_keep hR.e0 (by decide), or_keep hR.e1 (by decide), or_keep hR.e2 (by decide), or_keep hR.e3 (by decide), or_keep hR.e4 (by decide), or_keep hR.e5 (by decide), or_keep hR.e6 (by decide), or_keep hR.e7 (by decide), or_keep hR.e8 (by decide), or_keep hR.e9 (by decide), fun _ => rfl, or_keep hR.e11 (by decide), or_keep hR.e12 (by decide), or_keep hR.e14 (by decide)⟩
      · intro D A w' hn hp hI
        obtain ⟨v7, v35, v36, v37, v38, v39, v40, v41, v42, v43, v44, v45, v46, v47, rfl, hR⟩ := hI
        clear hn hp
        go_wp2_with fail
        exact ⟨_, _, _, _, _, _, _, _, _, _, _, _, _, _, rfl, hR.W, hR.C, or_keep hR.s13 (by decide), or_keep hR.e0 (by decide), or_keep hR.e1 (by decide), or_keep hR.e2 (by decide), or_keep hR.e3 (by decide), or_keep hR.e4 (by decide), or_keep hR.e5 (by decide), or_keep hR.e6 (by decide), or_keep hR.e7 (by decide), or_keep hR.e8 (by decide), or_keep hR.e9 (by decide), or_keep hR.e10 (by decide), fun _ => rfl, or_keep hR.e12 (by decide), or_keep hR.e14 (by decide)⟩
      · intro D A w' hn hp hI
        obtain ⟨v7, v35, v36, v37, v38, v39, v40, v41, v42, v43, v44, v45, v46, v47, rfl, hR⟩ := hI
        clear hn hp
        go_wp2_with fail
        exact ⟨_, _, _, _, _, _, _, _, _, _, _, _, _, _, rfl, hR.W, hR.C, or_keep hR.s13 (by decide), or_keep hR.e0 (by decide), or_keep hR.e1 (by decide), or_keep hR.e2 (by decide), or_keep hR.e3 (by decide), or_keep hR.e4 (by decide), or_keep hR.e5 (by decide), or_keep hR.e6 (by decide), or_keep hR.e7 (by decide), or_keep hR.e8 (by decide), or_keep hR.e9 (by decide), or_keep hR.e10 (by decide), or_keep hR.e11 (by decide), fun _ => rfl, or_keep hR.e14 (by decide)⟩
      · intro D A w' hn hp hI
        obtain ⟨v7, v35, v36, v37, v38, v39, v40, v41, v42, v43, v44, v45, v46, v47, rfl, hR⟩ := hI
        obtain rfl := hR.e10 hp.1
        clear hn hp
        refine wpList_store_wide 29 (.tmp 6) (.tmp 45) rfl rfl (n0 + 1) 0 (qF p d s dp sp ty kv by') rfl rfl w.heap.size w (by rw [info29]; rfl) (by simp [qF, Value.oneCell']) hR.W.d (by have := hR.W.le; omega) hR.W.T ?_
        intro u1 q1 s1 r1 x1 y1 _
        have ne := hR.W.ne
        have zz := hR.W.zx
        have z99 := hR.W.z9
        have g1 := x1 _ _ _ (by omega) hR.W.X
        have g2 := x1 _ _ _ (by omega) hR.C
        go_wp2_with fail
        exact ⟨_, _, _, _, _, _, _, _, _, _, _, _, _, _, rfl, ⟨q1, g1, y1 _ _ _ hR.W.T, y1 _ _ _ hR.W.K, hR.W.le, by omega, by omega, ne⟩, g2, fun _ => r1, or_keep hR.e0 (by decide), or_keep hR.e1 (by decide), or_keep hR.e2 (by decide), or_keep hR.e3 (by decide), or_keep hR.e4 (by decide), or_keep hR.e5 (by decide), or_keep hR.e6 (by decide), or_keep hR.e7 (by decide), or_keep hR.e8 (by decide), or_keep hR.e9 (by decide), or_keep hR.e10 (by decide), or_keep hR.e11 (by decide), or_keep hR.e12 (by decide), or_keep hR.e14 (by decide)⟩
      · intro D A w' hn hp hI
        obtain ⟨v7, v35, v36, v37, v38, v39, v40, v41, v42, v43, v44, v45, v46, v47, rfl, hR⟩ := hI
        obtain rfl := hR.e11 hp.1
        clear hn hp
        go_wp2_with fail
        exact ⟨_, _, _, _, _, _, _, _, _, _, _, _, _, _, rfl, hR.W, hR.C, or_keep hR.s13 (by decide), or_keep hR.e0 (by decide), or_keep hR.e1 (by decide), or_keep hR.e2 (by decide), or_keep hR.e3 (by decide), or_keep hR.e4 (by decide), or_keep hR.e5 (by decide), or_keep hR.e6 (by decide), or_keep hR.e7 (by decide), or_keep hR.e8 (by decide), or_keep hR.e9 (by decide), or_keep hR.e10 (by decide), or_keep hR.e11 (by decide), or_keep hR.e12 (by decide), fun _ => rfl⟩
    intro D A w' hD hI
    obtain ⟨v7, v35, v36, v37, v38, v39, v40, v41, v42, v43, v44, v45, v46, v47, rfl, hR⟩ := hI
    obtain rfl := hR.e14 (hD 14 (by decide))
    obtain rfl := hR.e12 (hD 12 (by decide))
    have r := hR.s13 (hD 13 (by decide))
    have l1 := run_loadVar_mid w' (n0 + 1) 0 29 (qF p d s dp sp ty kv by').toList _ r Tryd.underlying29 rfl (by rw [info29]; rfl)
    rw [Array.toArray_toList] at l1
    have HL := Lib.hid l1
    have hd := hR.W.d
    clear l1 r hR hD W3 r3
    simp only [List.drop_succ_cons, List.drop_zero]
    go_wp2_with fail
    exact bodyPost_ret (results_three Tryd.results14 _ rfl HL.out) rfl ⟨rfl, hd⟩

end Go.Proofs.YtapeminpgojeaaaDoor

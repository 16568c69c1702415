/-
  The contracts of the reference's see, See, Believe and Fits. Conditions: the numbers lie in their types' ranges.
-/
import Derived.Test.YtchephpmkommfaaRefA
import Derived.Test.YtchephpmkommfaaInv
namespace Go.Proofs.Ytchephpmkommfaa
open Go.RowKit
set_option linter.unusedVariables false
set_option linter.unusedSimpArgs false

/-- see's three blocks: the side, the packet, the result. -/
structure Ly (w0 W : World) (B : Nat) (T : List Value) (F : Array Value) : Prop where
  b : Below w0.heap.size w0 W
  le : w0.heap.size ≤ B
  lt : B + 1 + 1 < W.heap.size
  len : T.length = 5
  t : W.rangeAt B 0 T
  th : W.there B 0 5
  f : W.rangeAt (B + 1) 0 F.toList
  z : W.there (B + 1 + 1) 0 5
theorem Ly.below {w0 W W' : World} {B : Nat} {T : List Value} {F : Array Value} (h : Ly w0 W B T F) (hb : Below W.heap.size W W') : Ly w0 W' B T F :=
  ⟨bthen h.b hb, h.le, Nat.lt_of_lt_of_le h.lt hb.size, h.len, range_below hb (by have := h.lt; omega) h.t, there_below hb (by have := h.lt; omega) h.th, range_below hb (by have := h.lt; omega) h.f, there_below hb h.lt h.z⟩
theorem Ly.cell {w0 W : World} {B : Nat} {T : List Value} {F : Array Value} (h : Ly w0 W B T F) (i : Nat) (v : Value) (hv : T[i]? = some v) : W.cell? ⟨B, i, none⟩ = some v := by simpa using h.t i v hv
theorem Ly.free {w0 W : World} {B : Nat} {T : List Value} {F : Array Value} (h : Ly w0 W B T F) (i : Nat) (hi : i < 5) : W.frozen? ⟨B, i, none⟩ = false := by simpa using (h.th i hi).2
theorem Ly.fcell {w0 W : World} {B : Nat} {T : List Value} {F : Array Value} (h : Ly w0 W B T F) (i : Nat) (v : Value) (hv : F[i]? = some v) : W.cell? ⟨B + 1, i, none⟩ = some v := by simpa using h.f i v (by simpa using hv)
theorem Ly.put {w0 W : World} {B : Nat} {T : List Value} {F : Array Value} (h : Ly w0 W B T F) (i : Nat) (v : Value) : Ly w0 (W.setCell ⟨B, i, none⟩ v) B (T.set i v) F := by
  have e : W.setCell ⟨B, i, none⟩ v = W.setCells B i [v] := rfl
  refine ⟨h.b.setCell (p := ⟨B, i, none⟩) h.le v, h.le, by rw [size_setC]; exact h.lt, by simp [h.len], fun j u hu => ?_, ?_, ?_, ?_⟩
  · rw [Nat.zero_add]
    by_cases hij : i = j
    · subst hij
      have hl : i < T.length := by
        have := (List.getElem?_eq_some_iff.1 hu).1
        simpa using this
      rw [List.getElem?_set_self hl] at hu
      cases hu
      obtain ⟨x, hx⟩ := Option.isSome_iff_exists.1 (h.th i (by rw [← h.len]; exact hl)).1
      rw [Nat.zero_add] at hx
      rw [World.cell?_setCell_same' _ _ _ (by rw [hx]; rfl)]
    · rw [List.getElem?_set_ne hij] at hu
      rw [World.cell?_setCell_other _ _ _ _ (fun e => hij (by injection e))]
      exact h.cell j u hu
  · rw [e]; exact World.there_setCells h.th B i [v]
  · rw [e]; exact World.rangeAt_setCells_apart h.f B i [v] (.inl (by omega))
  · rw [e]; exact World.there_setCells h.z B i [v]
theorem info60 : (Try.prog.info? 60).map (·.size) = some 5 := by kernel_rfl

structure Rs (w1 : World) (w : World) (F : Array Value) (seq rm e : Int) (D : Nat → Prop) (v6 v7 v8 v9 v10 v11 v12 : Value) (w' : World) : Prop where
  b : Below w1.heap.size w1 w'
  e0 : D 0 → v6 = .pointer (some ⟨w.heap.size + 1, 9, none⟩)
  e1 : D 1 → v7 = .int .u32 seq
  e2 : D 2 → v8 = .int .i64 seq
  e3 : D 3 → v9 = .agg F
  e4 : D 4 → v10 = .int .i64 rm
  e5 : D 5 → v11 = .int .i64 (seq + rm)
  e6 : D 6 → v12 = .int .i64 e
theorem Rs.s0 {w1 : World} {w : World} {F : Array Value} {seq rm e : Int} {D : Nat → Prop} {v6 v7 v8 v9 v10 v11 v12 : Value} {w' w'' : World} (h : Rs w1 w F seq rm e D v6 v7 v8 v9 v10 v11 v12 w') (hb : Below w'.heap.size w' w'') : Rs w1 w F seq rm e (fun j => D j ∨ j = 0) (.pointer (some ⟨w.heap.size + 1, 9, none⟩)) v7 v8 v9 v10 v11 v12 w'' :=
  ⟨bthen h.b hb, fun _ => rfl, or_keep h.e1 (by decide), or_keep h.e2 (by decide), or_keep h.e3 (by decide), or_keep h.e4 (by decide), or_keep h.e5 (by decide), or_keep h.e6 (by decide)⟩
theorem Rs.s1 {w1 : World} {w : World} {F : Array Value} {seq rm e : Int} {D : Nat → Prop} {v6 v7 v8 v9 v10 v11 v12 : Value} {w' w'' : World} (h : Rs w1 w F seq rm e D v6 v7 v8 v9 v10 v11 v12 w') (hb : Below w'.heap.size w' w'') : Rs w1 w F seq rm e (fun j => D j ∨ j = 1) v6 (.int .u32 seq) v8 v9 v10 v11 v12 w'' :=
  ⟨bthen h.b hb, or_keep h.e0 (by decide), fun _ => rfl, or_keep h.e2 (by decide), or_keep h.e3 (by decide), or_keep h.e4 (by decide), or_keep h.e5 (by decide), or_keep h.e6 (by decide)⟩
theorem Rs.s2 {w1 : World} {w : World} {F : Array Value} {seq rm e : Int} {D : Nat → Prop} {v6 v7 v8 v9 v10 v11 v12 : Value} {w' w'' : World} (h : Rs w1 w F seq rm e D v6 v7 v8 v9 v10 v11 v12 w') (hb : Below w'.heap.size w' w'') : Rs w1 w F seq rm e (fun j => D j ∨ j = 2) v6 v7 (.int .i64 seq) v9 v10 v11 v12 w'' :=
  ⟨bthen h.b hb, or_keep h.e0 (by decide), or_keep h.e1 (by decide), fun _ => rfl, or_keep h.e3 (by decide), or_keep h.e4 (by decide), or_keep h.e5 (by decide), or_keep h.e6 (by decide)⟩
theorem Rs.s3 {w1 : World} {w : World} {F : Array Value} {seq rm e : Int} {D : Nat → Prop} {v6 v7 v8 v9 v10 v11 v12 : Value} {w' w'' : World} (h : Rs w1 w F seq rm e D v6 v7 v8 v9 v10 v11 v12 w') (hb : Below w'.heap.size w' w'') : Rs w1 w F seq rm e (fun j => D j ∨ j = 3) v6 v7 v8 (.agg F) v10 v11 v12 w'' :=
  ⟨bthen h.b hb, or_keep h.e0 (by decide), or_keep h.e1 (by decide), or_keep h.e2 (by decide), fun _ => rfl, or_keep h.e4 (by decide), or_keep h.e5 (by decide), or_keep h.e6 (by decide)⟩
theorem Rs.s4 {w1 : World} {w : World} {F : Array Value} {seq rm e : Int} {D : Nat → Prop} {v6 v7 v8 v9 v10 v11 v12 : Value} {w' w'' : World} (h : Rs w1 w F seq rm e D v6 v7 v8 v9 v10 v11 v12 w') (hb : Below w'.heap.size w' w'') : Rs w1 w F seq rm e (fun j => D j ∨ j = 4) v6 v7 v8 v9 (.int .i64 rm) v11 v12 w'' :=
  ⟨bthen h.b hb, or_keep h.e0 (by decide), or_keep h.e1 (by decide), or_keep h.e2 (by decide), or_keep h.e3 (by decide), fun _ => rfl, or_keep h.e5 (by decide), or_keep h.e6 (by decide)⟩
theorem Rs.s5 {w1 : World} {w : World} {F : Array Value} {seq rm e : Int} {D : Nat → Prop} {v6 v7 v8 v9 v10 v11 v12 : Value} {w' w'' : World} (h : Rs w1 w F seq rm e D v6 v7 v8 v9 v10 v11 v12 w') (hb : Below w'.heap.size w' w'') : Rs w1 w F seq rm e (fun j => D j ∨ j = 5) v6 v7 v8 v9 v10 (.int .i64 (seq + rm)) v12 w'' :=
  ⟨bthen h.b hb, or_keep h.e0 (by decide), or_keep h.e1 (by decide), or_keep h.e2 (by decide), or_keep h.e3 (by decide), or_keep h.e4 (by decide), fun _ => rfl, or_keep h.e6 (by decide)⟩
theorem Rs.s6 {w1 : World} {w : World} {F : Array Value} {seq rm e : Int} {D : Nat → Prop} {v6 v7 v8 v9 v10 v11 v12 : Value} {w' w'' : World} (h : Rs w1 w F seq rm e D v6 v7 v8 v9 v10 v11 v12 w') (hb : Below w'.heap.size w' w'') : Rs w1 w F seq rm e (fun j => D j ∨ j = 6) v6 v7 v8 v9 v10 v11 (.int .i64 e) w'' :=
  ⟨bthen h.b hb, or_keep h.e0 (by decide), or_keep h.e1 (by decide), or_keep h.e2 (by decide), or_keep h.e3 (by decide), or_keep h.e4 (by decide), or_keep h.e5 (by decide), fun _ => rfl⟩
theorem Rs.zero (w1 : World) (w : World) (F : Array Value) (seq rm e : Int) (v6 v7 v8 v9 v10 v11 v12 : Value) : Rs w1 w F seq rm e (fun _ => False) v6 v7 v8 v9 v10 v11 v12 w1.drew :=
  ⟨(Below.refl _ _).drew, fun h => h.elim, fun h => h.elim, fun h => h.elim, fun h => h.elim, fun h => h.elim, fun h => h.elim, fun h => h.elim⟩

set_option maxRecDepth 100000 in
set_option maxHeartbeats 4000000 in
theorem rsee_core (ss sa : Bool) (sn sk sz : Int) (F : Array Value) (flags seq ack win len rm e : Int) (fb : Bool) (w : World) (HF : Hid (Fa F flags seq ack win len)) (h1 : 0 ≤ sn ∧ sn ≤ 4294967295) (h2 : 0 ≤ sk ∧ sk ≤ 4294967295) (h4 : 0 ≤ ack ∧ ack ≤ 4294967295) (he : 0 ≤ e ∧ e ≤ 4294967295) (hq : 0 ≤ seq ∧ seq ≤ 4294967295) (hrm : 0 ≤ rm ∧ rm ≤ 4294967295) (hsum : Hid ((seq + rm) % 4294967296 = e)) (hfb : (bits .and .u8 flags 16 != 0) = fb)
    (HR : Hid (∀ W, Calls Try.prog 22 #[.agg F] W fun e w' => e = .returned (.int .i64 rm) ∧ Below W.heap.size W w')) :
    Calls Try.prog 29 #[.agg #[.bool ss, .bool sa, .int .i64 sn, .int .i64 sk, .int .i64 sz], .agg F] w fun x w' => x = .returned (.agg #[.bool true, .bool (sa || fb), .int .i64 (nxt ss sn e), .int .i64 (if fb then nxt sa sk ack else sk), .int .i64 win]) ∧ Below w.heap.size w w' := by
  have HI := Lib.hid HF.out.hi
  have HM : Hid (∀ W, Calls Try.prog 28 #[.int .i64 (seq + rm)] W fun x w' => x = .returned (.int .i64 e) ∧ Below W.heap.size W w') := fun W => (mod_any _ W).mono fun x w' h => ⟨by rw [h.1, hsum.out], h.2 ▸ Below.refl _ _⟩
  go_enter Try.func29, Try.ntmps29
  go_wp2_with fail
  generalize hW : World.alloc (World.alloc (World.alloc w _) _) _ = W
  have L : Ly w W w.heap.size [.bool ss, .bool sa, .int .i64 sn, .int .i64 sk, .int .i64 sz] F := by
    subst hW
    refine ⟨by repeat' (first | exact Below.refl _ _ | refine below_drewN ?_ _ | refine Below.drew ?_ | refine Below.setCell ?_ (by first | omega | (simp; done) | (simp; omega)) _ | refine Below.alloc ?_ (by first | omega | (simp; done) | (simp; omega)) _), Nat.le_refl _, by simp, rfl, ?_, ?_, ?_, ?_⟩
    · exact World.rangeAt_alloc (World.rangeAt_alloc (range_new w _ _) _) _
    · exact World.there_alloc (World.there_alloc (there_new w _ _ _ _ rfl rfl) _) _
    · exact World.rangeAt_alloc (range_new' _ _ _ _ (by simp)) _
    · exact there_new _ _ _ _ _ (by simp) rfl
  have HL := Lib.hid L
  clear hW L
  refine wp_region_steps 7 [[], [0], [1], [], [3], [2, 4], [5]] (fun D a w' => ∃ v6 v7 v8 v9 v10 v11 v12 : Value, a = ⟨#[.agg #[.bool ss, .bool sa, .int .i64 sn, .int .i64 sk, .int .i64 sz], .agg F, .pointer (some ⟨w.heap.size, 0, none⟩), .pointer (some ⟨w.heap.size + 1, 0, none⟩), .pointer (some ⟨w.heap.size + 1 + 1, 0, none⟩), undef, v6, v7, v8, v9, v10, v11, v12, undef, undef, undef, undef, undef, undef, undef, undef, undef, undef, undef, undef, undef, undef, undef, undef, undef, undef, undef, undef, undef, undef, undef, undef, undef, undef, undef, undef, undef, undef, undef, undef, undef, undef, undef, undef], []⟩ ∧ Rs W w F seq rm e D v6 v7 v8 v9 v10 v11 v12 w') (by kernel_rfl) (by kernel_rfl) ⟨undef, undef, undef, undef, undef, undef, undef, rfl, Rs.zero W w F seq rm e (undef) (undef) (undef) (undef) (undef) (undef) (undef)⟩ ?_ ?_
  · simp only [List.take_succ_cons, List.take_zero]
    refine ⟨?_, ?_, ?_, ?_, ?_, ?_, ?_, trivial⟩
    · intro D a w' hn hp hI
      obtain ⟨v6, v7, v8, v9, v10, v11, v12, rfl, hR⟩ := hI
      clear hn hp
      go_wp2_with fail
      exact ⟨_, _, _, _, _, _, _, rfl, hR.s0 (Below.refl _ _)⟩
    · intro D a w' hn hp hI
      obtain ⟨v6, v7, v8, v9, v10, v11, v12, rfl, hR⟩ := hI
      obtain rfl := hR.e0 hp.1
      have c := (HL.out.below hR.b).fcell 9 _ HF.out.cseq
      clear hn hp
      go_wp2_with fail
      exact ⟨_, _, _, _, _, _, _, rfl, hR.s1 (Below.refl _ _)⟩
    · intro D a w' hn hp hI
      obtain ⟨v6, v7, v8, v9, v10, v11, v12, rfl, hR⟩ := hI
      obtain rfl := hR.e1 hp.1
      clear hn hp
      go_wp2_with fail
      exact ⟨_, _, _, _, _, _, _, rfl, hR.s2 (Below.refl _ _)⟩
    · intro D a w' hn hp hI
      obtain ⟨v6, v7, v8, v9, v10, v11, v12, rfl, hR⟩ := hI
      have RF := (HL.out.below hR.b).f
      clear hn hp
      go_wp2_with (refine wpList_load_wide 34 _ rfl (by rfl) _ _ rfl F _ Try.underlying34 rfl HI.out RF ?_)
      exact ⟨_, _, _, _, _, _, _, rfl, hR.s3 (Below.refl _ _)⟩
    · intro D a w' hn hp hI
      obtain ⟨v6, v7, v8, v9, v10, v11, v12, rfl, hR⟩ := hI
      obtain rfl := hR.e3 hp.1
      clear hn hp
      go_wp2_with fail
      refine (HR.out _).mono ?_
      rintro x w'' ⟨rfl, hb⟩
      go_wp2_with fail
      exact ⟨_, _, _, _, _, _, _, rfl, hR.s4 hb⟩
    · intro D a w' hn hp hI
      obtain ⟨v6, v7, v8, v9, v10, v11, v12, rfl, hR⟩ := hI
      obtain rfl := hR.e2 hp.1
      obtain rfl := hR.e4 hp.2.1
      clear hn hp
      go_wp2_with fail
      exact ⟨_, _, _, _, _, _, _, rfl, hR.s5 (Below.refl _ _)⟩
    · intro D a w' hn hp hI
      obtain ⟨v6, v7, v8, v9, v10, v11, v12, rfl, hR⟩ := hI
      obtain rfl := hR.e5 hp.1
      clear hn hp
      go_wp2_with fail
      refine (HM.out _).mono ?_
      rintro x w'' ⟨rfl, hb⟩
      go_wp2_with fail
      exact ⟨_, _, _, _, _, _, _, rfl, hR.s6 hb⟩
  intro D a w' hD hI
  obtain ⟨v6, v7, v8, v9, v10, v11, v12, rfl, hR⟩ := hI
  obtain rfl := hR.e0 (hD 0 (by decide))
  obtain rfl := hR.e1 (hD 1 (by decide))
  obtain rfl := hR.e2 (hD 2 (by decide))
  obtain rfl := hR.e3 (hD 3 (by decide))
  obtain rfl := hR.e4 (hD 4 (by decide))
  obtain rfl := hR.e5 (hD 5 (by decide))
  obtain rfl := hR.e6 (hD 6 (by decide))
  have L1 := HL.out.below hR.b
  have y0 := L1.cell 0 _ rfl
  have fy0 := L1.free 0 (by decide)
  have y1 := L1.cell 1 _ rfl
  have fy1 := L1.free 1 (by decide)
  have y2 := L1.cell 2 _ rfl
  have fy2 := L1.free 2 (by decide)
  have y3 := L1.cell 3 _ rfl
  have fy3 := L1.free 3 (by decide)
  have y4 := L1.cell 4 _ rfl
  have fy4 := L1.free 4 (by decide)
  have cf := L1.fcell 6 _ HF.out.cflags
  have ca := L1.fcell 10 _ HF.out.cack
  have cw := L1.fcell 11 _ HF.out.cwin
  have HL1 := Lib.hid L1
  clear hD hR L1 HL HM HR hsum hq hrm
  simp only [List.drop_succ_cons, List.drop_zero]
  cases ss
  · cases fb
    · have L5 : Ly w (((w'.setCell ⟨w.heap.size, 2, none⟩ (.int .i64 e)).setCell ⟨w.heap.size, 0, none⟩ (.bool true)).setCell ⟨w.heap.size, 4, none⟩ (.int .i64 win)) w.heap.size [.bool true, .bool sa, .int .i64 e, .int .i64 sk, .int .i64 win] F := (((HL1.out.put 2 (.int .i64 e)).put 0 (.bool true)).put 4 (.int .i64 win))
      have HL5 := Lib.hid L5
      clear L5
      go_wp2_with (first | (refine wpList_load_wide 60 (.tmp 2) rfl (by rfl) w.heap.size 0 rfl #[.bool true, .bool sa, .int .i64 e, .int .i64 sk, .int .i64 win] _ Try.underlying60 rfl info60 ?_ ?_; (· with_reducible exact HL5.out.t)) | (refine wpList_store_wide 60 (.tmp 4) (.tmp 48) rfl rfl (w.heap.size + 1 + 1) 0 #[.bool true, .bool sa, .int .i64 e, .int .i64 sk, .int .i64 win] rfl rfl w.heap.size w info60 (by simp [Value.oneCell']) ?_ (by omega) ?_ ?_; (· with_reducible exact HL5.out.b); (· exact HL5.out.z); intro w9 e9 z9 r9 j1 j2 j3; clear j1 j2 j3 z9))
      refine bodyPost_ret (v := .agg #[.bool true, .bool sa, .int .i64 e, .int .i64 sk, .int .i64 win]) (results_wide Try.results29 _ rfl (run_loadVar_mid (P := Try.prog) w9 (w.heap.size + 1 + 1) 0 60 _ _ r9 Try.underlying60 rfl info60)) rfl ⟨by simp [nxt], e9⟩
    · cases sa
      · have L5 : Ly w (((((w'.setCell ⟨w.heap.size, 2, none⟩ (.int .i64 e)).setCell ⟨w.heap.size, 0, none⟩ (.bool true)).setCell ⟨w.heap.size, 3, none⟩ (.int .i64 ack)).setCell ⟨w.heap.size, 1, none⟩ (.bool true)).setCell ⟨w.heap.size, 4, none⟩ (.int .i64 win)) w.heap.size [.bool true, .bool true, .int .i64 e, .int .i64 ack, .int .i64 win] F := (((((HL1.out.put 2 (.int .i64 e)).put 0 (.bool true)).put 3 (.int .i64 ack)).put 1 (.bool true)).put 4 (.int .i64 win))
        have HL5 := Lib.hid L5
        clear L5
        go_wp2_with (first | (refine wpList_load_wide 60 (.tmp 2) rfl (by rfl) w.heap.size 0 rfl #[.bool true, .bool true, .int .i64 e, .int .i64 ack, .int .i64 win] _ Try.underlying60 rfl info60 ?_ ?_; (· with_reducible exact HL5.out.t)) | (refine wpList_store_wide 60 (.tmp 4) (.tmp 48) rfl rfl (w.heap.size + 1 + 1) 0 #[.bool true, .bool true, .int .i64 e, .int .i64 ack, .int .i64 win] rfl rfl w.heap.size w info60 (by simp [Value.oneCell']) ?_ (by omega) ?_ ?_; (· with_reducible exact HL5.out.b); (· exact HL5.out.z); intro w9 e9 z9 r9 j1 j2 j3; clear j1 j2 j3 z9))
        refine bodyPost_ret (v := .agg #[.bool true, .bool true, .int .i64 e, .int .i64 ack, .int .i64 win]) (results_wide Try.results29 _ rfl (run_loadVar_mid (P := Try.prog) w9 (w.heap.size + 1 + 1) 0 60 _ _ r9 Try.underlying60 rfl info60)) rfl ⟨by simp [nxt], e9⟩
      · go_wp2_with fail
        refine (rafter_any ack sk _ h4 h2).mono ?_
        rintro x w5 ⟨rfl, rfl⟩
        cases h8 : aft ack sk
        · have L5 : Ly w ((((w'.setCell ⟨w.heap.size, 2, none⟩ (.int .i64 e)).setCell ⟨w.heap.size, 0, none⟩ (.bool true)).setCell ⟨w.heap.size, 1, none⟩ (.bool true)).setCell ⟨w.heap.size, 4, none⟩ (.int .i64 win)) w.heap.size [.bool true, .bool true, .int .i64 e, .int .i64 sk, .int .i64 win] F := ((((HL1.out.put 2 (.int .i64 e)).put 0 (.bool true)).put 1 (.bool true)).put 4 (.int .i64 win))
          have HL5 := Lib.hid L5
          clear L5
          go_wp2_with (first | (refine wpList_load_wide 60 (.tmp 2) rfl (by rfl) w.heap.size 0 rfl #[.bool true, .bool true, .int .i64 e, .int .i64 sk, .int .i64 win] _ Try.underlying60 rfl info60 ?_ ?_; (· with_reducible exact HL5.out.t)) | (refine wpList_store_wide 60 (.tmp 4) (.tmp 48) rfl rfl (w.heap.size + 1 + 1) 0 #[.bool true, .bool true, .int .i64 e, .int .i64 sk, .int .i64 win] rfl rfl w.heap.size w info60 (by simp [Value.oneCell']) ?_ (by omega) ?_ ?_; (· with_reducible exact HL5.out.b); (· exact HL5.out.z); intro w9 e9 z9 r9 j1 j2 j3; clear j1 j2 j3 z9))
          refine bodyPost_ret (v := .agg #[.bool true, .bool true, .int .i64 e, .int .i64 sk, .int .i64 win]) (results_wide Try.results29 _ rfl (run_loadVar_mid (P := Try.prog) w9 (w.heap.size + 1 + 1) 0 60 _ _ r9 Try.underlying60 rfl info60)) rfl ⟨by simp [nxt, h8], e9⟩
        · have L5 : Ly w (((((w'.setCell ⟨w.heap.size, 2, none⟩ (.int .i64 e)).setCell ⟨w.heap.size, 0, none⟩ (.bool true)).setCell ⟨w.heap.size, 3, none⟩ (.int .i64 ack)).setCell ⟨w.heap.size, 1, none⟩ (.bool true)).setCell ⟨w.heap.size, 4, none⟩ (.int .i64 win)) w.heap.size [.bool true, .bool true, .int .i64 e, .int .i64 ack, .int .i64 win] F := (((((HL1.out.put 2 (.int .i64 e)).put 0 (.bool true)).put 3 (.int .i64 ack)).put 1 (.bool true)).put 4 (.int .i64 win))
          have HL5 := Lib.hid L5
          clear L5
          go_wp2_with (first | (refine wpList_load_wide 60 (.tmp 2) rfl (by rfl) w.heap.size 0 rfl #[.bool true, .bool true, .int .i64 e, .int .i64 ack, .int .i64 win] _ Try.underlying60 rfl info60 ?_ ?_; (· with_reducible exact HL5.out.t)) | (refine wpList_store_wide 60 (.tmp 4) (.tmp 48) rfl rfl (w.heap.size + 1 + 1) 0 #[.bool true, .bool true, .int .i64 e, .int .i64 ack, .int .i64 win] rfl rfl w.heap.size w info60 (by simp [Value.oneCell']) ?_ (by omega) ?_ ?_; (· with_reducible exact HL5.out.b); (· exact HL5.out.z); intro w9 e9 z9 r9 j1 j2 j3; clear j1 j2 j3 z9))
          refine bodyPost_ret (v := .agg #[.bool true, .bool true, .int .i64 e, .int .i64 ack, .int .i64 win]) (results_wide Try.results29 _ rfl (run_loadVar_mid (P := Try.prog) w9 (w.heap.size + 1 + 1) 0 60 _ _ r9 Try.underlying60 rfl info60)) rfl ⟨by simp [nxt, h8], e9⟩
  · go_wp2_with fail
    refine (rafter_any e sn _ he h1).mono ?_
    rintro x w5 ⟨rfl, rfl⟩
    cases h9 : aft e sn
    · cases fb
      · have L5 : Ly w ((w'.setCell ⟨w.heap.size, 0, none⟩ (.bool true)).setCell ⟨w.heap.size, 4, none⟩ (.int .i64 win)) w.heap.size [.bool true, .bool sa, .int .i64 sn, .int .i64 sk, .int .i64 win] F := ((HL1.out.put 0 (.bool true)).put 4 (.int .i64 win))
        have HL5 := Lib.hid L5
        clear L5
        go_wp2_with (first | (refine wpList_load_wide 60 (.tmp 2) rfl (by rfl) w.heap.size 0 rfl #[.bool true, .bool sa, .int .i64 sn, .int .i64 sk, .int .i64 win] _ Try.underlying60 rfl info60 ?_ ?_; (· with_reducible exact HL5.out.t)) | (refine wpList_store_wide 60 (.tmp 4) (.tmp 48) rfl rfl (w.heap.size + 1 + 1) 0 #[.bool true, .bool sa, .int .i64 sn, .int .i64 sk, .int .i64 win] rfl rfl w.heap.size w info60 (by simp [Value.oneCell']) ?_ (by omega) ?_ ?_; (· with_reducible exact HL5.out.b); (· exact HL5.out.z); intro w9 e9 z9 r9 j1 j2 j3; clear j1 j2 j3 z9))
        refine bodyPost_ret (v := .agg #[.bool true, .bool sa, .int .i64 sn, .int .i64 sk, .int .i64 win]) (results_wide Try.results29 _ rfl (run_loadVar_mid (P := Try.prog) w9 (w.heap.size + 1 + 1) 0 60 _ _ r9 Try.underlying60 rfl info60)) rfl ⟨by simp [nxt, h9], e9⟩
      · cases sa
        · have L5 : Ly w ((((w'.setCell ⟨w.heap.size, 0, none⟩ (.bool true)).setCell ⟨w.heap.size, 3, none⟩ (.int .i64 ack)).setCell ⟨w.heap.size, 1, none⟩ (.bool true)).setCell ⟨w.heap.size, 4, none⟩ (.int .i64 win)) w.heap.size [.bool true, .bool true, .int .i64 sn, .int .i64 ack, .int .i64 win] F := ((((HL1.out.put 0 (.bool true)).put 3 (.int .i64 ack)).put 1 (.bool true)).put 4 (.int .i64 win))
          have HL5 := Lib.hid L5
          clear L5
          go_wp2_with (first | (refine wpList_load_wide 60 (.tmp 2) rfl (by rfl) w.heap.size 0 rfl #[.bool true, .bool true, .int .i64 sn, .int .i64 ack, .int .i64 win] _ Try.underlying60 rfl info60 ?_ ?_; (· with_reducible exact HL5.out.t)) | (refine wpList_store_wide 60 (.tmp 4) (.tmp 48) rfl rfl (w.heap.size + 1 + 1) 0 #[.bool true, .bool true, .int .i64 sn, .int .i64 ack, .int .i64 win] rfl rfl w.heap.size w info60 (by simp [Value.oneCell']) ?_ (by omega) ?_ ?_; (· with_reducible exact HL5.out.b); (· exact HL5.out.z); intro w9 e9 z9 r9 j1 j2 j3; clear j1 j2 j3 z9))
          refine bodyPost_ret (v := .agg #[.bool true, .bool true, .int .i64 sn, .int .i64 ack, .int .i64 win]) (results_wide Try.results29 _ rfl (run_loadVar_mid (P := Try.prog) w9 (w.heap.size + 1 + 1) 0 60 _ _ r9 Try.underlying60 rfl info60)) rfl ⟨by simp [nxt, h9], e9⟩
        · go_wp2_with fail
          refine (rafter_any ack sk _ h4 h2).mono ?_
          rintro x w5 ⟨rfl, rfl⟩
          cases h8 : aft ack sk
          · have L5 : Ly w (((w'.setCell ⟨w.heap.size, 0, none⟩ (.bool true)).setCell ⟨w.heap.size, 1, none⟩ (.bool true)).setCell ⟨w.heap.size, 4, none⟩ (.int .i64 win)) w.heap.size [.bool true, .bool true, .int .i64 sn, .int .i64 sk, .int .i64 win] F := (((HL1.out.put 0 (.bool true)).put 1 (.bool true)).put 4 (.int .i64 win))
            have HL5 := Lib.hid L5
            clear L5
            go_wp2_with (first | (refine wpList_load_wide 60 (.tmp 2) rfl (by rfl) w.heap.size 0 rfl #[.bool true, .bool true, .int .i64 sn, .int .i64 sk, .int .i64 win] _ Try.underlying60 rfl info60 ?_ ?_; (· with_reducible exact HL5.out.t)) | (refine wpList_store_wide 60 (.tmp 4) (.tmp 48) rfl rfl (w.heap.size + 1 + 1) 0 #[.bool true, .bool true, .int .i64 sn, .int .i64 sk, .int .i64 win] rfl rfl w.heap.size w info60 (by simp [Value.oneCell']) ?_ (by omega) ?_ ?_; (· with_reducible exact HL5.out.b); (· exact HL5.out.z); intro w9 e9 z9 r9 j1 j2 j3; clear j1 j2 j3 z9))
            refine bodyPost_ret (v := .agg #[.bool true, .bool true, .int .i64 sn, .int .i64 sk, .int .i64 win]) (results_wide Try.results29 _ rfl (run_loadVar_mid (P := Try.prog) w9 (w.heap.size + 1 + 1) 0 60 _ _ r9 Try.underlying60 rfl info60)) rfl ⟨by simp [nxt, h9, h8], e9⟩
          · have L5 : Ly w ((((w'.setCell ⟨w.heap.size, 0, none⟩ (.bool true)).setCell ⟨w.heap.size, 3, none⟩ (.int .i64 ack)).setCell ⟨w.heap.size, 1, none⟩ (.bool true)).setCell ⟨w.heap.size, 4, none⟩ (.int .i64 win)) w.heap.size [.bool true, .bool true, .int .i64 sn, .int .i64 ack, .int .i64 win] F := ((((HL1.out.put 0 (.bool true)).put 3 (.int .i64 ack)).put 1 (.bool true)).put 4 (.int .i64 win))
            have HL5 := Lib.hid L5
            clear L5
            go_wp2_with (first | (refine wpList_load_wide 60 (.tmp 2) rfl (by rfl) w.heap.size 0 rfl #[.bool true, .bool true, .int .i64 sn, .int .i64 ack, .int .i64 win] _ Try.underlying60 rfl info60 ?_ ?_; (· with_reducible exact HL5.out.t)) | (refine wpList_store_wide 60 (.tmp 4) (.tmp 48) rfl rfl (w.heap.size + 1 + 1) 0 #[.bool true, .bool true, .int .i64 sn, .int .i64 ack, .int .i64 win] rfl rfl w.heap.size w info60 (by simp [Value.oneCell']) ?_ (by omega) ?_ ?_; (· with_reducible exact HL5.out.b); (· exact HL5.out.z); intro w9 e9 z9 r9 j1 j2 j3; clear j1 j2 j3 z9))
            refine bodyPost_ret (v := .agg #[.bool true, .bool true, .int .i64 sn, .int .i64 ack, .int .i64 win]) (results_wide Try.results29 _ rfl (run_loadVar_mid (P := Try.prog) w9 (w.heap.size + 1 + 1) 0 60 _ _ r9 Try.underlying60 rfl info60)) rfl ⟨by simp [nxt, h9, h8], e9⟩
    · cases fb
      · have L5 : Ly w (((w'.setCell ⟨w.heap.size, 2, none⟩ (.int .i64 e)).setCell ⟨w.heap.size, 0, none⟩ (.bool true)).setCell ⟨w.heap.size, 4, none⟩ (.int .i64 win)) w.heap.size [.bool true, .bool sa, .int .i64 e, .int .i64 sk, .int .i64 win] F := (((HL1.out.put 2 (.int .i64 e)).put 0 (.bool true)).put 4 (.int .i64 win))
        have HL5 := Lib.hid L5
        clear L5
        go_wp2_with (first | (refine wpList_load_wide 60 (.tmp 2) rfl (by rfl) w.heap.size 0 rfl #[.bool true, .bool sa, .int .i64 e, .int .i64 sk, .int .i64 win] _ Try.underlying60 rfl info60 ?_ ?_; (· with_reducible exact HL5.out.t)) | (refine wpList_store_wide 60 (.tmp 4) (.tmp 48) rfl rfl (w.heap.size + 1 + 1) 0 #[.bool true, .bool sa, .int .i64 e, .int .i64 sk, .int .i64 win] rfl rfl w.heap.size w info60 (by simp [Value.oneCell']) ?_ (by omega) ?_ ?_; (· with_reducible exact HL5.out.b); (· exact HL5.out.z); intro w9 e9 z9 r9 j1 j2 j3; clear j1 j2 j3 z9))
        refine bodyPost_ret (v := .agg #[.bool true, .bool sa, .int .i64 e, .int .i64 sk, .int .i64 win]) (results_wide Try.results29 _ rfl (run_loadVar_mid (P := Try.prog) w9 (w.heap.size + 1 + 1) 0 60 _ _ r9 Try.underlying60 rfl info60)) rfl ⟨by simp [nxt, h9], e9⟩
      · cases sa
        · have L5 : Ly w (((((w'.setCell ⟨w.heap.size, 2, none⟩ (.int .i64 e)).setCell ⟨w.heap.size, 0, none⟩ (.bool true)).setCell ⟨w.heap.size, 3, none⟩ (.int .i64 ack)).setCell ⟨w.heap.size, 1, none⟩ (.bool true)).setCell ⟨w.heap.size, 4, none⟩ (.int .i64 win)) w.heap.size [.bool true, .bool true, .int .i64 e, .int .i64 ack, .int .i64 win] F := (((((HL1.out.put 2 (.int .i64 e)).put 0 (.bool true)).put 3 (.int .i64 ack)).put 1 (.bool true)).put 4 (.int .i64 win))
          have HL5 := Lib.hid L5
          clear L5
          go_wp2_with (first | (refine wpList_load_wide 60 (.tmp 2) rfl (by rfl) w.heap.size 0 rfl #[.bool true, .bool true, .int .i64 e, .int .i64 ack, .int .i64 win] _ Try.underlying60 rfl info60 ?_ ?_; (· with_reducible exact HL5.out.t)) | (refine wpList_store_wide 60 (.tmp 4) (.tmp 48) rfl rfl (w.heap.size + 1 + 1) 0 #[.bool true, .bool true, .int .i64 e, .int .i64 ack, .int .i64 win] rfl rfl w.heap.size w info60 (by simp [Value.oneCell']) ?_ (by omega) ?_ ?_; (· with_reducible exact HL5.out.b); (· exact HL5.out.z); intro w9 e9 z9 r9 j1 j2 j3; clear j1 j2 j3 z9))
          refine bodyPost_ret (v := .agg #[.bool true, .bool true, .int .i64 e, .int .i64 ack, .int .i64 win]) (results_wide Try.results29 _ rfl (run_loadVar_mid (P := Try.prog) w9 (w.heap.size + 1 + 1) 0 60 _ _ r9 Try.underlying60 rfl info60)) rfl ⟨by simp [nxt, h9], e9⟩
        · go_wp2_with fail
          refine (rafter_any ack sk _ h4 h2).mono ?_
          rintro x w5 ⟨rfl, rfl⟩
          cases h8 : aft ack sk
          · have L5 : Ly w ((((w'.setCell ⟨w.heap.size, 2, none⟩ (.int .i64 e)).setCell ⟨w.heap.size, 0, none⟩ (.bool true)).setCell ⟨w.heap.size, 1, none⟩ (.bool true)).setCell ⟨w.heap.size, 4, none⟩ (.int .i64 win)) w.heap.size [.bool true, .bool true, .int .i64 e, .int .i64 sk, .int .i64 win] F := ((((HL1.out.put 2 (.int .i64 e)).put 0 (.bool true)).put 1 (.bool true)).put 4 (.int .i64 win))
            have HL5 := Lib.hid L5
            clear L5
            go_wp2_with (first | (refine wpList_load_wide 60 (.tmp 2) rfl (by rfl) w.heap.size 0 rfl #[.bool true, .bool true, .int .i64 e, .int .i64 sk, .int .i64 win] _ Try.underlying60 rfl info60 ?_ ?_; (· with_reducible exact HL5.out.t)) | (refine wpList_store_wide 60 (.tmp 4) (.tmp 48) rfl rfl (w.heap.size + 1 + 1) 0 #[.bool true, .bool true, .int .i64 e, .int .i64 sk, .int .i64 win] rfl rfl w.heap.size w info60 (by simp [Value.oneCell']) ?_ (by omega) ?_ ?_; (· with_reducible exact HL5.out.b); (· exact HL5.out.z); intro w9 e9 z9 r9 j1 j2 j3; clear j1 j2 j3 z9))
            refine bodyPost_ret (v := .agg #[.bool true, .bool true, .int .i64 e, .int .i64 sk, .int .i64 win]) (results_wide Try.results29 _ rfl (run_loadVar_mid (P := Try.prog) w9 (w.heap.size + 1 + 1) 0 60 _ _ r9 Try.underlying60 rfl info60)) rfl ⟨by simp [nxt, h9, h8], e9⟩
          · have L5 : Ly w (((((w'.setCell ⟨w.heap.size, 2, none⟩ (.int .i64 e)).setCell ⟨w.heap.size, 0, none⟩ (.bool true)).setCell ⟨w.heap.size, 3, none⟩ (.int .i64 ack)).setCell ⟨w.heap.size, 1, none⟩ (.bool true)).setCell ⟨w.heap.size, 4, none⟩ (.int .i64 win)) w.heap.size [.bool true, .bool true, .int .i64 e, .int .i64 ack, .int .i64 win] F := (((((HL1.out.put 2 (.int .i64 e)).put 0 (.bool true)).put 3 (.int .i64 ack)).put 1 (.bool true)).put 4 (.int .i64 win))
            have HL5 := Lib.hid L5
            clear L5
            go_wp2_with (first | (refine wpList_load_wide 60 (.tmp 2) rfl (by rfl) w.heap.size 0 rfl #[.bool true, .bool true, .int .i64 e, .int .i64 ack, .int .i64 win] _ Try.underlying60 rfl info60 ?_ ?_; (· with_reducible exact HL5.out.t)) | (refine wpList_store_wide 60 (.tmp 4) (.tmp 48) rfl rfl (w.heap.size + 1 + 1) 0 #[.bool true, .bool true, .int .i64 e, .int .i64 ack, .int .i64 win] rfl rfl w.heap.size w info60 (by simp [Value.oneCell']) ?_ (by omega) ?_ ?_; (· with_reducible exact HL5.out.b); (· exact HL5.out.z); intro w9 e9 z9 r9 j1 j2 j3; clear j1 j2 j3 z9))
            refine bodyPost_ret (v := .agg #[.bool true, .bool true, .int .i64 e, .int .i64 ack, .int .i64 win]) (results_wide Try.results29 _ rfl (run_loadVar_mid (P := Try.prog) w9 (w.heap.size + 1 + 1) 0 60 _ _ r9 Try.underlying60 rfl info60)) rfl ⟨by simp [nxt, h9, h8], e9⟩

theorem rsee_any (a : Sd) (F : Array Value) (flags seq ack win len : Int) (w : World) (h : Fa F flags seq ack win len) (ha : a.wf) :
    Calls Try.prog 29 #[.agg a.rc, .agg F] w fun e w' => e = .returned (.agg (seeS a flags seq ack win len).rc) ∧ Below w.heap.size w w' :=
  rsee_core a.seen a.acked a.next a.ack a.size F flags seq ack win len (room flags len) _ _ w h ha.1 ha.2 h.ba (by omega) h.bs (room_range _ _) (show _ from rfl) rfl (fun W => rroom_any F flags seq ack win len W h)

end Go.Proofs.Ytchephpmkommfaa

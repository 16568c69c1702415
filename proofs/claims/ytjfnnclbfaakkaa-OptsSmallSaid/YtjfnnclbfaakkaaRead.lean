/-
  The contract of package opts' Read. Conditions: the bytes lie, and are not too many for the model.
-/
import Derived.Test.YtjfnnclbfaakkaaPre
namespace Go.Proofs.Ytjfnnclbfaakkaa
open Go.RowKit Go.Shelf
set_option linter.unusedVariables false
set_option linter.unusedSimpArgs false
attribute [local go_sem] Oper.semAt_some

/-- Between the rounds: what has been read. -/
structure RdI (w : World) (pre : List Yv) (W : World) : Prop where
  below : Below w.heap.size w W
  size : w.heap.size + 5 ≤ W.heap.size
  r2 : W.heap[w.heap.size]? = some (.cells #[.slice none 0 0] 26 (0, 0))
  r3 : W.heap[w.heap.size + 1]? = some (.cells #[.int .i64 0] 29 (0, 0))
  ex : ∃ v css acc M, acc.length ≤ pre.length ∧ W.heap[w.heap.size + 1 + 1]? = some (.cells #[v] 26 (0, 0)) ∧ W.heap[w.heap.size + 1 + 1 + 1]? = some (.cells M 70 (0, 0)) ∧ Met acc M ∧ Got (w.heap.size + 7) W v css acc ∧ ∀ r, fd [] (pre.map Yv.op ++ r) = fd acc r
/-- An error was returned. -/
structure RdO (w : World) (c : Code) (pre : List Yv) (W : World) : Prop where
  code : c = .ret
  below : Below w.heap.size w W
  size : w.heap.size + 5 ≤ W.heap.size
  r2 : W.heap[w.heap.size]? = some (.cells #[.slice none 0 0] 26 (0, 0))
  ex : ∃ e, W.heap[w.heap.size + 1]? = some (.cells #[.int .i64 e] 29 (0, 0)) ∧ ∀ r, fd [] (pre.map Yv.op ++ r) = (e, [])
theorem RdI.keep {w : World} {pre : List Yv} {W W' : World} {L : Nat → Prop} (h : RdI w pre W) (hk : Keep L W W') (hL : ∀ b, b < w.heap.size + 4 ∨ w.heap.size + 7 ≤ b → L b) : RdI w pre W' := by
  obtain ⟨v, css, acc, M, h0, h1, h2, h3, h4, h5⟩ := h.ex
  exact ⟨h.below.trans (hk.below (fun b hb => hL b (by omega)) h.below.size), Nat.le_trans h.size hk.size, blk_keep hk (hL _ (by omega)) h.r2, blk_keep hk (hL _ (by omega)) h.r3, v, css, acc, M, h0, blk_keep hk (hL _ (by omega)) h1, blk_keep hk (hL _ (by omega)) h2, h3, h4.keep fun g hg hlt => hk.low g (hL g (by omega)) hlt, h5⟩
theorem RdO.keep {w : World} {c : Code} {pre : List Yv} {W W' : World} {L : Nat → Prop} (h : RdO w c pre W) (hk : Keep L W W') (hL : ∀ b, b < w.heap.size + 4 ∨ w.heap.size + 7 ≤ b → L b) : RdO w c pre W' := by
  obtain ⟨e, h1, h2⟩ := h.ex
  exact ⟨h.code, h.below.trans (hk.below (fun b hb => hL b (by omega)) h.below.size), Nat.le_trans h.size hk.size, blk_keep hk (hL _ (by omega)) h.r2, e, blk_keep hk (hL _ (by omega)) h1, h2⟩

theorem cnt_cases (acc : List Op1) (j : Int) : cnt acc j = 0 ∨ cnt acc j = 1 := by
  unfold cnt
  split <;> simp
theorem fd_err (acc : List Op1) (e : Int) (o : Op1) (r : List (Int × Op1)) (he : e ≠ 0) : fd acc ((e, o) :: r) = (e, []) := by simp [fd, he]
theorem fd_ok (acc : List Op1) (o : Op1) (r : List (Int × Op1)) (h : grp o.1 = 0 ∨ cnt acc (grp o.1) = 0) : fd acc ((0, o) :: r) = fd (acc ++ [o]) r := by
  have : ¬ (0 < grp o.1 ∧ acc.any (fun p => grp p.1 == grp o.1) = true) := by
    rintro ⟨h1, h2⟩
    rcases h with h | h
    · omega
    · unfold cnt at h
      rw [if_pos h2] at h
      cases h
  rw [fd, if_neg (by decide), if_neg this]
theorem fd_twice (acc : List Op1) (o : Op1) (r : List (Int × Op1)) (h : 0 < grp o.1) (h1 : cnt acc (grp o.1) = 1) : fd acc ((0, o) :: r) = (63, []) := by
  have : acc.any (fun p => grp p.1 == grp o.1) = true := by
    unfold cnt at h1
    split at h1
    · assumption
    · cases h1
  rw [fd, if_neg (by decide), if_pos ⟨h, this⟩]
theorem RdO.ret {w : World} {pre : List Yv} {V : World} (hb : Below w.heap.size w V) (hs : w.heap.size + 5 ≤ V.heap.size) (h2 : V.heap[w.heap.size]? = some (.cells #[.slice none 0 0] 26 (0, 0))) (h3 : V.heap[w.heap.size + 1]? = some (.cells #[.int .i64 0] 29 (0, 0)))
    (e : Int) (he : ∀ r, fd [] (pre.map Yv.op ++ r) = (e, [])) : RdO w .ret pre ((V.setCell ⟨w.heap.size, 0, none⟩ (.slice none 0 0)).setCell ⟨w.heap.size + 1, 0, none⟩ (.int .i64 e)) := by
  have k2 := blk_set h2 0 (.slice none 0 0)
  have k3 : (V.setCell ⟨w.heap.size, 0, none⟩ (.slice none 0 0)).heap[w.heap.size + 1]? = some (.cells #[.int .i64 0] 29 (0, 0)) := (Below.heap_setCell _ _ _ _ (by show w.heap.size + 1 ≠ w.heap.size; omega)).trans h3
  have k4 := blk_set k3 0 (.int .i64 e)
  refine ⟨rfl, ?_, by simp [World.setCell]; omega, ?_, e, ?_, he⟩
  · exact (hb.setCell (p := ⟨w.heap.size, 0, none⟩) (Nat.le_refl _) _).setCell (p := ⟨w.heap.size + 1, 0, none⟩) (by show w.heap.size ≤ w.heap.size + 1; omega) _
  · exact (Below.heap_setCell _ _ _ _ (by show w.heap.size ≠ w.heap.size + 1; omega)).trans (by simpa using k2)
  · simpa using k4
theorem RdI.push {w V0 V V1 w1 : World} {pre : List Yv} {x : Yv} {v v' : Value} {css : List (List Value)} {acc : List Op1} {M1 : Array Value} {ob : Obj} (HI : RdI w pre V) (h0 : acc.length ≤ pre.length) (g4 : Got (w.heap.size + 7) V0 v css acc) (hV0 : w.heap.size + 7 ≤ V0.heap.size)
    (hk : Keep (fun b => ¬ b = w.heap.size + 1 + 1 + 1 + 1 ∧ b ≠ w.heap.size + 6) V0 V) (g5 : ∀ r, fd [] (pre.map Yv.op ++ r) = fd acc r) (hbo : V.heap[w.heap.size + 1 + 1]? = some (.cells #[v] 26 (0, 0))) (hkw : Keep (fun b => b ≠ w.heap.size + 1 + 1 + 1) V V1)
    (gm : V1.heap[w.heap.size + 1 + 1 + 1]? = some (.cells M1 70 (0, 0))) (hM : Met (acc ++ [(x.k, x.d)]) M1) (hok : grp x.k = 0 ∨ cnt acc (grp x.k) = 0) (hop : x.op = (0, (x.k, x.d))) (hx : x.Own V0.heap.size V) (hg : (V1.alloc ob).grownBy w1 v.ownBlock)
    (hr : w1.ownsRow (w.heap.size + 7) 36 2 v' (acc.length + 1) (css.flatten ++ [.int .u8 x.k, .slice x.A x.d.length x.c])) :
    Keep (fun b => (b < w.heap.size ∨ b = w.heap.size + 1 + 1 + 1 + 1) ∨ b = w.heap.size + 5 ∨ b = w.heap.size + 6) V (w1.setCell ⟨w.heap.size + 1 + 1, 0, none⟩ v') ∧ RdI w (pre ++ [x]) (w1.setCell ⟨w.heap.size + 1 + 1, 0, none⟩ v') := by
  have hkb1 : KeepB (w.heap.size + 7) V0 V := KeepB.of_keep hk fun b hb => by omega
  have hkb2 : KeepB (w.heap.size + 7) V V1 := KeepB.of_keep hkw fun b hb => by omega
  have hkb3 : KeepB (w.heap.size + 7) V1 (V1.alloc ob) := KeepB.of_below ((Below.refl _ _).alloc (Nat.le_refl _) ob)
  have row1 : V.ownsRow (w.heap.size + 7) 36 2 v acc.length css.flatten := own_of_block g4.row fun g hgn _ hlt => hk.low g (by omega) hlt
  have row2 : (V1.alloc ob).ownsRow (w.heap.size + 7) 36 2 v acc.length css.flatten := (own_of_block row1 fun g hgn _ hlt => hkw.low g (by omega) hlt).alloc ob
  have hkb4 : KeepB (w.heap.size + 7) (V1.alloc ob) w1 := KeepB.of_grown hg row2 (by decide)
  have hvb : ∀ g, v.ownBlock = some g → w.heap.size + 7 ≤ g := fun g e => (row2.lt g e).1
  have K1 : Keep (fun b => b ≠ w.heap.size + 1 + 1 + 1 ∧ b ≠ w.heap.size + 1 + 1 ∧ b < w.heap.size + 7) V w1 := (Keep.alloc (hkw.mono fun b h => h.1) ob).grown hg fun k e h => by have := hvb k e; omega
  have K2 := K1.setCell (b := w.heap.size + 1 + 1) (by omega) 0 v'
  have K3 : Keep (fun b => b ≠ w.heap.size + 1 + 1 ∧ b < w.heap.size + 7) V1 w1 := (Keep.alloc (Keep.refl _ _) ob).grown hg fun k e h => by have := hvb k e; omega
  have K4 := K3.setCell (b := w.heap.size + 1 + 1) (by omega) 0 v'
  have K5 : Keep (fun b => b ≠ w.heap.size + 1 + 1 + 1 ∧ b < w.heap.size + 7) V w1 := (Keep.alloc (hkw.mono fun b h => h.1) ob).grown hg fun k e h => by have := hvb k e; omega
  have hx1 : x.Own V0.heap.size w1 := ⟨own_keepB hx.row ((hkb2.trans (hkb3.trans hkb4)).mono hV0), hx.kind, hx.rng⟩
  have G := g4.push (hkb1.trans (hkb2.trans (hkb3.trans hkb4))) x hV0 hx1 hr
  refine ⟨K2.mono fun b hb => by omega, ⟨HI.below.trans (K2.below (fun b hb => by omega) HI.below.size), Nat.le_trans HI.size K2.size, blk_keep K2 (by omega) HI.r2, blk_keep K2 (by omega) HI.r3, v', _, _, M1, by simp; omega, ?_, blk_keep K4 (by omega) gm, hM, G.keep fun g hg hlt => Below.heap_setCell _ _ _ _ (by show g ≠ w.heap.size + 1 + 1; omega), fun r => ?_⟩⟩
  · have := blk_set (blk_keep K5 (by omega) hbo) 0 v'
    simpa using this
  · rw [List.map_append, List.append_assoc, g5]
    simp only [List.map_cons, List.map_nil, hop, List.cons_append, List.nil_append]
    exact fd_ok acc (x.k, x.d) r hok
theorem round_call {l n : Nat} {P : Program} {g : Nat} {args : Array Value} {w : World} {Q : Ending → World → Prop} (h : Calls P g args w Q) : Fence.wide.fn g ∧ CallsIn (Fence.wide.inRound l) n P g args w Q := ⟨trivial, CallsIn.inRound l (callsIn_wide.2 h)⟩

set_option maxRecDepth 100000 in
set_option maxHeartbeats 4000000 in
theorem read_any (bs : List Int) (A : Option Addr) (c : Nat) (w : World) (hd : By w A bs) (hcap : bs.length ≤ c) (hmax : c ≤ maxLen) :
    Calls Try.prog 17 #[.slice A bs.length c] w fun e w' => ∃ v css, e = .returned (.tuple #[v, .int .i64 (readS bs).1]) ∧ Got w.heap.size w' v css (readS bs).2 ∧ Below w.heap.size w w' := by
  obtain ⟨n, hn⟩ : ∃ n, bs.length = n := ⟨_, rfl⟩
  by_cases h40 : 40 < bs.length
  · have e : readS bs = (3, []) := by unfold readS; rw [if_pos h40]
    rw [e, hn]
    have h41 : decide ((40 : Int) < n) = true := by simp; omega
    clear h40 hn e
    go_enter Try.func17, Try.ntmps17
    go_wp2_with fail
    refine bodyPost_ret (v := .tuple #[.slice none 0 0, .int .i64 3]) (by simp [results, Try.results17, go_sem]) rfl ?_
    exact ⟨_, _, rfl, Got.nil _ _, (((Below.refl _ _).alloc (Nat.le_refl _) _).alloc (by simp) _)⟩
  have e : readS bs = fd [] (yl bs.length bs) := by unfold readS; rw [if_neg h40]
  have h41 : decide ((40 : Int) < n) = false := by simp; omega
  have Hn := Lib.hid hn
  rw [e, hn]
  clear hn e
  refine (callsIn_wide (n := 3)).1 ?_
  refine callsIn_of_wp_marks Try.func17 rfl trivial ?_ rfl
  simp only [Try.ntmps17, List.size_toArray, List.length_cons, List.length_nil, Nat.reduceAdd, Nat.reduceSub, Array.replicate_succ, Array.replicate_zero, List.push_toArray, List.append_toArray, List.nil_append, List.cons_append]
  refine wpIn_wide.2 ?_
  go_wp2_with fail
  obtain ⟨W4, hW4⟩ : ∃ W4, ((((w.alloc (Obj.cells #[Value.slice none 0 0] 26)).alloc (Obj.cells #[Value.int IntKind.i64 0] 29)).alloc (Obj.cells #[Value.slice none 0 0] 26)).alloc (Obj.cells #[Value.int IntKind.i64 0, Value.int IntKind.i64 0, Value.int IntKind.i64 0, Value.int IntKind.i64 0] 70)) = W4 := ⟨_, rfl⟩
  have hB4 : Below w.heap.size w W4 := by
    rw [← hW4]
    (repeat' (first | exact Below.refl _ _ | refine Below.alloc ?_ (by first | omega | (simp; done) | (simp; omega)) _))
  have hz4 : W4.heap.size = w.heap.size + 1 + 1 + 1 + 1 := by rw [← hW4]; simp
  have p2 : W4.heap[w.heap.size]? = some (.cells #[.slice none 0 0] 26 (0, 0)) := by
    rw [← hW4, Below.heap_alloc _ _ _ (by first | (simp; done) | (simp; omega)), Below.heap_alloc _ _ _ (by first | (simp; done) | (simp; omega)), Below.heap_alloc _ _ _ (by first | (simp; done) | (simp; omega))]
    exact heap_alloc_last _ _
  have p3 : W4.heap[w.heap.size + 1]? = some (.cells #[.int .i64 0] 29 (0, 0)) := by
    rw [← hW4, Below.heap_alloc _ _ _ (by first | (simp; done) | (simp; omega)), Below.heap_alloc _ _ _ (by first | (simp; done) | (simp; omega))]
    have := heap_alloc_last (w.alloc (Obj.cells #[Value.slice none 0 0] 26)) (Obj.cells #[Value.int IntKind.i64 0] 29)
    simpa using this
  have po : W4.heap[w.heap.size + 1 + 1]? = some (.cells #[.slice none 0 0] 26 (0, 0)) := by
    rw [← hW4, Below.heap_alloc _ _ _ (by simp)]
    have := heap_alloc_last ((w.alloc (Obj.cells #[Value.slice none 0 0] 26)).alloc (Obj.cells #[Value.int IntKind.i64 0] 29)) (Obj.cells #[Value.slice none 0 0] 26)
    simpa using this
  have pm : W4.heap[w.heap.size + 1 + 1 + 1]? = some (.cells #[.int .i64 0, .int .i64 0, .int .i64 0, .int .i64 0] 70 (0, 0)) := by
    rw [← hW4]
    have := heap_alloc_last (((w.alloc (Obj.cells #[Value.slice none 0 0] 26)).alloc (Obj.cells #[Value.int IntKind.i64 0] 29)).alloc (Obj.cells #[Value.slice none 0 0] 26)) (Obj.cells #[Value.int IntKind.i64 0, Value.int IntKind.i64 0, Value.int IntKind.i64 0, Value.int IntKind.i64 0] 70)
    simpa using this
  rw [hW4]
  clear hW4
  refine (options_any A n c _).mono ?_
  rintro e W0 ⟨rfl, hW0⟩
  rw [hz4]
  have hb0 : Below W4.heap.size W4 W0 := by rw [← hW0]; exact (Below.refl _ _).alloc (Nat.le_refl _) _
  have hbx : W0.heap[w.heap.size + 1 + 1 + 1 + 1]? = some (.cells #[.slice A n c] 22 (0, 0)) := by rw [← hW0, ← hz4]; exact heap_alloc_last _ _
  have hz0 : W0.heap.size = w.heap.size + 5 := by rw [← hW0]; simp [hz4]
  have hI0 : RdI w [] W0 := ⟨hB4.trans (hb0.mono hB4.size), by omega, blk_below hb0 p2, blk_below hb0 p3, _, [], [], _, Nat.le_refl _, blk_below hb0 po, blk_below hb0 pm, Met.nil, Got.nil _ _, fun r => rfl⟩
  clear p2 p3 po pm hb0 hW0 hB4 hz4
  go_wp2_with fail
  have hbx' := Hn.out ▸ hbx
  have HQ := Lib.hid (options_yields 2 (w.heap.size + 1 + 1 + 1 + 1) bs A c w W0 hd hI0.below (by omega) (by omega) hcap hmax hbx')
  have hz1 : w.heap.size + 5 ≤ W0.heap.size := by omega
  refine wpIn_wide.1 (wpIn_yields (n := 3) (gf := 53) (lb := #[.pointer (some ⟨w.heap.size + 1 + 1 + 1 + 1, 0, none⟩)]) rfl (enters_of Try.func53 (by kernel_rfl) rfl) HQ.out (by decide) (fun b hb => by omega) (fun b hb => by omega) (fun _ => rfl)
    (RdI w) (RdO w) (fun s X Y hs hk => hs.keep hk fun b hb => by omega) (fun c s X Y hs hk => hs.keep hk fun b hb => by omega) hI0
    (fun m x X Y hm hx hk => ⟨own_of_block hx.row (fun g hg _ hlt => hk.low g (by omega) hlt), hx.kind, hx.rng⟩)
    (fun y a' W => ∃ Bx, W0.heap.size ≤ Bx ∧ W.heap[Bx]? = some (.cells #[.int .u8 y.k, .slice y.A y.d.length y.c] 36 (0, 0)) ∧ a' = { tmps := #[.slice A n c, undef, .pointer (some ⟨w.heap.size, 0, none⟩), .pointer (some ⟨w.heap.size + 1, 0, none⟩), .pointer (some ⟨w.heap.size + 1 + 1, 0, none⟩), .pointer (some ⟨w.heap.size + 1 + 1 + 1, 0, none⟩), .pointer (some ⟨Bx, 0, none⟩), .int .i64 y.e, undef, .slice A n c, .int .i64 n, .bool false, .slice A n c, .func (.func 53) #[] #[.pointer (some ⟨w.heap.size + 1 + 1 + 1 + 1, 0, none⟩)], .agg #[.int .u8 y.k, .slice y.A y.d.length y.c], .int .i64 y.e, undef, undef, undef, undef, undef, undef, undef, undef, undef, undef, undef, undef, undef, undef, undef, undef, undef, undef, undef, undef, undef, undef], defers := [] })
    (fun y a' W l o o' hx hl ho => by
      obtain ⟨Bx, h1, h2, h3⟩ := hx
      refine ⟨Bx, h1, (World.putObj_heap_other (fun e => ?_)).trans h2, h3⟩
      subst e
      rw [h2] at hl
      cases hl
      cases ho) ?assign ?body ?done ?stop)
  case assign =>
    intro l y W K hle hK
    unfold Yv.enc
    gi_wp2
    exact hK _ _ ((Below.refl _ _).alloc (Nat.le_refl _) _) ⟨W.heap.size, hle, heap_alloc_last _ _, rfl⟩
  case body =>
    rintro l pre x a' V0 V hV0 hi hk ht hsp ⟨Bx, hBx, hbx, rfl⟩
    obtain ⟨v, css, acc, M, g0, g1, g2, g3, g4, g5⟩ := hi.ex
    have hiV := hi.keep hk fun b hb => by omega
    have g1' := blk_keep hk (by omega) g1
    have g2' := blk_keep hk (by omega) g2
    have o0 := blk_cell hbx 0
    have o1 := blk_cell hbx 1
    simp at o0 o1
    have r2 := blk_cell hiV.r2 0
    have r3 := blk_cell hiV.r3 0
    simp at r2 r3
    have f2 := blk_free hiV.r2 0
    have f3 := blk_free hiV.r3 0
    have co := blk_cell g1' 0
    simp at co
    have fo := blk_free g1' 0
    have fm := blk_free g2'
    have hBl := blk_lt hbx
    have hV5 := hiV.size
    have hl2 : w.heap.size < V.heap.size := by omega
    have hl3 : w.heap.size + 1 < V.heap.size := by omega
    have hlo : w.heap.size + 1 + 1 < V.heap.size := by omega
    have hlm : w.heap.size + 1 + 1 + 1 < V.heap.size := by omega
    have HI := Lib.hid hiV
    have HX := Lib.hid ht
    have HG := Lib.hid g4
    have HF := Lib.hid g5
    have HK := Lib.hid hk
    have HM := Lib.hid g2'
    have HBo := Lib.hid g1'
    have HMet := Lib.hid g3
    clear g3 hiV ht g4 g5 hk hi g2' g1' g1 g2 hI0 hbx'
    by_cases hxe : x.e = 0
    · have hop : x.op = (0, (x.k, x.d)) := by simp [Yv.op, hxe]
      rw [hxe]
      have HOP := Lib.hid hop
      clear hop hxe
      gi_wp2_with fail
      refine round_call ((group_any x.k _).mono ?_)
      rintro e V' ⟨rfl, hVV⟩
      rw [hVV]
      clear hVV
      gi_upto_if 23 with fail
      gi_cut [] from 8 (fun wx => (grp x.k = 0 ∨ cnt acc (grp x.k) = 0) ∧ Keep (fun b => b ≠ w.heap.size + 1 + 1 + 1) V wx ∧ ∃ M1, wx.heap[w.heap.size + 1 + 1 + 1]? = some (.cells M1 70 (0, 0)) ∧ Met (acc ++ [(x.k, x.d)]) M1)
      case first =>
        clear co fo
        rcases grp_cases x.k with hg | hg | hg | hg
        · rw [hg]
          have Hg := Lib.hid hg
          clear hg
          gi_wp2_with fail
          gi_meet
          exact ⟨.inl Hg.out, Keep.refl _ _, M, HM.out, HMet.out.push0 (x.k, x.d) Hg.out⟩
        · have mc : V.cell? ⟨w.heap.size + 1 + 1 + 1, 1, none⟩ = some (.int .i64 (cnt acc 1)) := (blk_cell HM.out 1).trans (HMet.out.get 1 (by decide) (by decide))
          rw [hg]
          have Hg := Lib.hid hg
          clear hg
          rcases cnt_cases acc 1 with hc | hc
          · rw [hc] at mc
            have Hc := Lib.hid hc
            clear hc
            gi_wp2_with fail
            gi_meet
            have hs := blk_set HM.out 1 (.int .i64 1)
            exact ⟨.inr (by rw [Hg.out]; exact Hc.out), (Keep.refl _ _).setCell (by simp) _ _, _, hs, HMet.out.push (x.k, x.d) (g := 1) Hg.out (by decide)⟩
          · rw [hc] at mc
            have Hc := Lib.hid hc
            clear hc
            gi_wp2_with fail
            refine ⟨(((Keep.refl _ _).setCell (by omega) _ _).setCell (by omega) _ _).setCell (by omega) _ _, ?_⟩
            refine RdO.ret (HI.out.below.setCell (p := ⟨w.heap.size + 1 + 1 + 1, 1, none⟩) (by show w.heap.size ≤ w.heap.size + 1 + 1 + 1; omega) _) (by simp [World.setCell]; omega) ((Below.heap_setCell _ _ _ _ (by show w.heap.size ≠ w.heap.size + 1 + 1 + 1; omega)).trans HI.out.r2) ((Below.heap_setCell _ _ _ _ (by show w.heap.size + 1 ≠ w.heap.size + 1 + 1 + 1; omega)).trans HI.out.r3) 63 (fun r => ?_)
            rw [List.map_append, List.append_assoc, HF.out]
            simp only [List.map_cons, List.map_nil, HOP.out, List.cons_append, List.nil_append]
            exact fd_twice acc (x.k, x.d) r (by show 0 < grp x.k; rw [Hg.out]; decide) (by show cnt acc (grp x.k) = 1; rw [Hg.out]; exact Hc.out)
        · have mc : V.cell? ⟨w.heap.size + 1 + 1 + 1, 2, none⟩ = some (.int .i64 (cnt acc 2)) := (blk_cell HM.out 2).trans (HMet.out.get 2 (by decide) (by decide))
          rw [hg]
          have Hg := Lib.hid hg
          clear hg
          rcases cnt_cases acc 2 with hc | hc
          · rw [hc] at mc
            have Hc := Lib.hid hc
            clear hc
            gi_wp2_with fail
            gi_meet
            have hs := blk_set HM.out 2 (.int .i64 1)
            exact ⟨.inr (by rw [Hg.out]; exact Hc.out), (Keep.refl _ _).setCell (by simp) _ _, _, hs, HMet.out.push (x.k, x.d) (g := 2) Hg.out (by decide)⟩
          · rw [hc] at mc
            have Hc := Lib.hid hc
            clear hc
            gi_wp2_with fail
            refine ⟨(((Keep.refl _ _).setCell (by omega) _ _).setCell (by omega) _ _).setCell (by omega) _ _, ?_⟩
            refine RdO.ret (HI.out.below.setCell (p := ⟨w.heap.size + 1 + 1 + 1, 2, none⟩) (by show w.heap.size ≤ w.heap.size + 1 + 1 + 1; omega) _) (by simp [World.setCell]; omega) ((Below.heap_setCell _ _ _ _ (by show w.heap.size ≠ w.heap.size + 1 + 1 + 1; omega)).trans HI.out.r2) ((Below.heap_setCell _ _ _ _ (by show w.heap.size + 1 ≠ w.heap.size + 1 + 1 + 1; omega)).trans HI.out.r3) 63 (fun r => ?_)
            rw [List.map_append, List.append_assoc, HF.out]
            simp only [List.map_cons, List.map_nil, HOP.out, List.cons_append, List.nil_append]
            exact fd_twice acc (x.k, x.d) r (by show 0 < grp x.k; rw [Hg.out]; decide) (by show cnt acc (grp x.k) = 1; rw [Hg.out]; exact Hc.out)
        · have mc : V.cell? ⟨w.heap.size + 1 + 1 + 1, 3, none⟩ = some (.int .i64 (cnt acc 3)) := (blk_cell HM.out 3).trans (HMet.out.get 3 (by decide) (by decide))
          rw [hg]
          have Hg := Lib.hid hg
          clear hg
          rcases cnt_cases acc 3 with hc | hc
          · rw [hc] at mc
            have Hc := Lib.hid hc
            clear hc
            gi_wp2_with fail
            gi_meet
            have hs := blk_set HM.out 3 (.int .i64 1)
            exact ⟨.inr (by rw [Hg.out]; exact Hc.out), (Keep.refl _ _).setCell (by simp) _ _, _, hs, HMet.out.push (x.k, x.d) (g := 3) Hg.out (by decide)⟩
          · rw [hc] at mc
            have Hc := Lib.hid hc
            clear hc
            gi_wp2_with fail
            refine ⟨(((Keep.refl _ _).setCell (by omega) _ _).setCell (by omega) _ _).setCell (by omega) _ _, ?_⟩
            refine RdO.ret (HI.out.below.setCell (p := ⟨w.heap.size + 1 + 1 + 1, 3, none⟩) (by show w.heap.size ≤ w.heap.size + 1 + 1 + 1; omega) _) (by simp [World.setCell]; omega) ((Below.heap_setCell _ _ _ _ (by show w.heap.size ≠ w.heap.size + 1 + 1 + 1; omega)).trans HI.out.r2) ((Below.heap_setCell _ _ _ _ (by show w.heap.size + 1 ≠ w.heap.size + 1 + 1 + 1; omega)).trans HI.out.r3) 63 (fun r => ?_)
            rw [List.map_append, List.append_assoc, HF.out]
            simp only [List.map_cons, List.map_nil, HOP.out, List.cons_append, List.nil_append]
            exact fd_twice acc (x.k, x.d) r (by show 0 < grp x.k; rw [Hg.out]; decide) (by show cnt acc (grp x.k) = 1; rw [Hg.out]; exact Hc.out)
      obtain ⟨hok, hkw, M1, gm1, hM1⟩ := hcut
      obtain ⟨V1, hV1⟩ : ∃ X, X = wc := ⟨_, rfl⟩
      subst hV1
      have hzB : W0.heap.size + 1 = w.heap.size + 6 := by omega
      have hBm : Bx ≠ w.heap.size + 1 + 1 + 1 := by omega
      have hbo := HBo.out
      replace o0 := hkw.cell hBm o0
      replace o1 := hkw.cell hBm o1
      have co1 := hkw.cell (show w.heap.size + 1 + 1 ≠ w.heap.size + 1 + 1 + 1 by omega) co
      have fo1 := (hkw.frozen (o := 0) (show w.heap.size + 1 + 1 ≠ w.heap.size + 1 + 1 + 1 by omega) hlo).trans fo
      have hlen8 : acc.length + 1 ≤ 40 := by
        obtain ⟨r, hr⟩ := hsp
        have h1 := yl_len bs.length bs
        rw [← hr] at h1
        simp at h1
        omega
      have row1 : V1.ownsRow (w.heap.size + 7) 36 2 v acc.length css.flatten := own_of_block HG.out.row fun g hgn _ hlt => (hkw.low g (by omega) (Nat.lt_of_lt_of_le hlt HK.out.size)).trans (HK.out.low g (by omega) hlt)
      have hV15 : w.heap.size + 7 ≤ V1.heap.size := by have := HK.out.size; have := hkw.size; omega
      have hBl1 := cell_lt o0
      have hlo1 := cell_lt co1
      replace hBl1 : Bx < V1.heap.size := hBl1
      replace hlo1 : w.heap.size + 1 + 1 < V1.heap.size := hlo1
      have HR := Lib.hid row1
      have HB1 : Hid (acc.length + 1 ≤ maxLen) := by show _ ≤ _; unfold maxLen; omega
      have HB2 : Hid ((acc.length + 1) * 32 ≤ 140737488355328) := by show _ ≤ _; omega
      have HB3 : Hid (w.heap.size + 7 ≤ (V1.alloc (.cells #[.int .u8 x.k, .slice x.A x.d.length x.c] 36)).heap.size) := by show _ ≤ _; simp; omega
      have H1 : Hid (∀ u ∈ [Value.int .u8 x.k, .slice x.A x.d.length x.c], u.oneCell' = true) := by show ∀ u ∈ _, _; simp [Value.oneCell']
      have HA := Lib.hid (fun (w1 : World) (hg : (V1.alloc (.cells #[.int .u8 x.k, .slice x.A x.d.length x.c] 36)).grownBy w1 v.ownBlock) =>
        show w1.heap[w.heap.size + 1 + 1]? = some (.cells #[v] 26 (0, 0)) from (hg.block _ (by simp; omega) (fun e => by have := (row1.lt _ e.symm).1; omega)).trans ((Below.heap_alloc _ _ _ (by omega)).trans (blk_keep hkw (by omega) hbo)))
      obtain ⟨i0, hi, hz0, hz1, hz2⟩ := info_parts info36
      have HP := Lib.hid (fun (w1 : World) (v' : Value) (hg : (V1.alloc (.cells #[.int .u8 x.k, .slice x.A x.d.length x.c] 36)).grownBy w1 v.ownBlock) (hr : w1.ownsRow (w.heap.size + 7) 36 2 v' (acc.length + 1) (css.flatten ++ [.int .u8 x.k, .slice x.A x.d.length x.c])) =>
        RdI.push (x := x) HI.out g0 HG.out (by omega) (hzB ▸ HK.out) HF.out hbo hkw gm1 hM1 hok HOP.out HX.out hg hr)
      clear row1 hkw gm1 hM1 hok hbo co fo r2 r3 f2 f3 fm hBl hl2 hl3 hlo hlm
      gi_wp2_with (gi_at_builtin; refine wpListIn_append_own _ rfl _ _ 26 rfl (w.heap.size + 7) 36 i0 (.agg #[.int .u8 0, .slice none 0 0]) 2 32 Try.underlying26 hi hz0 hz1 hz2 rfl (by decide) _ _ _ rfl (HR.out.alloc _) ⟨V1.heap.size, 0, none⟩ 1 1 [.int .u8 x.k, .slice x.A x.d.length x.c] rfl rfl (cell_two_new _ _ _ _) H1.out HB1.out HB2.out HB3.out ?_; intro v' w1 hown' hgrow hnil; obtain ⟨g', cap', rfl⟩ := ownsRow_succ hown'; have co2 := blk_cell (HA.out w1 hgrow) 0; have fo2 := blk_free (HA.out w1 hgrow) 0; have hlo2 := blk_lt (HA.out w1 hgrow); simp at co2)
      obtain ⟨k1, k2⟩ := HP.out w1 _ hgrow hown'
      exact ⟨k1.mono fun b hb => by omega, k2⟩
    · have he : (x.e != 0) = true := by simpa using hxe
      gi_wp2_with fail
      exact ⟨((Keep.refl _ _).setCell (by omega) _ _).setCell (by omega) _ _, RdO.ret HI.out.below HI.out.size HI.out.r2 HI.out.r3 x.e (fun r => by rw [List.map_append, List.append_assoc, HF.out]; exact fd_err acc x.e _ _ hxe)⟩
  case done =>
    rintro D xs W hD hS hI hK
    obtain ⟨v, css, acc, M, g0, g1, g2, g3, g4, g5⟩ := hI.ex
    have hfd : fd [] (yl n bs) = (0, acc) := by
      have := g5 []
      rw [List.append_nil, hS, Hn.out] at this
      exact this
    obtain ⟨Av, cv, rfl, _, _, _⟩ := g4.ops
    have r2 := blk_cell hI.r2 0
    have r3 := blk_cell hI.r3 0
    simp at r2 r3
    have f2 := blk_free hI.r2 0
    have f3 := blk_free hI.r3 0
    have co := blk_cell g1 0
    simp at co
    have hV5 := hI.size
    have hl2 : w.heap.size < W.heap.size := by omega
    have hl3 : w.heap.size + 1 < W.heap.size := by omega
    have hlo : w.heap.size + 1 + 1 < W.heap.size := by omega
    have hX : Below w.heap.size w ((W.setCell ⟨w.heap.size, 0, none⟩ (.slice Av acc.length cv)).setCell ⟨w.heap.size + 1, 0, none⟩ (.int .i64 0)) :=
      (hI.below.setCell (p := ⟨w.heap.size, 0, none⟩) (Nat.le_refl _) _).setCell (p := ⟨w.heap.size + 1, 0, none⟩) (by show w.heap.size ≤ w.heap.size + 1; omega) _
    have hK' := (KeepsOthers.setCell (W.setCell ⟨w.heap.size, 0, none⟩ (.slice Av acc.length cv)) ⟨w.heap.size + 1, 0, none⟩ (.int .i64 0)).same D _ ((KeepsOthers.setCell W ⟨w.heap.size, 0, none⟩ (.slice Av acc.length cv)).same D _ hK rfl) rfl
    have u6 : ((W.setCell ⟨w.heap.size, 0, none⟩ (.slice Av acc.length cv)).setCell ⟨w.heap.size + 1, 0, none⟩ (.int .i64 0)).cell? ⟨w.heap.size, 0, none⟩ = some (.slice Av acc.length cv) := by simp [go_sem, r2, r3]
    have u7 : ((W.setCell ⟨w.heap.size, 0, none⟩ (.slice Av acc.length cv)).setCell ⟨w.heap.size + 1, 0, none⟩ (.int .i64 0)).cell? ⟨w.heap.size + 1, 0, none⟩ = some (.int .i64 0) := by simp [go_sem, r2, r3]
    have v6 := cell_kept u6 (grownBy_putObj' _ D (.deferred none)) (fun r e => by cases e; exact ⟨_, hK', rfl⟩)
    have v7 := cell_kept u7 (grownBy_putObj' _ D (.deferred none)) (fun r e => by cases e; exact ⟨_, hK', rfl⟩)
    have hE := hX.trans (belowK_b (w := w) (Nat.le_refl _) _ D _ (.deferred none) (by omega) hK' rfl rfl)
    have hG0 : Got (w.heap.size + 7) ((W.setCell ⟨w.heap.size, 0, none⟩ (.slice Av acc.length cv)).setCell ⟨w.heap.size + 1, 0, none⟩ (.int .i64 0)) (.slice Av acc.length cv) css acc :=
      g4.keep fun g hg hlt => (Below.heap_setCell _ _ _ _ (by show g ≠ w.heap.size + 1; omega)).trans (Below.heap_setCell _ _ _ _ (by show g ≠ w.heap.size; omega))
    have hG : Got w.heap.size (((W.setCell ⟨w.heap.size, 0, none⟩ (.slice Av acc.length cv)).setCell ⟨w.heap.size + 1, 0, none⟩ (.int .i64 0)).putObj D (.deferred none)) (.slice Av acc.length cv) css acc := by
      refine (Got.base ⟨ownsRow_putObj hG0.row _ hK' rfl, hG0.each.keep fun g F hg hF => World.putObj_heap_other (fun e => ?_), hG0.ord⟩ (by omega))
      subst e
      rw [hK'] at hF
      cases hF
    have HE := Lib.hid (And.intro (And.intro hK' hE) (And.intro v6 v7))
    have HG := Lib.hid hG
    have HF := Lib.hid hfd
    clear hK' hE v6 v7 u6 u7 hX hG hfd hG0 g0 g1 g2 g3 g4 g5 hI hI0 hS
    go_wp2_with fail
    obtain ⟨⟨hK', hE⟩, v6, v7⟩ := HE.out
    refine ⟨by simp, .inl ⟨_, _, rfl, run_takeDeferred hK', ?_⟩⟩
    refine ⟨.tuple #[.slice Av acc.length cv, .int .i64 0], ?_, _, css, by rw [HF.out], by rw [HF.out]; exact HG.out, hE⟩
    simp [results, Try.f17, go_sem, v6, v7]
  case stop =>
    rintro D c pre W hD ⟨r, hr⟩ hO hK
    obtain ⟨e, h3, h4⟩ := hO.ex
    have hfd : fd [] (yl n bs) = (e, []) := by rw [← Hn.out, ← hr]; exact h4 r
    have hc := hO.code
    subst hc
    have h7 := blk_cell hO.r2 0
    have h8 := blk_cell h3 0
    simp at h7 h8
    have v6 := cell_kept h7 (grownBy_putObj' _ D (.deferred none)) (fun r e => by cases e; exact ⟨_, hK, rfl⟩)
    have v7 := cell_kept h8 (grownBy_putObj' _ D (.deferred none)) (fun r e => by cases e; exact ⟨_, hK, rfl⟩)
    have hE := hO.below.trans (belowK_b (w := w) (Nat.le_refl _) _ D _ (.deferred none) (by omega) hK rfl rfl)
    have HE := Lib.hid (And.intro (And.intro hK hE) (And.intro v6 v7))
    have HF := Lib.hid hfd
    clear hK hE v6 v7 h7 h8 h4 hfd h3 hO hr hI0
    refine wpIn_wide.2 ?_
    go_wp2_with fail
    obtain ⟨⟨hK', hE⟩, v6, v7⟩ := HE.out
    refine ⟨by simp, .inl ⟨_, _, rfl, run_takeDeferred hK', ?_⟩⟩
    refine ⟨.tuple #[.slice none 0 0, .int .i64 e], ?_, _, [], by rw [HF.out], by rw [HF.out]; exact Got.nil _ _, hE⟩
    simp [results, Try.f17, go_sem, v6, v7]

end Go.Proofs.Ytjfnnclbfaakkaa

/-
  The contracts of theirs and of the reference's Record. Conditions: the option lies.
-/
import Derived.Test.YtjfnnclbfaakkaaRefT
import Derived.Test.YtjfnnclbfaakkaaPre
namespace Go.Proofs.Ytjfnnclbfaakkaa
open Go.RowKit
set_option linter.unusedVariables false
set_option linter.unusedSimpArgs false

/-- The reference's option while it is made. -/
structure RecR (X1 : World) (k : Int) (cur : List Int) (b7 g7 cap : Nat) (wx : World) : Prop where
  obj : wx.heap[b7]? = some (.cells #[.int .u8 k, .slice (some ⟨g7, 0, none⟩) cur.length cap] 80 (0, 0))
  row : wx.ownsRow X1.heap.size 5 1 (.slice (some ⟨g7, 0, none⟩) cur.length cap) cur.length (cur.map (Value.int .u8))
  big : X1.heap.size ≤ b7
  below : Below X1.heap.size X1 wx
theorem RecR.ne {X1 : World} {k : Int} {cur : List Int} {b7 g7 cap : Nat} {wx : World} (h : RecR X1 k cur b7 g7 cap wx) : g7 ≠ b7 := by
  rintro rfl
  obtain ⟨_, (⟨h1, _⟩ | ⟨g', c', cu, h0, _, h2, _⟩)⟩ := h.row
  · cases h1
  · cases h0
    rw [h.obj] at h2
    cases h2
theorem RecR.grow {X1 : World} {k : Int} {cur : List Int} {b7 g7 cap : Nat} {wx Y : World} (h : RecR X1 k cur b7 g7 cap wx) (hb : Below wx.heap.size wx Y) : RecR X1 k cur b7 g7 cap Y :=
  ⟨blk_below hb h.obj, own_below h.row hb, h.big, h.below.trans (hb.mono h.below.size)⟩
theorem RecR.cell {X1 : World} {k : Int} {cur : List Int} {b7 g7 cap : Nat} {wx : World} (h : RecR X1 k cur b7 g7 cap wx) {j : Nat} {y : Int} (hy : cur[j]? = some y) : wx.cell? ⟨g7, j, none⟩ = some (.int .u8 y) ∧ wx.frozen? ⟨g7, j, none⟩ = false ∧ g7 < wx.heap.size := by
  have h1 := h.row.cells (g := g7) rfl j (.int .u8 y) (by simp [hy])
  rw [Go.WideShapes.add_plain, Nat.zero_add] at h1
  refine ⟨h1, ?_, (h.row.lt g7 rfl).2⟩
  obtain ⟨_, (⟨e1, _⟩ | ⟨g', c', cu, e0, _, e2, _⟩)⟩ := h.row
  · cases e1
  · cases e0
    exact blk_free e2 j
theorem RecR.set {X1 : World} {k : Int} {cur : List Int} {b7 g7 cap : Nat} {wx : World} (h : RecR X1 k cur b7 g7 cap wx) {j : Nat} (hj : j < cur.length) (y : Int) : RecR X1 k (cur.set j y) b7 g7 cap (wx.setCell ⟨g7, j, none⟩ (.int .u8 y)) := by
  refine ⟨?_, ?_, h.big, h.below.setCell (p := ⟨g7, j, none⟩) (h.row.lt g7 rfl).1 _⟩
  · rw [List.length_set]
    exact (Below.heap_setCell _ _ _ _ (by show b7 ≠ g7; exact fun e => h.ne e.symm)).trans h.obj
  · rw [List.length_set]
    exact own_set h.row hj y

theorem copy_m (d : List Int) (n : Nat) (A : Option Addr) (c : Nat) (w : World) (hN : d.length = n) (hd : By w A d) (hn : n ≤ 2 ^ 40) (hA : A = none → c = 0) :
    Calls Try.prog 59 #[.slice A n c] w fun e w' => ∃ A' c', e = .returned (.slice A' n c') ∧ w'.ownsRow w.heap.size 5 1 (.slice A' n c') n (d.map (Value.int .u8)) ∧ Below w.heap.size w w' := by
  subst hN
  refine (copy_any d A c w hd hn hA).mono ?_
  rintro e w' ⟨v, rfl, hr, hb⟩
  obtain ⟨A', c', rfl⟩ := own_form hr
  exact ⟨A', c', rfl, hr, hb⟩
/-- What theirs' region leaves. -/
def PT (base n : Nat) (xs : List Value) (k : Int) (vals : List Value) : Nat → Value → World → Prop
  | 4, v, W => ∃ A c, v = .slice A n c ∧ W.ownsRow base 5 1 (.slice A n c) n xs
  | 5, v, W => ∃ A c, v = .agg #[.int .u8 k, .slice A n c] ∧ W.ownsRow base 5 1 (.slice A n c) n xs
  | i, v, _ => v = vals.getD i undef
theorem PT.below {base n : Nat} {xs : List Value} {k : Int} {vals : List Value} (i : Nat) (v : Value) (X Y : World) (h : PT base n xs k vals i v X) (hb : Below X.heap.size X Y) : PT base n xs k vals i v Y := by
  by_cases h0 : i = 4
  · subst h0
    obtain ⟨A, c, e, h⟩ := h
    exact ⟨A, c, e, own_below h hb⟩
  · by_cases h2 : i = 5
    · subst h2
      obtain ⟨A, c, e, h⟩ := h
      exact ⟨A, c, e, own_below h hb⟩
    · unfold PT at h ⊢
      split at h <;> first | contradiction | exact h
set_option maxRecDepth 100000 in
set_option maxHeartbeats 4000000 in
theorem theirs_any (k : Int) (d : List Int) (A : Option Addr) (c : Nat) (w : World) (hd : By w A d) (hn : d.length ≤ 2 ^ 40) (hA : A = none → c = 0) :
    Calls Try.prog 38 #[.agg #[.int .u8 k, .slice A d.length c]] w fun e w' => ∃ A' c', e = .returned (.agg #[.int .u8 k, .slice A' d.length c']) ∧ w'.ownsRow w.heap.size 5 1 (.slice A' d.length c') d.length (d.map (Value.int .u8)) ∧ Below w.heap.size w w' := by
  obtain ⟨n, hN⟩ : ∃ n, d.length = n := ⟨_, rfl⟩
  rw [hN] at hn ⊢
  have HN := Lib.hid hN
  obtain ⟨X, hX0⟩ : ∃ X, (w.alloc (Obj.cells #[Value.int IntKind.u8 k, Value.slice A n c] 36)).alloc (Obj.cells #[Value.int IntKind.u8 0, Value.slice none 0 0] 80) = X := ⟨_, rfl⟩
  have hB0 : Below w.heap.size w X := by rw [← hX0]; exact ((Below.refl _ _).alloc (Nat.le_refl _) _).alloc (by simp) _
  have h0 : X.heap[w.heap.size]? = some (.cells #[.int .u8 k, .slice A n c] 36 (0, 0)) := by
    rw [← hX0, Below.heap_alloc _ _ _ (by simp)]
    exact heap_alloc_last _ _
  have h1 : X.heap[w.heap.size + 1]? = some (.cells #[.int .u8 0, .slice none 0 0] 80 (0, 0)) := by
    rw [← hX0]
    have := heap_alloc_last (w.alloc (Obj.cells #[Value.int IntKind.u8 k, Value.slice A n c] 36)) (Obj.cells #[Value.int IntKind.u8 0, Value.slice none 0 0] 80)
    rwa [World.size_alloc] at this
  have HB0 := Lib.hid hB0
  have HD := Lib.hid (hd.below hB0)
  have H1 := Lib.hid h1
  have hX := Lib.hid hX0
  obtain ⟨b1, hb1⟩ : ∃ b, w.heap.size = b := ⟨_, rfl⟩
  obtain ⟨b2, hb2⟩ : ∃ b, b1 + 1 = b := ⟨_, rfl⟩
  have HE1 := Lib.hid hb1
  have HE2 := Lib.hid hb2
  have HNI := Lib.hid hA
  rw [hb1] at h0
  have o0 := blk_cell h0 0
  have o1 := blk_cell h0 1
  simp at o0 o1
  have hl0 := blk_lt h0
  clear hd hB0 h0 h1 hX0 hN hA hb1 hb2
  go_enter Try.func38, Try.ntmps38
  go_upto_region 1 with fail
  rw [hX.out, HE1.out, HE2.out]
  refine wp_region_steps 6 [[], [0], [], [2], [3], [1, 4]] (fun D a w' => ∃ g : Nat → Value, a = ⟨#[.agg #[.int .u8 k, .slice A n c], .pointer (some ⟨b1, 0, none⟩), .pointer (some ⟨b2, 0, none⟩), g 0, g 1, g 2, g 3, g 4, g 5], []⟩ ∧ Iq X (PT X.heap.size n (d.map (Value.int .u8)) k ([.pointer (some ⟨b1, 0, none⟩), .int .u8 k, .pointer (some ⟨b1, 1, none⟩), .slice A n c, undef, undef] : List Value)) D g w') (by kernel_rfl) (by kernel_rfl) ⟨fun i =>  undef, rfl, Iq.zero _ _ _⟩ ?_ ?_
  · simp only [List.take_succ_cons, List.take_zero]
    refine ⟨?_, ?_, ?_, ?_, ?_, ?_, trivial⟩
    · intro D a w' hn hp hI
      obtain ⟨g, rfl, hR⟩ := hI
      clear hn hp
      go_wp2_with fail
      exact ⟨fun ix => if ix = 0 then .pointer (some ⟨b1, 0, none⟩) else g ix, by rfl, hR.upd PT.below 0 _ (Below.refl _ _) rfl⟩
    · intro D a w' hn hp hI
      obtain ⟨g, rfl, hR⟩ := hI
      have e0 : g 0 = .pointer (some ⟨b1, 0, none⟩) := hR.e 0 hp.1
      rw [e0]
      have cc := kc hR.b o0
      clear hn hp
      go_wp2_with fail
      exact ⟨fun ix => if ix = 1 then .int .u8 k else g ix, by simp [e0], hR.upd PT.below 1 _ (Below.refl _ _) rfl⟩
    · intro D a w' hn hp hI
      obtain ⟨g, rfl, hR⟩ := hI
      clear hn hp
      go_wp2_with fail
      exact ⟨fun ix => if ix = 2 then .pointer (some ⟨b1, 1, none⟩) else g ix, by rfl, hR.upd PT.below 2 _ (Below.refl _ _) rfl⟩
    · intro D a w' hn hp hI
      obtain ⟨g, rfl, hR⟩ := hI
      have e2 : g 2 = .pointer (some ⟨b1, 1, none⟩) := hR.e 2 hp.1
      rw [e2]
      have cc := kc hR.b o1
      clear hn hp
      go_wp2_with fail
      exact ⟨fun ix => if ix = 3 then .slice A n c else g ix, by simp [e2], hR.upd PT.below 3 _ (Below.refl _ _) rfl⟩
    · intro D a w' hn hp hI
      obtain ⟨g, rfl, hR⟩ := hI
      have e3 : g 3 = .slice A n c := hR.e 3 hp.1
      rw [e3]
      have HB2 := Lib.hid hR.b
      clear hn hp
      go_wp2_with fail
      refine (copy_m d n A c _ HN.out (HD.out.below HB2.out) hn HNI.out).mono ?_
      rintro e Y ⟨A4, c4, rfl, hr4, hby⟩
      have hr5 := own_base hr4 HB2.out.size
      clear hr4
      go_wp2_with fail
      exact ⟨fun ix => if ix = 4 then .slice A4 n c4 else g ix, by simp [e3], hR.upd PT.below 4 _ hby ⟨_, _, rfl, hr5⟩⟩
    · intro D a w' hn hp hI
      obtain ⟨g, rfl, hR⟩ := hI
      have e1 : g 1 = .int .u8 k := hR.e 1 hp.1
      rw [e1]
      obtain ⟨A4, c4, e4, hr4⟩ : ∃ A c, g 4 = .slice A n c ∧ w'.ownsRow X.heap.size 5 1 (.slice A n c) n (d.map (Value.int .u8)) := hR.e 4 hp.2.1
      rw [e4]
      clear hn hp
      go_wp2_with fail
      exact ⟨fun ix => if ix = 5 then .agg #[.int .u8 k, .slice A4 n c4] else g ix, by simp [e1, e4], hR.upd PT.below 5 _ (Below.refl _ _) ⟨_, _, rfl, hr4⟩⟩
  intro D a w' hD2 hI2
  obtain ⟨g1, rfl, hR⟩ := hI2
  obtain ⟨A5, c5, e5, hr5⟩ : ∃ A c, g1 5 = .agg #[.int .u8 k, .slice A n c] ∧ w'.ownsRow X.heap.size 5 1 (.slice A n c) n (d.map (Value.int .u8)) := hR.e 5 (hD2 5 (by decide))
  rw [e5]
  have ho := blk_below hR.b H1.out
  rw [HE1.out, HE2.out] at ho
  have k0 := blk_cell ho 0
  have k1 := blk_cell ho 1
  simp at k0 k1
  have f0 := blk_free ho 0
  have f1 := blk_free ho 1
  have l2 := blk_lt ho
  have hset := blk_set (blk_set ho 0 (.int .u8 k)) 1 (.slice A5 n c5)
  have r0 := blk_cell hset 0
  have r1 := blk_cell hset 1
  simp at r0 r1
  have hb2 : w.heap.size ≤ b2 := by have := HE1.out; have := HE2.out; omega
  have HBB := Lib.hid (((HB0.out.trans (hR.b.mono HB0.out.size)).setCell (p := ⟨b2, 0, none⟩) hb2 (.int .u8 k)).setCell (p := ⟨b2, 1, none⟩) hb2 (.slice A5 n c5))
  have hlt2 : b2 < X.heap.size := by have := blk_lt H1.out; have := HE1.out; have := HE2.out; omega
  have HROW := Lib.hid (own_base (own_of_block (w' := (w'.setCell ⟨b2, 0, none⟩ (.int .u8 k)).setCell ⟨b2, 1, none⟩ (.slice A5 n c5)) hr5 fun g hg _ _ => (Below.heap_setCell _ _ _ _ (by show g ≠ b2; omega)).trans (Below.heap_setCell _ _ _ _ (by show g ≠ b2; omega))) HB0.out.size)
  simp only [List.drop_succ_cons, List.drop_zero]
  clear hD2 hR e5 hr5 ho hset
  go_wp2_with fail
  refine bodyPost_ret (v := .agg #[.int .u8 k, .slice A5 n c5]) (by simp [results, Try.results38, go_sem, r0, r1]) rfl ?_
  exact ⟨_, _, rfl, HROW.out, HBB.out⟩
end Go.Proofs.Ytjfnnclbfaakkaa

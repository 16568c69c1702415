/-
  The contract of package opts' Record. Conditions: the option lies, the address is a number of 32 bits.
-/
import Derived.Test.YtjfnnclbfaakkaaListed
namespace Go.Proofs.Ytjfnnclbfaakkaa
open Go.RowKit
set_option linter.unusedVariables false
set_option linter.unusedSimpArgs false

/-- The first bytes of an address, written from a place on. -/
def setN (d : List Int) (p : Nat) (a : Int) : Nat → List Int
  | 0 => d
  | k + 1 => (setN d p a k).set (p + k) (a / 2 ^ (24 - 8 * k) % 256)
/-- What Record returns. -/
def recS (o : Op1) (a : Int) : Int × Op1 :=
  if listedS o = false then (2, (0, []))
  else if (o.2.length : Int) ≤ o.2.getD 0 0 - 3 then (4, (0, []))
  else (0, (o.1, (setN o.2 (o.2.getD 0 0 - 3).toNat a 4).set 0 (o.2.getD 0 0 + 4)))
theorem setN_len (d : List Int) (p : Nat) (a : Int) : ∀ k, (setN d p a k).length = d.length
  | 0 => rfl
  | k + 1 => by rw [setN, List.length_set, setN_len d p a k]
theorem setN_zero (d : List Int) (a : Int) {p : Nat} (hp : 0 < p) : ∀ k, (setN d p a k)[0]? = d[0]?
  | 0 => rfl
  | k + 1 => by rw [setN, List.getElem?_set_ne (by omega), setN_zero d a hp k]
theorem listed_facts {k : Int} {d : List Int} (h : listedS (k, d) = true) : (k = 7 ∨ k = 131 ∨ k = 137) ∧ d.length % 4 = 1 ∧ 4 ≤ d.getD 0 0 ∧ d.getD 0 0 % 4 = 0 ∧ d.getD 0 0 ≤ d.length + 3 ∧ d.length ≤ 38 := by
  simp only [listedS, Bool.and_eq_true, beq_iff_eq] at h
  obtain ⟨h1, h2⟩ := h
  have hk : k = 7 ∨ k = 131 ∨ k = 137 := by
    unfold grp at h1
    split at h1
    · exact .inl (by assumption)
    · split at h1
      · simp at h1
      · split at h1
        · exact .inr (by assumption)
        · simp at h1
  have e1 : rightS (k, d) = (adr d.length (d.getD 0 0) && decide (d.length ≤ 38)) := by
    rcases hk with rfl | rfl | rfl <;> rfl
  rw [e1] at h2
  simp [adr] at h2
  obtain ⟨⟨⟨⟨h3, h4⟩, h5⟩, h6⟩, h7⟩ := h2
  simp only [List.getD_eq_getElem?_getD]
  exact ⟨hk, h3, h4, h5, h6, h7⟩

/-- What region 6 leaves. -/
def PR (w1 : World) (k : Int) (d : List Int) (vals : List Value) : Nat → Value → World → Prop
  | 4, v, W => W.ownsRow w1.heap.size 5 1 v d.length (d.map (Value.int .u8))
  | 5, v, W => ∃ v4, v = .agg #[.int .u8 k, v4] ∧ W.ownsRow w1.heap.size 5 1 v4 d.length (d.map (Value.int .u8))
  | 6, v, W => ∃ b, v = .pointer (some ⟨b, 0, none⟩) ∧ w1.heap.size ≤ b ∧ W.heap[b]? = some (.cells #[.int .u8 0, .slice none 0 0] 36 (0, 0))
  | i, v, _ => v = vals.getD i undef
theorem PR.below {w1 : World} {k : Int} {d : List Int} {vals : List Value} (i : Nat) (v : Value) (X Y : World) (h : PR w1 k d vals i v X) (hb : Below X.heap.size X Y) : PR w1 k d vals i v Y := by
  match i, h with
  | 4, h => exact own_below h hb
  | 5, ⟨v4, e, h⟩ => exact ⟨v4, e, own_below h hb⟩
  | 6, ⟨b, e, h1, h2⟩ => exact ⟨b, e, h1, blk_below hb h2⟩
  | 0, h => exact h
  | 1, h => exact h
  | 2, h => exact h
  | 3, h => exact h
  | _ + 7, h => exact h
/-- What is left of region 6. -/
structure RecM (X1 : World) (k : Int) (cur : List Int) (b7 g7 cap : Nat) (wx : World) : Prop where
  obj : wx.heap[b7]? = some (.cells #[.int .u8 k, .slice (some ⟨g7, 0, none⟩) cur.length cap] 36 (0, 0))
  row : wx.ownsRow X1.heap.size 5 1 (.slice (some ⟨g7, 0, none⟩) cur.length cap) cur.length (cur.map (Value.int .u8))
  big : X1.heap.size ≤ b7
  below : Below X1.heap.size X1 wx
theorem RecM.ne {X1 : World} {k : Int} {cur : List Int} {b7 g7 cap : Nat} {wx : World} (h : RecM X1 k cur b7 g7 cap wx) : g7 ≠ b7 := by
  rintro rfl
  obtain ⟨_, (⟨h1, _⟩ | ⟨g', c', cu, h0, _, h2, _⟩)⟩ := h.row
  · cases h1
  · cases h0
    rw [h.obj] at h2
    cases h2
theorem RecM.grow {X1 : World} {k : Int} {cur : List Int} {b7 g7 cap : Nat} {wx Y : World} (h : RecM X1 k cur b7 g7 cap wx) (hb : Below wx.heap.size wx Y) : RecM X1 k cur b7 g7 cap Y :=
  ⟨blk_below hb h.obj, own_below h.row hb, h.big, h.below.trans (hb.mono h.below.size)⟩
theorem RecM.cell {X1 : World} {k : Int} {cur : List Int} {b7 g7 cap : Nat} {wx : World} (h : RecM X1 k cur b7 g7 cap wx) {j : Nat} {y : Int} (hy : cur[j]? = some y) : wx.cell? ⟨g7, j, none⟩ = some (.int .u8 y) ∧ wx.frozen? ⟨g7, j, none⟩ = false ∧ g7 < wx.heap.size := by
  have h1 := h.row.cells (g := g7) rfl j (.int .u8 y) (by simp [hy])
  rw [Go.WideShapes.add_plain, Nat.zero_add] at h1
  refine ⟨h1, ?_, (h.row.lt g7 rfl).2⟩
  obtain ⟨_, (⟨e1, _⟩ | ⟨g', c', cu, e0, _, e2, _⟩)⟩ := h.row
  · cases e1
  · cases e0
    exact blk_free e2 j
theorem RecM.set {X1 : World} {k : Int} {cur : List Int} {b7 g7 cap : Nat} {wx : World} (h : RecM X1 k cur b7 g7 cap wx) {j : Nat} (hj : j < cur.length) (y : Int) : RecM X1 k (cur.set j y) b7 g7 cap (wx.setCell ⟨g7, j, none⟩ (.int .u8 y)) := by
  refine ⟨?_, ?_, h.big, h.below.setCell (p := ⟨g7, j, none⟩) (h.row.lt g7 rfl).1 _⟩
  · rw [List.length_set]
    exact (Below.heap_setCell _ _ _ _ (by show b7 ≠ g7; exact fun e => h.ne e.symm)).trans h.obj
  · rw [List.length_set]
    exact own_set h.row hj y
theorem RecM.mk' {X1 w' : World} {k : Int} {cur : List Int} {b : Nat} {A : Option Addr} {c : Nat} (hb : Below X1.heap.size X1 w') (h1 : X1.heap.size ≤ b) (h2 : w'.heap[b]? = some (.cells #[.int .u8 0, .slice none 0 0] 36 (0, 0))) (hr : w'.ownsRow X1.heap.size 5 1 (.slice A cur.length c) cur.length (cur.map (Value.int .u8))) (hp : 0 < cur.length) :
    ∃ g7, A = some ⟨g7, 0, none⟩ ∧ RecM X1 k cur b g7 c ((w'.setCell ⟨b, 0, none⟩ (.int .u8 k)).setCell ⟨b, 1, none⟩ (.slice A cur.length c)) := by
  rcases own_cases hr with ⟨_, h0, _⟩ | ⟨g7, cap, e, h3, h4, h5, h6⟩
  · omega
  · cases e
    refine ⟨g7, rfl, ?_, ?_, h1, (hb.setCell (p := ⟨b, 0, none⟩) h1 _).setCell (p := ⟨b, 1, none⟩) h1 _⟩
    · have := blk_set (blk_set h2 0 (.int .u8 k)) 1 (.slice (some ⟨g7, 0, none⟩) cur.length c)
      simpa using this
    · have hne : g7 ≠ b := by
        rintro rfl
        obtain ⟨_, (⟨e1, _⟩ | ⟨g', c', cu, e0, _, e2, _⟩)⟩ := hr
        · cases e1
        · cases e0
          rw [h2] at e2
          cases e2
      exact own_of_block hr fun g hg e _ => by
        cases e
        exact (Below.heap_setCell _ _ _ _ (by show g7 ≠ b; exact hne)).trans (Below.heap_setCell _ _ _ _ (by show g7 ≠ b; exact hne))

set_option maxRecDepth 100000 in
set_option maxHeartbeats 4000000 in
theorem record_any (k : Int) (d : List Int) (A : Option Addr) (c : Nat) (ad : Int) (w : World) (hk : 0 ≤ k ∧ k ≤ 255) (hd : By w A d) (hn : d.length ≤ 2 ^ 40) (ha : 0 ≤ ad ∧ ad < 2 ^ 32) :
    Calls Try.prog 22 #[.agg #[.int .u8 k, .slice A d.length c], .int .u32 ad] w fun e w' => ∃ v, e = .returned (.tuple #[.agg #[.int .u8 (recS (k, d) ad).2.1, v], .int .i64 (recS (k, d) ad).1]) ∧ w'.ownsRow w.heap.size 5 1 v (recS (k, d) ad).2.2.length ((recS (k, d) ad).2.2.map (Value.int .u8)) ∧ Below w.heap.size w w' := by
  obtain ⟨RES, hRES⟩ : ∃ r, recS (k, d) ad = r := ⟨_, rfl⟩
  rw [hRES]
  have HRES := Lib.hid hRES
  have HD := Lib.hid hd
  clear hRES hd
  obtain ⟨X0, hX0⟩ : ∃ X0, (w.alloc (Obj.cells #[Value.int IntKind.u8 k, Value.slice A d.length c] 36)).alloc (Obj.cells #[Value.int IntKind.u8 0, Value.slice none 0 0] 36) = X0 := ⟨_, rfl⟩
  have hB0 : Below w.heap.size w X0 := by rw [← hX0]; exact ((Below.refl _ _).alloc (Nat.le_refl _) _).alloc (by simp) _
  have h0 : X0.heap[w.heap.size]? = some (.cells #[.int .u8 k, .slice A d.length c] 36 (0, 0)) := by
    rw [← hX0, Below.heap_alloc _ _ _ (by simp)]
    exact heap_alloc_last _ _
  have h1 : X0.heap[w.heap.size + 1]? = some (.cells #[.int .u8 0, .slice none 0 0] 36 (0, 0)) := by
    rw [← hX0]
    have := heap_alloc_last (w.alloc (Obj.cells #[Value.int IntKind.u8 k, Value.slice A d.length c] 36)) (Obj.cells #[Value.int IntKind.u8 0, Value.slice none 0 0] 36)
    simpa using this
  obtain ⟨q, hq⟩ : ∃ q, listedS (k, d) = q := ⟨_, rfl⟩
  have Hq := Lib.hid hq
  have HH0 := Lib.hid h0
  have HH1 := Lib.hid h1
  have HB0 := Lib.hid hB0
  have o0 := blk_cell h0 0
  have o1 := blk_cell h0 1
  simp at o0 o1
  have hl0 := blk_lt h0
  have hX := Lib.hid hX0
  clear hq h0 h1 hB0 hX0
  go_enter Try.func22, Try.ntmps22
  go_upto_region 1 with fail
  rw [hX.out]
  go_wp2_with fail
  refine (listed_any k d A c _ hk (HD.out.below HB0.out) (by omega)).mono ?_
  rintro e X1 ⟨rfl, hb1⟩
  rw [Hq.out]
  have HH0' := Lib.hid (blk_below hb1 HH0.out)
  have HH1' := Lib.hid (blk_below hb1 HH1.out)
  have HB1 := Lib.hid (HB0.out.trans (hb1.mono HB0.out.size))
  clear o0 o1 hl0 hb1 HH0 HH1 HB0
  have o0 := blk_cell HH0'.out 0
  have o1 := blk_cell HH0'.out 1
  have r0 := blk_cell HH1'.out 0
  have r1 := blk_cell HH1'.out 1
  simp at o0 o1 r0 r1
  have fr := blk_free HH1'.out 0
  have fr1 := blk_free HH1'.out 1
  have hl0 := blk_lt HH0'.out
  have hl1 := blk_lt HH1'.out
  cases q with
  | false =>
    go_wp2_with fail
    have hres : RES = (2, (0, [])) := by rw [← HRES.out, recS, if_pos Hq.out]
    subst hres
    refine bodyPost_ret (v := .tuple #[.agg #[.int .u8 0, .slice none 0 0], .int .i64 2]) (by simp [results, Try.results22, go_sem, r0, r1]) rfl ?_
    exact ⟨_, rfl, World.ownsRow_nil _ _ _ _, (HB1.out.setCell (p := ⟨w.heap.size + 1, 0, none⟩) (by show w.heap.size ≤ w.heap.size + 1; omega) _).setCell (p := ⟨w.heap.size + 1, 1, none⟩) (by show w.heap.size ≤ w.heap.size + 1; omega) _⟩
  | true =>
    obtain ⟨hkk, f1, f2, f3, f4, f5⟩ := listed_facts Hq.out
    obtain ⟨b, o, rfl, c0⟩ := (HD.out.below HB1.out).at0 (by omega)
    obtain ⟨x, hx⟩ : ∃ x : Nat, d.getD 0 0 = x := ⟨(d.getD 0 0).toNat, by omega⟩
    rw [hx] at c0 f2 f3 f4
    have HXX := Lib.hid hx
    have hbb := cell_lt c0
    replace hbb : b < X1.heap.size := hbb
    have hw : IntKind.i64.wrap ((x : Int) - 3) = (x : Int) - 3 := IntWalk.i64_in _ (by omega)
    have hpos : (0 : Int) < d.length := by omega
    have hres := HRES.out
    rw [recS, if_neg (by rw [Hq.out]; decide)] at hres
    simp only at hres
    rw [hx] at hres
    have HRR := Lib.hid hres
    clear hres hx hkk
    by_cases hfull : (d.length : Int) ≤ (x : Int) - 3
    · have dfull : decide ((d.length : Int) ≤ (x : Int) - 3) = true := by simpa using hfull
      go_wp2_with fail
      have hres : RES = (4, (0, [])) := by rw [← HRR.out, if_pos hfull]
      subst hres
      refine bodyPost_ret (v := .tuple #[.agg #[.int .u8 0, .slice none 0 0], .int .i64 4]) (by simp [results, Try.results22, go_sem, r0, r1]) rfl ?_
      exact ⟨_, rfl, World.ownsRow_nil _ _ _ _, (HB1.out.setCell (p := ⟨w.heap.size + 1, 0, none⟩) (by show w.heap.size ≤ w.heap.size + 1; omega) _).setCell (p := ⟨w.heap.size + 1, 1, none⟩) (by show w.heap.size ≤ w.heap.size + 1; omega) _⟩
    have dfull : decide ((d.length : Int) ≤ (x : Int) - 3) = false := by simpa using hfull
    go_upto_region 6 with fail
    have hc1 := (HD.out.below HB1.out)
    have HBY := Lib.hid hc1
    clear hc1
    go_cut [7] (fun v7 wx => ∃ b7 g7 cap, v7 = .pointer (some ⟨b7, 0, none⟩) ∧ RecM X1 k d b7 g7 cap wx)
    case first =>
      refine wp_region_steps 7 [[], [0], [], [2], [3], [1, 4], []] (fun D a w' => ∃ g : Nat → Value, a = ⟨#[.agg #[.int .u8 k, .slice (some ⟨b, o, none⟩) d.length c], .int .u32 ad, .pointer (some ⟨w.heap.size, 0, none⟩), undef, .pointer (some ⟨w.heap.size + 1, 0, none⟩), .int .i64 0, .int .i64 (x - 3), g 6, undef, .agg #[.int .u8 k, .slice (some ⟨b, o, none⟩) d.length c], .bool true, .bool false, undef, .pointer (some ⟨w.heap.size, 1, none⟩), .slice (some ⟨b, o, none⟩) d.length c, .pointer (some ⟨b, o, none⟩), .int .u8 x, .int .i64 x, .int .i64 (x - 3), .int .i64 (x - 3), .pointer (some ⟨w.heap.size, 1, none⟩), .slice (some ⟨b, o, none⟩) d.length c, .int .i64 d.length, .bool false, undef, g 0, g 1, g 2, g 3, g 4, g 5, undef, undef, undef, undef, undef, undef, undef, undef, undef, undef, undef, undef, undef, undef, undef, undef, undef, undef, undef, undef, undef, undef, undef], []⟩ ∧ Iq X1 (PR X1 k d ([.pointer (some ⟨w.heap.size, 0, none⟩), .int .u8 k, .pointer (some ⟨w.heap.size, 1, none⟩), .slice (some ⟨b, o, none⟩) d.length c, undef, undef, undef] : List Value)) D g w') (by kernel_rfl) (by kernel_rfl) ⟨fun _ => undef, rfl, Iq.zero _ _ _⟩ ?_ ?_
      · simp only [List.take_succ_cons, List.take_zero]
        refine ⟨?_, ?_, ?_, ?_, ?_, ?_, ?_, trivial⟩
        · intro D a w' hn hp hI
          obtain ⟨g, rfl, hR⟩ := hI
          clear hn hp
          go_wp2_with fail
          exact ⟨fun ix => if ix = 0 then .pointer (some ⟨w.heap.size, 0, none⟩) else g ix, by rfl, hR.upd PR.below 0 _ (Below.refl _ _) rfl⟩
        · intro D a w' hn hp hI
          obtain ⟨g, rfl, hR⟩ := hI
          have e0 : g 0 = .pointer (some ⟨w.heap.size, 0, none⟩) := hR.e 0 hp.1
          rw [e0]
          have cc := kc hR.b o0
          clear hn hp
          go_wp2_with fail
          exact ⟨fun ix => if ix = 1 then .int .u8 k else g ix, by simp [e0], hR.upd PR.below 1 _ (Below.refl _ _) rfl⟩
        · intro D a w' hn hp hI
          obtain ⟨g, rfl, hR⟩ := hI
          clear hn hp
          go_wp2_with fail
          exact ⟨fun ix => if ix = 2 then .pointer (some ⟨w.heap.size, 1, none⟩) else g ix, by rfl, hR.upd PR.below 2 _ (Below.refl _ _) rfl⟩
        · intro D a w' hn hp hI
          obtain ⟨g, rfl, hR⟩ := hI
          have e2 : g 2 = .pointer (some ⟨w.heap.size, 1, none⟩) := hR.e 2 hp.1
          rw [e2]
          have cc := kc hR.b o1
          clear hn hp
          go_wp2_with fail
          exact ⟨fun ix => if ix = 3 then .slice (some ⟨b, o, none⟩) d.length c else g ix, by simp [e2], hR.upd PR.below 3 _ (Below.refl _ _) rfl⟩
        · intro D a w' hn hp hI
          obtain ⟨g, rfl, hR⟩ := hI
          have e3 : g 3 = .slice (some ⟨b, o, none⟩) d.length c := hR.e 3 hp.1
          rw [e3]
          have hby := HBY.out.below hR.b
          clear hn hp
          go_wp2_with fail
          refine (clone_any d (some ⟨b, o, none⟩) c _ hby (by omega)).mono ?_
          rintro e w'' ⟨v, rfl, hrow, hnil, hb9⟩
          go_wp2_with fail
          exact ⟨fun ix => if ix = 4 then v else g ix, by simp [e3], hR.upd PR.below 4 _ hb9 (own_base hrow hR.b.size)⟩
        · intro D a w' hn hp hI
          obtain ⟨g, rfl, hR⟩ := hI
          have e1 : g 1 = .int .u8 k := hR.e 1 hp.1
          rw [e1]
          have hrow : w'.ownsRow X1.heap.size 5 1 (g 4) d.length (d.map (Value.int .u8)) := hR.e 4 hp.2.1
          obtain ⟨A4, c4, e4⟩ := own_form hrow
          rw [e4] at hrow
          rw [e4]
          have Hrow := Lib.hid hrow
          clear hn hp hrow
          go_wp2_with fail
          exact ⟨fun ix => if ix = 5 then .agg #[.int .u8 k, .slice A4 d.length c4] else g ix, by simp [e1, e4], hR.upd PR.below 5 _ (Below.refl _ _) ⟨_, rfl, Hrow.out⟩⟩
        · intro D a w' hn hp hI
          obtain ⟨g, rfl, hR⟩ := hI
          clear hn hp
          go_wp2_with fail
          exact ⟨fun ix => if ix = 6 then .pointer (some ⟨w'.heap.size, 0, none⟩) else g ix, by rfl, hR.upd PR.below 6 _ ((Below.refl _ _).alloc (Nat.le_refl _) _) ⟨_, rfl, hR.b.size, heap_alloc_last _ _⟩⟩
      intro D a w' hD hI
      obtain ⟨g6, rfl, hR⟩ := hI
      obtain ⟨v4, e5, hrow⟩ : ∃ v4, g6 5 = .agg #[.int .u8 k, v4] ∧ w'.ownsRow X1.heap.size 5 1 v4 d.length (d.map (Value.int .u8)) := hR.e 5 (hD 5 (by decide))
      obtain ⟨b7, e6, hb7, hk7⟩ : ∃ b, g6 6 = .pointer (some ⟨b, 0, none⟩) ∧ X1.heap.size ≤ b ∧ w'.heap[b]? = some (.cells #[.int .u8 0, .slice none 0 0] 36 (0, 0)) := hR.e 6 (hD 6 (by decide))
      obtain ⟨A4, c4, rfl⟩ := own_form hrow
      have HM := Lib.hid (RecM.mk' (k := k) hR.b hb7 hk7 hrow (by omega))
      have z0 := blk_cell hk7 0
      have z1 := blk_cell hk7 1
      simp at z0 z1
      have fz0 := blk_free hk7 0
      have fz1 := blk_free hk7 1
      have hlz := blk_lt hk7
      rw [e5, e6]
      simp only [List.drop_succ_cons, List.drop_zero]
      clear hD hR e5 e6 hrow hk7 o0 o1 c0
      go_wp2_with fail
      go_meet
      obtain ⟨g7, rfl, hM⟩ := HM.out
      exact ⟨b7, g7, c4, rfl, hM⟩
    obtain ⟨b7, g7, cap, rfl, hM⟩ := hcut
    obtain ⟨X2, hX2⟩ : ∃ X, X = wc := ⟨_, rfl⟩
    subst hX2
    clear o0 o1 r0 r1 fr fr1 hl0 hl1 c0 hbb dfull
    have HMM := Lib.hid hM
    clear hM
    obtain ⟨p, hp⟩ : ∃ p : Nat, (x : Int) - 3 = p := ⟨x - 3, by omega⟩
    rw [hp]
    have Hp := Lib.hid hp
    have hpn : p + 3 < d.length := by omega
    clear hp hw
    go_wp2_with fail
    go_loopw [31] (fun i wr => ∃ m : Nat, m ≤ 4 ∧ i = .int .i64 m ∧ RecM X1 k (setN d p ad m) b7 g7 cap wr) (fun i _ => 4 - (intOf i).toNat)
    case atStart => exact ⟨0, by omega, rfl, HMM.out⟩
    case round =>
      obtain ⟨m, hm, rfl, hM⟩ := hrel
      have HM := Lib.hid hM
      obtain ⟨cur, hcur⟩ : ∃ cur, setN d p ad m = cur := ⟨_, rfl⟩
      have hcl : cur.length = d.length := by rw [← hcur]; exact setN_len _ _ _ _
      rw [hcur] at hM
      have q1 := blk_cell hM.obj 1
      simp at q1
      rw [hcl] at q1
      have hl7 := blk_lt hM.obj
      have hlg := (hM.row.lt g7 rfl).2
      have HC := Lib.hid hcur
      have HL := Lib.hid hcl
      clear hcur hcl
      by_cases hm4 : m < 4
      · have t4 : decide ((m : Int) < 4) = true := by simp; omega
        clear hM
        go_upto_region 10 with fail
        have hw4 : IntKind.i64.wrap ((p : Int) + m) = (p : Int) + m := IntWalk.i64_in _ (by omega)
        have hw7 : IntKind.i64.wrap (8 * (m : Int)) = 8 * (m : Int) := IntWalk.i64_in _ (by omega)
        have hw8 : IntKind.i64.wrap (24 - 8 * (m : Int)) = 24 - 8 * (m : Int) := IntWalk.i64_in _ (by omega)
        have hs0 : (0 : Int) ≤ 24 - 8 * (m : Int) := by omega
        have hs1 : 24 - 8 * (m : Int) < 32 := by omega
        obtain ⟨sh, hsh⟩ : ∃ sh : Int, ad / 2 ^ (24 - 8 * m) = sh := ⟨_, rfl⟩
        obtain ⟨by8, hby8⟩ : ∃ y : Int, sh % 256 = y := ⟨_, rfl⟩
        refine wp_region_steps 12 [[], [0], [], [], [2, 3], [], [], [6], [7], [5, 8], [9], [1, 4]] (fun D a w' => ∃ g : Nat → Value, a = ⟨#[.agg #[.int .u8 k, .slice (some ⟨b, o, none⟩) d.length c], .int .u32 ad, .pointer (some ⟨w.heap.size, 0, none⟩), undef, .pointer (some ⟨w.heap.size + 1, 0, none⟩), .int .i64 0, .int .i64 p, .pointer (some ⟨b7, 0, none⟩), .int .i64 m, u9, u10, u11, u12, u13, u14, u15, u16, u17, u18, u19, u20, u21, u22, u23, u24, u25, u26, u27, u28, u29, u30, .int .i64 m, .bool true, .int .i64 m, g 0, g 1, g 2, g 3, g 4, g 5, g 6, g 7, g 8, g 9, g 10, g 11, u46, u47, u48, u49, u50, u51, u52, u53], []⟩ ∧ Iq wr (fun i v W => v = ([.pointer (some ⟨b7, 1, none⟩), .slice (some ⟨g7, 0, none⟩) d.length cap, .int .i64 p, .int .i64 m, .int .i64 ((p : Int) + m), .int .u32 ad, .int .i64 m, .int .i64 (8 * (m : Int)), .int .i64 (24 - 8 * (m : Int)), .int .u32 sh, .int .u8 by8, .pointer (some ⟨g7, p + m, none⟩)] : List Value).getD i undef) D g w') (by kernel_rfl) (by kernel_rfl) ⟨fun i => if i = 0 then u34 else if i = 1 then u35 else if i = 2 then u36 else if i = 3 then u37 else if i = 4 then u38 else if i = 5 then u39 else if i = 6 then u40 else if i = 7 then u41 else if i = 8 then u42 else if i = 9 then u43 else if i = 10 then u44 else if i = 11 then u45 else undef, rfl, Iq.zero _ _ _⟩ ?_ ?_
        · simp only [List.take_succ_cons, List.take_zero]
          refine ⟨?_, ?_, ?_, ?_, ?_, ?_, ?_, ?_, ?_, ?_, ?_, ?_, trivial⟩
          · intro D a w' hn hp hI
            obtain ⟨g, rfl, hR⟩ := hI
            clear hn hp
            go_wp2_with fail
            exact ⟨fun ix => if ix = 0 then .pointer (some ⟨b7, 1, none⟩) else g ix, by rfl, hR.upd (fun _ _ _ _ h _ => h) 0 _ (Below.refl _ _) rfl⟩
          · intro D a w' hn hp hI
            obtain ⟨g, rfl, hR⟩ := hI
            have e0 : g 0 = .pointer (some ⟨b7, 1, none⟩) := hR.e 0 hp.1
            rw [e0]
            have cc := kc hR.b q1
            clear hn hp
            go_wp2_with fail
            exact ⟨fun ix => if ix = 1 then .slice (some ⟨g7, 0, none⟩) d.length cap else g ix, by simp [e0], hR.upd (fun _ _ _ _ h _ => h) 1 _ (Below.refl _ _) rfl⟩
          · intro D a w' hn hp hI
            obtain ⟨g, rfl, hR⟩ := hI
            clear hn hp
            go_wp2_with fail
            exact ⟨fun ix => if ix = 2 then .int .i64 p else g ix, by rfl, hR.upd (fun _ _ _ _ h _ => h) 2 _ (Below.refl _ _) rfl⟩
          · intro D a w' hn hp hI
            obtain ⟨g, rfl, hR⟩ := hI
            clear hn hp
            go_wp2_with fail
            exact ⟨fun ix => if ix = 3 then .int .i64 m else g ix, by rfl, hR.upd (fun _ _ _ _ h _ => h) 3 _ (Below.refl _ _) rfl⟩
          · intro D a w' hn hp hI
            obtain ⟨g, rfl, hR⟩ := hI
            have e2 : g 2 = .int .i64 p := hR.e 2 hp.1
            rw [e2]
            have e3 : g 3 = .int .i64 m := hR.e 3 hp.2.1
            rw [e3]
            clear hn hp
            go_wp2_with fail
            exact ⟨fun ix => if ix = 4 then .int .i64 ((p : Int) + m) else g ix, by simp [e2, e3], hR.upd (fun _ _ _ _ h _ => h) 4 _ (Below.refl _ _) rfl⟩
          · intro D a w' hn hp hI
            obtain ⟨g, rfl, hR⟩ := hI
            clear hn hp
            go_wp2_with fail
            exact ⟨fun ix => if ix = 5 then .int .u32 ad else g ix, by rfl, hR.upd (fun _ _ _ _ h _ => h) 5 _ (Below.refl _ _) rfl⟩
          · intro D a w' hn hp hI
            obtain ⟨g, rfl, hR⟩ := hI
            clear hn hp
            go_wp2_with fail
            exact ⟨fun ix => if ix = 6 then .int .i64 m else g ix, by rfl, hR.upd (fun _ _ _ _ h _ => h) 6 _ (Below.refl _ _) rfl⟩
          · intro D a w' hn hp hI
            obtain ⟨g, rfl, hR⟩ := hI
            have e6 : g 6 = .int .i64 m := hR.e 6 hp.1
            rw [e6]
            clear hn hp
            go_wp2_with fail
            exact ⟨fun ix => if ix = 7 then .int .i64 (8 * (m : Int)) else g ix, by simp [e6], hR.upd (fun _ _ _ _ h _ => h) 7 _ (Below.refl _ _) rfl⟩
          · intro D a w' hn hp hI
            obtain ⟨g, rfl, hR⟩ := hI
            have e7 : g 7 = .int .i64 (8 * (m : Int)) := hR.e 7 hp.1
            rw [e7]
            clear hn hp
            go_wp2_with fail
            exact ⟨fun ix => if ix = 8 then .int .i64 (24 - 8 * (m : Int)) else g ix, by simp [e7], hR.upd (fun _ _ _ _ h _ => h) 8 _ (Below.refl _ _) rfl⟩
          · intro D a w' hn hp hI
            obtain ⟨g, rfl, hR⟩ := hI
            have e5 : g 5 = .int .u32 ad := hR.e 5 hp.1
            rw [e5]
            have e8 : g 8 = .int .i64 (24 - 8 * (m : Int)) := hR.e 8 hp.2.1
            rw [e8]
            clear hn hp
            go_wp2_with fail
            exact ⟨fun ix => if ix = 9 then .int .u32 sh else g ix, by simp [e5, e8], hR.upd (fun _ _ _ _ h _ => h) 9 _ (Below.refl _ _) rfl⟩
          · intro D a w' hn hp hI
            obtain ⟨g, rfl, hR⟩ := hI
            have e9 : g 9 = .int .u32 sh := hR.e 9 hp.1
            rw [e9]
            clear hn hp
            go_wp2_with fail
            exact ⟨fun ix => if ix = 10 then .int .u8 by8 else g ix, by simp [e9], hR.upd (fun _ _ _ _ h _ => h) 10 _ (Below.refl _ _) rfl⟩
          · intro D a w' hn hp hI
            obtain ⟨g, rfl, hR⟩ := hI
            have e1 : g 1 = .slice (some ⟨g7, 0, none⟩) d.length cap := hR.e 1 hp.1
            rw [e1]
            have e4 : g 4 = .int .i64 ((p : Int) + m) := hR.e 4 hp.2.1
            rw [e4]
            have hi0 : (0 : Int) ≤ (p : Int) + m := by omega
            have hi1 : (p : Int) + m < d.length := by omega
            clear hn hp
            go_wp2_with fail
            exact ⟨fun ix => if ix = 11 then .pointer (some ⟨g7, p + m, none⟩) else g ix, by simp [e1, e4], hR.upd (fun _ _ _ _ h _ => h) 11 _ (Below.refl _ _) rfl⟩
        intro D a w' hD hI
        obtain ⟨g10, rfl, hR⟩ := hI
        have e10 : g10 10 = .int .u8 by8 := hR.e 10 (hD 10 (by decide))
        have e11 : g10 11 = .pointer (some ⟨g7, p + m, none⟩) := hR.e 11 (hD 11 (by decide))
        rw [e10, e11]
        have hM := HM.out
        rw [HC.out] at hM
        have hM2 := hM.grow hR.b
        obtain ⟨y, hy⟩ : ∃ y, cur[p + m]? = some y := ⟨cur[p + m]'(by have := HL.out; omega), List.getElem?_eq_getElem _⟩
        obtain ⟨cy, fy, ly⟩ := hM2.cell hy
        have HN := Lib.hid (hM2.set (j := p + m) (by have := HL.out; omega) by8)
        simp only [List.drop_succ_cons, List.drop_zero]
        clear hD hR e10 e11 hM hM2 hy q1 hl7 hlg
        go_wp2_with fail
        exact ⟨⟨m + 1, by omega, by go_num, by rw [setN, HC.out, hsh, hby8]; exact HN.out⟩, by simp [intOf]; omega⟩

      · obtain rfl : m = 4 := by omega
        have h0c : cur[0]? = some (x : Int) := by
          rw [← HC.out, setN_zero _ _ (by have := Hp.out; omega)]
          rw [getD_some (by omega), HXX.out]
        obtain ⟨cx, fx, lx⟩ := hM.cell h0c
        have hw9 : IntKind.u8.wrap ((x : Int) + 4) = (x : Int) + 4 := IntWalk.u8_in _ (by omega)
        have hN := hM.set (j := 0) (by have := HL.out; omega) ((x : Int) + 4)
        obtain ⟨W4, hW4⟩ : ∃ W4, wr.setCell ⟨g7, 0, none⟩ (.int .u8 ((x : Int) + 4)) = W4 := ⟨_, rfl⟩
        rw [hW4] at hN
        have HN := Lib.hid hN
        have HW4 := Lib.hid hW4
        have s0 := blk_cell hN.obj 0
        have s1 := blk_cell hN.obj 1
        simp at s0 s1
        rw [HL.out] at s1
        have hr1 := blk_below hN.below HH1'.out
        have r0 := blk_cell hr1 0
        have r1 := blk_cell hr1 1
        simp at r0 r1
        have fr0 := blk_free hr1 0
        have fr1 := blk_free hr1 1
        have hl1 := blk_lt hr1
        have hls := blk_lt hN.obj
        have hgne := hN.ne
        have hres : RES = (0, (k, (cur.set 0 ((x : Int) + 4)))) := by
          rw [← HRR.out, if_neg (by omega), Hp.out]
          rw [show ((p : Int)).toNat = p from rfl, HC.out]
        subst hres
        clear hM hN hW4 h0c
        go_upto_region 13 with fail
        rw [HW4.out]
        go_wp2_with fail
        refine bodyPost_ret (v := .tuple #[.agg #[.int .u8 k, .slice (some ⟨g7, 0, none⟩) d.length cap], .int .i64 0]) (by simp [results, Try.results22, go_sem, r0, r1]) rfl ?_
        refine ⟨_, rfl, ?_, ?_⟩
        · have hro := HN.out.row
          have hge := HB1.out.size
          have := own_of_block (own_base hro hge) (w' := (W4.setCell ⟨w.heap.size + 1, 0, none⟩ (.int .u8 k)).setCell ⟨w.heap.size + 1, 1, none⟩ (.slice (some ⟨g7, 0, none⟩) d.length cap)) (fun gg hg e _ => by
            have h9 : w.heap.size + 1 < X1.heap.size := blk_lt HH1'.out
            have h8 := (hro.lt gg e).1
            exact (Below.heap_setCell _ _ _ _ (by show gg ≠ w.heap.size + 1; omega)).trans (Below.heap_setCell _ _ _ _ (by show gg ≠ w.heap.size + 1; omega)))
          rw [List.length_set, HL.out] at this
          rw [List.map_set] at this
          simp only [List.length_set, HL.out]
          exact this
        · exact ((HB1.out.trans (HN.out.below.mono HB1.out.size)).setCell (p := ⟨w.heap.size + 1, 0, none⟩) (by show w.heap.size ≤ w.heap.size + 1; omega) _).setCell (p := ⟨w.heap.size + 1, 1, none⟩) (by show w.heap.size ≤ w.heap.size + 1; omega) _

end Go.Proofs.Ytjfnnclbfaakkaa

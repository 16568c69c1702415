/-
  The iterator of package opts' options: whatever loop calls it, it hands over the options of some bytes. Conditions: those of the theorem.
-/
import Derived.Test.YtjfnnclbfaakkaaSpec
import Derived.Test.YtjfnnclbfaakkaaRng
import Derived.Test.YtjfnnclbfaakkaaWide
import Derived.Shelf.Abstract
import Derived.Shelf.RegionOpen
import Derived.OwnWalkIn
import Derived.TacticsInMore
import Derived.LoopNIn
import Derived.LoopIn
import Derived.Sort.CutIn
namespace Go.Proofs.Ytjfnnclbfaakkaa
open Go.RowKit Go.Shelf
set_option linter.unusedVariables false
set_option linter.unusedSimpArgs false
attribute [local go_sem] Oper.semAt_some

theorem wide_call {n : Nat} {P : Program} {g : Nat} {args : Array Value} {w : World} {Q : Ending → World → Prop} (h : Calls P g args w Q) : Fence.wide.fn g ∧ (Fence.wide.depth.isSome = true → 1 ≤ n) ∧ CallsIn Fence.wide (n - 1) P g args w Q := ⟨trivial, fun h => (by cases h), callsIn_wide.2 h⟩

theorem options_any (A : Option Addr) (n c : Nat) (w : World) :
    Calls Try.prog 35 #[.slice A n c] w fun e w' => e = .returned (.func (.func 53) #[] #[.pointer (some ⟨w.heap.size, 0, none⟩)]) ∧ w.alloc (.cells #[.slice A n c] 22) = w' := by
  go_enter Try.func35, Try.ntmps35
  go_wp2
  go_ret
  exact ⟨rfl, rfl⟩

/-- How many bytes are left. -/
def boxLen (B : Nat) (w : World) : Nat := match w.cell? ⟨B, 0, none⟩ with | some (.slice _ n _) => n | _ => 0
theorem boxLen_of {B : Nat} {w : World} {A : Option Addr} {n c : Nat} (h : w.cell? ⟨B, 0, none⟩ = some (.slice A n c)) : boxLen B w = n := by simp [boxLen, h]

/-- Where the iterator is. -/
structure It (B : Nat) (bs : List Int) (J : List Yv → World → Prop) (w0 W wr : World) (pre : List Yv) (W0 : World) (rest : List Int) (A : Option Addr) (c f : Nat) : Prop where
  j : J pre W0
  size : W.heap.size ≤ W0.heap.size
  keep : Keep (fun b => ¬ b = B) W0 wr
  box : wr.heap[B]? = some (.cells #[.slice A rest.length c] 22 (0, 0))
  dat : By w0 A rest
  fuel : rest.length ≤ f
  cap : rest.length ≤ c
  max : c ≤ maxLen
  len : rest.length ≤ 2 ^ 40
  eq : pre.map Yv.op ++ yl f rest = yl bs.length bs
  below : Below w0.heap.size w0 wr

theorem It.grow {B : Nat} {bs : List Int} {J : List Yv → World → Prop} {w0 W wr X : World} {pre : List Yv} {W0 : World} {rest : List Int} {A : Option Addr} {c f : Nat} (h : It B bs J w0 W wr pre W0 rest A c f) (hb : Below wr.heap.size wr X) : It B bs J w0 W X pre W0 rest A c f :=
  ⟨h.j, h.size, h.keep.trans (Keep.of_below hb), blk_below hb h.box, h.dat, h.fuel, h.cap, h.max, h.len, h.eq, h.below.trans (hb.mono h.below.size)⟩
theorem It.endT {B : Nat} {bs : List Int} {J Jx : List Yv → World → Prop} {w0 W wr W3 : World} {pre : List Yv} {W0 : World} {rest : List Int} {A : Option Addr} {c f : Nat} (h : It B bs J w0 W wr pre W0 rest A c f) (y : Yv) (he : yl f rest = [y.op]) (hJ : J (pre ++ [y]) W3) :
    ∃ xs W0, Keep (fun b => ¬ b = B) W0 W3 ∧ ((xs.map Yv.op = yl bs.length bs ∧ J xs W0) ∨ ((∃ r, xs.map Yv.op ++ r = yl bs.length bs) ∧ Jx xs W0)) :=
  ⟨_, W3, Keep.refl _ _, .inl ⟨by rw [← h.eq, he]; simp, hJ⟩⟩
theorem It.endF {B : Nat} {bs : List Int} {J Jx : List Yv → World → Prop} {w0 W wr W3 : World} {pre : List Yv} {W0 : World} {rest : List Int} {A : Option Addr} {c f : Nat} (h : It B bs J w0 W wr pre W0 rest A c f) (y : Yv) (r : List (Int × Op1)) (he : yl f rest = y.op :: r) (hJ : Jx (pre ++ [y]) W3) :
    ∃ xs W0, Keep (fun b => ¬ b = B) W0 W3 ∧ ((xs.map Yv.op = yl bs.length bs ∧ J xs W0) ∨ ((∃ r, xs.map Yv.op ++ r = yl bs.length bs) ∧ Jx xs W0)) :=
  ⟨_, W3, Keep.refl _ _, .inr ⟨⟨r, by rw [← h.eq, he]; simp⟩, hJ⟩⟩
theorem It.sp {B : Nat} {bs : List Int} {J : List Yv → World → Prop} {w0 W wr : World} {pre : List Yv} {W0 : World} {rest : List Int} {A : Option Addr} {c f : Nat} (h : It B bs J w0 W wr pre W0 rest A c f) (y : Yv) (r : List (Int × Op1)) (he : yl f rest = y.op :: r) : ∃ r, (pre ++ [y]).map Yv.op ++ r = yl bs.length bs := ⟨r, by rw [← h.eq, he]; simp⟩
theorem It.next {B : Nat} {bs : List Int} {J : List Yv → World → Prop} {w0 W wr W3 : World} {pre : List Yv} {W0 : World} {rest rest' : List Int} {A A' : Option Addr} {c c' f : Nat} (h : It B bs J w0 W wr pre W0 rest A c (f + 1)) (y : Yv) (he : yl (f + 1) rest = y.op :: yl f rest')
    (hK : Keep (fun b => b < w0.heap.size ∨ b = B) wr W3) (hJ : J (pre ++ [y]) W3) (hB : w0.heap.size ≤ B) (hd : By w0 A' rest') (hf : rest'.length < rest.length) (hc : rest'.length ≤ c') (hc1 : c' ≤ maxLen) :
    It B bs J w0 W (W3.setCell ⟨B, 0, none⟩ (.slice A' rest'.length c')) (pre ++ [y]) W3 rest' A' c' f := by
  have hb := blk_keep hK (.inr rfl) h.box
  refine ⟨hJ, Nat.le_trans h.size (Nat.le_trans h.keep.size hK.size), (Keep.refl _ _).setCell (by simp) _ _, ?_, hd, by have := h.fuel; omega, hc, hc1, by have := h.len; omega, by rw [← h.eq, he]; simp, ?_⟩
  · have := blk_set hb 0 (.slice A' rest'.length c')
    simpa using this
  · exact (h.below.trans (hK.below (fun b hb => .inl hb) h.below.size)).setCell (p := ⟨B, 0, none⟩) hB _
theorem It.left {B : Nat} {bs : List Int} {J : List Yv → World → Prop} {w0 W wr : World} {pre : List Yv} {W0 : World} {rest : List Int} {A : Option Addr} {c f : Nat} (h : It B bs J w0 W wr pre W0 rest A c f) : boxLen B wr = rest.length :=
  boxLen_of (A := A) (c := c) (by have := blk_cell h.box 0; simpa using this)
theorem By.cut {w : World} {b o : Nat} {d : List Int} (h : By w (some ⟨b, o, none⟩) d) (k c : Nat) (hc : d.length ≤ c) : By w (if c = k then some ⟨b, o, none⟩ else some ⟨b, o + k, none⟩) (d.drop k) := by
  by_cases hk : c = k
  · rw [if_pos hk]
    have : d.drop k = [] := by rw [List.drop_eq_nil_iff]; omega
    rw [this]
    exact By.nil _ _
  · rw [if_neg hk]
    exact h.drop k
theorem own_of_block {w w' : World} {base n size : Nat} {e : TypeId} {v : Value} {xs : List Value} (h : w.ownsRow base e size v n xs) (hk : ∀ g, base ≤ g → v.ownBlock = some g → g < w.heap.size → w'.heap[g]? = w.heap[g]?) : w'.ownsRow base e size v n xs := by
  obtain ⟨hl, (⟨rfl, rfl⟩ | ⟨g, cap, cur, rfl, h1, h2, h3⟩)⟩ := h
  · exact ⟨hl, .inl ⟨rfl, rfl⟩⟩
  · exact ⟨hl, .inr ⟨g, cap, cur, rfl, h1, (hk g h1 rfl (blk_lt h2)).trans h2, h3⟩⟩
theorem own_below {w w' : World} {base n size : Nat} {e : TypeId} {v : Value} {xs : List Value} (h : w.ownsRow base e size v n xs) (hb : Below w.heap.size w w') : w'.ownsRow base e size v n xs := own_of_block h fun g _ _ hg => hb.block g hg
theorem own_base {w : World} {base base' n size : Nat} {e : TypeId} {v : Value} {xs : List Value} (h : w.ownsRow base e size v n xs) (hb : base' ≤ base) : w.ownsRow base' e size v n xs := by
  obtain ⟨hl, (⟨rfl, rfl⟩ | ⟨g, cap, cur, rfl, h1, h2⟩)⟩ := h
  · exact ⟨hl, .inl ⟨rfl, rfl⟩⟩
  · exact ⟨hl, .inr ⟨g, cap, cur, rfl, Nat.le_trans hb h1, h2⟩⟩
theorem clone_m (d : List Int) (A : Option Addr) (c m : Nat) (w : World) (hd : By w A d) (hm : d.length = m) (hn : m ≤ 2 ^ 40) :
    Calls Try.prog 43 #[.slice A m c] w fun e w' => ∃ v, e = .returned v ∧ w'.ownsRow w.heap.size 5 1 v d.length (d.map (Value.int .u8)) ∧ (v = .slice none 0 0 ↔ A = none) ∧ Below w.heap.size w w' := by
  subst hm
  exact clone_any d A c w hd hn
theorem It.grow' {B ob : Nat} {bs : List Int} {J : List Yv → World → Prop} {w0 W wr X : World} {pre : List Yv} {W0 : World} {rest : List Int} {A : Option Addr} {c f : Nat} (h : It B bs J w0 W wr pre W0 rest A c f) (hk : Keep (fun b => ¬ b = ob) wr X) (h1 : w0.heap.size ≤ ob) (h2 : W0.heap.size ≤ ob) (h3 : ob ≠ B) : It B bs J w0 W X pre W0 rest A c f :=
  ⟨h.j, h.size, ⟨h.keep.frame.trans hk.frame, fun b hb hlt => (hk.low b (by omega) (Nat.lt_of_lt_of_le hlt h.keep.size)).trans (h.keep.low b hb hlt)⟩, blk_keep hk (by omega) h.box, h.dat, h.fuel, h.cap, h.max, h.len, h.eq, h.below.trans (hk.below (fun b hb => by omega) h.below.size)⟩
/-- What the clone has left. -/
structure Cl (ob : Nat) (k : Int) (D : List Int) (X1 : World) (A : Option Addr) (c : Nat) (X : World) : Prop where
  keep : Keep (fun b => ¬ b = ob) X1 X
  row : X.ownsRow X1.heap.size 5 1 (.slice A D.length c) D.length (D.map (Value.int .u8))
  o : X.heap[ob]? = some (.cells #[.int .u8 k, .slice A D.length c] 36 (0, 0))
theorem Cl.of {ob : Nat} {k : Int} {D : List Int} {X1 X2 : World} {A : Option Addr} {c : Nat} (hb : Below X1.heap.size X1 X2) (hr : X2.ownsRow X1.heap.size 5 1 (.slice A D.length c) D.length (D.map (Value.int .u8))) (ho : X2.heap[ob]? = some (.cells #[.int .u8 k, .slice none 0 0] 36 (0, 0))) (hob : ob < X1.heap.size) :
    Cl ob k D X1 A c (X2.setCell ⟨ob, 1, none⟩ (.slice A D.length c)) :=
  ⟨(Keep.of_below hb).setCell (by simp) _ _, own_of_block hr (fun g hg _ hlt => Below.heap_setCell X2 ⟨ob, 1, none⟩ _ g (by show g ≠ ob; omega)), by simpa using blk_set ho 1 (.slice A D.length c)⟩
theorem Cl.by {ob : Nat} {k : Int} {D : List Int} {X1 X : World} {A : Option Addr} {c : Nat} (h : Cl ob k D X1 A c X) (hr : ∀ x ∈ D, 0 ≤ x ∧ x ≤ 255) : By X A D := by
  obtain ⟨A', c', e, _, _, hb⟩ := By.of_own' h.row hr
  cases e
  exact hb
theorem drop2 {a b : Int} {q : List Int} {s : Nat} (h : 2 ≤ s) : (a :: b :: q).drop s = q.drop (s - 2) := by
  obtain ⟨t, rfl⟩ : ∃ t, s = t + 2 := ⟨s - 2, by omega⟩
  rfl
theorem max_m (x0 : Int) (d : List Int) (A : Option Addr) (c m : Nat) (w : World) (hd : By w A (x0 :: d)) (hm : (x0 :: d).length = m) (hn : m ≤ 2 ^ 40) :
    Calls Try.prog 54 #[.slice A m c] w fun e w' => e = .returned (.int .u8 (mx x0 d)) ∧ Below w.heap.size w w' := by
  subst hm
  exact max_any x0 d A c w hd (by simp at hn; omega)

set_option maxRecDepth 100000 in
set_option maxHeartbeats 4000000 in
theorem options_yields (n B : Nat) (bs : List Int) (A : Option Addr) (c : Nat) (w0 w : World) (hd : By w0 A bs) (hb : Below w0.heap.size w0 w) (hB0 : w0.heap.size ≤ B) (hlen : bs.length ≤ 2 ^ 40) (hcap : bs.length ≤ c) (hmax : c ≤ maxLen)
    (hB : w.heap[B]? = some (.cells #[.slice A bs.length c] 22 (0, 0))) :
    Yields n Try.prog 53 #[.pointer (some ⟨B, 0, none⟩)] Yv.enc Yv.Own (fun ys => ys.map Yv.op = yl bs.length bs) (fun ys => ∃ r, ys.map Yv.op ++ r = yl bs.length bs) (fun b => b < w0.heap.size ∨ b = B) (fun b => b = B) w := by
  intro l J Jx W hW hY h0
  have hBlt := blk_lt hB
  refine callsIn_of_wp Try.func53 rfl trivial ?_ rfl
  simp only [Try.ntmps53, List.size_toArray, List.length_cons, List.length_nil, Nat.reduceAdd, Nat.reduceSub, Array.replicate_succ, Array.replicate_zero, List.push_toArray, List.append_toArray, List.nil_append, List.cons_append]
  have HB := Lib.hid hB
  have HY := Lib.hid hY
  clear hY hB
  gi_wp2_with fail
  gi_loopw [] (fun wr => ∃ pre W0 rest A c f, It B bs J w0 W wr pre W0 rest A c f) (fun wr => boxLen B wr)
  case atStart => exact ⟨[], W, bs, A, c, bs.length, h0, Nat.le_refl _, Keep.refl _ _, blk_below hW HB.out, hd, Nat.le_refl _, hcap, hmax, hlen, rfl, hb.trans (hW.mono hb.size)⟩
  case round =>
    obtain ⟨pre, W0, rest, A', c', f, hI⟩ := hrel
    have c0 := blk_cell hI.box 0
    simp at c0
    have hBr := blk_lt hI.box
    have HI := Lib.hid hI
    clear hI
    cases rest with
    | nil =>
      gi_wp2_with fail
      have hI := HI.out
      refine bodyPost_end (results_none rfl _ _ _) rfl ?_
      exact ⟨⟨_, rfl⟩, pre, W0, hI.keep, .inl ⟨by have := hI.eq; cases f <;> simpa [yl] using this, hI.j⟩⟩
    | cons k r =>
      obtain ⟨g, hg⟩ : ∃ g, f = g + 1 := ⟨f - 1, by have := HI.out.fuel; simp at this; omega⟩
      subst hg
      obtain ⟨bb, off, rfl, hbb, hcc⟩ := (HI.out.dat.below HI.out.below).mem (by simp)
      have q0 := hcc 0 k rfl
      rw [Nat.add_zero] at q0
      obtain ⟨m, hm⟩ : ∃ m, (k :: r).length = m := ⟨_, rfl⟩
      rw [hm] at c0
      have hm1 : m = r.length + 1 := by rw [← hm]; rfl
      have hm0 : (0 : Int) < m := by omega
      have hm40 : m ≤ 2 ^ 40 := by rw [← hm]; exact HI.out.len
      have hk := HI.out.dat.rng k (by simp)
      have HM := Lib.hid hm
      have HM1 := Lib.hid hm1
      have HC := Lib.hid hcc
      clear hcc hm hm1
      gi_upto_region 4 with fail
      obtain ⟨X0, hX0⟩ : ∃ X0, wr.alloc (Obj.cells #[Value.int IntKind.u8 k, Value.slice none 0 0] 36) = X0 := ⟨_, rfl⟩
      have hBX : Below wr.heap.size wr X0 := by rw [← hX0]; exact (Below.refl _ _).alloc (Nat.le_refl _) _
      have ho : X0.heap[wr.heap.size]? = some (.cells #[.int .u8 k, .slice none 0 0] 36 (0, 0)) := by rw [← hX0]; exact heap_alloc_last _ _
      rw [hX0]
      clear hX0
      have HI0 := Lib.hid (HI.out.grow hBX)
      have hlen0 := boxLen_of c0
      have hob := blk_lt ho
      obtain ⟨ob, hobe⟩ : ∃ ob, wr.heap.size = ob := ⟨_, rfl⟩
      have hoB : ob ≠ B := by omega
      have hWob : W0.heap.size ≤ ob := by rw [← hobe]; exact HI.out.keep.size
      replace c0 := kc hBX c0
      replace q0 := kc hBX q0
      have HC := Lib.hid (fun i x (hi : (k :: r)[i]? = some x) => kc hBX (HC.out i x hi))
      have o0 := blk_cell ho 0
      have o1 := blk_cell ho 1
      simp at o0 o1
      have fo := blk_free ho 1
      have HO := Lib.hid ho
      clear ho
      rw [hobe] at hob o0 o1 fo HO ⊢
      clear HI hBX hBr hbb
      have hBr := blk_lt HI0.out.box
      have hbb := cell_lt q0
      by_cases hk0 : k = 0
      · subst hk0
        obtain ⟨q, hq⟩ : ∃ q, decide (0 < mx 0 r) = q := ⟨_, rfl⟩
        gi_wp2_with fail
        refine wide_call ((max_m 0 r (some ⟨bb, off, none⟩) c' m _ (HI0.out.dat.below HI0.out.below) HM.out hm40).mono ?_)
        rintro e X ⟨rfl, hbX⟩
        have HIX := Lib.hid (HI0.out.grow hbX)
        clear o0 o1 fo
        cases q
        · have he : yl (g + 1) (0 :: r) = [] := by simp [yl]; simpa using hq
          gi_wp2_with fail
          refine bodyPost_ret (results_none rfl _ _ _) rfl ?_
          exact ⟨⟨_, rfl⟩, pre, W0, HIX.out.keep, .inl ⟨by have := HIX.out.eq; rw [he] at this; simpa using this, HIX.out.j⟩⟩
        · have hq2 : 0 < mx 0 r := by simpa using hq
          have he : yl (g + 1) (0 :: r) = [(62, (0, []))] := by simp [yl, hq2]
          obtain ⟨fn, tmps, assign, body, hy, hR⟩ := HY.out pre ⟨62, 0, [], none, 0⟩ W0 _ HIX.out.size HIX.out.j HIX.out.keep ⟨World.ownsRow_nil _ _ _ _, by decide, by simp⟩ (HIX.out.sp ⟨62, 0, [], none, 0⟩ _ he)
          dsimp only [Yv.enc, List.length_nil] at hy
          gi_wp2_with fail
          refine ⟨fun h => (by cases h), hR.mono ?_⟩
          rintro e W3 (⟨rfl, hJ4, hK⟩ | ⟨rfl, hJx4⟩)
          · gi_wp2_with fail
            refine bodyPost_ret (results_none rfl _ _ _) rfl ?_
            exact ⟨⟨_, rfl⟩, HIX.out.endT ⟨62, 0, [], none, 0⟩ he hJ4⟩
          · gi_wp2_with fail
            refine bodyPost_ret (results_none rfl _ _ _) rfl ?_
            exact ⟨⟨_, rfl⟩, HIX.out.endF ⟨62, 0, [], none, 0⟩ [] he hJx4⟩
      have b0 : (k == 0) = false := by simpa using hk0
      by_cases hk1 : k = 1
      · subst hk1
        have he : yl (g + 1) (1 :: r) = (Yv.op ⟨0, 1, [], none, 0⟩) :: yl g r := by simp [yl, Yv.op]
        gi_wp2_with fail
        refine wide_call ((right_any 1 [] none 0 _ (by decide) (By.nil _ _) (by decide)).mono ?_)
        rintro e X ⟨rfl, hbX⟩
        rw [show rightS (1, []) = true from rfl]
        have HIX := Lib.hid (HI0.out.grow hbX)
        replace o0 := kc hbX o0
        replace o1 := kc hbX o1
        replace c0 := kc hbX c0
        clear q0 fo HO
        obtain ⟨fn, tmps, assign, body, hy, hR⟩ := HY.out pre ⟨0, 1, [], none, 0⟩ W0 _ HIX.out.size HIX.out.j HIX.out.keep ⟨World.ownsRow_nil _ _ _ _, by decide, by simp⟩ (HIX.out.sp ⟨0, 1, [], none, 0⟩ _ he)
        dsimp only [Yv.enc, List.length_nil] at hy
        have hob2 := cell_lt o0
        gi_wp2_with fail
        refine ⟨fun h => (by cases h), hR.mono ?_⟩
        rintro e W3 (⟨rfl, hJ4, hK⟩ | ⟨rfl, hJx4⟩)
        · have hbx := blk_keep hK (.inr rfl) HIX.out.box
          have c3 := blk_cell hbx 0
          simp at c3
          rw [HM1.out.symm] at c3
          have f3 := blk_free hbx 0
          have hB3 := blk_lt hbx
          have hm1 : (1 : Int) ≤ m := by omega
          have hmc : (m : Int) ≤ c' := by have := HIX.out.cap; rw [HM.out] at this; omega
          clear hbx c0 o0 o1 hy hR
          gi_wp2_with fail
          have e1 : m - 1 = r.length := by rw [HM1.out]; rfl
          rw [e1]
          have hN := HIX.out.next ⟨0, 1, [], none, 0⟩ he hK hJ4 hB0 (HIX.out.dat.cut 1 c' HIX.out.cap) (by simp) (c' := c' - 1) (by have := HIX.out.cap; simp at this; omega) (by have := HIX.out.max; omega)
          exact ⟨⟨_, W3, r, _, c' - 1, g, hN⟩, by rw [hN.left, hlen0, HM1.out]; simp⟩
        · gi_wp2_with fail
          refine bodyPost_ret (results_none rfl _ _ _) rfl ?_
          exact ⟨⟨_, rfl⟩, HIX.out.endF ⟨0, 1, [], none, 0⟩ _ he hJx4⟩
      have b1 : (k == 1) = false := by simpa using hk1
      cases r with
      | nil =>
        have hm2 : decide ((m : Int) < 2) = true := by have := HM1.out; simp at this; simp; omega
        have he : yl (g + 1) [k] = [(60, (0, []))] := by simp [yl, hk0, hk1]
        obtain ⟨fn, tmps, assign, body, hy, hR⟩ := HY.out pre ⟨60, 0, [], none, 0⟩ W0 _ HI0.out.size HI0.out.j HI0.out.keep ⟨World.ownsRow_nil _ _ _ _, by decide, by simp⟩ (HI0.out.sp ⟨60, 0, [], none, 0⟩ _ he)
        dsimp only [Yv.enc, List.length_nil] at hy
        clear o1 fo
        gi_wp2_with fail
        refine ⟨fun h => (by cases h), hR.mono ?_⟩
        rintro e W3 (⟨rfl, hJ4, hK⟩ | ⟨rfl, hJx4⟩)
        · gi_wp2_with fail
          refine bodyPost_ret (results_none rfl _ _ _) rfl ?_
          exact ⟨⟨_, rfl⟩, HI0.out.endT ⟨60, 0, [], none, 0⟩ he hJ4⟩
        · gi_wp2_with fail
          refine bodyPost_ret (results_none rfl _ _ _) rfl ?_
          exact ⟨⟨_, rfl⟩, HI0.out.endF ⟨60, 0, [], none, 0⟩ [] he hJx4⟩
      | cons z q =>
        have hm2 : decide ((m : Int) < 2) = false := by have := HM1.out; simp at this; simp; omega
        have hm1' : (1 : Int) < m := by have := HM1.out; simp at this; omega
        have q1 := HC.out 1 z rfl
        have hn := HI0.out.dat.rng z (by simp)
        by_cases hn2 : z < 2
        · have d2 : decide (z < 2) = true := by simpa using hn2
          have he : yl (g + 1) (k :: z :: q) = [(61, (0, []))] := by simp [yl, hk0, hk1, hn2]
          obtain ⟨fn, tmps, assign, body, hy, hR⟩ := HY.out pre ⟨61, 0, [], none, 0⟩ W0 _ HI0.out.size HI0.out.j HI0.out.keep ⟨World.ownsRow_nil _ _ _ _, by decide, by simp⟩ (HI0.out.sp ⟨61, 0, [], none, 0⟩ _ he)
          dsimp only [Yv.enc, List.length_nil] at hy
          clear o1 fo
          gi_wp2_with fail
          refine ⟨fun h => (by cases h), hR.mono ?_⟩
          rintro e W3 (⟨rfl, hJ4, hK⟩ | ⟨rfl, hJx4⟩)
          · gi_wp2_with fail
            refine bodyPost_ret (results_none rfl _ _ _) rfl ?_
            exact ⟨⟨_, rfl⟩, HI0.out.endT ⟨61, 0, [], none, 0⟩ he hJ4⟩
          · gi_wp2_with fail
            refine bodyPost_ret (results_none rfl _ _ _) rfl ?_
            exact ⟨⟨_, rfl⟩, HI0.out.endF ⟨61, 0, [], none, 0⟩ [] he hJx4⟩
        obtain ⟨s, rfl⟩ : ∃ s : Nat, z = s := ⟨z.toNat, by omega⟩
        have d2 : decide ((s : Int) < 2) = false := by simpa using hn2
        have hw : IntKind.i64.wrap (s : Int) = s := IntWalk.i64_in _ (by omega)
        have hmq : m = q.length + 2 := by have := HM1.out; simpa using this
        have HMQ := Lib.hid hmq
        have h2s : (2 : Int) ≤ s := by omega
        clear hmq
        gi_upto_region 12 with fail
        gi_cut [51] from 6 (fun v wx => v = .bool (decide (m < s)) ∧ Below X0.heap.size X0 wx)
        case first =>
          clear o0 o1 fo
          have hmx : Try.prog.follows .mixedOrders = true := by kernel_rfl
          have hbr : Below X0.heap.size X0 X0.drew := (Below.refl _ _).drew
          have Hbr := Lib.hid hbr
          clear hbr
          gi_region_with_o (fail)
          all_goals
            gi_wp2_with fail
            gi_meet
            exact ⟨rfl, Hbr.out⟩
        obtain ⟨rfl, hbc⟩ := hcut
        obtain ⟨X1, hX1⟩ : ∃ X, X = wc := ⟨_, rfl⟩
        subst hX1
        have HI1 := Lib.hid (HI0.out.grow hbc)
        replace c0 := kc hbc c0
        replace q1 := kc hbc q1
        replace o0 := kc hbc o0
        replace o1 := kc hbc o1
        have HO1 := Lib.hid (blk_below hbc HO.out)
        have hob1 := cell_lt o0
        have hbb1 := cell_lt q1
        have hBr1 := cell_lt c0
        replace hob1 : ob < X1.heap.size := hob1
        replace hbb1 : bb < X1.heap.size := hbb1
        replace hBr1 : B < X1.heap.size := hBr1
        clear hbc q0 fo HO HI0 HC hob hbb hBr d2 hm2
        by_cases hn3 : m < s
        · have d3 : decide (m < s) = true := by simpa using hn3
          rw [d3]
          have hmq := HMQ.out
          have he : yl (g + 1) (k :: (s : Int) :: q) = [(60, (0, []))] := by simp only [yl, hk0, hk1, hn2, if_false]; rw [if_pos (by omega)]
          obtain ⟨fn, tmps, assign, body, hy, hR⟩ := HY.out pre ⟨60, 0, [], none, 0⟩ W0 _ HI1.out.size HI1.out.j HI1.out.keep ⟨World.ownsRow_nil _ _ _ _, by decide, by simp⟩ (HI1.out.sp ⟨60, 0, [], none, 0⟩ _ he)
          dsimp only [Yv.enc, List.length_nil] at hy
          clear hmq
          gi_wp2_with fail
          refine ⟨fun h => (by cases h), hR.mono ?_⟩
          rintro e W3 (⟨rfl, hJ4, hK⟩ | ⟨rfl, hJx4⟩)
          · gi_wp2_with fail
            refine bodyPost_ret (results_none rfl _ _ _) rfl ?_
            exact ⟨⟨_, rfl⟩, HI1.out.endT ⟨60, 0, [], none, 0⟩ he hJ4⟩
          · gi_wp2_with fail
            refine bodyPost_ret (results_none rfl _ _ _) rfl ?_
            exact ⟨⟨_, rfl⟩, HI1.out.endF ⟨60, 0, [], none, 0⟩ [] he hJx4⟩
        have d3 : decide (m < s) = false := by simpa using hn3
        rw [d3]
        clear d3
        have hsm : (s : Int) ≤ m := by omega
        have hsc : (s : Int) ≤ c' := by have := HI1.out.cap; rw [HM.out] at this; omega
        obtain ⟨D, hD⟩ : ∃ D, q.take (s - 2) = D := ⟨_, rfl⟩
        have HDl : Hid (D.length = s - 2) := Lib.hid (by rw [← hD, List.length_take]; have := HMQ.out; omega)
        have HDr : Hid (∀ x ∈ D, 0 ≤ x ∧ x ≤ 255) := Lib.hid (fun x hx => HI1.out.dat.rng x (by rw [← hD] at hx; simp [List.mem_of_mem_take hx]))
        have HDb : Hid (By X1 (if c' = 2 then some ⟨bb, off, none⟩ else some ⟨bb, off + 2, none⟩) D) := Lib.hid (by rw [← hD]; exact ((HI1.out.dat.below HI1.out.below).cut 2 c' HI1.out.cap).take (s - 2))
        have HD := Lib.hid hD
        clear hD
        have hs2 : ((s : Int) - 2).toNat = s - 2 := by omega
        have hsm0 := hsm
        have Hmq : Hid (m = q.length + 1 + 1) := Lib.hid (by have := HMQ.out; omega)
        have HDl62 : Hid (D.length < 2 ^ 62) := Lib.hid (by have := HDl.out; omega)
        have hW0ob : W0.heap.size ≤ ob := by have := hWob; omega
        have hw0ob : w0.heap.size ≤ ob := by have := hb.size; have := hW.size; have := HI1.out.size; omega
        have hW0X1 : W0.heap.size ≤ X1.heap.size := by omega
        by_cases hc2 : c' = 2
        · subst hc2
          have hby := HDb.out
          rw [if_pos rfl] at hby
          have Hby := Lib.hid hby
          clear hby
          have Hlen := Lib.hid hlen0
          clear hsm0 hm0 hm1' hw hlen0
          gi_wp2_with fail
          refine wide_call ((clone_m D (some ⟨bb, off, none⟩) (0) (s - 2) _ Hby.out HDl.out (by omega)).mono ?_)
          rintro e X2 ⟨v, rfl, hrow, hnil, hb2⟩
          obtain ⟨A1, c1, rfl, hc1, hc1m, hBy⟩ := By.of_own' hrow HDr.out
          have hcl := Cl.of (k := k) hb2 hrow (blk_below hb2 HO1.out) hob1
          have ho2 := blk_below hb2 HO1.out
          have o0' := blk_cell ho2 0
          have o1' := blk_cell ho2 1
          simp at o0' o1'
          have fo' := blk_free ho2 1
          have hob2 := blk_lt ho2
          have HCl := Lib.hid hcl
          clear hrow hnil hBy hcl ho2 c0 q1 o0 o1 hb2 hc1 hc1m
          obtain ⟨rq, hrq⟩ : ∃ rq, rightS (k, D) = rq := ⟨_, rfl⟩
          have Hrq := Lib.hid hrq
          clear hrq
          gi_wp2_with fail
          refine wide_call ((right_any k D A1 c1 _ hk (HCl.out.by HDr.out) HDl62.out).mono ?_)
          rintro e X4 ⟨rfl, hb4⟩
          rw [Hrq.out]
          clear o0' o1' fo' hob2
          have HI4 := Lib.hid ((HI1.out.grow' HCl.out.keep hw0ob hW0ob hoB).grow hb4)
          have ho4 := blk_below hb4 HCl.out.o
          have o0 := blk_cell ho4 0
          have o1 := blk_cell ho4 1
          simp at o0 o1
          have hob4 := blk_lt ho4
          have HR4 := Lib.hid (own_base (own_below HCl.out.row hb4) hW0X1)
          clear ho4 hb4
          have hrq := Hrq.out
          cases rq
          · have he : yl (g + 1) (k :: (s : Int) :: q) = [(61, (k, D))] := by
              have hn4 : ¬ ((q.length : Int) + 2 < (s : Int)) := by have := HMQ.out; omega
              have hn5 : ¬ ((s : Int) < 2) := by omega
              simp only [yl, hk0, hk1, hn5, hn4, hs2, if_false]
              rw [HD.out, hrq]
              rfl
            obtain ⟨fn, tmps, assign, body, hy, hR⟩ := HY.out pre ⟨61, k, D, A1, c1⟩ W0 _ HI4.out.size HI4.out.j HI4.out.keep ⟨HR4.out, hk, HDr.out⟩ (HI4.out.sp ⟨61, k, D, A1, c1⟩ _ he)
            dsimp only [Yv.enc] at hy
            clear hrq
            gi_wp2_with fail
            refine ⟨fun h => (by cases h), hR.mono ?_⟩
            rintro e W3 (⟨rfl, hJ4, hK⟩ | ⟨rfl, hJx4⟩)
            · gi_wp2_with fail
              refine bodyPost_ret (results_none rfl _ _ _) rfl ?_
              exact ⟨⟨_, rfl⟩, HI4.out.endT ⟨61, k, D, A1, c1⟩ he hJ4⟩
            · gi_wp2_with fail
              refine bodyPost_ret (results_none rfl _ _ _) rfl ?_
              exact ⟨⟨_, rfl⟩, HI4.out.endF ⟨61, k, D, A1, c1⟩ [] he hJx4⟩
          · have he : yl (g + 1) (k :: (s : Int) :: q) = (Yv.op ⟨0, k, D, A1, c1⟩) :: yl g (q.drop (s - 2)) := by
              have hn4 : ¬ ((q.length : Int) + 2 < (s : Int)) := by have := HMQ.out; omega
              have hn5 : ¬ ((s : Int) < 2) := by omega
              simp only [yl, hk0, hk1, hn5, hn4, hs2, if_false]
              rw [HD.out, if_pos hrq]
              rfl
            obtain ⟨fn, tmps, assign, body, hy, hR⟩ := HY.out pre ⟨0, k, D, A1, c1⟩ W0 _ HI4.out.size HI4.out.j HI4.out.keep ⟨HR4.out, hk, HDr.out⟩ (HI4.out.sp ⟨0, k, D, A1, c1⟩ _ he)
            dsimp only [Yv.enc] at hy
            clear hrq
            gi_wp2_with fail
            refine ⟨fun h => (by cases h), hR.mono ?_⟩
            rintro e W3 (⟨rfl, hJ4, hK⟩ | ⟨rfl, hJx4⟩)
            · have hbx := blk_keep hK (.inr rfl) HI4.out.box
              have c3 := blk_cell hbx 0
              simp at c3
              rw [← Hmq.out] at c3
              have f3 := blk_free hbx 0
              have hB3 := blk_lt hbx
              clear hbx o0 o1 hy hR
              gi_wp2_with fail
              have e1 : m - s = (q.drop (s - 2)).length := by rw [List.length_drop]; have := HMQ.out; omega
              have hby9 := HI4.out.dat.cut s (2) HI4.out.cap
              rw [drop2 (by omega)] at hby9
              rw [if_pos (by omega)] at hby9
              have hN := HI4.out.next ⟨0, k, D, A1, c1⟩ he hK hJ4 hB0 hby9 (by simp only [List.length_cons, List.length_drop]; omega) (c' := 2 - s) (by rw [← e1]; have := HI4.out.cap; simp only [List.length_cons] at this; have := HMQ.out; omega) (by have := HI4.out.max; omega)
              rw [e1]
              exact ⟨⟨_, W3, _, _, 2 - s, g, hN⟩, by rw [hN.left, Hlen.out, ← e1]; have := HMQ.out; omega⟩
            · gi_wp2_with fail
              refine bodyPost_ret (results_none rfl _ _ _) rfl ?_
              exact ⟨⟨_, rfl⟩, HI4.out.endF ⟨0, k, D, A1, c1⟩ _ he hJx4⟩
        · have hby := HDb.out
          rw [if_neg hc2] at hby
          have Hby := Lib.hid hby
          clear hby
          have Hlen := Lib.hid hlen0
          clear hsm0 hm0 hm1' hw hlen0
          gi_wp2_with fail
          refine wide_call ((clone_m D (some ⟨bb, off + 2, none⟩) (c' - 2) (s - 2) _ Hby.out HDl.out (by omega)).mono ?_)
          rintro e X2 ⟨v, rfl, hrow, hnil, hb2⟩
          obtain ⟨A1, c1, rfl, hc1, hc1m, hBy⟩ := By.of_own' hrow HDr.out
          have hcl := Cl.of (k := k) hb2 hrow (blk_below hb2 HO1.out) hob1
          have ho2 := blk_below hb2 HO1.out
          have o0' := blk_cell ho2 0
          have o1' := blk_cell ho2 1
          simp at o0' o1'
          have fo' := blk_free ho2 1
          have hob2 := blk_lt ho2
          have HCl := Lib.hid hcl
          clear hrow hnil hBy hcl ho2 c0 q1 o0 o1 hb2 hc1 hc1m
          obtain ⟨rq, hrq⟩ : ∃ rq, rightS (k, D) = rq := ⟨_, rfl⟩
          have Hrq := Lib.hid hrq
          clear hrq
          gi_wp2_with fail
          refine wide_call ((right_any k D A1 c1 _ hk (HCl.out.by HDr.out) HDl62.out).mono ?_)
          rintro e X4 ⟨rfl, hb4⟩
          rw [Hrq.out]
          clear o0' o1' fo' hob2
          have HI4 := Lib.hid ((HI1.out.grow' HCl.out.keep hw0ob hW0ob hoB).grow hb4)
          have ho4 := blk_below hb4 HCl.out.o
          have o0 := blk_cell ho4 0
          have o1 := blk_cell ho4 1
          simp at o0 o1
          have hob4 := blk_lt ho4
          have HR4 := Lib.hid (own_base (own_below HCl.out.row hb4) hW0X1)
          clear ho4 hb4
          have hrq := Hrq.out
          cases rq
          · have he : yl (g + 1) (k :: (s : Int) :: q) = [(61, (k, D))] := by
              have hn4 : ¬ ((q.length : Int) + 2 < (s : Int)) := by have := HMQ.out; omega
              have hn5 : ¬ ((s : Int) < 2) := by omega
              simp only [yl, hk0, hk1, hn5, hn4, hs2, if_false]
              rw [HD.out, hrq]
              rfl
            obtain ⟨fn, tmps, assign, body, hy, hR⟩ := HY.out pre ⟨61, k, D, A1, c1⟩ W0 _ HI4.out.size HI4.out.j HI4.out.keep ⟨HR4.out, hk, HDr.out⟩ (HI4.out.sp ⟨61, k, D, A1, c1⟩ _ he)
            dsimp only [Yv.enc] at hy
            clear hrq
            gi_wp2_with fail
            refine ⟨fun h => (by cases h), hR.mono ?_⟩
            rintro e W3 (⟨rfl, hJ4, hK⟩ | ⟨rfl, hJx4⟩)
            · gi_wp2_with fail
              refine bodyPost_ret (results_none rfl _ _ _) rfl ?_
              exact ⟨⟨_, rfl⟩, HI4.out.endT ⟨61, k, D, A1, c1⟩ he hJ4⟩
            · gi_wp2_with fail
              refine bodyPost_ret (results_none rfl _ _ _) rfl ?_
              exact ⟨⟨_, rfl⟩, HI4.out.endF ⟨61, k, D, A1, c1⟩ [] he hJx4⟩
          · have he : yl (g + 1) (k :: (s : Int) :: q) = (Yv.op ⟨0, k, D, A1, c1⟩) :: yl g (q.drop (s - 2)) := by
              have hn4 : ¬ ((q.length : Int) + 2 < (s : Int)) := by have := HMQ.out; omega
              have hn5 : ¬ ((s : Int) < 2) := by omega
              simp only [yl, hk0, hk1, hn5, hn4, hs2, if_false]
              rw [HD.out, if_pos hrq]
              rfl
            obtain ⟨fn, tmps, assign, body, hy, hR⟩ := HY.out pre ⟨0, k, D, A1, c1⟩ W0 _ HI4.out.size HI4.out.j HI4.out.keep ⟨HR4.out, hk, HDr.out⟩ (HI4.out.sp ⟨0, k, D, A1, c1⟩ _ he)
            dsimp only [Yv.enc] at hy
            clear hrq
            gi_wp2_with fail
            refine ⟨fun h => (by cases h), hR.mono ?_⟩
            rintro e W3 (⟨rfl, hJ4, hK⟩ | ⟨rfl, hJx4⟩)
            · have hbx := blk_keep hK (.inr rfl) HI4.out.box
              have c3 := blk_cell hbx 0
              simp at c3
              rw [← Hmq.out] at c3
              have f3 := blk_free hbx 0
              have hB3 := blk_lt hbx
              clear hbx o0 o1 hy hR
              gi_wp2_with fail
              have e1 : m - s = (q.drop (s - 2)).length := by rw [List.length_drop]; have := HMQ.out; omega
              have hby9 := HI4.out.dat.cut s (c') HI4.out.cap
              rw [drop2 (by omega)] at hby9
              have hN := HI4.out.next ⟨0, k, D, A1, c1⟩ he hK hJ4 hB0 hby9 (by simp only [List.length_cons, List.length_drop]; omega) (c' := c' - s) (by rw [← e1]; have := HI4.out.cap; simp only [List.length_cons] at this; have := HMQ.out; omega) (by have := HI4.out.max; omega)
              rw [e1]
              exact ⟨⟨_, W3, _, _, c' - s, g, hN⟩, by rw [hN.left, Hlen.out, ← e1]; have := HMQ.out; omega⟩
            · gi_wp2_with fail
              refine bodyPost_ret (results_none rfl _ _ _) rfl ?_
              exact ⟨⟨_, rfl⟩, HI4.out.endF ⟨0, k, D, A1, c1⟩ _ he hJx4⟩

end Go.Proofs.Ytjfnnclbfaakkaa

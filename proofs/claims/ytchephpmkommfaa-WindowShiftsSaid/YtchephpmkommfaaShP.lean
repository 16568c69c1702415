/-
  Plain laws behind WindowShifts: tracks and packets that differ by a shift in each direction. No conditions.
-/
import Derived.Test.YtchephpmkommfaaHonS
namespace Go.Proofs.Ytchephpmkommfaa
open Go.RowKit
set_option linter.unusedVariables false
set_option linter.unusedSimpArgs false

/-- b is a, moved by s. -/
def Mv (a b s : Int) : Prop := (b - a - s) % 4294967296 = 0
theorem mv_lss {a b a' b' s : Int} (h : Mv a a' s) (k : Mv b b' s) : lss a' b' = lss a b := by
  unfold Mv at h k
  unfold lss
  omega
theorem mv_aft {a b a' b' s : Int} (h : Mv a a' s) (k : Mv b b' s) : aft a' b' = aft a b := by
  unfold aft
  rw [mv_lss h k]
theorem mv_eq {a b a' b' s : Int} (h : Mv a a' s) (k : Mv b b' s) (ha : 0 ≤ a ∧ a ≤ 4294967295) (hb : 0 ≤ b ∧ b ≤ 4294967295) (ha' : 0 ≤ a' ∧ a' ≤ 4294967295) (hb' : 0 ≤ b' ∧ b' ≤ 4294967295) : (a' == b') = (a == b) := by
  unfold Mv at h k
  rw [Bool.eq_iff_iff]
  simp only [beq_iff_eq]
  constructor <;> intro hh <;> omega
theorem mv_add {a b s : Int} (h : Mv a b s) (r : Int) : Mv ((a + r) % 4294967296) ((b + r) % 4294967296) s := by
  unfold Mv at *
  omega
/-- A side that is another one, moved. -/
structure Sh (x y : Sd) (sn sk : Int) : Prop where
  seen : y.seen = x.seen
  acked : y.acked = x.acked
  size : y.size = x.size
  next : x.seen = true → Mv x.next y.next sn
  ack : x.acked = true → Mv x.ack y.ack sk
  wx : x.wf
  wy : y.wf
theorem Sh.sees {x y : Sd} {sn sk : Int} (h : Sh x y sn sk) (flags seq ack win len seq' ack' : Int) (hs : Mv seq seq' sn) (ha : Mv ack ack' sk) (hr : 0 ≤ ack ∧ ack ≤ 4294967295) (hr' : 0 ≤ ack' ∧ ack' ≤ 4294967295) : Sh (seeS x flags seq ack win len) (seeS y flags seq' ack' win len) sn sk := by
  have he := mv_add hs (room flags len)
  refine ⟨rfl, ?_, rfl, fun _ => ?_, fun hak => ?_, seeS_wf x _ _ _ _ _ h.wx hr, seeS_wf y _ _ _ _ _ h.wy hr'⟩
  · simp only [seeS, h.acked]
  · simp only [seeS, nxt, h.seen]
    cases hx : x.seen
    · simpa using he
    · simp only [Bool.not_true, Bool.false_or, mv_aft he (h.next hx)]
      split
      · exact he
      · exact h.next hx
  · simp only [seeS] at hak ⊢
    cases hf : bits .and .u8 flags 16 != 0
    · simp only [hf, Bool.or_false] at hak
      simpa [hf] using h.ack hak
    · simp only [if_true, nxt, h.acked]
      cases hx : x.acked
      · simpa using ha
      · simp only [Bool.not_true, Bool.false_or, mv_aft ha (h.ack hx)]
        split
        · exact ha
        · exact h.ack hx
theorem sh_bel {x x' y y' : Sd} {s1 s2 : Int} (hx : Sh x x' s1 s2) (hy : Sh y y' s2 s1) (flags seq ack seq' ack' : Int) (hs : Mv seq seq' s1) (ha : Mv ack ack' s2) (h1 : 0 ≤ seq ∧ seq ≤ 4294967295) (h2 : 0 ≤ ack ∧ ack ≤ 4294967295) (h3 : 0 ≤ seq' ∧ seq' ≤ 4294967295) (h4 : 0 ≤ ack' ∧ ack' ≤ 4294967295) : bel x' y' flags seq' ack' = bel x y flags seq ack := by
  unfold bel wthn
  rw [hy.acked, hy.seen, hx.seen, hy.size]
  cases hk : y.acked
  · simp only [Bool.false_eq_true, if_false]
    cases hb : (bits .and .u8 flags 16 != 0) && y.seen
    · simp only [Bool.false_eq_true, if_false]
      cases hxs : x.seen
      · rfl
      · simp only [Bool.true_and]
        exact mv_eq hs (hx.next hxs) h1 hx.wx.1 h3 hx.wy.1
    · simp only [if_true]
      have hys : y.seen = true := by simp at hb; exact hb.2
      exact mv_eq ha (hy.next hys) h2 hy.wx.1 h4 hy.wy.1
  · simp only [if_true]
    rw [mv_lss hs (hy.ack hk)]
theorem sh_fit {y y' : Sd} {s1 s2 : Int} (hy : Sh y y' s2 s1) (seq seq' : Int) (hs : Mv seq seq' s1) : fit y' seq' = fit y seq := by
  unfold fit wthn
  rw [hy.acked, hy.size]
  cases hk : y.acked
  · rfl
  · rw [mv_lss hs (hy.ack hk), mv_lss (hy.ack hk) hs]
theorem sh_zero (sn sk : Int) : Sh sd0 sd0 sn sk := ⟨rfl, rfl, rfl, (fun h => by cases h), (fun h => by cases h), sd0_wf, sd0_wf⟩

end Go.Proofs.Ytchephpmkommfaa

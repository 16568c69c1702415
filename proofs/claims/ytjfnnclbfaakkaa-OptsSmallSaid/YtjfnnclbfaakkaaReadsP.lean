/-
  Plain lemmas: the slices of data of options that are read; how long these are. No conditions.
-/
import Derived.Test.YtjfnnclbfaakkaaPutB
import Derived.Test.YtjfnnclbfaakkaaRefR
import Derived.Test.YtjfnnclbfaakkaaOurs
import Derived.Test.YtjfnnclbfaakkaaSameL
import Derived.Test.YtjfnnclbfaakkaaAgainP
import Derived.Test.YtjfnnclbfaakkaaArgs
namespace Go.Proofs.Ytjfnnclbfaakkaa
open Go.RowKit
set_option linter.unusedVariables false
set_option linter.unusedSimpArgs false

def sliOf : Value → Sli
  | .slice (some a) n c => ⟨some a.block, n, c⟩
  | .slice none n c => ⟨none, n, c⟩
  | _ => ⟨none, 0, 0⟩
theorem own_sli {e : TypeId} {W : World} {n m : Nat} {v : Value} {xs : List Value} (h : W.ownsRow n e 1 v m xs) (hm : m ≤ 2 ^ 20) :
    (sliOf v).Ok ∧ (sliOf v).v = v ∧ (∀ b, (sliOf v).g = some b → n ≤ b ∧ ∃ F, W.heap[b]? = some (.cells F e (0, 0)) ∧ F.size = (sliOf v).c) ∧ (sliOf v).g = v.ownBlock := by
  obtain ⟨hl, (⟨rfl, rfl⟩ | ⟨g, cap, cur, rfl, h1, h2, h3, h4, h5, h6⟩)⟩ := h
  · exact ⟨⟨fun _ => ⟨rfl, rfl⟩, Nat.le_refl _, by decide, by decide⟩, rfl, (fun b hb => by cases hb), rfl⟩
  · refine ⟨⟨(fun h => by cases h), h3, h4, hm⟩, rfl, fun b hb => ?_, rfl⟩
    cases hb
    exact ⟨h1, cur, h2, by rw [h5]; simp [sliOf]⟩
/-- A list of slices, with what Apart wants of them. -/
structure Lz (e : TypeId) (B : Nat) (L : List Sli) (W : World) : Prop where
  lg : Lg L
  bl : ∀ (k : Nat) (s : Sli) (b : Nat), L[k]? = some s → s.g = some b → B ≤ b ∧ ∃ F, W.heap[b]? = some (.cells F e (0, 0)) ∧ F.size = s.c
theorem Lz.bel {e : TypeId} {B : Nat} {L : List Sli} {W W' : World} (h : Lz e B L W) (hb : Below W.heap.size W W') : Lz e B L W' :=
  ⟨h.lg, fun k s b h1 h2 => by
    obtain ⟨h3, F, h4, h5⟩ := h.bl k s b h1 h2
    exact ⟨h3, F, blk_below hb h4, h5⟩⟩
theorem Lz.nil (e : TypeId) (B : Nat) (W : World) : Lz e B [] W := ⟨lg_nil, fun k s b h => by simp at h⟩
theorem Lz.cons {e : TypeId} {B : Nat} {s : Sli} {L : List Sli} {W : World} (hs : s.Ok) (h : Lz e B L W) (hd : ∀ t ∈ L, ∀ b, s.g = some b → t.g ≠ some b) (hl : L.length + 1 ≤ 2 ^ 18) (hb : ∀ b, s.g = some b → B ≤ b ∧ ∃ F, W.heap[b]? = some (.cells F e (0, 0)) ∧ F.size = s.c) : Lz e B (s :: L) W := by
  refine ⟨⟨fun t ht => ?_, fun k j u t b hk hj hu ht => ?_, by simpa using hl⟩, fun k t b hk ht => ?_⟩
  · rcases List.mem_cons.1 ht with rfl | ht
    · exact hs
    · exact h.lg.ok t ht
  · cases k with
    | zero =>
      cases j with
      | zero => rfl
      | succ j =>
        simp at hk hj
        subst hk
        exact absurd ht (hd t (List.mem_of_getElem? hj) b hu)
    | succ k =>
      cases j with
      | zero =>
        simp at hk hj
        subst hj
        exact absurd hu (hd u (List.mem_of_getElem? hk) b ht)
      | succ j =>
        simp at hk hj
        rw [h.lg.dis k j u t b hk hj hu ht]
  · cases k with
    | zero => simp at hk; subst hk; exact hb b ht
    | succ k => exact h.bl k t b (by simpa using hk) ht
/-- The data's slices. -/
def datL (css : List (List Value)) : List Sli := css.map fun cs => sliOf (cs.getD 1 undef)
theorem datL_got {n : Nat} {W : World} {css : List (List Value)} {l : List Op1} (h : Owns n W css l) (ho : css.Pairwise fun a b => ∀ g h, blkOf a = some g → blkOf b = some h → g < h) (hl : ∀ o ∈ l, o.2.length ≤ 2 ^ 20) (hn : l.length ≤ 1000) :
    Lz 5 n (datL css) W ∧ ((datL css).map Sli.v) = css.map (fun cs => cs.getD 1 undef) ∧ ∀ t ∈ datL css, ∀ b, t.g = some b → ∃ cs ∈ css, blkOf cs = some b := by
  induction h with
  | nil => exact ⟨Lz.nil _ _ _, rfl, by simp [datL]⟩
  | @cons cs o css l h1 h2 ih =>
    obtain ⟨v, rfl, hr⟩ := h1.mem
    obtain ⟨i1, i2, i3⟩ := ih ho.tail (fun o ho => hl o (by simp [ho])) (by simp at hn; omega)
    obtain ⟨s1, s2, s3, s4⟩ := own_sli hr (hl o (by simp))
    refine ⟨Lz.cons s1 i1 (fun t ht b hb hb2 => ?_) ?_ s3, ?_, fun t ht b hb => ?_⟩
    · obtain ⟨cs', hc1, hc2⟩ := i3 t ht b hb2
      have := (List.pairwise_cons.1 ho).1 cs' hc1 b b (s4.symm.trans hb) hc2
      omega
    · have := Owns.opvs h2 |>.length
      simp [datL] at hn ⊢
      omega
    · show (sliOf v).v :: (datL css).map Sli.v = v :: css.map _
      rw [s2, i2]
    · rcases List.mem_cons.1 ht with rfl | ht
      · exact ⟨[.int .u8 o.1, v], by simp, s4.symm.trans hb⟩
      · obtain ⟨cs', hc1, hc2⟩ := i3 t ht b hb
        exact ⟨cs', by simp [hc1], hc2⟩
theorem read_small {bs : List Int} (hr : ∀ x ∈ bs, 0 ≤ x ∧ x ≤ 255) : (∀ o ∈ (readS bs).2, o.2.length ≤ 38) ∧ (readS bs).2.length ≤ bs.length := by
  by_cases h0 : (readS bs).1 = 0
  · have e : readS bs = (0, (readS bs).2) := by rw [← h0]
    unfold readS at e
    split at e
    · simp at e
    · obtain ⟨l', zs, h1, h2, _, h4⟩ := read_inv bs.length bs [] _ (Nat.le_refl _) hr e
      rw [List.nil_append] at h1
      have e2 : (readS bs).2 = l' := by
        unfold readS
        rw [if_neg (by assumption)]
        exact h1
      rw [e2]
      refine ⟨fun o ho => right_len (good_right l' [] h4 o ho), ?_⟩
      have := flat_count l'
      rw [h2, List.length_append]
      omega
  · rw [again_err h0]
    simp
end Go.Proofs.Ytjfnnclbfaakkaa

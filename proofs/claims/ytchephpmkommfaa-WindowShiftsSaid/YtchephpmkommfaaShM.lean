/-
  Plain laws behind WindowShifts: the packets of the same words from other first numbers are the same ones, moved. No conditions.
-/
import Derived.Test.YtchephpmkommfaaPkts
namespace Go.Proofs.Ytchephpmkommfaa
open Go.RowKit
set_option linter.unusedVariables false
set_option linter.unusedSimpArgs false

/-- One packet and the same one, moved. -/
structure PkR (d : Int) (p q : Pk) (s0 s1 : Int) : Prop where
  fl : q.fl = p.fl
  win : q.win = p.win
  lw : q.lw = p.lw
  d01 : d = 0 ∨ d = 1
  sq : Mv p.sq q.sq (if d = 0 then s0 else s1)
  ak : Mv p.ak q.ak (if d = 0 then s1 else s0)
/-- Two conversations of the same words. -/
structure MoR (M N : Mo) (s0 s1 : Int) : Prop where
  ds : N.ds = M.ds
  l1 : M.ds.length = M.ps.length
  l2 : N.ps.length = M.ps.length
  n0 : Mv M.n0 N.n0 s0
  n1 : Mv M.n1 N.n1 s1
  rel : ∀ (i : Nat) (d : Int) (p q : Pk), M.ds[i]? = some d → M.ps[i]? = some p → N.ps[i]? = some q → PkR d p q s0 s1
theorem rel_snoc {ds : List Int} {ps qs : List Pk} {s0 s1 : Int} (l1 : ds.length = ps.length) (l2 : qs.length = ps.length) (h : ∀ (i : Nat) (d : Int) (p q : Pk), ds[i]? = some d → ps[i]? = some p → qs[i]? = some q → PkR d p q s0 s1) {d : Int} {p q : Pk} (hn : PkR d p q s0 s1) :
    ∀ (i : Nat) (d' : Int) (p' q' : Pk), (ds ++ [d])[i]? = some d' → (ps ++ [p])[i]? = some p' → (qs ++ [q])[i]? = some q' → PkR d' p' q' s0 s1 := by
  intro i d' p' q' h1 h2 h3
  rcases Nat.lt_or_ge i ps.length with hi | hi
  · rw [List.getElem?_append_left (by omega)] at h1 h2 h3
    exact h i d' p' q' h1 h2 h3
  · rcases Nat.eq_or_lt_of_le hi with he | hlt
    · rw [List.getElem?_append_right (by omega)] at h1 h2 h3
      have e1 : i - ds.length = 0 := by omega
      have e2 : i - ps.length = 0 := by omega
      have e3 : i - qs.length = 0 := by omega
      rw [e1] at h1
      rw [e2] at h2
      rw [e3] at h3
      simp at h1 h2 h3
      subst h1 h2 h3
      exact hn
    · rw [List.getElem?_eq_none (by simp; omega)] at h2
      cases h2
theorem MoR.step {M N : Mo} {s0 s1 : Int} (h : MoR M N s0 s1) (x : Wd) : MoR (M.step x) (N.step x) s0 s1 := by
  unfold Mo.step
  by_cases hd : bits .and .u8 x.way 1 = 0
  · rw [if_pos hd, if_pos hd]
    refine ⟨by simp [h.ds], by simp [h.l1], by simp [h.l2], ?_, h.n1, ?_⟩
    · dsimp only
      split
      · exact mv_add h.n0 _
      · exact h.n0
    · dsimp only
      exact rel_snoc h.l1 h.l2 h.rel ⟨rfl, rfl, rfl, .inl rfl, mv_add h.n0 _, h.n1⟩
  · rw [if_neg hd, if_neg hd]
    refine ⟨by simp [h.ds], by simp [h.l1], by simp [h.l2], h.n0, ?_, ?_⟩
    · dsimp only
      split
      · exact mv_add h.n1 _
      · exact h.n1
    · dsimp only
      exact rel_snoc h.l1 h.l2 h.rel ⟨rfl, rfl, rfl, .inr rfl, mv_add h.n1 _, h.n0⟩
theorem mor_fold (ws : List Wd) {M N : Mo} {s0 s1 : Int} (h : MoR M N s0 s1) : MoR (ws.foldl Mo.step M) (ws.foldl Mo.step N) s0 s1 := by
  induction ws generalizing M N with
  | nil => exact h
  | cons x r ih => exact ih (h.step x)
theorem mo_moved (css : List (List Value)) (f0 f1 g0 g1 : Int) : MoR (mo css f0 f1) (mo css g0 g1) (g0 - f0) (g1 - f1) :=
  mor_fold _ ⟨rfl, rfl, rfl, by unfold Mv; simp, by unfold Mv; simp, fun i d p q h => by simp at h⟩
/-- What a conversation's packets are like. -/
structure PkOk (p : Pk) : Prop where
  fl : 0 ≤ p.fl ∧ p.fl ≤ 255
  sq : 0 ≤ p.sq ∧ p.sq ≤ 4294967295
  ak : 0 ≤ p.ak ∧ p.ak ≤ 4294967295
  win : 0 ≤ p.win ∧ p.win ≤ 65535
  lw : 0 ≤ p.lw ∧ p.lw ≤ 65535
theorem PkOk.fa {p : Pk} (h : PkOk p) : Fa (spk p.fl p.sq p.ak p.win p.lw) p.fl p.sq p.ak p.win p.lw := fa_spk _ _ _ _ _ h.fl h.sq h.ak h.win h.lw
structure MoOk (M : Mo) : Prop where
  n0 : 0 ≤ M.n0 ∧ M.n0 ≤ 4294967295
  n1 : 0 ≤ M.n1 ∧ M.n1 ≤ 4294967295
  ps : ∀ p ∈ M.ps, PkOk p
theorem MoOk.step {M : Mo} (h : MoOk M) (x : Wd) (hw : 0 ≤ x.win ∧ x.win ≤ 65535) (hl : 0 ≤ x.lw ∧ x.lw ≤ 65535) : MoOk (M.step x) := by
  have h0 := h.n0
  have h1 := h.n1
  unfold Mo.step
  by_cases hd : bits .and .u8 x.way 1 = 0
  · rw [if_pos hd]
    refine ⟨by dsimp only; split <;> omega, h.n1, fun p hp => ?_⟩
    rcases List.mem_append.1 hp with hp | hp
    · exact h.ps p hp
    · rw [List.mem_singleton.1 hp]
      exact ⟨flg_range _, by dsimp only; omega, h.n1, hw, hl⟩
  · rw [if_neg hd]
    refine ⟨h.n0, by dsimp only; split <;> omega, fun p hp => ?_⟩
    rcases List.mem_append.1 hp with hp | hp
    · exact h.ps p hp
    · rw [List.mem_singleton.1 hp]
      exact ⟨flg_range _, by dsimp only; omega, h.n0, hw, hl⟩
theorem mook_fold (ws : List Wd) (hw : ∀ x ∈ ws, (0 ≤ x.win ∧ x.win ≤ 65535) ∧ (0 ≤ x.lw ∧ x.lw ≤ 65535)) {M : Mo} (h : MoOk M) : MoOk (ws.foldl Mo.step M) := by
  induction ws generalizing M with
  | nil => exact h
  | cons x r ih => exact ih (fun y hy => hw y (List.mem_cons_of_mem _ hy)) (h.step x (hw x (by simp)).1 (hw x (by simp)).2)
theorem wd_ok {cs : List Value} (h : All2 [some .u8, some .u16, some .i8, some .u16] cs) : (0 ≤ (wd cs).win ∧ (wd cs).win ≤ 65535) ∧ (0 ≤ (wd cs).lw ∧ (wd cs).lw ≤ 65535) := by
  obtain ⟨a, r0, rfl, wa, ha⟩ := all2_int h
  obtain ⟨b, r1, rfl, wb, hb⟩ := all2_int ha
  obtain ⟨c, r2, rfl, wc, hc⟩ := all2_int hb
  obtain ⟨d, r3, rfl, wd', hd⟩ := all2_int hc
  obtain rfl := all2_nil hd
  exact ⟨bounds_u16 wd', bounds_u16 wb⟩
theorem mo_ok (css : List (List Value)) (f0 f1 : Int) (h0 : 0 ≤ f0 ∧ f0 ≤ 4294967295) (h1 : 0 ≤ f1 ∧ f1 ≤ 4294967295) (h : ∀ x ∈ css, All2 [some .u8, some .u16, some .i8, some .u16] x) : MoOk (mo css f0 f1) :=
  mook_fold _ (fun x hx => by obtain ⟨cs, hcs, rfl⟩ := List.mem_map.1 hx; exact wd_ok (h cs hcs)) ⟨h0, h1, fun p hp => by simp at hp⟩

end Go.Proofs.Ytchephpmkommfaa

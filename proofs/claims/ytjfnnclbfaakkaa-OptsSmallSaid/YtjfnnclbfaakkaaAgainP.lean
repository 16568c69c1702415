/-
  Plain laws, of no program: what Read gives of bytes, Write writes again. Conditions: the bytes are bytes.
-/
import Derived.Test.YtjfnnclbfaakkaaWrite
namespace Go.Proofs.Ytjfnnclbfaakkaa
set_option linter.unusedVariables false
set_option linter.unusedSimpArgs false

/-- The bytes of options. -/
def flat (l : List Op1) : List Int := (l.map bytesO).flatten
theorem flat_cons (o : Op1) (l : List Op1) : flat (o :: l) = bytesO o ++ flat l := rfl
theorem flat_nil : flat [] = [] := rfl
/-- Right options that do not exclude one another, nor those before. -/
def Good : List Op1 → List Op1 → Prop
  | _, [] => True
  | seen, o :: r => rightS o = true ∧ (grp o.1 = 0 ∨ num seen (grp o.1) = 0) ∧ Good (seen ++ [o]) r

theorem mx_ge : ∀ (d : List Int) (m : Int), m ≤ mx m d ∧ ∀ x ∈ d, x ≤ mx m d
  | [], m => ⟨Int.le_refl _, by simp⟩
  | x :: r, m => by
    unfold mx
    obtain ⟨h1, h2⟩ := mx_ge r (if m < x then x else m)
    have h3 : m ≤ (if m < x then x else m) ∧ x ≤ (if m < x then x else m) := by
      split <;> omega
    refine ⟨by omega, fun y hy => ?_⟩
    rcases List.mem_cons.1 hy with rfl | hy
    · omega
    · exact h2 y hy
theorem zeros_of {r : List Int} (h : ¬ 0 < mx 0 r) (hr : ∀ x ∈ r, 0 ≤ x ∧ x ≤ 255) : ∀ x ∈ r, x = 0 := fun x hx => by
  have h1 := (mx_ge r 0).2 x hx
  have h2 := (hr x hx).1
  omega

theorem any_num {acc : List Op1} {j : Int} (h : ¬ acc.any (fun p => grp p.1 == j) = true) : num acc j = 0 := by
  unfold num
  have : acc.filter (fun p => grp p.1 == j) = [] := by
    rw [List.filter_eq_nil_iff]
    intro p hp hq
    exact h (List.any_eq_true.2 ⟨p, hp, hq⟩)
  rw [this]
  rfl
theorem num_any {acc : List Op1} {j : Int} (h : num acc j = 0) : acc.any (fun p => grp p.1 == j) = false := by
  unfold num at h
  rw [List.any_eq_false]
  intro p hp hq
  have : p ∈ acc.filter (fun p => grp p.1 == j) := List.mem_filter.2 ⟨hp, hq⟩
  have h2 : acc.filter (fun p => grp p.1 == j) = [] := List.length_eq_zero_iff.1 (by omega)
  rw [h2] at this
  cases this
theorem grp_nonneg (k : Int) : 0 ≤ grp k := by
  rcases grp_cases k with h | h | h | h <;> omega

theorem fd_zero (acc : List Op1) (o : Op1) (r : List (Int × Op1)) (l : List Op1) (h : fd acc ((0, o) :: r) = (0, l)) : (grp o.1 = 0 ∨ num acc (grp o.1) = 0) ∧ fd (acc ++ [o]) r = (0, l) := by
  rw [fd, if_neg (by decide)] at h
  split at h
  · cases h
  · rename_i h1
    refine ⟨?_, h⟩
    by_cases h2 : 0 < grp o.1
    · exact .inr (any_num fun h3 => h1 ⟨h2, h3⟩)
    · exact .inl (by have := grp_nonneg o.1; omega)
theorem fd_bad (acc : List Op1) (e : Int) (o : Op1) (r : List (Int × Op1)) (l : List Op1) (he : e ≠ 0) : fd acc ((e, o) :: r) ≠ (0, l) := by
  rw [fd, if_pos he]
  intro h
  cases h
  exact he rfl

theorem read_inv : ∀ (f : Nat) (bs : List Int) (acc l : List Op1), bs.length ≤ f → (∀ x ∈ bs, 0 ≤ x ∧ x ≤ 255) → fd acc (yl f bs) = (0, l) → ∃ l' zs, l = acc ++ l' ∧ bs = flat l' ++ zs ∧ (∀ z ∈ zs, z = 0) ∧ Good acc l'
  | 0, bs, acc, l, hf, hr, h => by
    have : bs = [] := List.length_eq_zero_iff.1 (by omega)
    subst this
    simp only [yl, fd] at h
    cases h
    exact ⟨[], [], by simp, rfl, by simp, trivial⟩
  | f + 1, [], acc, l, hf, hr, h => by
    simp only [yl, fd] at h
    cases h
    exact ⟨[], [], by simp, rfl, by simp, trivial⟩
  | f + 1, k :: r, acc, l, hf, hr, h => by
    unfold yl at h
    have hr' : ∀ x ∈ r, 0 ≤ x ∧ x ≤ 255 := fun x hx => hr x (by simp [hx])
    split at h
    · rename_i hk
      split at h
      · exact absurd h (fd_bad _ _ _ _ _ (by decide))
      · rename_i hm
        rw [fd] at h
        cases h
        exact ⟨[], k :: r, by simp, rfl, fun z hz => by
          rcases List.mem_cons.1 hz with rfl | hz
          · exact hk
          · exact zeros_of (hk ▸ hm) hr' z hz, trivial⟩
    · rename_i hk0
      split at h
      · rename_i hk1
        subst hk1
        obtain ⟨h1, h2⟩ := fd_zero _ _ _ _ h
        obtain ⟨l', zs, e1, e2, e3, e4⟩ := read_inv f r _ l (by simp at hf; omega) hr' h2
        exact ⟨(1, []) :: l', zs, by rw [e1]; simp, by rw [flat_cons, e2]; rfl, e3, rfl, h1, e4⟩
      · rename_i hk1
        split at h
        · exact absurd h (fd_bad _ _ _ _ _ (by decide))
        · rename_i n q
          split at h
          · exact absurd h (fd_bad _ _ _ _ _ (by decide))
          · rename_i hn2
            split at h
            · exact absurd h (fd_bad _ _ _ _ _ (by decide))
            · rename_i hnq
              split at h
              · rename_i hq
                obtain ⟨h1, h2⟩ := fd_zero _ _ _ _ h
                obtain ⟨l', zs, e1, e2, e3, e4⟩ := read_inv f (q.drop (n - 2).toNat) _ l (by simp at hf ⊢; omega) (fun x hx => hr' x (by simp [List.mem_of_mem_drop hx])) h2
                refine ⟨(k, q.take (n - 2).toNat) :: l', zs, by rw [e1]; simp, ?_, e3, hq, h1, e4⟩
                rw [flat_cons]
                have hlen : ((q.take (n - 2).toNat).length : Int) + 2 = n := by
                  rw [List.length_take]
                  omega
                have hb : bytesO (k, q.take (n - 2).toNat) = k :: n :: q.take (n - 2).toNat := by
                  unfold bytesO
                  rw [if_neg hk1]
                  show k :: (((q.take (n - 2).toNat).length : Int) + 2) :: _ = _
                  rw [hlen]
                rw [hb]
                show k :: n :: q = k :: n :: (q.take (n - 2).toNat ++ flat l' ++ zs)
                rw [List.append_assoc, ← e2, List.take_append_drop]
              · exact absurd h (fd_bad _ _ _ _ _ (by decide))

theorem flat_len {o : Op1} : 1 ≤ (bytesO o).length := by simp [bytesO]
theorem flat_count : ∀ (l : List Op1), l.length ≤ (flat l).length
  | [] => by simp [flat]
  | o :: r => by
    rw [flat_cons, List.length_append, List.length_cons]
    have := flat_count r
    have := flat_len (o := o)
    omega
theorem write_good : ∀ (l seen : List Op1) (out : List Int), Good seen l → out.length + (flat l).length ≤ 40 → wf out seen false l = (0, padS (out ++ flat l))
  | [], seen, out, h, hl => by
    rw [wf, if_neg (by decide), flat_nil, List.append_nil, if_neg (by rw [flat_nil] at hl; simp at hl; omega)]
  | o :: r, seen, out, ⟨h1, h2, h3⟩, hl => by
    rw [flat_cons, List.length_append] at hl
    have e : (false || (decide (0 < grp o.1) && decide (0 < num seen (grp o.1)))) = false := by
      rcases h2 with h2 | h2
      · rw [h2]; rfl
      · rw [h2]; simp
    rw [wf_step h1, e, if_neg (by omega), write_good r (seen ++ [o]) (out ++ bytesO o) h3 (by rw [List.length_append]; omega), flat_cons, List.append_assoc]
theorem good_right : ∀ (l seen : List Op1), Good seen l → ∀ o ∈ l, rightS o = true
  | [], _, _ => by simp
  | o :: r, seen, ⟨h1, _, h3⟩ => fun p hp => by
    rcases List.mem_cons.1 hp with rfl | hp
    · exact h1
    · exact good_right r _ h3 p hp
theorem pad_len (d : List Int) (h : d.length ≤ 40) : (padS d).length ≤ 40 := by
  unfold padS
  rw [List.length_append, List.length_replicate]
  omega
theorem getD_zeros {d zs : List Int} (hz : ∀ z ∈ zs, z = 0) (i : Nat) : (d ++ zs).getD i 0 = d.getD i 0 := by
  rw [List.getD_eq_getElem?_getD, List.getD_eq_getElem?_getD]
  rcases Nat.lt_or_ge i d.length with h | h
  · rw [List.getElem?_append_left h]
  · rw [List.getElem?_append_right h, List.getElem?_eq_none h]
    cases hz' : zs[i - d.length]? with
    | none => rfl
    | some z => rw [hz z (List.mem_of_getElem? hz')]; rfl

/-- THE PLAIN LAW of OptsAgain. -/
theorem again_plain {bs : List Int} (hr : ∀ x ∈ bs, 0 ≤ x ∧ x ≤ 255) (h0 : (readS bs).1 = 0) :
    (readS bs).2.length ≤ 40 ∧ (∀ o ∈ (readS bs).2, o.2.length ≤ 38) ∧ (writeS (readS bs).2).1 = 0 ∧ (writeS (readS bs).2).2.length ≤ 40 ∧ ∀ i, bs.getD i 0 = (writeS (readS bs).2).2.getD i 0 := by
  obtain ⟨l, hl⟩ : ∃ l, (readS bs).2 = l := ⟨_, rfl⟩
  have hrd : readS bs = (0, l) := Prod.ext h0 hl
  rw [hrd]
  unfold readS at hrd
  split at hrd
  · cases hrd
  · rename_i h40
    obtain ⟨l', zs, e1, e2, e3, e4⟩ := read_inv _ _ _ _ (Nat.le_refl _) hr hrd
    rw [List.nil_append] at e1
    subst e1
    have hlen : (flat l).length + zs.length ≤ 40 := by
      have := congrArg List.length e2
      rw [List.length_append] at this
      omega
    have hw : writeS l = (0, padS (flat l)) := by
      have := write_good l [] [] e4 (by simp; omega)
      simpa [writeS] using this
    have hc := flat_count l
    refine ⟨by show l.length ≤ 40; omega, fun o ho => right_len (good_right l [] e4 o ho), by rw [hw], by rw [hw]; exact pad_len _ (by omega), fun i => ?_⟩
    rw [hw]
    show bs.getD i 0 = (padS (flat l)).getD i 0
    rw [e2, getD_zeros e3]
    unfold padS
    rw [getD_zeros (fun z hz => (List.mem_replicate.1 hz).2)]
theorem again_err {bs : List Int} (h0 : (readS bs).1 ≠ 0) : (readS bs).2 = [] := by
  unfold readS at h0 ⊢
  split
  · rfl
  · rename_i h
    rw [if_neg h] at h0
    have : ∀ (xs : List (Int × Op1)) (acc : List Op1), (fd acc xs).1 ≠ 0 → (fd acc xs).2 = [] := by
      intro xs
      induction xs with
      | nil => intro acc h; exact absurd rfl h
      | cons x r ih =>
        intro acc h
        obtain ⟨e, o⟩ := x
        unfold fd at h ⊢
        split
        · rfl
        · rename_i h1
          rw [if_neg h1] at h
          split
          · rfl
          · rename_i h2
            rw [if_neg h2] at h
            exact ih _ h
    exact this _ _ h0

end Go.Proofs.Ytjfnnclbfaakkaa

/-
  Plain laws, of no program: what is written of good options is read as they were; cut bytes; options that are found. Conditions: those of the theorems.
-/
import Derived.Test.YtjfnnclbfaakkaaMadeP
namespace Go.Proofs.Ytjfnnclbfaakkaa
set_option linter.unusedVariables false
set_option linter.unusedSimpArgs false

theorem mx_zeros : ∀ (d : List Int) (m : Int), 0 ≤ m → (∀ x ∈ d, x = 0) → mx m d = m
  | [], m, _, _ => rfl
  | x :: r, m, hm, h => by
    have := h x (by simp)
    unfold mx
    rw [if_neg (by omega)]
    exact mx_zeros r m hm fun y hy => h y (by simp [hy])
theorem right_ne0 {o : Op1} (h : rightS o = true) : o.1 ≠ 0 := by
  intro h0
  unfold rightS at h
  rw [if_pos (.inl h0), h0] at h
  simp at h
theorem right_nop {o : Op1} (h : rightS o = true) (h1 : o.1 = 1) : o.2 = [] := by
  unfold rightS at h
  rw [if_pos (.inr h1)] at h
  simpa [h1] using h
theorem yl_opt {o : Op1} (h : rightS o = true) (f : Nat) (rest : List Int) : yl (f + 1) (bytesO o ++ rest) = (0, o) :: yl f rest := by
  obtain ⟨k, d⟩ := o
  have h0 : k ≠ 0 := right_ne0 h
  unfold bytesO
  by_cases h1 : k = 1
  · have hd : d = [] := right_nop h h1
    subst h1 hd
    rw [if_pos rfl]
    show yl (f + 1) (1 :: rest) = _
    conv => lhs; unfold yl
    rw [if_neg (by decide), if_pos rfl]
  · rw [if_neg h1]
    show yl (f + 1) (k :: ((d.length : Int) + 2) :: (d ++ rest)) = _
    conv => lhs; unfold yl
    rw [if_neg h0, if_neg h1]
    have e : (((d.length : Int) + 2) - 2).toNat = d.length := by omega
    simp only [e, List.take_left, List.drop_left]
    rw [if_neg (by omega), if_neg (by simp only [List.length_append]; omega), if_pos h]
/-- What is read of good options with more behind them. -/
theorem read_pre : ∀ (l acc : List Op1) (rest : List Int) (f : Nat), Good acc l → (flat l ++ rest).length ≤ f → ∃ f', rest.length ≤ f' ∧ fd acc (yl f (flat l ++ rest)) = fd (acc ++ l) (yl f' rest)
  | [], acc, rest, f, _, hf => ⟨f, by simpa [flat_nil] using hf, by rw [flat_nil, List.nil_append, List.append_nil]⟩
  | o :: r, acc, rest, f, ⟨h1, h2, h3⟩, hf => by
    rw [flat_cons, List.append_assoc] at hf ⊢
    have hl := flat_len (o := o)
    rw [List.length_append] at hf
    cases f with
    | zero => omega
    | succ f =>
      rw [yl_opt h1]
      have hok : grp o.1 = 0 ∨ cnt acc (grp o.1) = 0 := by
        rcases h2 with h2 | h2
        · exact .inl h2
        · right
          unfold cnt
          rw [num_any h2]
          rfl
      rw [fd_ok acc o _ hok]
      obtain ⟨f', h4, h5⟩ := read_pre r (acc ++ [o]) rest f h3 (by omega)
      exact ⟨f', h4, by rw [h5, List.append_assoc]; rfl⟩
theorem yl_zeros : ∀ (f : Nat) (zs : List Int), (∀ z ∈ zs, z = 0) → yl f zs = []
  | 0, _, _ => by simp [yl]
  | f + 1, [], _ => by simp [yl]
  | f + 1, z :: r, h => by
    have h0 := h z (by simp)
    subst h0
    unfold yl
    rw [if_pos rfl, if_neg]
    rw [mx_zeros r 0 (by decide) fun y hy => h y (by simp [hy])]
    decide
theorem read_good {l : List Op1} (h : Good [] l) {zs : List Int} (hz : ∀ z ∈ zs, z = 0) (h40 : (flat l ++ zs).length ≤ 40) : readS (flat l ++ zs) = (0, l) := by
  unfold readS
  rw [if_neg (by omega)]
  obtain ⟨f', _, e⟩ := read_pre l [] zs _ h (Nat.le_refl _)
  rw [e, yl_zeros _ _ hz, fd, List.nil_append]
/-- Behind good options an option that is cut: nothing is read. -/
theorem read_cut {l : List Op1} (h : Good [] l) {o : Op1} (ho : rightS o = true) {m : Nat} (h0 : 0 < m) (hm : m < (bytesO o).length) (h40 : (flat l ++ (bytesO o).take m).length ≤ 40) : readS (flat l ++ (bytesO o).take m) = (60, []) := by
  unfold readS
  rw [if_neg (by omega)]
  obtain ⟨f', h1, e⟩ := read_pre l [] ((bytesO o).take m) _ h (Nat.le_refl _)
  rw [e]
  have hf : 1 ≤ f' := by rw [List.length_take] at h1; omega
  obtain ⟨f, rfl⟩ : ∃ f, f' = f + 1 := ⟨f' - 1, by omega⟩
  obtain ⟨k, d⟩ := o
  have hk0 : k ≠ 0 := right_ne0 ho
  unfold bytesO at hm ⊢
  by_cases hk1 : k = 1
  · rw [if_pos hk1] at hm
    simp at hm
    omega
  · rw [if_neg hk1] at hm ⊢
    obtain ⟨j, rfl⟩ : ∃ j, m = j + 1 := ⟨m - 1, by omega⟩
    rw [List.take_succ_cons]
    have : yl (f + 1) (k :: List.take j (((d.length : Int) + 2) :: d)) = [(60, (0, []))] := by
      unfold yl
      rw [if_neg hk0, if_neg hk1]
      cases j with
      | zero => rfl
      | succ j =>
        rw [List.take_succ_cons]
        simp only
        simp only [List.length_cons] at hm
        rw [if_neg (by omega), if_pos (by simp only [List.length_take]; omega)]
    show fd _ (yl (f + 1) (k :: List.take j (((d.length : Int) + 2) :: d))) = _
    rw [this, fd_err _ _ _ _ (by decide)]
/-- Behind good options one that is not right, of a kind that has a length: nothing is read. -/
theorem read_wrong {l : List Op1} (h : Good [] l) {o : Op1} (ho : rightS o = false) (hk0 : o.1 ≠ 0) (hk1 : o.1 ≠ 1) (h40 : (flat l ++ bytesO o).length ≤ 40) : readS (flat l ++ bytesO o) = (61, []) := by
  unfold readS
  rw [if_neg (by omega)]
  obtain ⟨f', h1, e⟩ := read_pre l [] (bytesO o) _ h (Nat.le_refl _)
  rw [e]
  have hl := flat_len (o := o)
  obtain ⟨f, rfl⟩ : ∃ f, f' = f + 1 := ⟨f' - 1, by omega⟩
  obtain ⟨k, d⟩ := o
  have : yl (f + 1) (bytesO (k, d)) = [(61, (k, d))] := by
    unfold bytesO
    rw [if_neg hk1]
    show yl (f + 1) (k :: ((d.length : Int) + 2) :: d) = _
    unfold yl
    have e : (((d.length : Int) + 2) - 2).toNat = d.length := by omega
    simp only [e, List.take_length, List.drop_length]
    rw [if_neg hk0, if_neg hk1, if_neg (by omega), if_neg (by omega), if_neg (by rw [ho]; decide)]
  rw [this, fd_err _ _ _ _ (by decide)]

theorem pad_form (d : List Int) : ∃ zs, padS d = d ++ zs ∧ (∀ z ∈ zs, z = 0) ∧ (padS d).length % 4 = 0 ∧ zs.length < 4 := by
  refine ⟨_, rfl, fun z hz => (List.mem_replicate.1 hz).2, ?_, ?_⟩
  · unfold padS
    rw [List.length_append, List.length_replicate]
    omega
  · rw [List.length_replicate]
    omega
/-- THE PLAIN LAW of OptsBack. -/
theorem back_plain {l : List Op1} (h : Good [] l) (h40 : (flat l).length ≤ 40) :
    writeS l = (0, padS (flat l)) ∧ readS (padS (flat l)) = (0, l) ∧ (padS (flat l)).length % 4 = 0 ∧ (flat l).length ≤ (padS (flat l)).length ∧ (padS (flat l)).length < (flat l).length + 4 ∧ (padS (flat l)).length ≤ 40 ∧ (∀ i, (flat l).length ≤ i → (padS (flat l)).getD i 0 = 0) := by
  have hw : writeS l = (0, padS (flat l)) := by
    have := write_good l [] [] h (by simp; omega)
    simpa [writeS] using this
  obtain ⟨zs, e, hz, h4, h5⟩ := pad_form (flat l)
  have hp := pad_len _ h40
  refine ⟨hw, ?_, h4, ?_, ?_, hp, fun i hi => ?_⟩
  · rw [e] at hp ⊢
    exact read_good h hz hp
  · rw [e, List.length_append]; omega
  · rw [e, List.length_append]; omega
  · rw [e, getD_zeros hz, List.getD_eq_getElem?_getD, List.getElem?_eq_none hi]
    rfl

theorem good_take : ∀ (l acc : List Op1) (n : Nat), Good acc l → Good acc (l.take n)
  | [], acc, n, _ => by rw [List.take_nil]; exact trivial
  | o :: r, acc, 0, _ => trivial
  | o :: r, acc, n + 1, ⟨h1, h2, h3⟩ => ⟨h1, h2, good_take r _ n h3⟩
theorem flat_append (a b : List Op1) : flat (a ++ b) = flat a ++ flat b := by simp [flat]
theorem flat_take_succ {l : List Op1} {n : Nat} {o : Op1} (h : l[n]? = some o) : flat (l.take (n + 1)) = flat (l.take n) ++ bytesO o := by
  rw [List.take_add_one, h]
  exact flat_snoc _ _
theorem flat_split {l : List Op1} {n : Nat} {o : Op1} (h : l[n]? = some o) : flat l = flat (l.take n) ++ (bytesO o ++ flat (l.drop (n + 1))) := by
  conv => lhs; rw [← List.take_append_drop n l]
  have hlt := (List.getElem?_eq_some_iff.1 h).1
  rw [flat_append, List.drop_eq_getElem_cons hlt, flat_cons]
  have : l[n] = o := (List.getElem?_eq_some_iff.1 h).2
  rw [this]
/-- THE PLAIN LAW of OptsCut. -/
theorem cut_plain {l : List Op1} (hg : Good [] l) (h40 : (flat l).length ≤ 40) {k n : Nat} (hk : k ≤ (flat l).length) (hn : n ≤ l.length) (hx : n = l.length ∨ k ≤ (flat (l.take n)).length) (hprev : n = 0 ∨ (flat (l.take (n - 1))).length < k) :
    readS ((padS (flat l)).take k) = if (flat (l.take n)).length = k then (0, l.take n) else (60, []) := by
  have e : (padS (flat l)).take k = (flat l).take k := by
    obtain ⟨zs, e, _⟩ := pad_form (flat l)
    rw [e, List.take_append_of_le_length hk]
  rw [e]
  rcases hprev with rfl | hprev
  · have hk0 : k = 0 := by
      rcases hx with hx | hx
      · have : l = [] := List.length_eq_zero_iff.1 hx.symm
        subst this
        simpa [flat_nil] using hk
      · simpa [flat_nil] using hx
    subst hk0
    rfl
  · cases n with
    | zero =>
      simp only [Nat.zero_sub, List.take_zero, flat_nil, List.length_nil] at hprev
      rcases hx with hx | hx
      · have : l = [] := List.length_eq_zero_iff.1 hx.symm
        subst this
        simp [flat_nil] at hk
        omega
      · simp [flat_nil] at hx
        omega
    | succ m =>
      rw [Nat.add_sub_cancel] at hprev
      obtain ⟨o, ho⟩ : ∃ o, l[m]? = some o := ⟨l[m], List.getElem?_eq_getElem (by omega)⟩
      have e1 := flat_split ho
      have e2 := flat_take_succ ho
      have hkle : k ≤ (flat (l.take (m + 1))).length := by
        rcases hx with hx | hx
        · rw [hx, List.take_length]
          exact hk
        · exact hx
      have hG := good_take l [] m hg
      have hor : rightS o = true := good_right l [] hg o (List.mem_of_getElem? ho)
      have hlen2 := congrArg List.length e2
      rw [List.length_append] at hlen2
      by_cases hkk : (flat (l.take (m + 1))).length = k
      · rw [if_pos hkk]
        have : (flat l).take k = flat (l.take (m + 1)) ++ [] := by
          rw [e1, ← List.append_assoc, ← e2, ← hkk, List.take_left, List.append_nil]
        rw [this]
        exact read_good (good_take l [] _ hg) (by simp) (by rw [List.append_nil]; omega)
      · rw [if_neg hkk]
        have : (flat l).take k = flat (l.take m) ++ (bytesO o).take (k - (flat (l.take m)).length) := by
          rw [e1, List.take_append, List.take_of_length_le (by omega), List.take_append_of_le_length (by omega)]
        rw [this]
        refine read_cut hG hor (by omega) (by omega) ?_
        rw [List.length_append, List.length_take]
        omega

/-! ### options that are found -/
theorem good_num : ∀ (l seen : List Op1) (g : Int), Good seen l → 0 < g → num seen g ≤ 1 → num (seen ++ l) g ≤ 1
  | [], seen, g, _, _, h => by rw [List.append_nil]; exact h
  | o :: r, seen, g, ⟨h1, h2, h3⟩, hg, h => by
    have := good_num r (seen ++ [o]) g h3 hg (by
      rw [num_push]
      split
      · rename_i e
        subst e
        omega
      · exact h)
    rwa [List.append_assoc] at this
theorem two_num {l : List Op1} {g : Int} {o p : Op1} (ho : o ∈ l) (hp : p ∈ l) (hne : o ≠ p) (ho1 : grp o.1 = g) (hp1 : grp p.1 = g) : 2 ≤ num l g := by
  unfold num
  have h1 : o ∈ l.filter fun p => grp p.1 == g := List.mem_filter.2 ⟨ho, by simpa using ho1⟩
  have h2 : p ∈ l.filter fun p => grp p.1 == g := List.mem_filter.2 ⟨hp, by simpa using hp1⟩
  rcases hl : l.filter fun p => grp p.1 == g with _ | ⟨a, _ | ⟨b, r⟩⟩
  · rw [hl] at h1; cases h1
  · rw [hl] at h1 h2
    simp at h1 h2
    exact absurd (h1.trans h2.symm) hne
  · rw [hl]
    simp
    omega
/-- What Find returns. -/
def findS (l : List Op1) (kind : Int) : Option Op1 := l.find? fun o => o.1 == kind
/-- Is there a route of the source? -/
def routedS (l : List Op1) : Bool := l.any fun o => grp o.1 == 3
theorem findS_mem {l : List Op1} {kind : Int} {o : Op1} (h : findS l kind = some o) : o ∈ l ∧ o.1 = kind := by
  unfold findS at h
  exact ⟨List.mem_of_find?_eq_some h, by simpa using List.find?_some h⟩
theorem routed_plain {l : List Op1} (h : Good [] l) : routedS l = ((findS l 131).isSome || (findS l 137).isSome) ∧ ((findS l 131).isSome && (findS l 137).isSome) = false := by
  have e3 : ∀ k : Int, (grp k == 3) = (k == 131 || k == 137) := fun k => by
    unfold grp
    by_cases h1 : k = 7
    · subst h1; rfl
    · by_cases h2 : k = 68
      · subst h2; rfl
      · rw [if_neg h1, if_neg h2]
        by_cases h3 : k = 131
        · subst h3; rfl
        · by_cases h4 : k = 137
          · subst h4; rfl
          · rw [if_neg (by omega)]
            simp [h3, h4]
  constructor
  · unfold routedS findS
    rw [Bool.eq_iff_iff]
    simp only [List.any_eq_true, e3, Bool.or_eq_true, List.find?_isSome, beq_iff_eq]
    constructor
    · rintro ⟨o, ho, h | h⟩
      · exact .inl ⟨o, ho, h⟩
      · exact .inr ⟨o, ho, h⟩
    · rintro (⟨o, ho, h⟩ | ⟨o, ho, h⟩)
      · exact ⟨o, ho, .inl h⟩
      · exact ⟨o, ho, .inr h⟩
  · rw [Bool.and_eq_false_iff]
    rcases h1 : findS l 131 with _ | o
    · exact .inl rfl
    · rcases h2 : findS l 137 with _ | p
      · exact .inr rfl
      · obtain ⟨ho, ho1⟩ := findS_mem h1
        obtain ⟨hp, hp1⟩ := findS_mem h2
        have := two_num ho hp (by intro e; rw [e, hp1] at ho1; exact absurd ho1 (by decide)) (g := 3) (by rw [ho1]; rfl) (by rw [hp1]; rfl)
        have := good_num l [] 3 h (by decide) (by simp [num])
        rw [List.nil_append] at this
        omega
theorem findS_first {l : List Op1} {kind : Int} {j : Nat} {o : Op1} (hj : l[j]? = some o) (hk : o.1 = kind) (hm : ∀ i, i < j → ∀ p, l[i]? = some p → p.1 ≠ kind) : findS l kind = some o := by
  unfold findS
  induction l generalizing j with
  | nil => simp at hj
  | cons p r ih =>
    cases j with
    | zero =>
      simp only [List.getElem?_cons_zero, Option.some.injEq] at hj
      subst hj
      rw [List.find?_cons, show (p.1 == kind) = true by simpa using hk]
    | succ j =>
      have h0 := hm 0 (by omega) p rfl
      rw [List.find?_cons, show (p.1 == kind) = false by simpa using h0]
      exact ih (j := j) (by simpa using hj) fun i hi q hq => hm (i + 1) (by omega) q (by simpa using hq)
theorem findS_none {l : List Op1} {kind : Int} (hm : ∀ (i : Nat) (p : Op1), l[i]? = some p → p.1 ≠ kind) : findS l kind = none := by
  unfold findS
  rw [List.find?_eq_none]
  intro p hp h
  obtain ⟨i, hi⟩ := List.getElem?_of_mem hp
  exact hm i p hi (by simpa using h)

end Go.Proofs.Ytjfnnclbfaakkaa

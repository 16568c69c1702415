/-
  Plain definitions and laws, of no program: what Route returns, and what Record makes of it; options that are not right. Conditions: those of the theorems.
-/
import Derived.Test.YtjfnnclbfaakkaaBackP
import Derived.Test.YtjfnnclbfaakkaaRecord
namespace Go.Proofs.Ytjfnnclbfaakkaa
set_option linter.unusedVariables false
set_option linter.unusedSimpArgs false

/-- An address. -/
def wd (d : List Int) (j : Nat) : Int := ((d.getD (1 + 4 * j) 0 * 256 + d.getD (2 + 4 * j) 0) * 256 + d.getD (3 + 4 * j) 0) * 256 + d.getD (4 + 4 * j) 0
/-- Some addresses from one on. -/
def wds (d : List Int) (a n : Nat) : List Int := (List.range' a n).map (wd d)
/-- How many addresses are done. -/
def dnS (d : List Int) : Nat := ((d.getD 0 0 - 4) / 4).toNat
/-- What Route returns. -/
def routeS (o : Op1) : Int × List Int × List Int :=
  if listedS o = false then (2, [], []) else (0, wds o.2 0 (dnS o.2), wds o.2 (dnS o.2) ((o.2.length - 1) / 4 - dnS o.2))

theorem wds_len (d : List Int) (a n : Nat) : (wds d a n).length = n := by simp [wds]
theorem wds_get {d : List Int} {a n i : Nat} (h : i < n) : (wds d a n).getD i 0 = wd d (a + i) := by
  unfold wds
  rw [List.getD_eq_getElem?_getD, List.getElem?_map, List.getElem?_range' h]
  simp
theorem wds_succ (d : List Int) (a n : Nat) : wds d a (n + 1) = wds d a n ++ [wd d (a + n)] := by
  unfold wds
  rw [List.range'_concat, List.map_append]
  simp
theorem wds_congr {d e : List Int} {a n : Nat} (h : ∀ j, a ≤ j → j < a + n → wd d j = wd e j) : wds d a n = wds e a n := by
  unfold wds
  apply List.map_congr_left
  intro j hj
  rw [List.mem_range'_1] at hj
  exact h j hj.1 hj.2
theorem wds_take (d : List Int) (a n k : Nat) (h : k ≤ n) : (wds d a n).take k = wds d a k := by
  unfold wds
  rw [← List.map_take, List.take_range'_of_length_ge h]
theorem wds_drop (d : List Int) (a n k : Nat) : (wds d a n).drop k = wds d (a + k) (n - k) := by
  unfold wds
  rw [← List.map_drop, List.drop_range', Nat.mul_one]
theorem wd_rng {d : List Int} (h : ∀ x ∈ d, 0 ≤ x ∧ x ≤ 255) (j : Nat) : 0 ≤ wd d j ∧ wd d j < 2 ^ 32 := by
  have hg : ∀ i, 0 ≤ d.getD i 0 ∧ d.getD i 0 ≤ 255 := fun i => by
    rw [List.getD_eq_getElem?_getD]
    cases hd : d[i]? with
    | none => simp
    | some x => exact h x (List.mem_of_getElem? hd)
  have h1 := hg (1 + 4 * j)
  have h2 := hg (2 + 4 * j)
  have h3 := hg (3 + 4 * j)
  have h4 := hg (4 + 4 * j)
  unfold wd
  omega

theorem setN_other {d : List Int} {p : Nat} {a : Int} : ∀ (k j : Nat), j < p ∨ p + k ≤ j → (setN d p a k).getD j 0 = d.getD j 0
  | 0, j, _ => rfl
  | k + 1, j, h => by
    rw [setN, set_getD_ne (by omega)]
    exact setN_other k j (by omega)
theorem setN_get {d : List Int} {p : Nat} {a : Int} : ∀ (k j : Nat), j < k → p + k ≤ d.length → (setN d p a k).getD (p + j) 0 = a / 2 ^ (24 - 8 * j) % 256
  | 0, j, h, _ => by omega
  | k + 1, j, h, hl => by
    rw [setN]
    by_cases hj : j = k
    · subst hj
      rw [set_getD (by rw [setN_len]; omega)]
    · rw [set_getD_ne (by omega)]
      exact setN_get k j (by omega) (by omega)

/-- An option with n addresses, of which i are done. -/
structure Rt (o : Op1) (n i : Nat) : Prop where
  kind : o.1 = 7 ∨ o.1 = 131 ∨ o.1 = 137
  len : o.2.length = 1 + 4 * n
  ptr : o.2.getD 0 0 = 4 + 4 * (i : Int)
  le : i ≤ n
  n9 : n ≤ 9
theorem Rt.listed {o : Op1} {n i : Nat} (h : Rt o n i) : listedS o = true := by
  obtain ⟨k, d⟩ := o
  obtain ⟨hk, hl, hp, hle, h9⟩ := h
  simp only at hk hl hp
  have hr : rightS (k, d) = true := by
    refine right_route hk ?_ (by omega)
    rw [hp, hl]
    simp [adr]
    omega
  unfold listedS
  rw [hr, Bool.and_true]
  rcases hk with rfl | rfl | rfl <;> rfl
theorem Rt.route {o : Op1} {n i : Nat} (h : Rt o n i) : routeS o = (0, wds o.2 0 i, wds o.2 i (n - i)) := by
  unfold routeS
  have hd : dnS o.2 = i := by
    unfold dnS
    rw [h.ptr]
    omega
  have hn : (o.2.length - 1) / 4 = n := by
    rw [h.len]
    omega
  rw [if_neg (by rw [h.listed]; decide), hd, hn]
theorem Rt.full {o : Op1} {n : Nat} (h : Rt o n n) (a : Int) : recS o a = (4, (0, [])) := by
  unfold recS
  rw [if_neg (by rw [h.listed]; decide), if_pos (by rw [h.ptr, h.len]; omega)]
/-- One more address. -/
theorem Rt.record {o : Op1} {n i : Nat} (h : Rt o n i) (hi : i < n) {a : Int} (ha : 0 ≤ a ∧ a < 2 ^ 32) :
    ∃ o', recS o a = (0, o') ∧ o'.1 = o.1 ∧ Rt o' n (i + 1) ∧ wd o'.2 i = a ∧ ∀ j, j ≠ i → wd o'.2 j = wd o.2 j := by
  have e : (o.2.getD 0 0 - 3).toNat = 1 + 4 * i := by
    rw [h.ptr]
    omega
  have hl := h.len
  obtain ⟨s, hs⟩ : ∃ s, setN o.2 (1 + 4 * i) a 4 = s := ⟨_, rfl⟩
  have hsl : s.length = o.2.length := by rw [← hs, setN_len]
  have hoth : ∀ j, j < 1 + 4 * i ∨ 1 + 4 * i + 4 ≤ j → s.getD j 0 = o.2.getD j 0 := fun j hj => by rw [← hs]; exact setN_other 4 j hj
  have hget : ∀ j, j < 4 → s.getD (1 + 4 * i + j) 0 = a / 2 ^ (24 - 8 * j) % 256 := fun j hj => by rw [← hs]; exact setN_get 4 j hj (by omega)
  refine ⟨(o.1, s.set 0 (o.2.getD 0 0 + 4)), ?_, rfl, ⟨h.kind, by simp only [List.length_set, hsl]; exact hl, ?_, hi, h.n9⟩, ?_, fun j hj => ?_⟩
  · unfold recS
    rw [if_neg (by rw [h.listed]; decide), if_neg (by rw [h.ptr, hl]; omega), e, hs]
  · show (s.set 0 (o.2.getD 0 0 + 4)).getD 0 0 = _
    rw [set_getD (by omega), h.ptr]
    omega
  · have g0 := hget 0 (by omega)
    have g1 := hget 1 (by omega)
    have g2 := hget 2 (by omega)
    have g3 := hget 3 (by omega)
    show wd (s.set 0 _) i = a
    unfold wd
    rw [set_getD_ne (by omega), set_getD_ne (by omega), set_getD_ne (by omega), set_getD_ne (by omega)]
    rw [show 2 + 4 * i = 1 + 4 * i + 1 by omega, show 3 + 4 * i = 1 + 4 * i + 2 by omega, show 4 + 4 * i = 1 + 4 * i + 3 by omega, show 1 + 4 * i = 1 + 4 * i + 0 by omega]
    simp only [Nat.add_zero] at g0 ⊢
    rw [g0, g1, g2, g3]
    simp only [show (24 - 8 * 0 : Nat) = 24 from rfl, show (24 - 8 * 1 : Nat) = 16 from rfl, show (24 - 8 * 2 : Nat) = 8 from rfl, show (24 - 8 * 3 : Nat) = 0 from rfl]
    omega
  · show wd (s.set 0 _) j = wd o.2 j
    unfold wd
    rw [set_getD_ne (by omega), set_getD_ne (by omega), set_getD_ne (by omega), set_getD_ne (by omega)]
    rw [hoth _ (by omega), hoth _ (by omega), hoth _ (by omega), hoth _ (by omega)]

/-- What Made returns of one of these. -/
theorem made_rt {x : Sm} (h : x.Ok) (hk : x.kind % 8 = 1 ∨ x.kind % 8 = 2 ∨ x.kind % 8 = 3) : (madeS [x]).1 = [moS x] ∧ Rt (moS x) (x.many % 10).toNat (x.used % (x.many % 10 + 1)).toNat := by
  have hm := h.m
  have hu := h.u
  have hkd : kdS x = 7 ∨ kdS x = 131 ∨ kdS x = 137 := by
    unfold kdS
    rcases hk with h | h | h
    · simp [h]
    · simp [h]
    · simp [h]
  have hn : nS (kdS x) x.many = x.many % 10 := by
    unfold nS
    rw [if_neg (by omega)]
  have h1 : hS (kdS x) = 1 := by simp [hS, hkd]
  have h2 : sS (kdS x) x.many = 4 := by simp [sS, hkd]
  have h3 : gS (kdS x) = 0 ∨ gS (kdS x) = 1 := by rcases hkd with hk | hk | hk <;> rw [hk] <;> simp [gS]
  have hdl := dat_len x
  have hlen : ((datS x).length : Int) = 1 + (x.many % 10) * 4 := by
    rw [hdl]
    unfold lenS
    rw [h1, h2, hn]
    omega
  have hmod : 0 ≤ x.used % (x.many % 10 + 1) ∧ x.used % (x.many % 10 + 1) ≤ x.many % 10 := by
    have := Int.emod_nonneg x.used (b := x.many % 10 + 1) (by omega)
    have := Int.emod_lt_of_pos x.used (b := x.many % 10 + 1) (by omega)
    omega
  obtain ⟨t, ht⟩ : ∃ t, x.used % (x.many % 10 + 1) = t := ⟨_, rfl⟩
  rw [ht] at hmod ⊢
  have hd0 : (datS x).getD 0 0 = 4 + t * 4 := by
    unfold datS
    rw [if_neg (by omega), if_neg (by omega), h1, h2, hn, ht, set_getD (by rw [raw_len, ← hdl]; omega)]
    omega
  constructor
  · have hb : ((bytesO (moS x)).length : Int) ≤ 39 := by
      unfold bytesO moS
      rw [if_neg (by simp only; omega)]
      simp only [List.length_cons]
      omega
    show (addS ([], 0) x).1 = [moS x]
    unfold addS
    rw [if_neg]
    · rfl
    · simp only [num]
      simp
      omega
  · exact ⟨hkd, by show (datS x).length = _; omega, by show (datS x).getD 0 0 = _; rw [hd0]; omega, by omega, by omega⟩

/-! ### options that are not right -/
theorem wf_wrong : ∀ (l : List Op1) (out : List Int) (seen : List Op1) (tw : Bool), (∃ o ∈ l, rightS o = false) → wf out seen tw l = (2, [])
  | [], _, _, _, h => by obtain ⟨o, ho, _⟩ := h; cases ho
  | o :: r, out, seen, tw, h => by
    by_cases hr : rightS o = true
    · rw [wf_step hr]
      obtain ⟨p, hp, hq⟩ := h
      rcases List.mem_cons.1 hp with rfl | hp
      · rw [hr] at hq; cases hq
      · exact wf_wrong r _ _ _ ⟨p, hp, hq⟩
    · exact wf_no (by simpa using hr)
theorem write_wrong {l : List Op1} {o : Op1} (h : rightS o = false) : writeS (l ++ [o]) = (2, []) := wf_wrong _ _ _ _ ⟨o, by simp, h⟩
theorem listed_no {o : Op1} (h : rightS o = false) : listedS o = false := by simp [listedS, h]
theorem route_no {o : Op1} (h : rightS o = false) : routeS o = (2, [], []) := by
  unfold routeS
  rw [if_pos (listed_no h)]
theorem rec_no {o : Op1} (h : rightS o = false) (a : Int) : recS o a = (2, (0, [])) := by
  unfold recS
  rw [if_pos (listed_no h)]

end Go.Proofs.Ytjfnnclbfaakkaa

/-
  Plain definitions and laws, of no program: what Made returns. Conditions: the numbers are bytes.
-/
import Derived.Test.YtjfnnclbfaakkaaAgainP
namespace Go.Proofs.Ytjfnnclbfaakkaa
set_option linter.unusedVariables false
set_option linter.unusedSimpArgs false

/-- An option in small numbers. -/
structure Sm where
  kind : Int
  many : Int
  used : Int
  bytes : List Int
structure Sm.Ok (x : Sm) : Prop where
  k : 0 ≤ x.kind ∧ x.kind ≤ 255
  m : 0 ≤ x.many ∧ x.many ≤ 255
  u : 0 ≤ x.used ∧ x.used ≤ 255
  b : ∀ y ∈ x.bytes, 0 ≤ y ∧ y ≤ 255
def kdS (x : Sm) : Int := if x.kind % 8 = 0 then 1 else if x.kind % 8 = 1 then 7 else if x.kind % 8 = 2 then 131 else if x.kind % 8 = 3 then 137 else if x.kind % 8 = 4 then 68 else if x.kind % 8 = 5 then 148 else if x.kind % 8 = 6 then 130 else 2 + x.used % 5
def gS (k : Int) : Int := if k = 7 then 0 else if k = 131 ∨ k = 137 then 1 else if k = 68 then 2 else -1
def hS (k : Int) : Int := if k = 7 ∨ k = 131 ∨ k = 137 then 1 else if k = 68 ∨ k = 148 then 2 else 0
def sS (k many : Int) : Int := if k = 7 ∨ k = 131 ∨ k = 137 then 4 else if k = 68 then (if many % 3 = 0 then 4 else 8) else 1
def nS (k many : Int) : Int := if k = 1 ∨ k = 148 then 0 else many % 10
def byS (bytes : List Int) (i : Nat) : Int := if bytes = [] then (i : Int) % 256 else bytes.getD (i % bytes.length) 0
/-- The data, before the pointer is written. -/
def rawS (x : Sm) : Nat → List Int
  | 0 => []
  | i + 1 => rawS x i ++ [byS x.bytes i]
def lenS (x : Sm) : Nat := (hS (kdS x) + nS (kdS x) x.many * sS (kdS x) x.many).toNat
def flagS (many : Int) : Int := if many % 3 = 0 then 0 else if many % 3 = 1 then 1 else 3
def datS (x : Sm) : List Int :=
  if gS (kdS x) < 0 then rawS x (lenS x)
  else if gS (kdS x) = 2 then
    (((rawS x (lenS x)).set 0 (3 + hS (kdS x) + x.used % (nS (kdS x) x.many + 1) * sS (kdS x) x.many)).set 1 ((rawS x (lenS x)).getD 1 0 / 16 * 16 + flagS x.many))
  else (rawS x (lenS x)).set 0 (3 + hS (kdS x) + x.used % (nS (kdS x) x.many + 1) * sS (kdS x) x.many)
def moS (x : Sm) : Op1 := (kdS x, datS x)
def addS (acc : List Op1 × Int) (x : Sm) : List Op1 × Int :=
  if 40 < acc.2 + ((bytesO (moS x)).length : Int) ∨ (0 < grp (kdS x) ∧ 0 < num acc.1 (grp (kdS x))) then acc else (acc.1 ++ [moS x], acc.2 + ((bytesO (moS x)).length : Int))
def madeS (l : List Sm) : List Op1 × Int := (l.take 40).foldl addS ([], 0)

theorem raw_len (x : Sm) : ∀ n, (rawS x n).length = n
  | 0 => rfl
  | n + 1 => by rw [rawS, List.length_append, raw_len x n]; rfl
theorem byS_rng {x : Sm} (h : x.Ok) (i : Nat) : 0 ≤ byS x.bytes i ∧ byS x.bytes i ≤ 255 := by
  unfold byS
  split
  · omega
  · rw [List.getD_eq_getElem?_getD]
    cases hd : x.bytes[i % x.bytes.length]? with
    | none => simp
    | some y => exact h.b y (List.mem_of_getElem? hd)
theorem raw_rng {x : Sm} (h : x.Ok) : ∀ n, ∀ y ∈ rawS x n, 0 ≤ y ∧ y ≤ 255
  | 0 => by simp [rawS]
  | n + 1 => fun y hy => by
    rw [rawS, List.mem_append, List.mem_singleton] at hy
    rcases hy with hy | rfl
    · exact raw_rng h n y hy
    · exact byS_rng h n
theorem dat_len (x : Sm) : (datS x).length = lenS x := by
  unfold datS
  split
  · exact raw_len x _
  · split
    · rw [List.length_set, List.length_set, raw_len]
    · rw [List.length_set, raw_len]
theorem kd_cases {x : Sm} (h : x.Ok) : kdS x = 1 ∨ kdS x = 7 ∨ kdS x = 131 ∨ kdS x = 137 ∨ kdS x = 68 ∨ kdS x = 148 ∨ kdS x = 130 ∨ (2 ≤ kdS x ∧ kdS x ≤ 6) := by
  have := h.u
  unfold kdS
  repeat' split
  all_goals omega
theorem n_rng {x : Sm} (h : x.Ok) : 0 ≤ nS (kdS x) x.many ∧ nS (kdS x) x.many ≤ 9 := by
  have := h.m
  unfold nS
  split <;> omega
theorem set_getD {d : List Int} {i : Nat} {y : Int} (h : i < d.length) : (d.set i y).getD i 0 = y := by
  rw [List.getD_eq_getElem?_getD, List.getElem?_set_self h]; rfl
theorem set_getD_ne {d : List Int} {i j : Nat} {y : Int} (h : i ≠ j) : (d.set i y).getD j 0 = d.getD j 0 := by
  rw [List.getD_eq_getElem?_getD, List.getD_eq_getElem?_getD, List.getElem?_set_ne h]

theorem right_route {k : Int} {d : List Int} (hk : k = 7 ∨ k = 131 ∨ k = 137) (ha : adr d.length (d.getD 0 0) = true) (hl : d.length ≤ 38) : rightS (k, d) = true := by
  have e1 : rightS (k, d) = (adr d.length (d.getD 0 0) && decide (d.length ≤ 38)) := by
    rcases hk with rfl | rfl | rfl <;> rfl
  rw [e1, ha]
  simpa using hl
theorem right_stamp {d : List Int} (ha : stm d.length (d.getD 0 0) (d.getD 1 0) = true) (hl : d.length ≤ 38) : rightS (68, d) = true := by
  have e1 : rightS (68, d) = (stm d.length (d.getD 0 0) (d.getD 1 0) && decide (d.length ≤ 38)) := rfl
  rw [e1, ha]
  simpa using hl
theorem stm_of {n : Nat} {t m y : Int} (h : ssz y = 4 ∨ ssz y = 8) (hn : (n : Int) = 2 + m * ssz y) (ht : 0 ≤ t ∧ t ≤ m) : stm n (5 + t * ssz y) y = true := by
  unfold stm
  rcases h with h | h
  · rw [h] at hn ⊢
    simp
    omega
  · rw [h] at hn ⊢
    simp
    omega
theorem mo_right {x : Sm} (h : x.Ok) (hl : (bytesO (moS x)).length ≤ 40) : rightS (moS x) = true := by
  have hn := n_rng h
  have hu := h.u
  have hdl := dat_len x
  have hb : kdS x ≠ 1 → (datS x).length ≤ 38 := fun hk => by
    unfold bytesO moS at hl
    rw [if_neg hk] at hl
    simp at hl
    omega
  have hm : 0 ≤ x.used % (nS (kdS x) x.many + 1) ∧ x.used % (nS (kdS x) x.many + 1) ≤ nS (kdS x) x.many := by
    have := Int.emod_nonneg x.used (b := nS (kdS x) x.many + 1) (by omega)
    have := Int.emod_lt_of_pos x.used (b := nS (kdS x) x.many + 1) (by omega)
    omega
  obtain ⟨t, ht⟩ : ∃ t, x.used % (nS (kdS x) x.many + 1) = t := ⟨_, rfl⟩
  have hraw := raw_len x (lenS x)
  have route : kdS x = 7 ∨ kdS x = 131 ∨ kdS x = 137 → rightS (moS x) = true := fun hk => by
    have h1 : hS (kdS x) = 1 := by simp [hS, hk]
    have h2 : sS (kdS x) x.many = 4 := by simp [sS, hk]
    have h3 : gS (kdS x) = 0 ∨ gS (kdS x) = 1 := by rcases hk with hk | hk | hk <;> rw [hk] <;> simp [gS]
    have hlen : ((datS x).length : Int) = 1 + nS (kdS x) x.many * 4 := by
      rw [hdl]
      unfold lenS
      rw [h1, h2]
      omega
    have hd0 : (datS x).getD 0 0 = 4 + t * 4 := by
      unfold datS
      rw [if_neg (by omega), if_neg (by omega), h1, h2, ht, set_getD (by rw [hraw, ← hdl]; omega)]
      omega
    refine right_route hk ?_ (hb (by omega))
    rw [hd0]
    rw [ht] at hm
    obtain ⟨nn, hnn⟩ : ∃ nn, (datS x).length = nn := ⟨_, rfl⟩
    rw [hnn] at hlen ⊢
    simp [adr]
    omega
  rcases kd_cases h with hk | hk | hk | hk | hk | hk | hk | hk
  · have : datS x = [] := by
      apply List.length_eq_zero_iff.1
      rw [hdl]
      simp [lenS, hk, hS, nS]
    unfold moS
    rw [hk, this]
    rfl
  · exact route (by omega)
  · exact route (by omega)
  · exact route (by omega)
  · have h1 : hS (kdS x) = 2 := by simp [hS, hk]
    have h3 : gS (kdS x) = 2 := by simp [gS, hk]
    have h2 : sS (kdS x) x.many = if x.many % 3 = 0 then 4 else 8 := by simp [sS, hk]
    have hlen : ((datS x).length : Int) = 2 + nS (kdS x) x.many * sS (kdS x) x.many := by
      rw [hdl]
      unfold lenS
      rw [h1, h2]
      split <;> omega
    have hd0 : (datS x).getD 0 0 = 5 + t * sS (kdS x) x.many := by
      unfold datS
      rw [if_neg (by omega), if_pos h3, h1, ht, set_getD_ne (by decide), set_getD (by rw [hraw, ← hdl]; rw [h2] at hlen; split at hlen <;> omega)]
      omega
    have hd1 : (datS x).getD 1 0 = (rawS x (lenS x)).getD 1 0 / 16 * 16 + flagS x.many := by
      unfold datS
      rw [if_neg (by omega), if_pos h3, set_getD (by rw [List.length_set, hraw, ← hdl]; rw [h2] at hlen; split at hlen <;> omega)]
    have hs : ssz ((datS x).getD 1 0) = sS (kdS x) x.many := by
      rw [hd1, h2]
      unfold ssz flagS
      by_cases m0 : x.many % 3 = 0
      · rw [if_pos m0, if_pos m0, if_pos (by omega)]
      · rw [if_neg m0, if_neg m0]
        by_cases m1 : x.many % 3 = 1
        · rw [if_pos m1, if_neg (by omega), if_pos (by omega)]
        · rw [if_neg m1, if_neg (by omega), if_pos (by omega)]
    have hs48 : ssz ((datS x).getD 1 0) = 4 ∨ ssz ((datS x).getD 1 0) = 8 := by
      rw [hs, h2]
      split
      · exact .inl rfl
      · exact .inr rfl
    unfold moS
    rw [hk]
    refine right_stamp ?_ (hb (by omega))
    rw [hd0, ← hs]
    exact stm_of hs48 (by rw [hs]; exact hlen) (by rw [← ht]; exact hm)
  · have hlen : (datS x).length = 2 := by
      rw [hdl]
      simp [lenS, hk, hS, nS]
    unfold moS rightS shp
    rw [hk]
    simp [hlen]
  · have := hb (by omega)
    unfold moS rightS shp
    rw [hk]
    simpa using this
  · have := hb (by omega)
    unfold moS rightS shp
    rw [if_neg (by simp only; omega), if_neg (by simp only; omega), if_neg (by simp only; omega), if_neg (by simp only; omega)]
    simpa using this

/-! ### the list -/
theorem good_snoc : ∀ (l seen : List Op1) (o : Op1), Good seen l → rightS o = true → (grp o.1 = 0 ∨ num (seen ++ l) (grp o.1) = 0) → Good seen (l ++ [o])
  | [], seen, o, _, h1, h2 => ⟨h1, by simpa using h2, trivial⟩
  | p :: r, seen, o, ⟨a, b, c⟩, h1, h2 => ⟨a, b, good_snoc r (seen ++ [p]) o c h1 (by simpa using h2)⟩
theorem flat_snoc (l : List Op1) (o : Op1) : flat (l ++ [o]) = flat l ++ bytesO o := by simp [flat]
structure MdInv (acc : List Op1 × Int) : Prop where
  good : Good [] acc.1
  len : acc.2 = ((flat acc.1).length : Int)
  max : acc.2 ≤ 40
theorem MdInv.add {acc : List Op1 × Int} (h : MdInv acc) {x : Sm} (hx : x.Ok) : MdInv (addS acc x) := by
  unfold addS
  split
  · exact h
  · rename_i hc
    have h0 := h.len
    refine ⟨good_snoc _ _ _ h.good (mo_right hx (by omega)) ?_, ?_, by show acc.2 + _ ≤ 40; omega⟩
    · have := num_nonneg acc.1 (grp (kdS x))
      have := grp_nonneg (kdS x)
      show grp (kdS x) = 0 ∨ num ([] ++ acc.1) (grp (kdS x)) = 0
      rw [List.nil_append]
      omega
    · show acc.2 + _ = ((flat (acc.1 ++ [moS x])).length : Int)
      rw [flat_snoc, List.length_append, h0]
      omega
theorem MdInv.nil : MdInv ([], 0) := ⟨trivial, rfl, by decide⟩
theorem MdInv.fold : ∀ (l : List Sm) (acc : List Op1 × Int), MdInv acc → (∀ x ∈ l, x.Ok) → MdInv (l.foldl addS acc)
  | [], acc, h, _ => h
  | x :: r, acc, h, hx => MdInv.fold r _ (h.add (hx x (by simp))) (fun y hy => hx y (by simp [hy]))
theorem MdInv.made {l : List Sm} (hx : ∀ x ∈ l, x.Ok) : MdInv (madeS l) := MdInv.fold _ _ MdInv.nil (fun x h => hx x (List.mem_of_mem_take h))

end Go.Proofs.Ytjfnnclbfaakkaa

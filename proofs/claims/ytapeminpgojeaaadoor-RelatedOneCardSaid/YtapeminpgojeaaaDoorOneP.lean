/-
  Plain laws behind RelatedOne, of no program: of flows with different keys, none of which is another one turned, an error quotes at most one. Conditions: the flows are of protocols that have packets, and their sides are sides.
-/
import Derived.Test.YtapeminpgojeaaaDoorBelongsL
import Derived.Test.YtapeminpgojeaaaDoorFind
namespace Go.Proofs.YtapeminpgojeaaaDoor
open Go.RowKit
set_option linter.unusedVariables false
set_option linter.unusedSimpArgs false

/-- A flow of a protocol that has packets, whose key is not its own mirror. -/
structure Gd (x : Fl) : Prop where
  hp : x.p = 6 ∨ x.p = 17 ∨ x.p = 1
  hne : x.s ≠ x.d
  hs : 0 ≤ x.s ∧ x.s ≤ 4294967295
  hd : 0 ≤ x.d ∧ x.d ≤ 4294967295
  hsp : 0 ≤ x.sp ∧ x.sp ≤ 65535
  hdp : 0 ≤ x.dp ∧ x.dp ≤ 65535
  hside : 0 ≤ x.side ∧ x.side ≤ 1
/-- A flow's numbers lie in their types. -/
structure Fr (x : Fl) : Prop where
  hp : 0 ≤ x.p ∧ x.p ≤ 255
  hs : 0 ≤ x.s ∧ x.s ≤ 4294967295
  hd : 0 ≤ x.d ∧ x.d ≤ 4294967295
  hsp : 0 ≤ x.sp ∧ x.sp ≤ 65535
  hdp : 0 ≤ x.dp ∧ x.dp ≤ 65535
  hside : 0 ≤ x.side ∧ x.side ≤ 255
def Fl.right (x : Fl) : Fl := ⟨rp x.p, x.s, rd x.s x.d, x.sp, x.dp, x.side % 2⟩
theorem gd_right {x : Fl} (h : Fr x) : Gd x.right := by
  obtain ⟨h1, h2, h3⟩ := rd_ne x.s x.d h.hd
  exact ⟨rp_range x.p, h1, h.hs, ⟨h2, h3⟩, h.hsp, h.hdp, by show 0 ≤ x.side % 2 ∧ x.side % 2 ≤ 1; omega⟩
/-- The keys are the same; one is the other one turned. -/
def sameK (x y : Fl) : Bool := eqK x.p x.s x.d x.sp x.dp y.p y.s y.d y.sp y.dp
def turnK (x y : Fl) : Bool := eqK x.p x.d x.s x.dp x.sp y.p y.s y.d y.sp y.dp
def freshK (z y : Fl) : Bool := !sameK z y && !turnK z y
theorem freshK_ne {z y : Fl} (h : freshK z y = true) : (z.p ≠ y.p ∨ z.s ≠ y.s ∨ z.d ≠ y.d ∨ z.sp ≠ y.sp ∨ z.dp ≠ y.dp) ∧ (z.p ≠ y.p ∨ z.d ≠ y.s ∨ z.s ≠ y.d ∨ z.dp ≠ y.sp ∨ z.sp ≠ y.dp) := by
  simp [freshK, sameK, turnK, eqK] at h
  omega
def pick (own : List Fl) (y : Fl) : List Fl := if own.all (freshK · y) then own ++ [y] else own
def picks (fs : List Fl) : List Fl := fs.foldl (fun o x => pick o x.right) []
theorem picks_snoc (fs : List Fl) (x : Fl) : picks (fs ++ [x]) = pick (picks fs) x.right := by simp [picks]
theorem picks_take {fs : List Fl} {k : Nat} {x : Fl} (h : fs[k]? = some x) : picks (fs.take (k + 1)) = pick (picks (fs.take k)) x.right := by
  rw [List.take_add_one, h]
  exact picks_snoc _ _
/-- No two flows have the same packets. -/
structure Ok (own : List Fl) : Prop where
  gd : ∀ x ∈ own, Gd x
  pw : own.Pairwise (fun z y => freshK z y = true)
theorem Ok.nil : Ok [] := ⟨by simp, List.Pairwise.nil⟩
theorem Ok.pick {own : List Fl} (h : Ok own) {y : Fl} (hy : Gd y) : Ok (pick own y) := by
  unfold Go.Proofs.YtapeminpgojeaaaDoor.pick
  split
  · rename_i hf
    refine ⟨fun x hx => ?_, ?_⟩
    · rcases List.mem_append.1 hx with hx | hx
      · exact h.gd x hx
      · rw [List.mem_singleton.1 hx]
        exact hy
    · rw [List.pairwise_append]
      refine ⟨h.pw, by simp, fun a ha b hb => ?_⟩
      rw [List.mem_singleton.1 hb]
      exact List.all_eq_true.1 hf a ha
  · exact h
theorem pick_length (own : List Fl) (y : Fl) : (pick own y).length ≤ own.length + 1 := by
  unfold pick
  split <;> simp
theorem picks_length (fs : List Fl) : (picks fs).length ≤ fs.length := by
  have : ∀ (l : List Fl) (o : List Fl), (l.foldl (fun o x => pick o x.right) o).length ≤ o.length + l.length := by
    intro l
    induction l with
    | nil => intro o; simp
    | cons x r ih =>
      intro o
      have h1 := ih (pick o x.right)
      have h2 := pick_length o x.right
      simp only [List.foldl_cons, List.length_cons]
      omega
  have := this fs []
  unfold picks
  simpa using this
theorem ok_picks (fs : List Fl) (h : ∀ x ∈ fs, Fr x) : Ok (picks fs) := by
  have : ∀ (l : List Fl) (o : List Fl), Ok o → (∀ x ∈ l, Fr x) → Ok (l.foldl (fun o x => pick o x.right) o) := by
    intro l
    induction l with
    | nil => intro o ho _; exact ho
    | cons x r ih =>
      intro o ho hl
      exact ih _ (ho.pick (gd_right (hl x (by simp)))) fun y hy => hl y (by simp [hy])
  exact this fs [] Ok.nil h
theorem all_take_succ (f : Fl → Bool) (l : List Fl) (j : Nat) (z : Fl) (h : l[j]? = some z) : (l.take (j + 1)).all f = ((l.take j).all f && f z) := by
  rw [List.take_add_one, h]
  simp
theorem Ok.ne {own : List Fl} (h : Ok own) {i j : Nat} (hij : i ≠ j) {x y : Fl} (hx : own[i]? = some x) (hy : own[j]? = some y) : (x.p ≠ y.p ∨ x.s ≠ y.s ∨ x.d ≠ y.d ∨ x.sp ≠ y.sp ∨ x.dp ≠ y.dp) ∧ (x.p ≠ y.p ∨ x.d ≠ y.s ∨ x.s ≠ y.d ∨ x.dp ≠ y.sp ∨ x.sp ≠ y.dp) := by
  obtain ⟨hi, rfl⟩ := List.getElem?_eq_some_iff.1 hx
  obtain ⟨hj, rfl⟩ := List.getElem?_eq_some_iff.1 hy
  rcases Nat.lt_or_gt_of_ne hij with hlt | hlt
  · exact freshK_ne (List.pairwise_iff_getElem.1 h.pw i j hi hj hlt)
  · have := freshK_ne (List.pairwise_iff_getElem.1 h.pw j i hj hi hlt)
    omega
theorem fst1_none (f : Fl → Int × Bool) (l : List Fl) (m : Nat) (h : ∀ y ∈ l, (f y).2 = false) : fst1 f l m = (-1, 0, false) := by
  induction l generalizing m with
  | nil => rfl
  | cons x r ih =>
    unfold fst1
    rw [h x (by simp), if_neg (by decide)]
    exact ih _ fun y hy => h y (by simp [hy])
theorem fst1_only (f : Fl → Int × Bool) (l : List Fl) (m n : Nat) (x : Fl) (q : Int) (hx : l[n]? = some x) (hf : f x = (q, true)) (h : ∀ i y, i ≠ n → l[i]? = some y → (f y).2 = false) : fst1 f l m = (((m + n : Nat) : Int), q, true) := by
  induction l generalizing m n with
  | nil => simp at hx
  | cons z r ih =>
    unfold fst1
    cases n with
    | zero =>
      simp at hx
      subst hx
      rw [hf, if_pos rfl]
      simp
    | succ n =>
      rw [h 0 z (by omega) rfl, if_neg (by decide), ih (m + 1) n (by simpa using hx) fun i y hi hy => h (i + 1) y (by omega) (by simpa using hy)]
      congr 2
      omega
/-- What an error of a flow of the list says of all flows. -/
structure Only (own : List Fl) (n : Nat) (c1 ty P c2 c3 c4 kv fr q1 : Int) : Prop where
  yes : ∀ x, own[n]? = some x → x.quo c1 5 ty P c1 c2 c3 c4 kv fr = (q1, true)
  no : ∀ i x, i ≠ n → own[i]? = some x → (x.quo c1 5 ty P c1 c2 c3 c4 kv fr).2 = false
  off : ∀ x ∈ own, (x.quo c1 5 ty P c1 c2 c3 c4 kv (1 - fr)).2 = false
theorem only_of {own : List Fl} (ho : Ok own) {n : Nat} {x : Fl} (hn : own[n]? = some x) (c1 c2 c3 c4 fr q1 ty : Int) (ht : ty = 3 ∨ ty = 11 ∨ ty = 12)
    (hk : q1 = 0 ∧ x.s = c1 ∧ x.d = c2 ∧ x.sp = c3 ∧ x.dp = c4 ∧ 1 - x.side = fr ∨ q1 = 1 ∧ x.d = c1 ∧ x.s = c2 ∧ x.dp = c3 ∧ x.sp = c4 ∧ x.side = fr) : Only own n c1 ty x.p c2 c3 c4 (kd x.p q1) fr q1 := by
  have hg := ho.gd x (List.mem_of_getElem? hn)
  have h2 : 0 ≤ c2 ∧ c2 ≤ 4294967295 := by have := hg.hs; have := hg.hd; omega
  have h3 : 0 ≤ c3 ∧ c3 ≤ 65535 := by have := hg.hsp; have := hg.hdp; omega
  have h4 : 0 ≤ c4 ∧ c4 ≤ 65535 := by have := hg.hsp; have := hg.hdp; omega
  have hB := bel_of x.p x.s x.d x.sp x.dp x.side c1 c2 c3 c4 fr q1 ty hg.hp hg.hne hg.hside ht h2 h3 h4 hk
  have hno : ∀ i y, i ≠ n → own[i]? = some y → ∀ src, y.quo c1 5 ty x.p c1 c2 c3 c4 (kd x.p q1) src = (0, false) := by
    intro i y hi hy src
    have := ho.ne hi hy hn
    exact quo_no (hit0_no (by omega)) (hit1_no (by omega))
  refine ⟨fun y hy => ?_, fun i y hi hy => by rw [hno i y hi hy], fun y hy => ?_⟩
  · rw [hn] at hy
    obtain rfl := Option.some.inj hy
    exact hB.yes
  · obtain ⟨i, hi⟩ := List.getElem?_of_mem hy
    by_cases h : i = n
    · subst h
      rw [hn] at hi
      obtain rfl := Option.some.inj hi
      exact congrArg Prod.snd hB.w0
    · rw [hno i y h hi]

end Go.Proofs.YtapeminpgojeaaaDoor

/-
  Plain lemmas for HandshakeLeaves: the packets that are allowed lead to the same state, all of them allowed; flags that differ in PSH, URG and the bits above them alone do not matter. And the contract of slices.Clone.
-/
import Derived.Test.YtdnammkfipfdbaaDoorTwice
namespace Go.Proofs.YtdnammkfipfdbaaDoor
open Go.RowKit
set_option linter.unusedVariables false

/-- The packets that are allowed, and the state. -/
def kst (s : List Pk × Int) (p : Pk) : List Pk × Int := if stp s.2 p.1 p.2 != 0 then (s.1 ++ [p], stp s.2 p.1 p.2) else s
def kept (r : List Pk) : List Pk × Int := r.foldl kst ([], 1)

theorem kst_fold (r : List Pk) : ∀ (s : List Pk × Int), s.1.foldl go (1, 1) = (s.2, (s.1.length : Int) + 1) →
    (r.foldl kst s).1.foldl go (1, 1) = ((r.foldl kst s).2, ((r.foldl kst s).1.length : Int) + 1) ∧ r.foldl go (s.2, (s.1.length : Int) + 1) = ((r.foldl kst s).2, ((r.foldl kst s).1.length : Int) + 1) := by
  induction r with
  | nil => intro s h; exact ⟨h, rfl⟩
  | cons p r ih =>
    intro s h
    obtain ⟨acc, st⟩ := s
    simp only at h
    simp only [List.foldl_cons]
    by_cases hp : (stp st p.1 p.2 != 0) = true
    · have e1 : kst (acc, st) p = (acc ++ [p], stp st p.1 p.2) := by simp only [kst]; rw [if_pos hp]
      have e2 : go (st, (acc.length : Int) + 1) p = (stp st p.1 p.2, ((acc ++ [p]).length : Int) + 1) := by
        simp only [go]; rw [if_pos hp]; simp
      rw [e1, e2]
      exact ih (acc ++ [p], stp st p.1 p.2) (by rw [List.foldl_append, h]; simp only [List.foldl_cons, List.foldl_nil, e2])
    · have e1 : kst (acc, st) p = (acc, st) := by simp only [kst]; rw [if_neg hp]
      have e2 : go (st, (acc.length : Int) + 1) p = (st, (acc.length : Int) + 1) := by simp only [go]; rw [if_neg hp]
      rw [e1, e2]
      exact ih (acc, st) h

theorem kept_run (r : List Pk) : (kept r).1.foldl go (1, 1) = ((kept r).2, ((kept r).1.length : Int) + 1) := (kst_fold r ([], 1) rfl).1
theorem kept_go (r : List Pk) : r.foldl go (1, 1) = ((kept r).2, ((kept r).1.length : Int) + 1) := (kst_fold r ([], 1) rfl).2

theorem kept_snoc (r : List Pk) (k : Nat) (p : Pk) (h : r[k]? = some p) : kept (r.take (k + 1)) = kst (kept (r.take k)) p := by
  unfold kept
  rw [List.take_add_one, h]
  simp
theorem kept_range (r : List Pk) : 0 ≤ (kept r).2 ∧ (kept r).2 ≤ 8 := by
  have h := fold_range r (1, 1) (by decide)
  rw [kept_go] at h
  exact h
theorem kept_len (r : List Pk) : (kept r).1.length ≤ r.length := by
  have h := fold_count r (1, 1)
  rw [kept_go] at h
  simp only at h
  omega
theorem kept_mem (r : List Pk) : ∀ p ∈ (kept r).1, p ∈ r := by
  have : ∀ (r : List Pk) (s : List Pk × Int), ∀ p ∈ (r.foldl kst s).1, p ∈ s.1 ∨ p ∈ r := by
    intro r
    induction r with
    | nil => intro s p hp; exact .inl hp
    | cons q r ih =>
      intro s p hp
      rcases ih _ p hp with h | h
      · unfold kst at h
        split at h
        · rcases List.mem_append.1 h with h | h
          · exact .inl h
          · right; simp at h; simp [h]
        · exact .inl h
      · exact .inr (by simp [h])
  intro p hp
  rcases this r ([], 1) p hp with h | h
  · simp at h
  · exact h

/-- Flags with other bits that do not matter. -/
def alt (b f : Int) : Int := bits .or .u8 (bits .and .u8 f 23) (bits .andNot .u8 b 23)
def altU : List Int := [0, 1, 2, 3, 4, 5, 6, 7, 16, 17, 18, 19, 20, 21, 22, 23]
def altV : List Int := [0, 8, 32, 40, 64, 72, 96, 104, 128, 136, 160, 168, 192, 200, 224, 232]
theorem alt_f : ∀ f : Fin 256, bits .and .u8 (f.1 : Int) 23 ∈ altU ∧ cls (bits .and .u8 (f.1 : Int) 23) = cls f.1 := by decide +kernel
theorem alt_b : ∀ b : Fin 256, bits .andNot .u8 (b.1 : Int) 23 ∈ altV := by decide +kernel
theorem alt_uv : ∀ u ∈ altU, ∀ v ∈ altV, cls (bits .or .u8 u v) = cls u ∧ 0 ≤ bits .or .u8 u v ∧ bits .or .u8 u v ≤ 255 := by decide +kernel
theorem alt_cls (b f : Int) (hb : 0 ≤ b ∧ b ≤ 255) (hf : 0 ≤ f ∧ f ≤ 255) : cls (alt b f) = cls f ∧ 0 ≤ alt b f ∧ alt b f ≤ 255 := by
  obtain ⟨n, rfl⟩ := Int.eq_ofNat_of_zero_le hf.1
  obtain ⟨m, rfl⟩ := Int.eq_ofNat_of_zero_le hb.1
  have h1 := alt_f ⟨n, by omega⟩
  have h2 := alt_b ⟨m, by omega⟩
  have h3 := alt_uv _ h1.1 _ h2
  unfold alt
  exact ⟨h3.1.trans h1.2, h3.2⟩

def alt2 (b : Int) (p : Pk) : Pk := (p.1, alt b p.2)
theorem alt_fold (b : Int) (hb : 0 ≤ b ∧ b ≤ 255) (r : List Pk) : (∀ p ∈ r, PkOk p) → ∀ s, (r.map (alt2 b)).foldl go s = r.foldl go s := by
  induction r with
  | nil => intro _ s; rfl
  | cons p r ih =>
    intro hok s
    have hp := hok p (by simp)
    have e : go s (alt2 b p) = go s p := by
      have hc := (alt_cls b p.2 hb ⟨hp.2.2.1, hp.2.2.2⟩).1
      unfold go alt2
      have e2 : stp s.1 p.1 (alt b p.2) = stp s.1 p.1 p.2 := by simp only [stp, hc]
      simp only [e2]
    simp only [List.map_cons, List.foldl_cons, e]
    exact ih (fun q hq => hok q (by simp [hq])) _
theorem alt_ok (b : Int) (hb : 0 ≤ b ∧ b ≤ 255) (p : Pk) (h : PkOk p) : PkOk (alt2 b p) := by
  have hc := (alt_cls b p.2 hb ⟨h.2.2.1, h.2.2.2⟩).2
  exact ⟨h.1, h.2.1, hc.1, hc.2⟩

theorem run_cons (f : Int) (r : List Pk) (h : cls f = 1) : run ((0, f) :: r) = r.foldl go (1, 1) := by
  simp only [run]
  rw [if_pos ⟨trivial, h⟩]

/-- slices.Clone of a row of packets. -/
theorem clone_any (b off : Nat) (l : List Pk) (n c : Nat) (w : World) (hn : Hid (n = l.length)) (h0 : 0 < n) (h101 : n ≤ 101) (hrd : Hid (Rd w (some ⟨b, off, none⟩) 2 (l.map pc))) :
    Calls Tryd.prog 22 #[.slice (some ⟨b, off, none⟩) n c] w (NewRow w l) := by
  obtain ⟨i0, hi, hz0, hz1, hz2⟩ := info_parts info33
  have hmx1 : 200 ≤ maxLen := mx200
  have hnews := Lib.hid (hrd.out.below ((Below.refl _ _).alloc (Nat.le_refl _) (.cells #[] 33)))
  have hl2 : (l.map pc).flatten.length = n * 2 := by rw [hn.out]; have := flatten_length (pc_each l); simpa using this
  have hone : ∀ u ∈ (l.map pc).flatten, u.oneCell' = true := by
    intro u hu
    obtain ⟨cs, hcs, hu⟩ := List.mem_flatten.1 hu
    obtain ⟨p, _, rfl⟩ := List.mem_map.1 hcs
    simp [pc] at hu
    rcases hu with rfl | rfl <;> rfl
  have hL2 := Lib.hid hl2
  have Hone := Lib.hid hone
  clear hl2 hone
  have hne := fun w => Lib.run_eql_slice_nil (P := Tryd.prog) w 22 33 (some ⟨b, off, none⟩) n c 0 0 Tryd.underlying22
  go_enter Tryd.func22, Tryd.ntmps22
  go_wp2_with (at_builtin; refine wpList_append_lies _ rfl _ _ 22 rfl w.heap.size 33 i0 (.agg #[.int .u8 0, .int .u8 0]) 2 2 Tryd.underlying22 hi hz0 hz1 hz2 rfl (by decide) _ 0 [] rfl ⟨rfl, .inr ⟨w.heap.size, 0, #[], rfl, Nat.le_refl _, heap_alloc_new _ _, Nat.le_refl _, Nat.zero_le _, rfl, rfl⟩⟩ ⟨b, off, none⟩ n c (l.map pc).flatten rfl hL2.out (hnews.out.news (by decide)) Hone.out ?_ ?_ ?_ ?_ (w.heap.size + 1) (by simp) ?_; omega; omega; omega; (simp <;> omega); intro g cap w1 hown hgrow hat hglt)
  have hb1 : Below w.heap.size w w1 := ((Below.refl _ _).alloc (Nat.le_refl _) _).grown hgrow (by simp) (fun k hk => by cases hk; exact Nat.le_refl _)
  have hgb : w.heap.size ≤ g := by rcases hat with h | h; (cases h; exact Nat.le_refl _); omega
  simp only [Nat.zero_add, List.nil_append] at hown ⊢
  go_ret
  rw [hn.out] at hown ⊢
  exact ⟨g, cap, rfl, own_cap hown, hgb, hglt, hown, hb1⟩

end Go.Proofs.YtdnammkfipfdbaaDoor

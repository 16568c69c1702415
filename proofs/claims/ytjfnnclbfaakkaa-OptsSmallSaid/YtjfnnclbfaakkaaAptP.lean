/-
  Plain structures and laws for bafflekit's Apart functions: slices in blocks of their own, what is known of the blocks; the grown slices, and the one that grows now. No conditions but those of the laws.
-/
import Derived.Test.YtjfnnclbfaakkaaKept
import Derived.Test.YtjfnnclbfaakkaaWrite
import Derived.ArgAppend
namespace Go.Proofs.Ytjfnnclbfaakkaa
open Go.RowKit
set_option linter.unusedVariables false
set_option linter.unusedSimpArgs false

theorem grown0_below {w w' : World} (h : w.grownBy w' none) : Below w.heap.size w w' := (Below.refl _ _).grown h (Nat.le_refl _) (fun k hk => by cases hk)
theorem made_zeros (m : Nat) : madeCells (Value.int .u8 0).cells (m * 1) = (List.replicate m (Value.int .u8 0)).toArray := by
  apply Array.ext
  · simp [madeCells]
  · intro i h1 h2
    simp [madeCells, Value.cells, Nat.mod_one]
theorem mk_zeros (k : IntKind) (x : Int) (m : Nat) (h : x = m) (hm : m ≤ 2 ^ 40) (w : World) : (Instr.makeSlice 22 (.int k x) (.int k x)).run Try.prog w = .ok (.slice (some ⟨w.heap.size, 0, none⟩) m m) (w.alloc (.cells (List.replicate m (Value.int .u8 0)).toArray 5)) := by
  obtain ⟨i0, hi, hz0, hz1, hz2⟩ := info5
  subst h
  have hr := run_make (P := Try.prog) w 22 5 i0 (.int .u8 0) Try.underlying22 hi hz0 k k (m : Int) (m : Int) (by omega) (Int.le_refl _) (by rw [hz2]; omega) (by omega)
  rw [hz1, Int.toNat_natCast, made_zeros] at hr
  exact hr

/-- A block of c cells, of which the first m are as f says. -/
def Tr (e : TypeId) (W : World) (b c : Nat) (f : Nat → Value) (m : Nat) : Prop := ∃ F, W.heap[b]? = some (.cells F e (0, 0)) ∧ F.size = c ∧ ∀ i, i < m → F[i]? = some (f i)
theorem Tr.of_heap {e : TypeId} {W W' : World} {b c m : Nat} {f : Nat → Value} (h : Tr e W b c f m) (hk : W'.heap[b]? = W.heap[b]?) : Tr e W' b c f m := by
  obtain ⟨F, h1, h2, h3⟩ := h
  exact ⟨F, hk.trans h1, h2, h3⟩
theorem Tr.lt {e : TypeId} {W : World} {b c m : Nat} {f : Nat → Value} (h : Tr e W b c f m) : b < W.heap.size := by
  obtain ⟨F, h1, _, _⟩ := h
  exact blk_lt h1
theorem Tr.below {e : TypeId} {W W' : World} {b c m : Nat} {f : Nat → Value} (h : Tr e W b c f m) (hb : Below W.heap.size W W') : Tr e W' b c f m := h.of_heap (hb.block b h.lt)
theorem Tr.keep {e : TypeId} {W W' : World} {b b0 c m : Nat} {f : Nat → Value} (h : Tr e W b c f m) (hk : Keep (fun b => b ≠ b0) W W') (hb : b ≠ b0) : Tr e W' b c f m := h.of_heap (hk.low b hb h.lt)
theorem Tr.less {e : TypeId} {W : World} {b c m m' : Nat} {f : Nat → Value} (h : Tr e W b c f m) (hm : m' ≤ m) : Tr e W b c f m' := by
  obtain ⟨F, h1, h2, h3⟩ := h
  exact ⟨F, h1, h2, fun i hi => h3 i (by omega)⟩
theorem Tr.cell {e : TypeId} {W : World} {b c m : Nat} {f : Nat → Value} (h : Tr e W b c f m) {i : Nat} (hi : i < m) : W.cell? ⟨b, i, none⟩ = some (f i) := by
  obtain ⟨F, h1, _, h3⟩ := h
  rw [blk_cell h1]
  exact h3 i hi
theorem Tr.any {e : TypeId} {W : World} {b c m : Nat} {f : Nat → Value} (h : Tr e W b c f m) {i : Nat} (hi : i < c) : (∃ u, W.cell? ⟨b, i, none⟩ = some u) ∧ W.frozen? ⟨b, i, none⟩ = false := by
  obtain ⟨F, h1, h2, _⟩ := h
  refine ⟨⟨F[i]'(by omega), ?_⟩, blk_free h1 i⟩
  rw [blk_cell h1]
  exact Array.getElem?_eq_getElem _
theorem Tr.set {e : TypeId} {W : World} {b c m m' : Nat} {f f' : Nat → Value} (h : Tr e W b c f m) {i : Nat} (hi : i < c) (v : Value) (hf : ∀ j, j < m' → if j = i then f' j = v else j < m ∧ f' j = f j) : Tr e (W.setCell ⟨b, i, none⟩ v) b c f' m' := by
  obtain ⟨F, h1, h2, h3⟩ := h
  refine ⟨F.setIfInBounds i v, blk_set h1 i v, by simpa using h2, fun j hj => ?_⟩
  have := hf j hj
  by_cases e : j = i
  · subst e
    rw [if_pos rfl] at this
    rw [Array.getElem?_setIfInBounds_self_of_lt (by omega), this]
  · rw [if_neg e] at this
    rw [Array.getElem?_setIfInBounds_ne (fun h => e h.symm), h3 j this.1, this.2]
theorem keep_set {W : World} (b i : Nat) (v : Value) : Keep (fun x => x ≠ b) W (W.setCell ⟨b, i, none⟩ v) := (Keep.refl _ _).setCell (by simp) _ _

/-- A slice in a block of its own, or nil. -/
structure Sli where
  g : Option Nat
  n : Nat
  c : Nat
def Sli.v (s : Sli) : Value := .slice (s.g.map fun b => ⟨b, 0, none⟩) s.n s.c
structure Sli.Ok (s : Sli) : Prop where
  nil : s.g = none → s.n = 0 ∧ s.c = 0
  le : s.n ≤ s.c
  max : s.c ≤ maxLen
  small : s.n ≤ 2 ^ 20
/-- Slices in different blocks. -/
structure Lg (L : List Sli) : Prop where
  ok : ∀ s ∈ L, s.Ok
  dis : ∀ (k j : Nat) (s t : Sli) (b : Nat), L[k]? = some s → L[j]? = some t → s.g = some b → t.g = some b → k = j
  len : L.length ≤ 2 ^ 18
def nL (L : List Sli) (k : Nat) : Nat := ((L[k]?).map Sli.n).getD 0
theorem nL_get {L : List Sli} {k : Nat} {s : Sli} (h : L[k]? = some s) : nL L k = s.n := by simp [nL, h]
/-- How far the marks are: all of those below k, i of the k-th. -/
def mL (L : List Sli) (k i j : Nat) : Nat := if j < k then nL L j else if j = k then i else 0
theorem mL_self (L : List Sli) (k i : Nat) : mL L k i k = i := by simp [mL]
theorem mL_next (L : List Sli) (k : Nat) : mL L k (nL L k) = mL L (k + 1) 0 := by
  funext j
  unfold mL
  by_cases h1 : j < k
  · rw [if_pos h1, if_pos (by omega)]
  · by_cases h2 : j = k
    · subst h2
      rw [if_neg h1, if_pos rfl, if_pos (by omega)]
    · rw [if_neg h1, if_neg h2, if_neg (by omega)]
      split <;> rfl
/-- A block that stays as it is. -/
structure Ext where
  b : Nat
  F : Array Value
  t : TypeId
/-- The slices' row, and their blocks. -/
structure Fl (x : List Ext) (e te : TypeId) (B : Nat) (f : Nat → Nat → Value) (L : List Sli) (lv : Value) (W : World) (m : Nat → Nat) : Prop where
  row : W.ownsRow B te 1 lv L.length (L.map Sli.v)
  blk : ∀ (k : Nat) (s : Sli) (b : Nat), L[k]? = some s → s.g = some b → B ≤ b ∧ Tr e W b s.c (f k) (m k)
  ext : ∀ y ∈ x, W.heap[y.b]? = some (.cells y.F y.t (0, 0))
  off : ∀ y ∈ x, y.t ≠ e ∧ y.t ≠ te
theorem blk_ne {t t' : TypeId} (hne : t ≠ t') {W : World} {b b' : Nat} {F F' : Array Value} (h : W.heap[b]? = some (.cells F t (0, 0))) (h' : W.heap[b']? = some (.cells F' t' (0, 0))) : b ≠ b' := by
  rintro rfl
  rw [h] at h'
  injection h' with h'
  injection h' with _ h'
  exact hne h'
theorem row_ne {e te : TypeId} (hne : e ≠ te) {W : World} {B n c m b : Nat} {lv : Value} {xs : List Value} {f : Nat → Value} (h : W.ownsRow B te 1 lv n xs) (ht : Tr e W b c f m) : lv.ownBlock ≠ some b := by
  intro hb
  obtain ⟨F, h1, _, _⟩ := ht
  obtain ⟨_, (⟨rfl, _⟩ | ⟨g, cap, cur, rfl, _, h2, _⟩)⟩ := h
  · cases hb
  · cases hb
    rw [h1] at h2
    injection h2 with h2
    injection h2 with _ h3
    exact hne h3
theorem row_keep {e te : TypeId} (hne : e ≠ te) {W W' : World} {B n c m b : Nat} {lv : Value} {xs : List Value} {f : Nat → Value} (h : W.ownsRow B te 1 lv n xs) (ht : Tr e W b c f m) (hk : Keep (fun x => x ≠ b) W W') : W'.ownsRow B te 1 lv n xs :=
  own_of_block h fun g _ hg hlt => hk.low g (fun e' => row_ne hne h ht (e' ▸ hg)) hlt
theorem Fl.bel {x : List Ext} {e te : TypeId} {B : Nat} {f : Nat → Nat → Value} {L : List Sli} {lv : Value} {W W' : World} {m : Nat → Nat} (h : Fl x e te B f L lv W m) (hb : Below W.heap.size W W') : Fl x e te B f L lv W' m :=
  ⟨own_below h.row hb, fun k s b hk hg => ⟨(h.blk k s b hk hg).1, (h.blk k s b hk hg).2.below hb⟩, fun y hy => blk_below hb (h.ext y hy), h.off⟩
/-- One block turns. -/
theorem Fl.turn {x : List Ext} {e te : TypeId} (hne : e ≠ te) {B : Nat} {f : Nat → Nat → Value} {L : List Sli} {lv : Value} {W W' : World} {m m' : Nat → Nat} (hL : Lg L) (h : Fl x e te B f L lv W m) {k : Nat} {s : Sli} {b : Nat} (hk : L[k]? = some s) (hg : s.g = some b) (hK : Keep (fun x => x ≠ b) W W')
    (hT : Tr e W' b s.c (f k) (m' k)) (hm : ∀ j, j ≠ k → m' j = m j) : Fl x e te B f L lv W' m' := by
  refine ⟨row_keep hne h.row (h.blk k s b hk hg).2 hK, fun j t b' hj hg' => ?_, fun y hy => by
    obtain ⟨F, f1, _, _⟩ := (h.blk k s b hk hg).2
    exact blk_keep hK (blk_ne (h.off y hy).1 (h.ext y hy) f1) (h.ext y hy), h.off⟩
  obtain ⟨h1, h2⟩ := h.blk j t b' hj hg'
  refine ⟨h1, ?_⟩
  by_cases hjk : j = k
  · subst hjk
    rw [hk] at hj
    cases hj
    rw [hg] at hg'
    cases hg'
    exact hT
  · rw [hm j hjk]
    exact h2.keep hK fun e' => hjk (hL.dis j k t s b hj hk (by rw [hg', e']) hg)
theorem Fl.cell {x : List Ext} {e te : TypeId} {B : Nat} {f : Nat → Nat → Value} {L : List Sli} {A : Option Addr} {N cl : Nat} {W : World} {m : Nat → Nat} (h : Fl x e te B f L (.slice A N cl) W m) (hN : L.length = N) {k : Nat} {s : Sli} (hk : L[k]? = some s) :
    ∃ bl, A = some ⟨bl, 0, none⟩ ∧ bl < W.heap.size ∧ B ≤ bl ∧ W.cell? ⟨bl, k, none⟩ = some s.v ∧ k < N := by
  have hkl : k < L.length := (List.getElem?_eq_some_iff.1 hk).1
  have hr := h.row
  rcases own_cases hr with ⟨_, h0, _⟩ | ⟨g, cap, e1, h1, h2, _, _⟩
  · omega
  · injection e1 with e1
    subst e1
    have hc := hr.cells (g := g) rfl k s.v (by rw [List.getElem?_map, hk]; rfl)
    rw [Go.WideShapes.add_plain, Nat.zero_add] at hc
    exact ⟨g, rfl, h2, h1, hc, by omega⟩

theorem setCells_row {e : TypeId} {b : Nat} : ∀ (vs : List Value) (o : Nat) (W : World) (F : Array Value), W.heap[b]? = some (.cells F e (0, 0)) → o + vs.length ≤ F.size →
    ∃ F', (W.setCells b o vs).heap[b]? = some (.cells F' e (0, 0)) ∧ F'.size = F.size ∧ (∀ i, i < o → F'[i]? = F[i]?) ∧ (∀ j, j < vs.length → F'[o + j]? = vs[j]?) ∧ Keep (fun x => x ≠ b) W (W.setCells b o vs)
  | [], o, W, F, h, _ => ⟨F, h, rfl, fun _ _ => rfl, fun j hj => by simp at hj, Keep.refl _ _⟩
  | v :: r, o, W, F, h, hl => by
    simp only [List.length_cons] at hl
    obtain ⟨F', h1, h2, h3, h4, h5⟩ := setCells_row r (o + 1) (W.setCell ⟨b, o, none⟩ v) _ (blk_set h o v) (by rw [Array.size_setIfInBounds]; omega)
    refine ⟨F', h1, by rw [h2, Array.size_setIfInBounds], fun i hi => ?_, fun j hj => ?_, (keep_set b o v).trans h5⟩
    · rw [h3 i (by omega), Array.getElem?_setIfInBounds_ne (by omega)]
    · cases j with
      | zero =>
        rw [Nat.add_zero, h3 o (by omega), Array.getElem?_setIfInBounds_self_of_lt (by omega)]
        rfl
      | succ j =>
        have := h4 j (by simpa using hj)
        rw [show o + (j + 1) = o + 1 + j by omega, this]
        rfl
/-- What an append leaves: a slice in the old block, or in a new one. -/
structure App (e : TypeId) (W : World) (h : Option Nat) (n c : Nat) (f : Nat → Value) (news : List Value) (h' : Option Nat) (c' : Nat) (W' : World) : Prop where
  at_ : (h' = h ∧ c' = c) ∨ ∃ b, h' = some b ∧ W.heap.size ≤ b ∧ Below W.heap.size W W'
  le : n + news.length ≤ c'
  max : c' ≤ maxLen
  blk : ∃ b, h' = some b ∧ ∃ F, W'.heap[b]? = some (.cells F e (0, 0)) ∧ F.size = c' ∧ (∀ i, i < n → F[i]? = some (f i)) ∧ ∀ j, j < news.length → F[n + j]? = news[j]?
  keep : Keep (fun x => h ≠ some x) W W'
theorem wpList_appT {P : Program} {W : World} {ops : Array Oper} {rest : List Oper} {o : Oper} {a : Act} {Q : Exit → Act → World → Prop} (hg : o.guard = none) (s x : Operand) (t : TypeId) (hop : o.op = Op.call { callee := Callee.builtin Builtin.append, args := #[s, x], argTypes := #[t, t] })
    {e : TypeId} {i : TypeInfo} {z : Value} {bytes : Nat} (h1 : P.underlying t = some (.slice e)) (h2 : P.info? e = some i) (h3 : i.zero = some z) (h4 : i.size = 1) (h5 : i.bytes = bytes) (h6 : z.cells.size = 1)
    (h : Option Nat) (n c : Nat) (f : Nat → Value) (hs : a.eval s = .slice (h.map fun b => ⟨b, 0, none⟩) n c) (hnil : h = none → n = 0 ∧ c = 0) (hle : n ≤ c) (hmax : c ≤ maxLen) (htr : ∀ b, h = some b → Tr e W b c f n)
    (ad : Addr) (m cn : Nat) (news : List Value) (hx : a.eval x = .slice (some ad) m cn) (hm : 0 < m) (hn : news.length = m) (hc : ∀ j u, news[j]? = some u → W.cell? (ad.add j) = some u) (h1c : ∀ u ∈ news, u.oneCell' = true)
    (b1 : n + m ≤ maxLen) (b2 : (n + m) * bytes ≤ 140737488355328)
    (hK : ∀ h' c' W', App e W h n c f news h' c' W' → wpList P ops Q rest (a.put o.dst (.slice (h'.map fun b => ⟨b, 0, none⟩) (n + m) c')) W') : wpList P ops Q (o :: rest) a W := by
  have grown : ∀ (olds : List Value), olds.length = n → (∀ i, i < n → olds[i]? = some (f i)) → ∀ v' w', w'.ownsRow W.heap.size e 1 v' (n + m) (olds ++ news) → W.grownBy w' none → wpList P ops Q rest (a.put o.dst v') w' := by
    intro olds ho hof v' w' hr hgr
    rcases own_cases hr with ⟨_, h0, _⟩ | ⟨g, cap, rfl, hg1, hg2, hle', hmax'⟩
    · omega
    · refine hK (some g) cap w' ⟨.inr ⟨g, rfl, hg1, grown0_below hgr⟩, by rw [hn]; exact hle', hmax', ⟨g, rfl, ?_⟩, Keep.of_below (grown0_below hgr)⟩
      obtain ⟨_, (⟨e1, _⟩ | ⟨g', cap', cur, e1, _, c1, c2, c3, c4, c5⟩)⟩ := hr
      · cases e1
      · injection e1 with e1 _ e3
        cases e1
        subst e3
        refine ⟨cur, c1, by omega, fun i hi => ?_, fun j hj => ?_⟩
        · have : (cur.toList.take ((n + m) * 1))[i]? = some (f i) := by rw [c5, List.getElem?_append_left (by omega), hof i hi]
          rw [List.getElem?_take, if_pos (by omega)] at this
          simpa using this
        · have : (cur.toList.take ((n + m) * 1))[n + j]? = news[j]? := by rw [c5, List.getElem?_append_right (by omega), ho, Nat.add_sub_cancel_left]
          rw [List.getElem?_take, if_pos (by omega)] at this
          simpa using this
  cases h with
  | none =>
    obtain ⟨rfl, rfl⟩ := hnil rfl
    exact wpList_append_grows W hg s x t hop e i z 1 bytes h1 h2 h3 h4 h5 h6 (by decide) none 0 0 [] hs (fun _ => ⟨rfl, rfl⟩) rfl (fun b hb => by cases hb) ad m cn news hx (by omega) hc h1c (by omega) b1 b2 (fun v' w' hr hgr => grown [] rfl (fun i hi => by omega) v' w' hr hgr)
  | some b =>
    have ht := htr b rfl
    obtain ⟨F, f1, f2, f3⟩ := ht
    refine wpList_append_arg W hg s x t hop e i z 1 bytes h1 h2 h3 h4 h5 h6 (by decide) b 0 n c ((List.range n).map f) hs (by simp) (fun j u hu => by
      rw [Nat.zero_add, blk_cell f1]
      rw [List.getElem?_map] at hu
      have hj : j < n := by
        have := (List.getElem?_eq_some_iff.1 (show ((List.range n).map f)[j]? = some u by rw [List.getElem?_map]; exact hu)).1
        simpa using this
      rw [List.getElem?_range hj] at hu
      rw [f3 j hj]
      exact hu) ad m cn news hx (by omega) hc h1c (fun hr j hj => by
      rw [Nat.zero_add, Nat.mul_one]
      refine ⟨?_, blk_free f1 _⟩
      rw [blk_cell f1, Array.getElem?_eq_getElem (by omega)]
      rfl) b1 b2 (fun hr => ?_) (fun hlt v' w' hrw hgr => grown ((List.range n).map f) (by simp) (fun i hi => by rw [List.getElem?_map, List.getElem?_range hi]; rfl) v' w' hrw hgr)
    obtain ⟨F', g1, g2, g3, g4, g5⟩ := setCells_row news (0 + n * 1) W F f1 (by omega)
    refine hK (some b) c _ ⟨.inl ⟨rfl, rfl⟩, by omega, hmax, ⟨b, rfl, F', g1, by omega, fun i hi => (g3 i (by omega)).trans (f3 i hi), fun j hj => ?_⟩, g5.mono fun x hx e' => hx (by rw [e'])⟩
    have := g4 j hj
    rwa [Nat.zero_add, Nat.mul_one] at this

theorem Fl.away {x : List Ext} {e te : TypeId} {B b : Nat} {f : Nat → Nat → Value} {L : List Sli} {lv : Value} {W W' : World} {m : Nat → Nat} (h : Fl x e te B f L lv W m) (hK : Keep (fun x => x ≠ b) W W') (hr : lv.ownBlock ≠ some b) (hx : ∀ y ∈ x, y.b ≠ b) (hb : ∀ (k : Nat) (s : Sli), L[k]? = some s → s.g ≠ some b) : Fl x e te B f L lv W' m :=
  ⟨own_of_block h.row fun g _ hg hlt => hK.low g (fun e' => hr (e' ▸ hg)) hlt, fun k s b' hk hg => ⟨(h.blk k s b' hk hg).1, (h.blk k s b' hk hg).2.keep hK fun e' => hb k s hk (by rw [hg, e'])⟩, fun y hy => blk_keep hK (hx y hy) (h.ext y hy), h.off⟩
/-- The grown slices: those below kk are there. -/
structure Gl (e te : TypeId) (B : Nat) (f : Nat → Nat → Value) (L : List Sli) (p : Nat → Nat) (gb N : Nat) (W : World) (kk : Nat) (G : List Sli) : Prop where
  len : G.length = N
  row : W.ownsRow B te 1 (.slice (some ⟨gb, 0, none⟩) N N) N (G.map Sli.v)
  blk : ∀ (k : Nat) (s : Sli), k < kk → G[k]? = some s → s.n = nL L k + 64 ∧ s.n ≤ s.c ∧ ∃ b, s.g = some b ∧ B ≤ b ∧ Tr e W b s.c (f k) (p k)
  sepL : ∀ (k j : Nat) (s t : Sli) (b : Nat), k < kk → k ≠ j → G[k]? = some s → L[j]? = some t → s.g = some b → t.g ≠ some b
  sepG : ∀ (k j : Nat) (s t : Sli) (b : Nat), k < kk → j < kk → k ≠ j → G[k]? = some s → G[j]? = some t → s.g = some b → t.g ≠ some b
theorem Gl.bel {e te : TypeId} {B : Nat} {f : Nat → Nat → Value} {L : List Sli} {p : Nat → Nat} {gb N : Nat} {W W' : World} {kk : Nat} {G : List Sli} (h : Gl e te B f L p gb N W kk G) (hb : Below W.heap.size W W') : Gl e te B f L p gb N W' kk G :=
  ⟨h.len, own_below h.row hb, fun k s hk hs => by
    obtain ⟨h1, h2, b, h3, h4, h5⟩ := h.blk k s hk hs
    exact ⟨h1, h2, b, h3, h4, h5.below hb⟩, h.sepL, h.sepG⟩
theorem Gl.away {e te : TypeId} {B b : Nat} {f : Nat → Nat → Value} {L : List Sli} {p : Nat → Nat} {gb N : Nat} {W W' : World} {kk : Nat} {G : List Sli} (h : Gl e te B f L p gb N W kk G) (hK : Keep (fun x => x ≠ b) W W') (hr : gb ≠ b) (hb : ∀ (k : Nat) (s : Sli), k < kk → G[k]? = some s → s.g ≠ some b) : Gl e te B f L p gb N W' kk G :=
  ⟨h.len, own_of_block h.row fun g _ hg hlt => hK.low g (fun e' => by cases hg; exact hr e') hlt, fun k s hk hs => by
    obtain ⟨h1, h2, b', h3, h4, h5⟩ := h.blk k s hk hs
    exact ⟨h1, h2, b', h3, h4, h5.keep hK fun e' => hb k s hk hs (by rw [h3, e'])⟩, h.sepL, h.sepG⟩
/-- While the k-th slice grows: its length n, of which q are marked. -/
structure Ph (x : List Ext) (e te : TypeId) (B : Nat) (f : Nat → Nat → Value) (L : List Sli) (lv : Value) (p : Nat → Nat) (gb N k : Nat) (G : List Sli) (S0 : Nat) (s : Sli) (h : Option Nat) (n c q : Nat) (W : World) : Prop where
  fl : Fl x e te B f L lv W (nL L)
  gl : Gl e te B f L p gb N W k G
  nil : h = none → n = 0 ∧ c = 0
  le : n ≤ c
  max : c ≤ maxLen
  tr : ∀ (b : Nat), h = some b → B ≤ b ∧ Tr e W b c (f k) q
  own : (h = s.g ∧ c = s.c) ∨ ∀ (b : Nat), h = some b → S0 ≤ b
  loL : ∀ (j : Nat) (t : Sli) (b : Nat), L[j]? = some t → t.g = some b → b < S0
  loG : ∀ (j : Nat) (t : Sli) (b : Nat), j < k → G[j]? = some t → t.g = some b → b < S0
theorem Ph.start {x : List Ext} {e te : TypeId} {B : Nat} {f : Nat → Nat → Value} {L : List Sli} {lv : Value} {p : Nat → Nat} {gb N k : Nat} {G : List Sli} {s : Sli} {W : World} (hL : Lg L) (hs : L[k]? = some s) (hf : Fl x e te B f L lv W (nL L)) (hg : Gl e te B f L p gb N W k G) : Ph x e te B f L lv p gb N k G W.heap.size s s.g s.n s.c s.n W := by
  have hok := hL.ok s (List.mem_of_getElem? hs)
  refine ⟨hf, hg, hok.nil, hok.le, hok.max, fun b hb => ?_, .inl ⟨rfl, rfl⟩, fun j t b hj ht => (hf.blk j t b hj ht).2.lt, fun j t b hjk hj ht => ?_⟩
  · have := hf.blk k s b hs hb
    rw [nL_get hs] at this
    exact this
  · obtain ⟨_, _, b', h1, _, h2⟩ := hg.blk j t hjk hj
    rw [h1] at ht
    cases ht
    exact h2.lt
theorem Ph.bel {x : List Ext} {e te : TypeId} {B : Nat} {f : Nat → Nat → Value} {L : List Sli} {lv : Value} {p : Nat → Nat} {gb N k : Nat} {G : List Sli} {S0 : Nat} {s : Sli} {h : Option Nat} {n c q : Nat} {W W' : World} (H : Ph x e te B f L lv p gb N k G S0 s h n c q W) (hb : Below W.heap.size W W') : Ph x e te B f L lv p gb N k G S0 s h n c q W' :=
  ⟨H.fl.bel hb, H.gl.bel hb, H.nil, H.le, H.max, fun b hh => ⟨(H.tr b hh).1, (H.tr b hh).2.below hb⟩, H.own, H.loL, H.loG⟩
theorem Ph.app {x : List Ext} {e te : TypeId} (hne : e ≠ te) {B : Nat} {f : Nat → Nat → Value} {L : List Sli} {lv : Value} {p : Nat → Nat} {gb N k : Nat} {G : List Sli} {S0 : Nat} {s : Sli} {h : Option Nat} {n c : Nat} {W W' : World} (hL : Lg L) (hs : L[k]? = some s) (H : Ph x e te B f L lv p gb N k G S0 s h n c n W) (hsn : s.n ≤ n) (hS : S0 ≤ W.heap.size) (hBS : B ≤ W.heap.size)
    {news : List Value} {h2 : Option Nat} {c2 : Nat} (A : App e W h n c (f k) news h2 c2 W') {q : Nat} (hq : q ≤ n ∨ (q = n + 1 ∧ news[0]? = some (f k n))) : Ph x e te B f L lv p gb N k G S0 s h2 (n + news.length) c2 q W' ∧ Below B W W' := by
  obtain ⟨b2, e2, F, f1, f2, f3, f4⟩ := A.blk
  have htr : Tr e W' b2 c2 (f k) q := ⟨F, f1, f2, fun i hi => by
    by_cases hin : i < n
    · exact f3 i hin
    · rcases hq with hq | ⟨hq, hn0⟩
      · omega
      · obtain rfl : i = n := by omega
        have h0 : 0 < news.length := by
          rcases news with _ | ⟨v, r⟩
          · simp at hn0
          · simp
        have := f4 0 h0
        rw [Nat.add_zero] at this
        rw [this, hn0]⟩
  have hnil2 : h2 = none → n + news.length = 0 ∧ c2 = 0 := fun hh => by rw [hh] at e2; cases e2
  rcases A.at_ with ⟨rfl, rfl⟩ | ⟨b, rfl, hb1, hb2⟩
  · obtain ⟨hB2, ht2⟩ := H.tr b2 e2
    have hK : Keep (fun x => x ≠ b2) W W' := A.keep.mono fun x hx e' => by rw [e2] at e'; cases e'; exact hx rfl
    have hgb : gb ≠ b2 := fun e' => row_ne hne H.gl.row ht2 (by subst e'; rfl)
    have hlv := row_ne hne H.fl.row ht2
    have hG : ∀ (j : Nat) (t : Sli), j < k → G[j]? = some t → t.g ≠ some b2 := fun j t hjk hj ht => by
      rcases H.own with ⟨h1, _⟩ | h1
      · exact H.gl.sepL j k t s b2 hjk (by omega) hj hs ht (by rw [← h1, e2])
      · have := h1 b2 e2
        have := H.loG j t b2 hjk hj ht
        omega
    refine ⟨⟨?_, H.gl.away hK hgb hG, hnil2, A.le, A.max, fun b hb => by rw [e2] at hb; cases hb; exact ⟨hB2, htr⟩, H.own, H.loL, H.loG⟩, hK.below (fun b hb => by show b ≠ b2; omega) hBS⟩
    rcases H.own with ⟨h1, h1c⟩ | h1
    · refine H.fl.turn hne hL hs (by rw [← h1, e2]) hK ?_ (fun _ _ => rfl)
      rw [nL_get hs]
      exact ⟨F, f1, by rw [f2, h1c], fun i hi => f3 i (by omega)⟩
    · refine H.fl.away hK hlv (fun y hy => by
        obtain ⟨F, f1, _, _⟩ := ht2
        exact blk_ne (H.fl.off y hy).1 (H.fl.ext y hy) f1) fun j t hj ht => ?_
      have := h1 b2 e2
      have := H.loL j t b2 hj ht
      omega
  · cases e2
    have hP := H.bel hb2
    refine ⟨⟨hP.fl, hP.gl, hnil2, A.le, A.max, fun b' hb' => by cases hb'; exact ⟨by omega, htr⟩, .inr fun b' hb' => by cases hb'; omega, H.loL, H.loG⟩, hb2.mono hBS⟩
/-- The grown slice is laid into its row. -/
theorem Ph.done {x : List Ext} {e te : TypeId} (hne : e ≠ te) {B : Nat} {f : Nat → Nat → Value} {L : List Sli} {lv : Value} {p : Nat → Nat} {gb N k : Nat} {G : List Sli} {S0 : Nat} {s : Sli} {h : Option Nat} {n c q : Nat} {W : World} (hL : Lg L) (hs : L[k]? = some s) (H : Ph x e te B f L lv p gb N k G S0 s h n c q W) (hn : n = nL L k + 64) (hq : p k ≤ q) (hkN : k < N) (hlv : lv.ownBlock ≠ some gb) :
    Fl x e te B f L lv (W.setCell ⟨gb, k, none⟩ (Sli.v ⟨h, n, c⟩)) (nL L) ∧ Gl e te B f L p gb N (W.setCell ⟨gb, k, none⟩ (Sli.v ⟨h, n, c⟩)) (k + 1) (G.set k ⟨h, n, c⟩) ∧ Below B W (W.setCell ⟨gb, k, none⟩ (Sli.v ⟨h, n, c⟩)) := by
  have hK : Keep (fun x => x ≠ gb) W (W.setCell ⟨gb, k, none⟩ (Sli.v ⟨h, n, c⟩)) := keep_set gb k _
  have hgt : ∀ (b c' m : Nat) (f' : Nat → Value), Tr e W b c' f' m → b ≠ gb := fun b c' m f' ht e' => row_ne hne H.gl.row ht (by subst e'; rfl)
  have hgB : B ≤ gb := (H.gl.row.lt gb rfl).1
  obtain ⟨bh, hbh⟩ : ∃ b, h = some b := by
    cases h with
    | none => have := (H.nil rfl).1; omega
    | some b => exact ⟨b, rfl⟩
  have hset : ∀ (j : Nat) (t : Sli), (G.set k ⟨h, n, c⟩)[j]? = some t → (j = k ∧ t = ⟨h, n, c⟩) ∨ (j ≠ k ∧ G[j]? = some t) := fun j t hj => by
    by_cases hjk : j = k
    · subst hjk
      rw [List.getElem?_set_self (by rw [H.gl.len]; exact hkN)] at hj
      exact .inl ⟨rfl, (Option.some.inj hj).symm⟩
    · rw [List.getElem?_set_ne (fun h => hjk h.symm)] at hj
      exact .inr ⟨hjk, hj⟩
  have hnewL : ∀ (j : Nat) (t : Sli) (b : Nat), k ≠ j → L[j]? = some t → h = some b → t.g ≠ some b := fun j t b hkj hj hb ht => by
    rcases H.own with ⟨h1, _⟩ | h1
    · exact hkj (hL.dis k j s t b hs hj (by rw [← h1, hb]) ht)
    · have := h1 b hb
      have := H.loL j t b hj ht
      omega
  have hnewG : ∀ (j : Nat) (t : Sli) (b : Nat), j < k → G[j]? = some t → h = some b → t.g ≠ some b := fun j t b hjk hj hb ht => by
    rcases H.own with ⟨h1, _⟩ | h1
    · exact H.gl.sepL j k t s b hjk (by omega) hj hs ht (by rw [← h1, hb])
    · have := h1 b hb
      have := H.loG j t b hjk hj ht
      omega
  refine ⟨H.fl.away hK hlv (fun y hy => by
    obtain ⟨_, (⟨e1, _⟩ | ⟨g', cap, cur, e1, _, r2, _⟩)⟩ := H.gl.row
    · cases e1
    · cases e1
      exact blk_ne (H.fl.off y hy).2 (H.fl.ext y hy) r2) (fun j t hj ht => hgt _ _ _ _ (H.fl.blk j t gb hj ht).2 rfl), ⟨by rw [List.length_set]; exact H.gl.len, ?_, fun j t hj ht => ?_, fun i j t u b hi hij ht hu htb => ?_, fun i j t u b hi hj hij ht hu htb => ?_⟩, hK.below (fun b hb => by show b ≠ gb; omega) (by have := (H.gl.row.lt gb rfl).2; omega)⟩
  · obtain ⟨hl, (⟨e1, _⟩ | ⟨g', cap, cur, e1, r1, r2, r3, r4, r5, r6⟩)⟩ := H.gl.row
    · cases e1
    · cases e1
      refine ⟨by rw [List.length_map, List.length_set]; simpa using hl, .inr ⟨gb, N, cur.setIfInBounds k (Sli.v ⟨h, n, c⟩), rfl, r1, blk_set r2 k _, r3, r4, by rw [Array.size_setIfInBounds]; exact r5, ?_⟩⟩
      rw [Array.toList_setIfInBounds, List.take_set, r6, List.map_set]
  · rcases hset j t ht with ⟨rfl, rfl⟩ | ⟨hjk, ht⟩
    · exact ⟨hn, H.le, bh, hbh, (H.tr bh hbh).1, ((H.tr bh hbh).2.less hq).keep hK (hgt _ _ _ _ (H.tr bh hbh).2)⟩
    · obtain ⟨h1, h2, b', h3, h4, h5⟩ := H.gl.blk j t (by omega) ht
      exact ⟨h1, h2, b', h3, h4, h5.keep hK (hgt _ _ _ _ h5)⟩
  · rcases hset i t ht with ⟨rfl, rfl⟩ | ⟨hik, ht⟩
    · exact hnewL j u b hij hu htb
    · exact H.gl.sepL i j t u b (by omega) hij ht hu htb
  · rcases hset i t ht with ⟨rfl, rfl⟩ | ⟨hik, ht2⟩
    · rcases hset j u hu with ⟨rfl, _⟩ | ⟨hjk, hu2⟩
      · exact absurd rfl hij
      · exact hnewG j u b (by omega) hu2 htb
    · rcases hset j u hu with ⟨rfl, rfl⟩ | ⟨hjk, hu2⟩
      · intro e'
        exact hnewG i t b (by omega) ht2 e' htb
      · exact H.gl.sepG i j t u b (by omega) (by omega) hij ht2 hu2 htb
theorem Gl.cell {e te : TypeId} {B : Nat} {f : Nat → Nat → Value} {L : List Sli} {p : Nat → Nat} {gb N : Nat} {W : World} {kk : Nat} {G : List Sli} (h : Gl e te B f L p gb N W kk G) {k : Nat} {s : Sli} (hs : G[k]? = some s) : W.cell? ⟨gb, k, none⟩ = some s.v := by
  have hc := h.row.cells (g := gb) rfl k s.v (by rw [List.getElem?_map, hs]; rfl)
  rwa [Go.WideShapes.add_plain, Nat.zero_add] at hc
theorem row_free {te : TypeId} {B gb N n c : Nat} {W : World} {xs : List Value} (h : W.ownsRow B te 1 (.slice (some ⟨gb, 0, none⟩) n c) N xs) (k : Nat) : W.frozen? ⟨gb, k, none⟩ = false := by
  obtain ⟨_, (⟨e1, _⟩ | ⟨g', cap, cur, e1, _, r2, _⟩)⟩ := h
  · cases e1
  · cases e1
    exact blk_free r2 k
end Go.Proofs.Ytjfnnclbfaakkaa

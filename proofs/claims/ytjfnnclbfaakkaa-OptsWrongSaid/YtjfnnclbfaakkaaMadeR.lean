/-
  The structures of Made's walk, and three of its parts as theorems of their own. Conditions: those of the theorems.
-/
import Derived.Test.YtjfnnclbfaakkaaMadeP
import Derived.Test.YtjfnnclbfaakkaaListed
import Derived.Test.YtjfnnclbfaakkaaPart
import Derived.BigQuiet
import Derived.BigRegion
import Derived.Deep.CutBlock
namespace Go.Proofs.Ytjfnnclbfaakkaa
open Go.RowKit
set_option linter.unusedVariables false
set_option linter.unusedSimpArgs false

/-- Small numbers, as they lie. -/
structure Smalls (w : World) (A : Option Addr) (l : List Sm) : Prop where
  ok : ∀ x ∈ l, x.Ok
  mem : ∃ css : List (List Value), Rd w A 4 css ∧ css.length = l.length ∧ ∀ (i : Nat) (x : Sm), l[i]? = some x → ∃ Ai ci, css[i]? = some [.int .u8 x.kind, .int .u8 x.many, .int .u8 x.used, .slice Ai x.bytes.length ci] ∧ By w Ai x.bytes ∧ x.bytes.length ≤ 9223372036854775807
theorem Smalls.below {w w' : World} {A : Option Addr} {l : List Sm} (h : Smalls w A l) (hb : Below w.heap.size w w') : Smalls w' A l := by
  obtain ⟨css, h1, h2, h3⟩ := h.mem
  refine ⟨h.ok, css, h1.below hb, h2, fun i x hi => ?_⟩
  obtain ⟨Ai, ci, e, hy, hl⟩ := h3 i x hi
  exact ⟨Ai, ci, e, hy.below hb, hl⟩
theorem Smalls.pos {w : World} {A : Option Addr} {l : List Sm} (h : Smalls w A l) (hl : 0 < l.length) : ∃ b o, A = some ⟨b, o, none⟩ ∧ b < w.heap.size := by
  obtain ⟨css, h1, h2, _⟩ := h.mem
  obtain ⟨b, o, e, hlt, _⟩ := h1.mem (by rintro rfl; simp at h2; omega)
  exact ⟨b, o, e, hlt⟩
theorem Smalls.at {w : World} {b off : Nat} {l : List Sm} (h : Smalls w (some ⟨b, off, none⟩) l) {i : Nat} {x : Sm} (hi : l[i]? = some x) :
    ∃ Ai ci, w.cell? ⟨b, off + i * 4, none⟩ = some (.int .u8 x.kind) ∧ w.cell? ⟨b, off + i * 4 + 1, none⟩ = some (.int .u8 x.many) ∧ w.cell? ⟨b, off + i * 4 + 2, none⟩ = some (.int .u8 x.used) ∧ w.cell? ⟨b, off + i * 4 + 3, none⟩ = some (.slice Ai x.bytes.length ci) ∧ By w Ai x.bytes ∧ x.bytes.length ≤ 9223372036854775807 := by
  obtain ⟨css, h1, h2, h3⟩ := h.mem
  obtain ⟨Ai, ci, e, hy, hl⟩ := h3 i x hi
  exact ⟨Ai, ci, by simpa using h1.cell e (j := 0) rfl, h1.cell e (j := 1) rfl, h1.cell e (j := 2) rfl, h1.cell e (j := 3) rfl, hy, hl⟩

structure Met3 (acc : List Op1) (M : Array Value) : Prop where
  size : M.size = 3
  m0 : M[0]? = some (.int .i64 (num acc 1))
  m1 : M[1]? = some (.int .i64 (num acc 3))
  m2 : M[2]? = some (.int .i64 (num acc 2))
/-- Between the rounds of Made. -/
structure MdI (w : World) (l : List Sm) (wr : World) (k : Nat) (v : Value) (css : List (List Value)) (acc : List Op1 × Int) (M : Array Value) : Prop where
  below : Below w.heap.size w wr
  got : Got (w.heap.size + 1) wr v css acc.1
  met : wr.heap[w.heap.size]? = some (.cells M 69 (0, 0))
  mets : Met3 acc.1 M
  eq : (l.take k).foldl addS ([], 0) = acc
  inv : MdInv acc

/-- The data are there. -/
structure DtF (X2 : World) (b9 : Nat) (kd : Int) (d : List Int) (v : Value) (wx : World) : Prop where
  obj : wx.heap[b9]? = some (.cells #[.int .u8 kd, v] 36 (0, 0))
  row : wx.ownsRow X2.heap.size 5 1 v d.length (d.map (Value.int .u8))
  keep : Keep (fun b => b ≠ b9) X2 wx
theorem DtF.set {X2 wx w' : World} {b9 : Nat} {kd : Int} {d : List Int} {gb n cap : Nat} (h : DtF X2 b9 kd d (.slice (some ⟨gb, 0, none⟩) n cap) wx) (hb : Below wx.heap.size wx w') {j : Nat} (hj : j < d.length) (y : Int) :
    (∃ u, w'.cell? ⟨gb, j, none⟩ = some (.int .u8 u)) ∧ w'.frozen? ⟨gb, j, none⟩ = false ∧ gb < w'.heap.size ∧ DtF X2 b9 kd (d.set j y) (.slice (some ⟨gb, 0, none⟩) n cap) (w'.setCell ⟨gb, j, none⟩ (.int .u8 y)) := by
  have hrow := own_below h.row hb
  have hn : n = d.length := by
    rcases own_cases hrow with ⟨e, _⟩ | ⟨g, c, e, _⟩
    · cases e
    · cases e; rfl
  have hob := blk_below hb h.obj
  have hne : gb ≠ b9 := by
    rintro rfl
    obtain ⟨_, (⟨e1, _⟩ | ⟨g', c', cu, e0, _, e2, _⟩)⟩ := hrow
    · cases e1
    · cases e0
      rw [hob] at e2
      cases e2
  have hc := hrow.cells (g := gb) rfl j (.int .u8 d[j]) (by simp [hj])
  rw [Go.WideShapes.add_plain, Nat.zero_add] at hc
  refine ⟨⟨_, hc⟩, ?_, (hrow.lt gb rfl).2, ?_, ?_, ?_⟩
  · obtain ⟨_, (⟨e1, _⟩ | ⟨g', c', cu, e0, _, e2, _⟩)⟩ := hrow
    · cases e1
    · cases e0
      exact blk_free e2 j
  · exact (Below.heap_setCell _ _ _ _ (by show b9 ≠ gb; exact fun e => hne e.symm)).trans hob
  · subst hn
    rw [List.length_set]
    exact own_set hrow hj y
  · have hge := (hrow.lt gb rfl).1
    have k1 : Keep (fun b => b ≠ b9 ∧ b < X2.heap.size) X2 w' := (h.keep.mono fun b h => h.1).trans (Keep.of_below hb)
    have k2 := k1.setCell (b := gb) (by omega) j (.int .u8 y)
    exact ⟨k2.frame, fun b hb hlt => k2.low b ⟨hb, hlt⟩ hlt⟩
/-- While the data are appended. -/
structure DtI (X2 : World) (b9 : Nat) (kd : Int) (x : Sm) (j : Nat) (v : Value) (wx : World) : Prop where
  obj : wx.heap[b9]? = some (.cells #[.int .u8 kd, v] 36 (0, 0))
  row : wx.ownsRow X2.heap.size 5 1 v j ((rawS x j).map (Value.int .u8))
  keep : Keep (fun b => b ≠ b9) X2 wx
theorem DtI.step {X2 wr Y w3 : World} {b9 : Nat} {kd : Int} {x : Sm} {j : Nat} {v v' : Value} {ob : Obj} (h : DtI X2 b9 kd x j v wr) (hb9 : b9 < X2.heap.size) (hY : Below wr.heap.size wr Y) (hg : (Y.alloc ob).grownBy w3 v.ownBlock)
    (hr : w3.ownsRow X2.heap.size 5 1 v' (j + 1) ((rawS x j).map (Value.int .u8) ++ [.int .u8 (byS x.bytes j)])) :
    w3.heap[b9]? = some (.cells #[.int .u8 kd, v] 36 (0, 0)) ∧ DtI X2 b9 kd x (j + 1) v' (w3.setCell ⟨b9, 1, none⟩ v') := by
  have hY' : Below wr.heap.size wr (Y.alloc ob) := hY.alloc hY.size ob
  have hrow := own_below h.row hY'
  have hv : ∀ g, v.ownBlock = some g → X2.heap.size ≤ g := fun g e => (hrow.lt g e).1
  have ho := blk_below hY' h.obj
  have ho3 : w3.heap[b9]? = some (.cells #[.int .u8 kd, v] 36 (0, 0)) := (hg.block b9 (blk_lt ho) (fun e => by have := hv b9 e.symm; omega)).trans ho
  refine ⟨ho3, ?_, ?_, ?_⟩
  · have := blk_set ho3 1 v'
    simpa using this
  · have h1 : w3.ownsRow X2.heap.size 5 1 v' (j + 1) ((rawS x (j + 1)).map (Value.int .u8)) := by
      rw [rawS, List.map_append]
      exact hr
    exact own_of_block h1 fun g hg' _ _ => Below.heap_setCell _ _ _ _ (by show g ≠ b9; omega)
  · have k1 : Keep (fun b => b ≠ b9 ∧ b < X2.heap.size) X2 w3 := (((h.keep.mono fun b h => h.1).trans (Keep.of_below hY')).grown hg fun g e hh => by have := hv g e; omega)
    have k2 := k1.setCell (b := b9) (by simp) 1 v'
    exact ⟨k2.frame, fun b hb hlt => k2.low b ⟨hb, hlt⟩ hlt⟩
theorem own_cell {w : World} {base gb n cap m : Nat} {d : List Int} (h : w.ownsRow base 5 1 (.slice (some ⟨gb, 0, none⟩) n cap) m (d.map (Value.int .u8))) {j : Nat} (hj : j < d.length) : w.cell? ⟨gb, j, none⟩ = some (.int .u8 (d.getD j 0)) := by
  have hc := h.cells (g := gb) rfl j (.int .u8 (d.getD j 0)) (by rw [List.getElem?_map, getD_some hj]; rfl)
  rw [Go.WideShapes.add_plain, Nat.zero_add] at hc
  exact hc
theorem rngD {d : List Int} (h : ∀ x ∈ d, 0 ≤ x ∧ x ≤ 255) (i : Nat) : 0 ≤ d.getD i 0 ∧ d.getD i 0 ≤ 255 := by
  rw [List.getD_eq_getElem?_getD]
  cases hd : d[i]? with
  | none => simp
  | some x => exact h x (List.mem_of_getElem? hd)
theorem dat_eq {kq mq uq : Int} {bq : List Int} {kd gq hq nq sq : Int} {j : Nat} {d1 : List Int} (hk : kdS ⟨kq, mq, uq, bq⟩ = kd) (hg : gS kd = gq) (hh : hS kd = hq) (hn : nS kd mq = nq) (hs : sS kd mq = sq) (hl : lenS ⟨kq, mq, uq, bq⟩ = j)
    (hd : d1 = if gq < 0 then rawS ⟨kq, mq, uq, bq⟩ j else (rawS ⟨kq, mq, uq, bq⟩ j).set 0 (3 + hq + uq % (nq + 1) * sq)) :
    datS ⟨kq, mq, uq, bq⟩ = if gq = 2 then d1.set 1 ((rawS ⟨kq, mq, uq, bq⟩ j).getD 1 0 / 16 * 16 + flagS mq) else d1 := by
  unfold datS
  rw [hk, hl]
  show (if gS kd < 0 then _ else if gS kd = 2 then ((rawS _ j).set 0 (3 + hS kd + uq % (nS kd mq + 1) * sS kd mq)).set 1 _ else (rawS _ j).set 0 (3 + hS kd + uq % (nS kd mq + 1) * sS kd mq)) = _
  rw [hg, hh, hn, hs, hd]
  by_cases h2 : gq = 2
  · subst h2
    rw [if_neg (by decide), if_pos rfl, if_pos rfl, if_neg (by decide)]
  · rw [if_neg h2, if_neg h2]
theorem dat_two {kd hq pq nq sq : Int} {j : Nat} (hg : gS kd = 2) (hh : hS kd = hq) (hl : hq + pq = (j : Int)) (hp : nq * sq = pq) (hn : 0 ≤ nq) (hs : sq = 1 ∨ sq = 4 ∨ sq = 8) : 2 ≤ j := by
  have h68 : kd = 68 := by
    unfold gS at hg
    repeat' split at hg
    all_goals first | assumption | omega
  subst h68
  have : hq = 2 := by rw [← hh]; rfl
  rcases hs with rfl | rfl | rfl <;> omega
/-- What region 16 leaves. -/
def PH (jm : Nat) (vals : List Value) : Nat → Value → World → Prop
  | 0, v, W => ∃ b, v = .slice (some ⟨b, 0, none⟩) 3 3 ∧ W.heap[b]? = some (.cells #[.int .i64 4, .int .i64 8, .int .i64 8] 3 (0, 0))
  | 4, v, W => ∃ b, v = .pointer (some ⟨b, jm, none⟩) ∧ W.heap[b]? = some (.cells #[.int .i64 4, .int .i64 8, .int .i64 8] 3 (0, 0))
  | i, v, _ => v = vals.getD i undef
theorem PH.below {jm : Nat} {vals : List Value} (i : Nat) (v : Value) (X Y : World) (h : PH jm vals i v X) (hb : Below X.heap.size X Y) : PH jm vals i v Y := by
  by_cases h8 : i = 0
  · subst h8
    obtain ⟨b, e, h⟩ := h
    exact ⟨b, e, blk_below hb h⟩
  · by_cases h12 : i = 4
    · subst h12
      obtain ⟨b, e, h⟩ := h
      exact ⟨b, e, blk_below hb h⟩
    · unfold PH at h ⊢
      split at h <;> first | contradiction | exact h
/-- What region 33 leaves. -/
def PF (jm : Nat) (vals : List Value) : Nat → Value → World → Prop
  | 8, v, W => ∃ b, v = .slice (some ⟨b, 0, none⟩) 3 3 ∧ W.heap[b]? = some (.cells #[.int .u8 0, .int .u8 1, .int .u8 3] 5 (0, 0))
  | 12, v, W => ∃ b, v = .pointer (some ⟨b, jm, none⟩) ∧ W.heap[b]? = some (.cells #[.int .u8 0, .int .u8 1, .int .u8 3] 5 (0, 0))
  | i, v, _ => v = vals.getD i undef
theorem PF.below {jm : Nat} {vals : List Value} (i : Nat) (v : Value) (X Y : World) (h : PF jm vals i v X) (hb : Below X.heap.size X Y) : PF jm vals i v Y := by
  by_cases h8 : i = 8
  · subst h8
    obtain ⟨b, e, h⟩ := h
    exact ⟨b, e, blk_below hb h⟩
  · by_cases h12 : i = 12
    · subst h12
      obtain ⟨b, e, h⟩ := h
      exact ⟨b, e, blk_below hb h⟩
    · unfold PF at h ⊢
      split at h <;> first | contradiction | exact h
theorem kd_rng {x : Sm} (h : x.Ok) : 0 ≤ kdS x ∧ kdS x ≤ 255 := by
  rcases kd_cases h with h | h | h | h | h | h | h | h <;> omega
theorem set_rng {d : List Int} {i : Nat} {y : Int} (h : ∀ x ∈ d, 0 ≤ x ∧ x ≤ 255) (hy : 0 ≤ y ∧ y ≤ 255) : ∀ x ∈ d.set i y, 0 ≤ x ∧ x ≤ 255 := fun x hx => by
  rcases List.mem_or_eq_of_mem_set hx with hx | rfl
  · exact h x hx
  · exact hy
theorem mo_right_rng {x : Sm} (h : x.Ok) : ∀ y ∈ datS x, 0 ≤ y ∧ y ≤ 255 := by
  have hr := raw_rng h (lenS x)
  have hn := n_rng h
  have hh : 0 ≤ hS (kdS x) ∧ hS (kdS x) ≤ 2 := by
    unfold hS
    repeat' split
    all_goals omega
  have hs : sS (kdS x) x.many = 1 ∨ sS (kdS x) x.many = 4 ∨ sS (kdS x) x.many = 8 := by
    unfold sS
    repeat' split
    all_goals simp
  have ht : 0 ≤ x.used % (nS (kdS x) x.many + 1) ∧ x.used % (nS (kdS x) x.many + 1) ≤ nS (kdS x) x.many := by
    have := Int.emod_nonneg x.used (b := nS (kdS x) x.many + 1) (by omega)
    have := Int.emod_lt_of_pos x.used (b := nS (kdS x) x.many + 1) (by omega)
    omega
  have hp : 0 ≤ 3 + hS (kdS x) + x.used % (nS (kdS x) x.many + 1) * sS (kdS x) x.many ∧ 3 + hS (kdS x) + x.used % (nS (kdS x) x.many + 1) * sS (kdS x) x.many ≤ 255 := by
    obtain ⟨t, ht'⟩ : ∃ t, x.used % (nS (kdS x) x.many + 1) = t := ⟨_, rfl⟩
    rw [ht'] at ht ⊢
    rcases hs with hs | hs | hs <;> rw [hs] <;> omega
  unfold datS
  split
  · exact hr
  · split
    · refine set_rng (set_rng hr hp) ?_
      have := rngD hr 1
      have : 0 ≤ flagS x.many ∧ flagS x.many ≤ 3 := by
        unfold flagS
        repeat' split
        all_goals omega
      omega
    · exact set_rng hr hp
theorem Met3.get {acc : List Op1} {M : Array Value} {kd gq : Int} (h : Met3 acc M) (hg : gS kd = gq) (h0 : 0 ≤ gq) : ∃ gn : Nat, gq = gn ∧ gn < 3 ∧ 0 < grp kd ∧ M[gn]? = some (.int .i64 (num acc (grp kd))) := by
  subst hg
  unfold gS at h0 ⊢
  by_cases h7 : kd = 7
  · subst h7
    exact ⟨0, rfl, by decide, by decide, h.m0⟩
  · by_cases h1 : kd = 131 ∨ kd = 137
    · refine ⟨1, by rw [if_neg h7, if_pos h1]; rfl, by decide, ?_, ?_⟩
      · rcases h1 with rfl | rfl <;> decide
      · rcases h1 with rfl | rfl <;> exact h.m1
    · by_cases h68 : kd = 68
      · subst h68
        exact ⟨2, rfl, by decide, by decide, h.m2⟩
      · rw [if_neg h7, if_neg h1, if_neg h68] at h0
        exact absurd h0 (by decide)
theorem gS_neg {kd gq : Int} (hg : gS kd = gq) (h : gq < 0) : grp kd = 0 := by
  subst hg
  unfold gS at h
  unfold grp
  repeat' split at h
  all_goals omega
theorem Met3.push {acc : List Op1} {M : Array Value} {kd : Int} {d : List Int} {gn : Nat} (h : Met3 acc M) (hg : gS kd = gn) : Met3 (acc ++ [(kd, d)]) (M.setIfInBounds gn (.int .i64 (num acc (grp kd) + 1))) := by
  have hs := h.size
  have hn : ∀ j : Int, num (acc ++ [(kd, d)]) j = if grp kd = j then num acc j + 1 else num acc j := fun j => num_push acc (kd, d) j
  have hc : kd = 7 ∧ gn = 0 ∨ (kd = 131 ∨ kd = 137) ∧ gn = 1 ∨ kd = 68 ∧ gn = 2 := by
    unfold gS at hg
    repeat' split at hg
    all_goals omega
  have m0 := h.m0
  have m1 := h.m1
  have m2 := h.m2
  have n01 : (1 : Nat) ≠ 0 := by decide
  rcases hc with ⟨rfl, rfl⟩ | ⟨h1, rfl⟩ | ⟨rfl, rfl⟩
  · refine ⟨by simp [hs], ?_, ?_, ?_⟩
    · rw [hn]; simp [hs, grp]
    · rw [hn, Array.getElem?_setIfInBounds_ne (by decide), m1]; simp [grp]
    · rw [hn, Array.getElem?_setIfInBounds_ne (by decide), m2]; simp [grp]
  · refine ⟨by simp [hs], ?_, ?_, ?_⟩
    · rw [hn, Array.getElem?_setIfInBounds_ne (by decide), m0]; rcases h1 with rfl | rfl <;> simp [grp]
    · rw [hn]; rcases h1 with rfl | rfl <;> simp [hs, grp]
    · rw [hn, Array.getElem?_setIfInBounds_ne (by decide), m2]; rcases h1 with rfl | rfl <;> simp [grp]
  · refine ⟨by simp [hs], ?_, ?_, ?_⟩
    · rw [hn, Array.getElem?_setIfInBounds_ne (by decide), m0]; simp [grp]
    · rw [hn, Array.getElem?_setIfInBounds_ne (by decide), m1]; simp [grp]
    · rw [hn]; simp [hs, grp]
theorem Met3.push0 {acc : List Op1} {M : Array Value} {kd : Int} {d : List Int} (h : Met3 acc M) (hg : grp kd = 0) : Met3 (acc ++ [(kd, d)]) M := by
  have hn : ∀ j : Int, 0 < j → num (acc ++ [(kd, d)]) j = num acc j := fun j hj => by
    rw [num_push acc (kd, d) j]
    exact if_neg (by show grp kd ≠ j; omega)
  exact ⟨h.size, by rw [hn _ (by decide)]; exact h.m0, by rw [hn _ (by decide)]; exact h.m1, by rw [hn _ (by decide)]; exact h.m2⟩
theorem DtF.frame {wr X2 X4 : World} {b9 : Nat} {kd : Int} {d : List Int} {v : Value} (h : DtF X2 b9 kd d v X4) (hb : Below wr.heap.size wr X2) (h9 : wr.heap.size < b9) : Below wr.heap.size wr X4 :=
  hb.trans (h.keep.below (fun b hlt => by show b ≠ b9; omega) hb.size)
theorem MdI.skip {w wr X2 X4 : World} {l : List Sm} {k : Nat} {v u : Value} {css : List (List Value)} {acc : List Op1 × Int} {M : Array Value} {b9 : Nat} {kd : Int} {d : List Int} {x : Sm} (h : MdI w l wr k v css acc M) (hx : l[k]? = some x)
    (hF : DtF X2 b9 kd d u X4) (hb : Below wr.heap.size wr X2) (h9 : wr.heap.size < b9) (hs : addS acc x = acc) : MdI w l X4 (k + 1) v css acc M := by
  have hB := hF.frame hb h9
  refine ⟨h.below.trans (hB.mono h.below.size), h.got.below hB, blk_below hB h.met, h.mets, ?_, h.inv⟩
  rw [List.take_add_one, List.foldl_append, h.eq, hx]
  exact hs
theorem MdI.push {w wr X2 X4 X5 w3 : World} {l : List Sm} {k : Nat} {v v' : Value} {css : List (List Value)} {acc : List Op1 × Int} {M M' : Array Value} {b9 : Nat} {kd : Int} {D : List Int} {A : Option Addr} {c j : Nat} {x : Sm} {ob : Obj} (h : MdI w l wr k v css acc M) (hx : l[k]? = some x) (hok : x.Ok)
    (hF : DtF X2 b9 kd D (.slice A j c) X4) (hb : Below wr.heap.size wr X2) (h9 : wr.heap.size < b9) (hkd : kdS x = kd) (hD : datS x = D) (hj : D.length = j)
    (hkw : Keep (fun b => b ≠ w.heap.size) X4 X5) (hm : X5.heap[w.heap.size]? = some (.cells M' 69 (0, 0))) (hM : Met3 (acc.1 ++ [(kd, D)]) M') (hs : addS acc x = (acc.1 ++ [(kd, D)], acc.2 + ((bytesO (kd, D)).length : Int)))
    (hg : (X5.alloc ob).grownBy w3 v.ownBlock) (hr : w3.ownsRow (w.heap.size + 1) 36 2 v' (acc.1.length + 1) (css.flatten ++ [.int .u8 kd, .slice A j c])) :
    MdI w l w3 (k + 1) v' (css ++ [[.int .u8 kd, .slice A j c]]) (acc.1 ++ [(kd, D)], acc.2 + ((bytesO (kd, D)).length : Int)) M' := by
  subst hkd hD hj
  have hB := hF.frame hb h9
  have hmlt := blk_lt h.met
  have k1 : KeepB (w.heap.size + 1) wr X4 := KeepB.of_below hB
  have k2 : KeepB (w.heap.size + 1) X4 X5 := KeepB.of_keep hkw fun b hb => by omega
  have k3 : KeepB (w.heap.size + 1) X5 (X5.alloc ob) := KeepB.of_below ((Below.refl _ _).alloc (Nat.le_refl _) ob)
  have row1 : X4.ownsRow (w.heap.size + 1) 36 2 v acc.1.length css.flatten := (h.got.below hB).row
  have row2 : (X5.alloc ob).ownsRow (w.heap.size + 1) 36 2 v acc.1.length css.flatten := (own_of_block row1 fun g hgn _ hlt => hkw.low g (by omega) hlt).alloc ob
  have k4 : KeepB (w.heap.size + 1) (X5.alloc ob) w3 := KeepB.of_grown hg row2 (by decide)
  have hvb : ∀ g, v.ownBlock = some g → w.heap.size + 1 ≤ g := fun g e => (row2.lt g e).1
  have K1 : Keep (fun b => b < w.heap.size) wr w3 := ((((Keep.of_below (L := fun b => b < wr.heap.size) hB).mono fun b (hlt : b < w.heap.size) => by omega).trans (hkw.mono fun b (hlt : b < w.heap.size) => by omega)).alloc ob).grown hg fun g e hh => by have := hvb g e; omega
  have K2 : Keep (fun b => b = w.heap.size) X5 w3 := (Keep.alloc (Keep.refl _ _) ob).grown hg fun g e hh => by have := hvb g e; omega
  have kx : KeepB X2.heap.size X4 w3 := (k2.trans (k3.trans k4)).mono (by have := hb.size; omega)
  have hrng : ∀ y ∈ datS x, 0 ≤ y ∧ y ≤ 255 := (mo_right_rng hok)
  have hx1 : (Yv.mk 0 (kdS x) (datS x) A c).Own wr.heap.size w3 := ⟨own_base (own_keepB hF.row kx) hb.size, kd_rng hok, hrng⟩
  have G := h.got.push (k1.trans (k2.trans (k3.trans k4))) (Yv.mk 0 (kdS x) (datS x) A c) (by omega) hx1 hr
  refine ⟨h.below.trans (K1.below (fun b hb => hb) h.below.size), G, blk_keep K2 rfl hm, hM, ?_, ?_⟩
  · rw [List.take_add_one, List.foldl_append, h.eq, hx]
    exact hs
  · rw [← hs]
    exact h.inv.add hok
set_option maxRecDepth 100000 in
set_option maxHeartbeats 4000000 in
theorem reg31_any (C : Code) (hC : findC (isReg 31) (Try.f15.body.getD .skip) = some C) (Q : Exit → Act → World → Prop) {X2 wr : World} {b8 b9 : Nat} {kd kq mq uq hq nq sq : Int} {bq : List Int} {Ab : Option Addr} {lb nb j : Nat} {Av : Option Addr} {cv : Nat} {x0 x1 x2 x3 x4 x5 x6 x7 x10 x14 x15 x16 x17 x18 x19 x20 x21 x22 x23 x24 x25 x26 x27 x28 x29 x30 x31 x32 x33 x34 x35 x36 x37 x38 x39 x40 x41 x42 x43 x44 x45 x46 x47 x48 x49 x50 x51 x52 x53 x54 x55 x56 x57 x58 x59 x60 x61 x62 x63 x64 x65 x66 x67 x68 x69 x70 x71 x72 x73 x74 x75 x76 x77 x78 x79 x80 x81 x82 x83 x84 x85 x86 x87 x88 x89 x90 x91 x92 x93 x94 x95 x96 x97 x98 x99 x100 x101 x102 x103 x104 x105 x106 x107 x108 x109 x110 x111 x112 x113 x114 x115 x116 x117 x118 x119 x120 x121 x122 x123 x124 x125 x126 x127 x128 x129 x130 x131 x132 x133 x134 x135 x136 x137 x138 x139 x140 x141 x142 x143 x144 x145 x146 x147 x148 x149 x150 x151 x152 x153 x154 x155 x156 x157 x158 x159 x160 x161 x162 x163 x164 x165 x166 x167 x168 x169 : Value}
    (hD : DtI X2 b9 kd ⟨kq, mq, uq, bq⟩ j (.slice Av j cv) wr) (h8 : X2.heap[b8]? = some (.cells #[.int .u8 kq, .int .u8 mq, .int .u8 uq, .slice Ab lb nb] 44 (0, 0))) (h89 : b8 < b9) (hj : 1 ≤ j) (hj74 : j ≤ 74) (hu0 : 0 ≤ uq) (hu1 : uq ≤ 255) (hh2 : hq = 0 ∨ hq = 1 ∨ hq = 2) (hn9 : 0 ≤ nq ∧ nq ≤ 9) (hs148 : sq = 1 ∨ sq = 4 ∨ sq = 8)
    (hh : ∀ (y99 y100 y101 y102 y103 y104 y105 y106 y107 y108 y109 y110 y111 y112 y113 v1 : Value) (w' : World), DtF X2 b9 kd ((rawS ⟨kq, mq, uq, bq⟩ j).set 0 (3 + hq + uq % (nq + 1) * sq)) v1 w' → Q .normal ⟨#[x0, x1, x2, x3, x4, x5, x6, x7, .pointer (some ⟨b8, 0, none⟩), .pointer (some ⟨b9, 0, none⟩), x10, .int .i64 hq, .int .i64 sq, .int .i64 nq, x14, x15, x16, x17, x18, x19, x20, x21, x22, x23, x24, x25, x26, x27, x28, x29, x30, x31, x32, x33, x34, x35, x36, x37, x38, x39, x40, x41, x42, x43, x44, x45, x46, x47, x48, x49, x50, x51, x52, x53, x54, x55, x56, x57, x58, x59, x60, x61, x62, x63, x64, x65, x66, x67, x68, x69, x70, x71, x72, x73, x74, x75, x76, x77, x78, x79, x80, x81, x82, x83, x84, x85, x86, x87, x88, x89, x90, x91, x92, x93, x94, x95, x96, x97, x98, y99, y100, y101, y102, y103, y104, y105, y106, y107, y108, y109, y110, y111, y112, y113, x114, x115, x116, x117, x118, x119, x120, x121, x122, x123, x124, x125, x126, x127, x128, x129, x130, x131, x132, x133, x134, x135, x136, x137, x138, x139, x140, x141, x142, x143, x144, x145, x146, x147, x148, x149, x150, x151, x152, x153, x154, x155, x156, x157, x158, x159, x160, x161, x162, x163, x164, x165, x166, x167, x168, x169], []⟩ w') : C.wp Try.prog Q ⟨#[x0, x1, x2, x3, x4, x5, x6, x7, .pointer (some ⟨b8, 0, none⟩), .pointer (some ⟨b9, 0, none⟩), x10, .int .i64 hq, .int .i64 sq, .int .i64 nq, x14, x15, x16, x17, x18, x19, x20, x21, x22, x23, x24, x25, x26, x27, x28, x29, x30, x31, x32, x33, x34, x35, x36, x37, x38, x39, x40, x41, x42, x43, x44, x45, x46, x47, x48, x49, x50, x51, x52, x53, x54, x55, x56, x57, x58, x59, x60, x61, x62, x63, x64, x65, x66, x67, x68, x69, x70, x71, x72, x73, x74, x75, x76, x77, x78, x79, x80, x81, x82, x83, x84, x85, x86, x87, x88, x89, x90, x91, x92, x93, x94, x95, x96, x97, x98, x99, x100, x101, x102, x103, x104, x105, x106, x107, x108, x109, x110, x111, x112, x113, x114, x115, x116, x117, x118, x119, x120, x121, x122, x123, x124, x125, x126, x127, x128, x129, x130, x131, x132, x133, x134, x135, x136, x137, x138, x139, x140, x141, x142, x143, x144, x145, x146, x147, x148, x149, x150, x151, x152, x153, x154, x155, x156, x157, x158, x159, x160, x161, x162, x163, x164, x165, x166, x167, x168, x169], []⟩ wr := by
  cases hC
  have HD := Lib.hid hD
  have HY8 := Lib.hid h8
  have H89 := Lib.hid h89
  have HH := Lib.hid hh
  clear hD h8 h89 hh
  rcases own_cases HD.out.row with ⟨_, h0, _⟩ | ⟨gb, cb, eb, hgb, hgb2, hcb, hcb2⟩
  · omega
  cases eb
  have d8 := blk_keep HD.out.keep (show b8 ≠ b9 by have := H89.out; omega) HY8.out
  have c2 := blk_cell d8 2
  have k1 := blk_cell HD.out.obj 1
  simp at c2 k1
  have hl8 := blk_lt d8
  have hl9 := blk_lt HD.out.obj
  clear d8
  obtain ⟨tq, htq⟩ : ∃ tq, uq % (nq + 1) = tq := ⟨_, rfl⟩
  have ht9 : 0 ≤ tq ∧ tq ≤ nq := by
    rw [← htq]
    have := Int.emod_nonneg uq (b := nq + 1) (by omega)
    have := Int.emod_lt_of_pos uq (b := nq + 1) (by omega)
    omega
  obtain ⟨ts, hts⟩ : ∃ ts, tq * sq = ts := ⟨_, rfl⟩
  have hts72 : 0 ≤ ts ∧ ts ≤ 72 := by
    rw [← hts]
    rcases hs148 with rfl | rfl | rfl <;> omega
  have htm : uq.tmod (nq + 1) = tq := by rw [Int.tmod_eq_emod_of_nonneg hu0]; exact htq
  have hne : ((nq + 1) == 0) = false := by simp; omega
  have hw3 : IntKind.i64.wrap (3 + hq) = 3 + hq := IntWalk.i64_in _ (by omega)
  have hw8 : IntKind.i64.wrap (nq + 1) = nq + 1 := IntWalk.i64_in _ (by omega)
  have hw9 : IntKind.i64.wrap tq = tq := IntWalk.i64_in _ (by omega)
  have hw11 : IntKind.i64.wrap (tq * sq) = ts := by rw [hts]; exact IntWalk.i64_in _ (by omega)
  have hw12 : IntKind.i64.wrap (3 + hq + ts) = 3 + hq + ts := IntWalk.i64_in _ (by omega)
  have hw13 : IntKind.u8.wrap (3 + hq + ts) = 3 + hq + ts := IntWalk.u8_in _ (by omega)
  have hjp : (0 : Int) < j := by omega
  have HTQ := Lib.hid htq
  have HTS := Lib.hid hts
  clear htq hts
  refine wp_region_steps 15 [[], [0], [], [2], [], [4], [5], [], [7], [6, 8], [], [9, 10], [3, 11], [12], [1]] (fun D a w' => ∃ g : Nat → Value, a = ⟨#[x0, x1, x2, x3, x4, x5, x6, x7, .pointer (some ⟨b8, 0, none⟩), .pointer (some ⟨b9, 0, none⟩), x10, .int .i64 hq, .int .i64 sq, .int .i64 nq, x14, x15, x16, x17, x18, x19, x20, x21, x22, x23, x24, x25, x26, x27, x28, x29, x30, x31, x32, x33, x34, x35, x36, x37, x38, x39, x40, x41, x42, x43, x44, x45, x46, x47, x48, x49, x50, x51, x52, x53, x54, x55, x56, x57, x58, x59, x60, x61, x62, x63, x64, x65, x66, x67, x68, x69, x70, x71, x72, x73, x74, x75, x76, x77, x78, x79, x80, x81, x82, x83, x84, x85, x86, x87, x88, x89, x90, x91, x92, x93, x94, x95, x96, x97, x98, g 0, g 1, g 2, g 3, g 4, g 5, g 6, g 7, g 8, g 9, g 10, g 11, g 12, g 13, g 14, x114, x115, x116, x117, x118, x119, x120, x121, x122, x123, x124, x125, x126, x127, x128, x129, x130, x131, x132, x133, x134, x135, x136, x137, x138, x139, x140, x141, x142, x143, x144, x145, x146, x147, x148, x149, x150, x151, x152, x153, x154, x155, x156, x157, x158, x159, x160, x161, x162, x163, x164, x165, x166, x167, x168, x169], []⟩ ∧ Iq wr (fun i v W => v = ([.pointer (some ⟨b9, 1, none⟩), .slice (some ⟨gb, 0, none⟩) j cv, .int .i64 hq, .int .i64 (3 + hq), .pointer (some ⟨b8, 2, none⟩), .int .u8 uq, .int .i64 uq, .int .i64 nq, .int .i64 (nq + 1), .int .i64 tq, .int .i64 sq, .int .i64 ts, .int .i64 (3 + hq + ts), .int .u8 (3 + hq + ts), .pointer (some ⟨gb, 0, none⟩)] : List Value).getD i undef) D g w') (by kernel_rfl) (by kernel_rfl) ⟨fun i => if i = 0 then x99 else if i = 1 then x100 else if i = 2 then x101 else if i = 3 then x102 else if i = 4 then x103 else if i = 5 then x104 else if i = 6 then x105 else if i = 7 then x106 else if i = 8 then x107 else if i = 9 then x108 else if i = 10 then x109 else if i = 11 then x110 else if i = 12 then x111 else if i = 13 then x112 else if i = 14 then x113 else undef, rfl, Iq.zero _ _ _⟩ ?_ ?_
  · simp only [List.take_succ_cons, List.take_zero]
    refine ⟨?_, ?_, ?_, ?_, ?_, ?_, ?_, ?_, ?_, ?_, ?_, ?_, ?_, ?_, ?_, trivial⟩
    · intro D a w' hn hp hI
      obtain ⟨g, rfl, hR⟩ := hI
      clear hn hp
      go_wp2_with fail
      exact ⟨fun ix => if ix = 0 then .pointer (some ⟨b9, 1, none⟩) else g ix, by rfl, hR.upd (fun _ _ _ _ h _ => h) 0 _ (Below.refl _ _) rfl⟩
    · intro D a w' hn hp hI
      obtain ⟨g, rfl, hR⟩ := hI
      have e0 : g 0 = .pointer (some ⟨b9, 1, none⟩) := hR.e 0 hp.1
      rw [e0]
      have cc := kc hR.b k1
      clear hn hp
      go_wp2_with fail
      exact ⟨fun ix => if ix = 1 then .slice (some ⟨gb, 0, none⟩) j cv else g ix, by simp [e0], hR.upd (fun _ _ _ _ h _ => h) 1 _ (Below.refl _ _) rfl⟩
    · intro D a w' hn hp hI
      obtain ⟨g, rfl, hR⟩ := hI
      clear hn hp
      go_wp2_with fail
      exact ⟨fun ix => if ix = 2 then .int .i64 hq else g ix, by rfl, hR.upd (fun _ _ _ _ h _ => h) 2 _ (Below.refl _ _) rfl⟩
    · intro D a w' hn hp hI
      obtain ⟨g, rfl, hR⟩ := hI
      have e2 : g 2 = .int .i64 hq := hR.e 2 hp.1
      rw [e2]
      clear hn hp
      go_wp2_with fail
      exact ⟨fun ix => if ix = 3 then .int .i64 (3 + hq) else g ix, by simp [e2], hR.upd (fun _ _ _ _ h _ => h) 3 _ (Below.refl _ _) rfl⟩
    · intro D a w' hn hp hI
      obtain ⟨g, rfl, hR⟩ := hI
      clear hn hp
      go_wp2_with fail
      exact ⟨fun ix => if ix = 4 then .pointer (some ⟨b8, 2, none⟩) else g ix, by rfl, hR.upd (fun _ _ _ _ h _ => h) 4 _ (Below.refl _ _) rfl⟩
    · intro D a w' hn hp hI
      obtain ⟨g, rfl, hR⟩ := hI
      have e4 : g 4 = .pointer (some ⟨b8, 2, none⟩) := hR.e 4 hp.1
      rw [e4]
      have cc := kc hR.b c2
      clear hn hp
      go_wp2_with fail
      exact ⟨fun ix => if ix = 5 then .int .u8 uq else g ix, by simp [e4], hR.upd (fun _ _ _ _ h _ => h) 5 _ (Below.refl _ _) rfl⟩
    · intro D a w' hn hp hI
      obtain ⟨g, rfl, hR⟩ := hI
      have e5 : g 5 = .int .u8 uq := hR.e 5 hp.1
      rw [e5]
      clear hn hp
      go_wp2_with fail
      exact ⟨fun ix => if ix = 6 then .int .i64 uq else g ix, by simp [e5], hR.upd (fun _ _ _ _ h _ => h) 6 _ (Below.refl _ _) rfl⟩
    · intro D a w' hn hp hI
      obtain ⟨g, rfl, hR⟩ := hI
      clear hn hp
      go_wp2_with fail
      exact ⟨fun ix => if ix = 7 then .int .i64 nq else g ix, by rfl, hR.upd (fun _ _ _ _ h _ => h) 7 _ (Below.refl _ _) rfl⟩
    · intro D a w' hn hp hI
      obtain ⟨g, rfl, hR⟩ := hI
      have e7 : g 7 = .int .i64 nq := hR.e 7 hp.1
      rw [e7]
      clear hn hp
      go_wp2_with fail
      exact ⟨fun ix => if ix = 8 then .int .i64 (nq + 1) else g ix, by simp [e7], hR.upd (fun _ _ _ _ h _ => h) 8 _ (Below.refl _ _) rfl⟩
    · intro D a w' hn hp hI
      obtain ⟨g, rfl, hR⟩ := hI
      have e6 : g 6 = .int .i64 uq := hR.e 6 hp.1
      rw [e6]
      have e8 : g 8 = .int .i64 (nq + 1) := hR.e 8 hp.2.1
      rw [e8]
      clear hn hp
      go_wp2_with fail
      exact ⟨fun ix => if ix = 9 then .int .i64 tq else g ix, by simp [e6, e8], hR.upd (fun _ _ _ _ h _ => h) 9 _ (Below.refl _ _) rfl⟩
    · intro D a w' hn hp hI
      obtain ⟨g, rfl, hR⟩ := hI
      clear hn hp
      go_wp2_with fail
      exact ⟨fun ix => if ix = 10 then .int .i64 sq else g ix, by rfl, hR.upd (fun _ _ _ _ h _ => h) 10 _ (Below.refl _ _) rfl⟩
    · intro D a w' hn hp hI
      obtain ⟨g, rfl, hR⟩ := hI
      have e9 : g 9 = .int .i64 tq := hR.e 9 hp.1
      rw [e9]
      have e10 : g 10 = .int .i64 sq := hR.e 10 hp.2.1
      rw [e10]
      clear hn hp
      go_wp2_with fail
      exact ⟨fun ix => if ix = 11 then .int .i64 ts else g ix, by simp [e9, e10], hR.upd (fun _ _ _ _ h _ => h) 11 _ (Below.refl _ _) rfl⟩
    · intro D a w' hn hp hI
      obtain ⟨g, rfl, hR⟩ := hI
      have e3 : g 3 = .int .i64 (3 + hq) := hR.e 3 hp.1
      rw [e3]
      have e11 : g 11 = .int .i64 ts := hR.e 11 hp.2.1
      rw [e11]
      clear hn hp
      go_wp2_with fail
      exact ⟨fun ix => if ix = 12 then .int .i64 (3 + hq + ts) else g ix, by simp [e3, e11], hR.upd (fun _ _ _ _ h _ => h) 12 _ (Below.refl _ _) rfl⟩
    · intro D a w' hn hp hI
      obtain ⟨g, rfl, hR⟩ := hI
      have e12 : g 12 = .int .i64 (3 + hq + ts) := hR.e 12 hp.1
      rw [e12]
      clear hn hp
      go_wp2_with fail
      exact ⟨fun ix => if ix = 13 then .int .u8 (3 + hq + ts) else g ix, by simp [e12], hR.upd (fun _ _ _ _ h _ => h) 13 _ (Below.refl _ _) rfl⟩
    · intro D a w' hn hp hI
      obtain ⟨g, rfl, hR⟩ := hI
      have e1 : g 1 = .slice (some ⟨gb, 0, none⟩) j cv := hR.e 1 hp.1
      rw [e1]
      clear hn hp
      go_wp2_with fail
      exact ⟨fun ix => if ix = 14 then .pointer (some ⟨gb, 0, none⟩) else g ix, by simp [e1], hR.upd (fun _ _ _ _ h _ => h) 14 _ (Below.refl _ _) rfl⟩
  intro D a w' hD2 hI2
  obtain ⟨g31, rfl, hR⟩ := hI2
  have e13 : g31 13 = .int .u8 (3 + hq + ts) := hR.e 13 (hD2 13 (by decide))
  have e14 : g31 14 = .pointer (some ⟨gb, 0, none⟩) := hR.e 14 (hD2 14 (by decide))
  rw [e13, e14]
  have hst := (DtF.mk (d := rawS ⟨kq, mq, uq, bq⟩ j) HD.out.obj (by rw [raw_len]; exact HD.out.row) HD.out.keep).set hR.b (j := 0) (by rw [raw_len]; omega) (3 + hq + ts)
  obtain ⟨⟨cx, hcx⟩, fx, lx, hset⟩ := hst
  have HS := Lib.hid hset
  simp only [List.drop_succ_cons, List.drop_zero]
  clear hD2 hR e13 e14 hset c2 k1 hl8 hl9
  go_wp2_with fail
  have hs := HH.out
  rw [HTQ.out, HTS.out] at hs
  exact hs _ _ _ _ _ _ _ _ _ _ _ _ _ _ _ _ _ HS.out

set_option maxRecDepth 100000 in
set_option maxHeartbeats 4000000 in
theorem reg33_any (C : Code) (hC : findC (isReg 33) (Try.f15.body.getD .skip) = some C) (Q : Exit → Act → World → Prop) {X2 X3 : World} {b8 b9 : Nat} {kd kq mq uq : Int} {Ab : Option Addr} {lb nb j : Nat} {gb cb : Nat} {d1 : List Int} {x0 x1 x2 x3 x4 x5 x6 x7 x10 x11 x12 x13 x14 x15 x16 x17 x18 x19 x20 x21 x22 x23 x24 x25 x26 x27 x28 x29 x30 x31 x32 x33 x34 x35 x36 x37 x38 x39 x40 x41 x42 x43 x44 x45 x46 x47 x48 x49 x50 x51 x52 x53 x54 x55 x56 x57 x58 x59 x60 x61 x62 x63 x64 x65 x66 x67 x68 x69 x70 x71 x72 x73 x74 x75 x76 x77 x78 x79 x80 x81 x82 x83 x84 x85 x86 x87 x88 x89 x90 x91 x92 x93 x94 x95 x96 x97 x98 x99 x100 x101 x102 x103 x104 x105 x106 x107 x108 x109 x110 x111 x112 x113 x114 x115 x116 x117 x118 x119 x120 x121 x122 x123 x124 x125 x126 x127 x128 x129 x130 x131 x132 x133 x134 x135 x136 x137 x138 x139 x140 x141 x142 x143 x144 x145 x146 x147 x148 x149 x150 x151 x152 x153 x154 x155 x156 x157 x158 x159 x160 x161 x162 x163 x164 x165 x166 x167 x168 x169 : Value}
    (hF : DtF X2 b9 kd d1 (.slice (some ⟨gb, 0, none⟩) j cb) X3) (h8 : X2.heap[b8]? = some (.cells #[.int .u8 kq, .int .u8 mq, .int .u8 uq, .slice Ab lb nb] 44 (0, 0))) (h89 : b8 < b9) (hd1l : d1.length = j) (hj2 : 2 ≤ j) (hyr : 0 ≤ d1.getD 1 0 ∧ d1.getD 1 0 ≤ 255) (hm0' : 0 ≤ mq) (hm1' : mq ≤ 255)
    (hh : ∀ (y116 y117 y118 y119 y120 y121 y122 y123 y124 y125 y126 y127 y128 y129 y130 y131 v1 : Value) (w' : World), DtF X2 b9 kd (d1.set 1 (d1.getD 1 0 / 16 * 16 + flagS mq)) v1 w' → Q .normal ⟨#[x0, x1, x2, x3, x4, x5, x6, x7, .pointer (some ⟨b8, 0, none⟩), .pointer (some ⟨b9, 0, none⟩), x10, x11, x12, x13, x14, x15, x16, x17, x18, x19, x20, x21, x22, x23, x24, x25, x26, x27, x28, x29, x30, x31, x32, x33, x34, x35, x36, x37, x38, x39, x40, x41, x42, x43, x44, x45, x46, x47, x48, x49, x50, x51, x52, x53, x54, x55, x56, x57, x58, x59, x60, x61, x62, x63, x64, x65, x66, x67, x68, x69, x70, x71, x72, x73, x74, x75, x76, x77, x78, x79, x80, x81, x82, x83, x84, x85, x86, x87, x88, x89, x90, x91, x92, x93, x94, x95, x96, x97, x98, x99, x100, x101, x102, x103, x104, x105, x106, x107, x108, x109, x110, x111, x112, x113, x114, x115, y116, y117, y118, y119, y120, y121, y122, y123, y124, y125, y126, y127, y128, y129, y130, y131, x132, x133, x134, x135, x136, x137, x138, x139, x140, x141, x142, x143, x144, x145, x146, x147, x148, x149, x150, x151, x152, x153, x154, x155, x156, x157, x158, x159, x160, x161, x162, x163, x164, x165, x166, x167, x168, x169], []⟩ w') : C.wp Try.prog Q ⟨#[x0, x1, x2, x3, x4, x5, x6, x7, .pointer (some ⟨b8, 0, none⟩), .pointer (some ⟨b9, 0, none⟩), x10, x11, x12, x13, x14, x15, x16, x17, x18, x19, x20, x21, x22, x23, x24, x25, x26, x27, x28, x29, x30, x31, x32, x33, x34, x35, x36, x37, x38, x39, x40, x41, x42, x43, x44, x45, x46, x47, x48, x49, x50, x51, x52, x53, x54, x55, x56, x57, x58, x59, x60, x61, x62, x63, x64, x65, x66, x67, x68, x69, x70, x71, x72, x73, x74, x75, x76, x77, x78, x79, x80, x81, x82, x83, x84, x85, x86, x87, x88, x89, x90, x91, x92, x93, x94, x95, x96, x97, x98, x99, x100, x101, x102, x103, x104, x105, x106, x107, x108, x109, x110, x111, x112, x113, x114, x115, x116, x117, x118, x119, x120, x121, x122, x123, x124, x125, x126, x127, x128, x129, x130, x131, x132, x133, x134, x135, x136, x137, x138, x139, x140, x141, x142, x143, x144, x145, x146, x147, x148, x149, x150, x151, x152, x153, x154, x155, x156, x157, x158, x159, x160, x161, x162, x163, x164, x165, x166, x167, x168, x169], []⟩ X3 := by
  cases hC
  have hv := hF.row
  rw [hd1l] at hv
  have hc1 := own_cell hv (j := 1) (by omega)
  obtain ⟨y1, hy1⟩ : ∃ y, d1.getD 1 0 = y := ⟨_, rfl⟩
  rw [hy1] at hc1 hyr
  have d8 := blk_keep hF.keep (show b8 ≠ b9 by omega) h8
  have c1 := blk_cell d8 1
  have k1 := blk_cell hF.obj 1
  simp at c1 k1
  have hl8 := blk_lt d8
  have hl9 := blk_lt hF.obj
  have hgb2 : gb < X3.heap.size := (hv.lt gb rfl).2
  obtain ⟨yq, hyq⟩ : ∃ q, y1 / 16 = q := ⟨_, rfl⟩
  have hyq15 : 0 ≤ yq ∧ yq ≤ 15 := by omega
  obtain ⟨ym, hym⟩ : ∃ q, yq * 16 = q := ⟨_, rfl⟩
  have hym240 : 0 ≤ ym ∧ ym ≤ 240 := by omega
  obtain ⟨jm, hjm⟩ : ∃ jm : Nat, mq % 3 = jm := ⟨(mq % 3).toNat, by omega⟩
  have hjm3 : jm < 3 := by omega
  obtain ⟨fl, hfl⟩ : ∃ fl, flagS mq = fl := ⟨_, rfl⟩
  have hflr : 0 ≤ fl ∧ fl ≤ 3 := by rw [← hfl]; unfold flagS; split <;> first | omega | (split <;> omega)
  have hcell : ∀ W : World, ∀ b : Nat, W.heap[b]? = some (.cells #[.int .u8 0, .int .u8 1, .int .u8 3] 5 (0, 0)) → W.cell? ⟨b, jm, none⟩ = some (.int .u8 fl) := fun W b hb => by
    rw [blk_cell hb jm, ← hfl]
    unfold flagS
    rw [hjm]
    rcases (by omega : jm = 0 ∨ jm = 1 ∨ jm = 2) with rfl | rfl | rfl <;> rfl
  have HCELL := Lib.hid hcell
  have hw6 : y1.tdiv 16 = yq := by rw [Int.tdiv_eq_ediv_of_nonneg hyr.1]; exact hyq
  have hw7 : IntKind.u8.wrap (yq * 16) = ym := by rw [hym]; exact IntWalk.u8_in _ (by omega)
  have hw6' : IntKind.u8.wrap yq = yq := IntWalk.u8_in _ (by omega)
  have hw11 : mq.tmod 3 = (jm : Int) := by rw [Int.tmod_eq_emod_of_nonneg hm0']; exact hjm
  have hw11' : IntKind.u8.wrap (jm : Int) = (jm : Int) := IntWalk.u8_in _ (by omega)
  have hw14 : IntKind.u8.wrap (ym + fl) = ym + fl := IntWalk.u8_in _ (by omega)
  have hjp : (1 : Int) < j := by omega
  have hjm3i : (jm : Int) < 3 := by omega
  have HYY : Hid (d1.getD 1 0 / 16 * 16 + flagS mq = ym + fl) := by show _ = _; rw [hy1, hfl, hyq, hym]
  have HD1L := Lib.hid hd1l
  have HF := Lib.hid hF
  have HH := Lib.hid hh
  clear hcell hd1l hy1 hyq hym hjm hfl d8 hv hF hh
  refine wp_region_steps 16 [[], [0], [], [2], [3], [4], [5], [6], [], [], [9], [10], [8, 11], [12], [7, 13], [1]] (fun D a w' => ∃ g : Nat → Value, a = ⟨#[x0, x1, x2, x3, x4, x5, x6, x7, .pointer (some ⟨b8, 0, none⟩), .pointer (some ⟨b9, 0, none⟩), x10, x11, x12, x13, x14, x15, x16, x17, x18, x19, x20, x21, x22, x23, x24, x25, x26, x27, x28, x29, x30, x31, x32, x33, x34, x35, x36, x37, x38, x39, x40, x41, x42, x43, x44, x45, x46, x47, x48, x49, x50, x51, x52, x53, x54, x55, x56, x57, x58, x59, x60, x61, x62, x63, x64, x65, x66, x67, x68, x69, x70, x71, x72, x73, x74, x75, x76, x77, x78, x79, x80, x81, x82, x83, x84, x85, x86, x87, x88, x89, x90, x91, x92, x93, x94, x95, x96, x97, x98, x99, x100, x101, x102, x103, x104, x105, x106, x107, x108, x109, x110, x111, x112, x113, x114, x115, g 0, g 1, g 2, g 3, g 4, g 5, g 6, g 7, g 8, g 9, g 10, g 11, g 12, g 13, g 14, g 15, x132, x133, x134, x135, x136, x137, x138, x139, x140, x141, x142, x143, x144, x145, x146, x147, x148, x149, x150, x151, x152, x153, x154, x155, x156, x157, x158, x159, x160, x161, x162, x163, x164, x165, x166, x167, x168, x169], []⟩ ∧ Iq X3 (PF jm ([.pointer (some ⟨b9, 1, none⟩), .slice (some ⟨gb, 0, none⟩) j cb, .pointer (some ⟨b9, 1, none⟩), .slice (some ⟨gb, 0, none⟩) j cb, .pointer (some ⟨gb, 1, none⟩), .int .u8 y1, .int .u8 yq, .int .u8 ym, undef, .pointer (some ⟨b8, 1, none⟩), .int .u8 mq, .int .u8 jm, undef, .int .u8 fl, .int .u8 (ym + fl), .pointer (some ⟨gb, 1, none⟩)] : List Value)) D g w') (by kernel_rfl) (by kernel_rfl) ⟨fun i => if i = 0 then x116 else if i = 1 then x117 else if i = 2 then x118 else if i = 3 then x119 else if i = 4 then x120 else if i = 5 then x121 else if i = 6 then x122 else if i = 7 then x123 else if i = 8 then x124 else if i = 9 then x125 else if i = 10 then x126 else if i = 11 then x127 else if i = 12 then x128 else if i = 13 then x129 else if i = 14 then x130 else if i = 15 then x131 else undef, rfl, Iq.zero _ _ _⟩ ?_ ?_
  · simp only [List.take_succ_cons, List.take_zero]
    refine ⟨?_, ?_, ?_, ?_, ?_, ?_, ?_, ?_, ?_, ?_, ?_, ?_, ?_, ?_, ?_, ?_, trivial⟩
    · intro D a w' hn hp hI
      obtain ⟨g, rfl, hR⟩ := hI
      clear hn hp
      go_wp2_with fail
      exact ⟨fun ix => if ix = 0 then .pointer (some ⟨b9, 1, none⟩) else g ix, by rfl, hR.upd PF.below 0 _ (Below.refl _ _) rfl⟩
    · intro D a w' hn hp hI
      obtain ⟨g, rfl, hR⟩ := hI
      have e0 : g 0 = .pointer (some ⟨b9, 1, none⟩) := hR.e 0 hp.1
      rw [e0]
      have cc := kc hR.b k1
      clear hn hp
      go_wp2_with fail
      exact ⟨fun ix => if ix = 1 then .slice (some ⟨gb, 0, none⟩) j cb else g ix, by simp [e0], hR.upd PF.below 1 _ (Below.refl _ _) rfl⟩
    · intro D a w' hn hp hI
      obtain ⟨g, rfl, hR⟩ := hI
      clear hn hp
      go_wp2_with fail
      exact ⟨fun ix => if ix = 2 then .pointer (some ⟨b9, 1, none⟩) else g ix, by rfl, hR.upd PF.below 2 _ (Below.refl _ _) rfl⟩
    · intro D a w' hn hp hI
      obtain ⟨g, rfl, hR⟩ := hI
      have e2 : g 2 = .pointer (some ⟨b9, 1, none⟩) := hR.e 2 hp.1
      rw [e2]
      have cc := kc hR.b k1
      clear hn hp
      go_wp2_with fail
      exact ⟨fun ix => if ix = 3 then .slice (some ⟨gb, 0, none⟩) j cb else g ix, by simp [e2], hR.upd PF.below 3 _ (Below.refl _ _) rfl⟩
    · intro D a w' hn hp hI
      obtain ⟨g, rfl, hR⟩ := hI
      have e3 : g 3 = .slice (some ⟨gb, 0, none⟩) j cb := hR.e 3 hp.1
      rw [e3]
      clear hn hp
      go_wp2_with fail
      exact ⟨fun ix => if ix = 4 then .pointer (some ⟨gb, 1, none⟩) else g ix, by simp [e3], hR.upd PF.below 4 _ (Below.refl _ _) rfl⟩
    · intro D a w' hn hp hI
      obtain ⟨g, rfl, hR⟩ := hI
      have e4 : g 4 = .pointer (some ⟨gb, 1, none⟩) := hR.e 4 hp.1
      rw [e4]
      have cc := kc hR.b hc1
      clear hn hp
      go_wp2_with fail
      exact ⟨fun ix => if ix = 5 then .int .u8 y1 else g ix, by simp [e4], hR.upd PF.below 5 _ (Below.refl _ _) rfl⟩
    · intro D a w' hn hp hI
      obtain ⟨g, rfl, hR⟩ := hI
      have e5 : g 5 = .int .u8 y1 := hR.e 5 hp.1
      rw [e5]
      clear hn hp
      go_wp2_with fail
      exact ⟨fun ix => if ix = 6 then .int .u8 yq else g ix, by simp [e5], hR.upd PF.below 6 _ (Below.refl _ _) rfl⟩
    · intro D a w' hn hp hI
      obtain ⟨g, rfl, hR⟩ := hI
      have e6 : g 6 = .int .u8 yq := hR.e 6 hp.1
      rw [e6]
      clear hn hp
      go_wp2_with fail
      exact ⟨fun ix => if ix = 7 then .int .u8 ym else g ix, by simp [e6], hR.upd PF.below 7 _ (Below.refl _ _) rfl⟩
    · intro D a w' hn hp hI
      obtain ⟨g, rfl, hR⟩ := hI
      clear hn hp
      go_wp2_with fail
      exact ⟨fun ix => if ix = 8 then .slice (some ⟨w'.heap.size, 0, none⟩) 3 3 else g ix, by rfl, hR.upd PF.below 8 _ ((Below.refl _ _).alloc (Nat.le_refl _) _) ⟨_, rfl, heap_alloc_last _ _⟩⟩
    · intro D a w' hn hp hI
      obtain ⟨g, rfl, hR⟩ := hI
      clear hn hp
      go_wp2_with fail
      exact ⟨fun ix => if ix = 9 then .pointer (some ⟨b8, 1, none⟩) else g ix, by rfl, hR.upd PF.below 9 _ (Below.refl _ _) rfl⟩
    · intro D a w' hn hp hI
      obtain ⟨g, rfl, hR⟩ := hI
      have e9 : g 9 = .pointer (some ⟨b8, 1, none⟩) := hR.e 9 hp.1
      rw [e9]
      have cc := kc hR.b c1
      clear hn hp
      go_wp2_with fail
      exact ⟨fun ix => if ix = 10 then .int .u8 mq else g ix, by simp [e9], hR.upd PF.below 10 _ (Below.refl _ _) rfl⟩
    · intro D a w' hn hp hI
      obtain ⟨g, rfl, hR⟩ := hI
      have e10 : g 10 = .int .u8 mq := hR.e 10 hp.1
      rw [e10]
      clear hn hp
      go_wp2_with fail
      exact ⟨fun ix => if ix = 11 then .int .u8 jm else g ix, by simp [e10], hR.upd PF.below 11 _ (Below.refl _ _) rfl⟩
    · intro D a w' hn hp hI
      obtain ⟨g, rfl, hR⟩ := hI
      obtain ⟨bb, e8, hbb⟩ : ∃ b, g 8 = .slice (some ⟨b, 0, none⟩) 3 3 ∧ w'.heap[b]? = some (.cells #[.int .u8 0, .int .u8 1, .int .u8 3] 5 (0, 0)) := hR.e 8 hp.1
      rw [e8]
      have hlb := blk_lt hbb
      have e11 : g 11 = .int .u8 jm := hR.e 11 hp.2.1
      rw [e11]
      clear hn hp
      go_wp2_with fail
      exact ⟨fun ix => if ix = 12 then .pointer (some ⟨bb, jm, none⟩) else g ix, by simp [e8, e11], hR.upd PF.below 12 _ (Below.refl _ _) ⟨_, rfl, hbb⟩⟩
    · intro D a w' hn hp hI
      obtain ⟨g, rfl, hR⟩ := hI
      obtain ⟨bb, e12, hbb⟩ : ∃ b, g 12 = .pointer (some ⟨b, jm, none⟩) ∧ w'.heap[b]? = some (.cells #[.int .u8 0, .int .u8 1, .int .u8 3] 5 (0, 0)) := hR.e 12 hp.1
      rw [e12]
      have cc := HCELL.out _ _ hbb
      have hlb := blk_lt hbb
      clear hn hp
      go_wp2_with fail
      exact ⟨fun ix => if ix = 13 then .int .u8 fl else g ix, by simp [e12], hR.upd PF.below 13 _ (Below.refl _ _) rfl⟩
    · intro D a w' hn hp hI
      obtain ⟨g, rfl, hR⟩ := hI
      have e7 : g 7 = .int .u8 ym := hR.e 7 hp.1
      rw [e7]
      have e13 : g 13 = .int .u8 fl := hR.e 13 hp.2.1
      rw [e13]
      clear hn hp
      go_wp2_with fail
      exact ⟨fun ix => if ix = 14 then .int .u8 (ym + fl) else g ix, by simp [e7, e13], hR.upd PF.below 14 _ (Below.refl _ _) rfl⟩
    · intro D a w' hn hp hI
      obtain ⟨g, rfl, hR⟩ := hI
      have e1 : g 1 = .slice (some ⟨gb, 0, none⟩) j cb := hR.e 1 hp.1
      rw [e1]
      clear hn hp
      go_wp2_with fail
      exact ⟨fun ix => if ix = 15 then .pointer (some ⟨gb, 1, none⟩) else g ix, by simp [e1], hR.upd PF.below 15 _ (Below.refl _ _) rfl⟩
  intro D a w' hD2 hI2
  obtain ⟨g33, rfl, hR⟩ := hI2
  have e14 : g33 14 = .int .u8 (ym + fl) := hR.e 14 (hD2 14 (by decide))
  have e15 : g33 15 = .pointer (some ⟨gb, 1, none⟩) := hR.e 15 (hD2 15 (by decide))
  rw [e14, e15]
  have hst := HF.out.set hR.b (j := 1) (by rw [HD1L.out]; omega) (ym + fl)
  obtain ⟨⟨cx, hcx⟩, fx, lx, hset⟩ := hst
  have HS := Lib.hid hset
  simp only [List.drop_succ_cons, List.drop_zero]
  clear hD2 hR e14 e15 hset c1 k1 hc1 hl8 hl9
  go_wp2_with fail
  have hs := HH.out
  rw [HYY.out] at hs
  exact hs _ _ _ _ _ _ _ _ _ _ _ _ _ _ _ _ _ _ HS.out

set_option maxRecDepth 100000 in
set_option maxHeartbeats 4000000 in
theorem blk2_any (C : Code) (hC : findC (isBlock 2) (Try.f15.body.getD .skip) = some C) (Q : Exit → Act → World → Prop) {X1 : World} {b8 b9 : Nat} {kd kq mq uq : Int} {Ab : Option Addr} {lb nb : Nat} {x0 x1 x2 x3 x4 x5 x6 x7 x13 x14 x15 x16 x17 x18 x19 x20 x21 x22 x23 x24 x25 x26 x27 x28 x29 x30 x31 x32 x33 x34 x35 x36 x37 x40 x41 x42 x43 x44 x45 x46 x47 x48 x49 x50 x51 x52 x53 x54 x55 x56 x57 x58 x59 x60 x61 x62 x63 x64 x65 x66 x67 x68 x69 x70 x71 x72 x73 x74 x75 x76 x77 x78 x79 x80 x81 x82 x83 x84 x85 x86 x87 x88 x89 x90 x91 x92 x93 x94 x95 x96 x97 x98 x99 x100 x101 x102 x103 x104 x105 x106 x107 x108 x109 x110 x111 x112 x113 x114 x115 x116 x117 x118 x119 x120 x121 x122 x123 x124 x125 x126 x127 x128 x129 x130 x131 x132 x133 x134 x135 x136 x137 x138 x139 x140 x141 x142 x143 x144 x145 x146 x147 x148 x149 x150 x151 x152 x153 x154 x155 x156 x157 x158 x159 x160 x161 x162 x163 x164 x165 x166 x167 x168 x169 : Value}
    (h8 : X1.heap[b8]? = some (.cells #[.int .u8 kq, .int .u8 mq, .int .u8 uq, .slice Ab lb nb] 44 (0, 0))) (h9 : X1.heap[b9]? = some (.cells #[.int .u8 kd, .slice none 0 0] 36 (0, 0))) (hkc : kd = 1 ∨ kd = 7 ∨ kd = 131 ∨ kd = 137 ∨ kd = 68 ∨ kd = 148 ∨ kd = 130 ∨ (2 ≤ kd ∧ kd ≤ 6)) (hm0' : 0 ≤ mq) (hm1' : mq ≤ 255)
    (hh : ∀ (y40 y41 y42 y43 y44 y45 y46 y47 y48 y49 y50 y51 y52 y53 y54 : Value) (w' : World), Below X1.heap.size X1 w' → Q .normal ⟨#[x0, x1, x2, x3, x4, x5, x6, x7, .pointer (some ⟨b8, 0, none⟩), .pointer (some ⟨b9, 0, none⟩), .int .i64 (gS kd), .int .i64 (hS kd), .int .i64 (sS kd mq), x13, x14, x15, x16, x17, x18, x19, x20, x21, x22, x23, x24, x25, x26, x27, x28, x29, x30, x31, x32, x33, x34, x35, x36, x37, .pointer (some ⟨b9, 0, none⟩), .int .u8 kd, y40, y41, y42, y43, y44, y45, y46, y47, y48, y49, y50, y51, y52, y53, y54, x55, x56, x57, x58, x59, x60, x61, x62, x63, x64, x65, x66, x67, x68, x69, x70, x71, x72, x73, x74, x75, x76, x77, x78, x79, x80, x81, x82, x83, x84, x85, x86, x87, x88, x89, x90, x91, x92, x93, x94, x95, x96, x97, x98, x99, x100, x101, x102, x103, x104, x105, x106, x107, x108, x109, x110, x111, x112, x113, x114, x115, x116, x117, x118, x119, x120, x121, x122, x123, x124, x125, x126, x127, x128, x129, x130, x131, x132, x133, x134, x135, x136, x137, x138, x139, x140, x141, x142, x143, x144, x145, x146, x147, x148, x149, x150, x151, x152, x153, x154, x155, x156, x157, x158, x159, x160, x161, x162, x163, x164, x165, x166, x167, x168, x169], []⟩ w') : C.wp Try.prog Q ⟨#[x0, x1, x2, x3, x4, x5, x6, x7, .pointer (some ⟨b8, 0, none⟩), .pointer (some ⟨b9, 0, none⟩), .int .i64 (-1), .int .i64 0, .int .i64 1, x13, x14, x15, x16, x17, x18, x19, x20, x21, x22, x23, x24, x25, x26, x27, x28, x29, x30, x31, x32, x33, x34, x35, x36, x37, .pointer (some ⟨b9, 0, none⟩), .int .u8 kd, x40, x41, x42, x43, x44, x45, x46, x47, x48, x49, x50, x51, x52, x53, x54, x55, x56, x57, x58, x59, x60, x61, x62, x63, x64, x65, x66, x67, x68, x69, x70, x71, x72, x73, x74, x75, x76, x77, x78, x79, x80, x81, x82, x83, x84, x85, x86, x87, x88, x89, x90, x91, x92, x93, x94, x95, x96, x97, x98, x99, x100, x101, x102, x103, x104, x105, x106, x107, x108, x109, x110, x111, x112, x113, x114, x115, x116, x117, x118, x119, x120, x121, x122, x123, x124, x125, x126, x127, x128, x129, x130, x131, x132, x133, x134, x135, x136, x137, x138, x139, x140, x141, x142, x143, x144, x145, x146, x147, x148, x149, x150, x151, x152, x153, x154, x155, x156, x157, x158, x159, x160, x161, x162, x163, x164, x165, x166, x167, x168, x169], []⟩ X1 := by
  cases hC
  have HH := Lib.hid hh
  have c1 := blk_cell h8 1
  have k0 := blk_cell h9 0
  simp at c1 k0
  have hl8 := blk_lt h8
  have hl9 := blk_lt h9
  clear hh h8 h9
  have hkc' : kd = 7 ∨ (kd = 131 ∨ kd = 137) ∨ kd = 68 ∨ kd = 148 ∨ (kd ≠ 7 ∧ kd ≠ 131 ∧ kd ≠ 137 ∧ kd ≠ 68 ∧ kd ≠ 148) := by omega
  clear hkc
  rcases hkc' with rfl | h13 | rfl | rfl | hk5
  · go_wp2_with fail
    exact HH.out _ _ _ _ _ _ _ _ _ _ _ _ _ _ _ _ (Below.refl _ _)
  · have e1 : (kd == 7) = false := by simp; omega
    obtain ⟨q1, hq1⟩ : ∃ q, (kd == 131) = q := ⟨_, rfl⟩
    obtain ⟨q3, hq3⟩ : ∃ q, (kd == 137) = q := ⟨_, rfl⟩
    have hqq : q1 = true ∨ (q1 = false ∧ q3 = true) := by
      rw [← hq1, ← hq3]
      rcases h13 with rfl | rfl
      · exact .inl rfl
      · exact .inr ⟨rfl, rfl⟩
    have z1 : gS kd = 1 := by rcases h13 with rfl | rfl <;> rfl
    have z2 : hS kd = 1 := by rcases h13 with rfl | rfl <;> rfl
    have z3 : sS kd mq = 4 := by rcases h13 with rfl | rfl <;> rfl
    have Z1 := Lib.hid z1
    have Z2 := Lib.hid z2
    have Z3 := Lib.hid z3
    clear z1 z2 z3 h13
    rcases hqq with rfl | ⟨rfl, rfl⟩
    · go_wp2_with fail
      have hs := HH.out
      rw [Z1.out, Z2.out, Z3.out] at hs
      exact hs _ _ _ _ _ _ _ _ _ _ _ _ _ _ _ _ (Below.refl _ _)
    · go_wp2_with fail
      have hs := HH.out
      rw [Z1.out, Z2.out, Z3.out] at hs
      exact hs _ _ _ _ _ _ _ _ _ _ _ _ _ _ _ _ (Below.refl _ _)
  · have hmm : mq.tmod 3 = mq % 3 := Int.tmod_eq_emod_of_nonneg hm0'
    obtain ⟨jm, hjm⟩ : ∃ jm : Nat, mq % 3 = jm := ⟨(mq % 3).toNat, by omega⟩
    rw [hjm] at hmm
    have hjm3 : jm < 3 := by omega
    have hjm3i : (jm : Int) < 3 := by omega
    have hwj : IntKind.u8.wrap (jm : Int) = jm := IntWalk.u8_in _ (by omega)
    obtain ⟨sv, hsv⟩ : ∃ sv, sS 68 mq = sv := ⟨_, rfl⟩
    have hcell : ∀ W : World, ∀ b : Nat, W.heap[b]? = some (.cells #[.int .i64 4, .int .i64 8, .int .i64 8] 3 (0, 0)) → W.cell? ⟨b, jm, none⟩ = some (.int .i64 sv) := fun W b hb => by
      rw [blk_cell hb jm, ← hsv]
      unfold sS
      simp only [hjm]
      rcases (by omega : jm = 0 ∨ jm = 1 ∨ jm = 2) with rfl | rfl | rfl <;> rfl
    have HCELL := Lib.hid hcell
    have HSV := Lib.hid hsv
    clear hjm hsv hcell
    go_upto_region 16 with fail
    refine wp_region_steps 8 [[], [], [1], [2], [0, 3], [4], [], []] (fun D a w' => ∃ g : Nat → Value, a = ⟨#[x0, x1, x2, x3, x4, x5, x6, x7, .pointer (some ⟨b8, 0, none⟩), .pointer (some ⟨b9, 0, none⟩), g 6, g 7, .int .i64 1, x13, x14, x15, x16, x17, x18, x19, x20, x21, x22, x23, x24, x25, x26, x27, x28, x29, x30, x31, x32, x33, x34, x35, x36, x37, .pointer (some ⟨b9, 0, none⟩), .int .u8 68, .bool false, .bool false, .bool false, .bool false, .bool false, .bool true, .bool true, g 0, g 1, g 2, g 3, g 4, g 5, x53, x54, x55, x56, x57, x58, x59, x60, x61, x62, x63, x64, x65, x66, x67, x68, x69, x70, x71, x72, x73, x74, x75, x76, x77, x78, x79, x80, x81, x82, x83, x84, x85, x86, x87, x88, x89, x90, x91, x92, x93, x94, x95, x96, x97, x98, x99, x100, x101, x102, x103, x104, x105, x106, x107, x108, x109, x110, x111, x112, x113, x114, x115, x116, x117, x118, x119, x120, x121, x122, x123, x124, x125, x126, x127, x128, x129, x130, x131, x132, x133, x134, x135, x136, x137, x138, x139, x140, x141, x142, x143, x144, x145, x146, x147, x148, x149, x150, x151, x152, x153, x154, x155, x156, x157, x158, x159, x160, x161, x162, x163, x164, x165, x166, x167, x168, x169], []⟩ ∧ Iq X1 (PH jm ([undef, .pointer (some ⟨b8, 1, none⟩), .int .u8 mq, .int .u8 jm, undef, .int .i64 sv, .int .i64 2, .int .i64 2] : List Value)) D g w') (by kernel_rfl) (by kernel_rfl) ⟨fun i => if i = 0 then x47 else if i = 1 then x48 else if i = 2 then x49 else if i = 3 then x50 else if i = 4 then x51 else if i = 5 then x52 else if i = 6 then .int .i64 (-1) else if i = 7 then .int .i64 0 else undef, rfl, Iq.zero _ _ _⟩ ?_ ?_
    · simp only [List.take_succ_cons, List.take_zero]
      refine ⟨?_, ?_, ?_, ?_, ?_, ?_, ?_, ?_, trivial⟩
      · intro D a w' hn hp hI
        obtain ⟨g, rfl, hR⟩ := hI
        clear hn hp
        go_wp2_with fail
        exact ⟨fun ix => if ix = 0 then .slice (some ⟨w'.heap.size, 0, none⟩) 3 3 else g ix, by rfl, hR.upd PH.below 0 _ ((Below.refl _ _).alloc (Nat.le_refl _) _) ⟨_, rfl, heap_alloc_last _ _⟩⟩
      · intro D a w' hn hp hI
        obtain ⟨g, rfl, hR⟩ := hI
        clear hn hp
        go_wp2_with fail
        exact ⟨fun ix => if ix = 1 then .pointer (some ⟨b8, 1, none⟩) else g ix, by rfl, hR.upd PH.below 1 _ (Below.refl _ _) rfl⟩
      · intro D a w' hn hp hI
        obtain ⟨g, rfl, hR⟩ := hI
        have e1 : g 1 = .pointer (some ⟨b8, 1, none⟩) := hR.e 1 hp.1
        rw [e1]
        have cc := kc hR.b c1
        clear hn hp
        go_wp2_with fail
        exact ⟨fun ix => if ix = 2 then .int .u8 mq else g ix, by simp [e1], hR.upd PH.below 2 _ (Below.refl _ _) rfl⟩
      · intro D a w' hn hp hI
        obtain ⟨g, rfl, hR⟩ := hI
        have e2 : g 2 = .int .u8 mq := hR.e 2 hp.1
        rw [e2]
        clear hn hp
        go_wp2_with fail
        exact ⟨fun ix => if ix = 3 then .int .u8 jm else g ix, by simp [e2], hR.upd PH.below 3 _ (Below.refl _ _) rfl⟩
      · intro D a w' hn hp hI
        obtain ⟨g, rfl, hR⟩ := hI
        obtain ⟨bb, e0, hbb⟩ : ∃ b, g 0 = .slice (some ⟨b, 0, none⟩) 3 3 ∧ w'.heap[b]? = some (.cells #[.int .i64 4, .int .i64 8, .int .i64 8] 3 (0, 0)) := hR.e 0 hp.1
        rw [e0]
        have hlb := blk_lt hbb
        have e3 : g 3 = .int .u8 jm := hR.e 3 hp.2.1
        rw [e3]
        clear hn hp
        go_wp2_with fail
        exact ⟨fun ix => if ix = 4 then .pointer (some ⟨bb, jm, none⟩) else g ix, by simp [e0, e3], hR.upd PH.below 4 _ (Below.refl _ _) ⟨_, rfl, hbb⟩⟩
      · intro D a w' hn hp hI
        obtain ⟨g, rfl, hR⟩ := hI
        obtain ⟨bb, e4, hbb⟩ : ∃ b, g 4 = .pointer (some ⟨b, jm, none⟩) ∧ w'.heap[b]? = some (.cells #[.int .i64 4, .int .i64 8, .int .i64 8] 3 (0, 0)) := hR.e 4 hp.1
        rw [e4]
        have cc := HCELL.out _ _ hbb
        have hlb := blk_lt hbb
        clear hn hp
        go_wp2_with fail
        exact ⟨fun ix => if ix = 5 then .int .i64 sv else g ix, by simp [e4], hR.upd PH.below 5 _ (Below.refl _ _) rfl⟩
      · intro D a w' hn hp hI
        obtain ⟨g, rfl, hR⟩ := hI
        clear hn hp
        go_wp2_with fail
        exact ⟨fun ix => if ix = 6 then .int .i64 2 else g ix, by rfl, hR.upd PH.below 6 _ (Below.refl _ _) rfl⟩
      · intro D a w' hn hp hI
        obtain ⟨g, rfl, hR⟩ := hI
        clear hn hp
        go_wp2_with fail
        exact ⟨fun ix => if ix = 7 then .int .i64 2 else g ix, by rfl, hR.upd PH.below 7 _ (Below.refl _ _) rfl⟩
    intro D a w' hD2 hI2
    obtain ⟨g16, rfl, hR⟩ := hI2
    have e5 : g16 5 = .int .i64 sv := hR.e 5 (hD2 5 (by decide))
    have e6 : g16 6 = .int .i64 2 := hR.e 6 (hD2 6 (by decide))
    have e7 : g16 7 = .int .i64 2 := hR.e 7 (hD2 7 (by decide))
    rw [e5, e6, e7]
    have HRB := Lib.hid hR.b
    simp only [List.drop_succ_cons, List.drop_zero]
    clear hD2 hR e5 e6 e7
    go_wp2_with fail
    have hs := HH.out
    rw [show sS 68 mq = sv from HSV.out] at hs
    exact hs _ _ _ _ _ _ _ _ _ _ _ _ _ _ _ _ HRB.out
  · go_wp2_with fail
    exact HH.out _ _ _ _ _ _ _ _ _ _ _ _ _ _ _ _ (Below.refl _ _)
  · obtain ⟨k7, k131, k137, k68, k148⟩ := hk5
    have e1 : (kd == 7) = false := by simp; omega
    have e2 : (kd == 131) = false := by simp; omega
    have e3 : (kd == 137) = false := by simp; omega
    have e4 : (kd == 68) = false := by simp; omega
    have e5 : (kd == 148) = false := by simp; omega
    have z1 : gS kd = -1 := by unfold gS; rw [if_neg (by omega), if_neg (by omega), if_neg (by omega)]
    have z2 : hS kd = 0 := by unfold hS; rw [if_neg (by omega), if_neg (by omega)]
    have z3 : sS kd mq = 1 := by unfold sS; rw [if_neg (by omega), if_neg (by omega)]
    have Z1 := Lib.hid z1
    have Z2 := Lib.hid z2
    have Z3 := Lib.hid z3
    clear z1 z2 z3
    go_wp2_with fail
    have hs := HH.out
    rw [Z1.out, Z2.out, Z3.out] at hs
    exact hs _ _ _ _ _ _ _ _ _ _ _ _ _ _ _ _ (Below.refl _ _)

end Go.Proofs.Ytjfnnclbfaakkaa

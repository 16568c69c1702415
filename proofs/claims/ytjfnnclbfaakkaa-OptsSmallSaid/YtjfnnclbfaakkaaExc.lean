/-
  The contract of the reference's excluded; lists of its options in memory of one's own. Conditions: the options lie.
-/
import Derived.Test.YtjfnnclbfaakkaaRefB
import Derived.Test.YtjfnnclbfaakkaaPre
namespace Go.Proofs.Ytjfnnclbfaakkaa
open Go.RowKit
set_option linter.unusedVariables false
set_option linter.unusedSimpArgs false

theorem ex_any (l : List Op1) (k : Int) : (l.any fun p => exB p.1 k) = (decide (0 < grp k) && l.any fun p => grp p.1 == grp k) := by
  induction l with
  | nil => simp
  | cons p r ih =>
    rw [List.any_cons, List.any_cons, ih, exB_grp]
    cases decide (0 < grp k) <;> simp
theorem ex_drop {l : List Op1} {k : Nat} {kind : Int} (h : ∀ j, j < k → ∀ p, l[j]? = some p → exB p.1 kind = false) : (l.any fun p => exB p.1 kind) = (l.drop k).any fun p => exB p.1 kind := by
  conv => lhs; rw [← List.take_append_drop k l, List.any_append]
  have : ((l.take k).any fun p => exB p.1 kind) = false := by
    rw [List.any_eq_false]
    intro p hp
    obtain ⟨j, hj⟩ := List.getElem?_of_mem hp
    rw [List.getElem?_take] at hj
    split at hj
    · rename_i hjk
      rw [h j hjk p hj]
      decide
    · cases hj
  rw [this, Bool.false_or]

set_option maxRecDepth 100000 in
set_option maxHeartbeats 4000000 in
theorem excluded_any (l : List Op1) (A : Option Addr) (c : Nat) (kind : Int) (w : World) (hl : Ops w A l) (hn : l.length ≤ 2 ^ 40) :
    Calls Try.prog 50 #[.slice A l.length c, .int .u8 kind] w fun e w' => e = .returned (.bool (l.any fun p => exB p.1 kind)) ∧ w' = w := by
  obtain ⟨n, hN⟩ : ∃ n, l.length = n := ⟨_, rfl⟩
  rw [hN] at hn ⊢
  obtain ⟨RES, hRES⟩ : ∃ r, (l.any fun p => exB p.1 kind) = r := ⟨_, rfl⟩
  rw [hRES]
  have HN := Lib.hid hN
  have HL := Lib.hid hl
  have HRES := Lib.hid hRES
  clear hN hl hRES
  go_enter Try.func50, Try.ntmps50
  go_wp2_with fail
  go_loopw [5] (fun i wx => ∃ k : Nat, k ≤ n ∧ i = .int .i64 k ∧ (∀ j, j < k → ∀ p, l[j]? = some p → exB p.1 kind = false) ∧ wx = w) (fun i _ => n - (intOf i).toNat)
  case atStart => exact ⟨0, by omega, rfl, fun j hj => absurd hj (by omega), rfl⟩
  case round =>
    obtain ⟨k, hk, rfl, hmet, hwr⟩ := hrel
    subst hwr
    have HMET := Lib.hid hmet
    clear hmet
    by_cases hkl : k < n
    · obtain ⟨b, o, rfl, hbl⟩ := HL.out.pos (by rw [HN.out]; omega)
      obtain ⟨⟨kd, d⟩, hx⟩ : ∃ x, l[k]? = some x := ⟨l[k]'(by rw [HN.out]; omega), List.getElem?_eq_getElem _⟩
      obtain ⟨A1, n1, x0, x1, hc1, hc1m, by1, hk0, hk1, hnil⟩ := HL.out.at hx
      simp only at x0 x1 hc1 by1 hk0 hk1
      have hbl := cell_lt x0
      replace hbl : b < wr.heap.size := hbl
      have t1 : decide ((k : Int) < n) = true := by simp; omega
      have hpos : (k : Int) < n := by omega
      have HX := Lib.hid hx
      clear hx by1 hnil
      obtain ⟨q, hq⟩ : ∃ q, exB kd kind = q := ⟨_, rfl⟩
      have HQ := Lib.hid hq
      clear hq
      go_wp2_with fail
      refine (excludes_any kd kind _).mono ?_
      rintro e Y ⟨rfl, hY⟩
      rw [hY, HQ.out]
      clear hY
      cases q
      · go_wp2_with fail
        exact ⟨⟨k + 1, by omega, by go_num, fun j hj p hp => by
          by_cases hjk : j < k
          · exact HMET.out j hjk p hp
          · obtain rfl : j = k := by omega
            have := HX.out.symm.trans hp
            cases this
            exact HQ.out, by trivial⟩, by simp [intOf]; omega⟩
      · have hres : RES = true := by
          rw [← HRES.out]
          exact List.any_eq_true.2 ⟨_, List.mem_of_getElem? HX.out, HQ.out⟩
        subst hres
        go_wp2_with fail
        go_ret
        exact ⟨rfl, by trivial⟩
    · obtain rfl : k = n := by omega
      have t1 : decide ((k : Int) < k) = false := by simp
      have hres : RES = false := by
        rw [← HRES.out, ex_drop HMET.out, List.drop_of_length_le (by have := HN.out; omega)]
        rfl
      subst hres
      go_wp2_with fail
      go_ret
      exact ⟨rfl, by trivial⟩

/-- A list of the reference's options: its row, and all data, lie in blocks of their own, none below n. -/
structure GotR (n : Nat) (W : World) (v : Value) (css : List (List Value)) (l : List Op1) : Prop where
  row : W.ownsRow n 80 2 v l.length css.flatten
  each : Owns n W css l
theorem GotR.nil (n : Nat) (W : World) : GotR n W (.slice none 0 0) [] [] := ⟨World.ownsRow_nil _ _ _ _, .nil⟩
theorem GotR.keep {n : Nat} {W W' : World} {v : Value} {css : List (List Value)} {l : List Op1} (h : GotR n W v css l) (hk : ∀ g, n ≤ g → g < W.heap.size → W'.heap[g]? = W.heap[g]?) : GotR n W' v css l :=
  ⟨own_of_block h.row fun g hg _ hlt => hk g hg hlt, h.each.keep fun g F hg hF => hk g hg (blk_lt hF)⟩
theorem GotR.below {n : Nat} {W W' : World} {v : Value} {css : List (List Value)} {l : List Op1} (h : GotR n W v css l) (hb : Below W.heap.size W W') : GotR n W' v css l := h.keep fun g _ hlt => hb.block g hlt
theorem GotR.ops {n : Nat} {W : World} {v : Value} {css : List (List Value)} {l : List Op1} (h : GotR n W v css l) : ∃ A c, v = .slice A l.length c ∧ l.length ≤ c ∧ c ≤ maxLen ∧ Ops W A l := Ops.of_own h.row h.each.opvs rfl
theorem GotR.push {n : Nat} {W0 W3 : World} {v v' : Value} {css : List (List Value)} {l : List Op1} {ob : Obj} {cs : List Value} {o : Op1} (h : GotR n W0 v css l) (hg : (W0.alloc ob).grownBy W3 v.ownBlock) (ho : OpOwn n W0 cs o)
    (hr : W3.ownsRow n 80 2 v' (l.length + 1) (css.flatten ++ cs)) : GotR n W3 v' (css ++ [cs]) (l ++ [o]) := by
  have k1 : KeepB n W0 (W0.alloc ob) := KeepB.of_below ((Below.refl _ _).alloc (Nat.le_refl _) ob)
  have row1 : (W0.alloc ob).ownsRow n 80 2 v l.length css.flatten := h.row.alloc ob
  have k2 : KeepB n (W0.alloc ob) W3 := KeepB.of_grown hg row1 (by decide)
  exact ⟨by simpa using hr, (h.each.keep (k1.trans k2)).push (ho.keep (k1.trans k2))⟩

end Go.Proofs.Ytjfnnclbfaakkaa

/-
  The walk of OptsReads. Conditions: the bytes lie.
-/
import Derived.Test.YtjfnnclbfaakkaaReadsP
import Derived.Test.YtjfnnclbfaakkaaAwake
import Derived.Deep.LoopGhost
namespace Go.Proofs.Ytjfnnclbfaakkaa
open Go.RowKit
set_option linter.unusedVariables false
set_option linter.unusedSimpArgs false

theorem lent_m (d : List Int) (n : Nat) (A : Option Addr) (c : Nat) (w : World) (hN : d.length = n) (hd : By w A d) (hn : n ≤ 2 ^ 40) (hA : A = none → c = 0) :
    Calls Try.prog 28 #[.slice A n c] w fun e w' => ∃ g, e = .returned (.slice (some ⟨g, 0, none⟩) n (n + 12)) ∧ w.heap.size ≤ g ∧ w'.heap[g]? = some (.cells (lentC d) 5 (0, 0)) ∧ Below w.heap.size w w' := by
  subst hN
  exact lent_any d A c w hd hn hA
theorem by_lent {w : World} {g : Nat} {d : List Int} (hg : w.heap[g]? = some (.cells (lentC d) 5 (0, 0))) (hr : ∀ x ∈ d, 0 ≤ x ∧ x ≤ 255) : By w (some ⟨g, 0, none⟩) d :=
  ⟨hr, fun _ => ⟨g, 0, rfl, blk_lt hg, fun i x hi => by
    have hl : i < d.length := (List.getElem?_eq_some_iff.1 hi).1
    rw [Nat.zero_add, blk_cell hg i, lentC_lo hl, List.getD_eq_getElem?_getD, hi]
    rfl⟩⟩
theorem read_any2 (bs : List Int) (m : Nat) (A : Option Addr) (c : Nat) (w : World) (hm : bs.length = m) (hd : By w A bs) (hcap : m ≤ c) (hmax : c ≤ maxLen) {e : Int} {rl : List Op1} (hr : readS bs = (e, rl)) :
    Calls Try.prog 17 #[.slice A m c] w fun r w' => ∃ A4 c4 css, r = .returned (.tuple #[.slice A4 rl.length c4, .int .i64 e]) ∧ Got w.heap.size w' (.slice A4 rl.length c4) css rl ∧ Ops w' A4 rl ∧ Below w.heap.size w w' := by
  subst hm
  refine (read_any bs A c w hd hcap hmax).mono ?_
  rintro r w' ⟨v, css, rfl, hG, hb⟩
  rw [hr] at hG ⊢
  simp only at hG ⊢
  obtain ⟨A4, c4, rfl, _, _, hO⟩ := hG.ops
  exact ⟨A4, c4, css, rfl, hG, hO, hb⟩
theorem refRead_m (bs : List Int) (m : Nat) (A : Option Addr) (c : Nat) (w : World) (hm : bs.length = m) (hd : By w A bs) {e : Int} {rl : List Op1} (hr : readS bs = (e, rl)) :
    Calls Try.prog 29 #[.slice A m c] w fun r w' => ∃ A2 c2, r = .returned (.tuple #[.slice A2 rl.length c2, .int .i64 e]) ∧ Ops w' A2 rl ∧ Below w.heap.size w w' := by
  subst hm
  refine (refRead_any bs A c w hd).mono ?_
  rintro r w' ⟨A2, c2, rfl, hO, _, _, hb⟩
  rw [hr] at hO ⊢
  exact ⟨A2, c2, rfl, hO, hb⟩
theorem ours_m (l : List Op1) (m : Nat) (A : Option Addr) (c : Nat) (w : World) (hm : l.length = m) (hl : Ops w A l) (hn : m ≤ 2 ^ 40) :
    Calls Try.prog 30 #[.slice A m c] w fun e w' => ∃ A2 c2, e = .returned (.slice A2 m c2) ∧ Ops w' A2 l ∧ Below w.heap.size w w' := by
  subst hm
  refine (ours_any l A c w hl hn).mono ?_
  rintro r w' ⟨A2, c2, rfl, hO, _, _, hb⟩
  exact ⟨A2, c2, rfl, hO, hb⟩
theorem same_m (l : List Op1) (m : Nat) (A B : Option Addr) (c c2 : Nat) (w : World) (hm : l.length = m) (hl : Ops w A l) (hk : Ops w B l) (hn : m ≤ 2 ^ 40) (hb : ∀ o ∈ l, o.2.length ≤ 2 ^ 40) :
    Calls Try.prog 18 #[.slice A m c, .slice B m c2] w fun e w' => e = .returned (.bool true) ∧ Below w.heap.size w w' := by
  subst hm
  have h := sameL_any l l A B c c2 w hl hk hn hn hb hb
  rw [decide_eq_true (rfl : l = l)] at h
  exact h
theorem kept_m (d : List Int) (n g : Nat) (A : Option Addr) (c : Nat) (w : World) (hN : d.length = n) (hg : w.heap[g]? = some (.cells (lentC d) 5 (0, 0))) (hd : By w A d) (hn : n ≤ 2 ^ 40) :
    Calls Try.prog 31 #[.slice (some ⟨g, 0, none⟩) n (n + 12), .slice A n c] w fun e w' => e = .returned (.bool true) ∧ Below w.heap.size w w' := by
  subst hN
  exact kept_any d g A c w hg hd hn

theorem got_at {n m : Nat} {W : World} {A4 : Option Addr} {c4 : Nat} {css : List (List Value)} {rl : List Op1} (h : Got n W (.slice A4 m c4) css rl) {k : Nat} (hk : k < rl.length) :
    ∃ b4 kd A1 l1 c1, A4 = some ⟨b4, 0, none⟩ ∧ css[k]? = some [.int .u8 kd, .slice A1 l1 c1] ∧ W.cell? ⟨b4, k * 2, none⟩ = some (.int .u8 kd) ∧ W.cell? ⟨b4, k * 2 + 1, none⟩ = some (.slice A1 l1 c1) := by
  obtain ⟨o, ho⟩ : ∃ o, rl[k]? = some o := ⟨_, List.getElem?_eq_getElem hk⟩
  obtain ⟨cs, hcs, hov⟩ := h.each.opvs.get k o ho
  obtain ⟨A1, c1, rfl, _⟩ := hov.mem
  rcases own_cases h.row with ⟨_, h0, _⟩ | ⟨b4, cap, e1, _, hlt, _, _⟩
  · omega
  · injection e1 with e1 e2 e3
    subst e1 e3
    have hrow := h.row
    have hm : m = rl.length := e2
    subst hm
    have hrd := Rd.of_own hrow (fun cs hc => h.each.opvs.each cs hc) hlt
    refine ⟨b4, o.1, A1, o.2.length, c1, rfl, hcs, ?_, ?_⟩
    · have := hrd.cell hcs (j := 0) rfl
      simpa using this
    · have := hrd.cell hcs (j := 1) rfl
      simpa using this

set_option maxRecDepth 100000 in
set_option maxHeartbeats 4000000 in
theorem reads_any (bs : List Int) (A : Option Addr) (c : Nat) (w : World) (hd : By w A bs) (hcap : bs.length ≤ c) (hmax : c ≤ maxLen) (hnil : A = none → c = 0) :
    Calls Try.prog 13 #[.slice A bs.length c] w fun e w' => e = .returned (.bool true) ∧ Below w.heap.size w w' := by
  by_cases h60 : 60 < bs.length
  · have t1 : decide ((60 : Int) < bs.length) = true := by simp; omega
    go_enter Try.func13, Try.ntmps13
    go_wp2_with fail
    go_ret
    exact ⟨rfl, Below.refl _ _⟩
  obtain ⟨hsm, hcnt⟩ := read_small hd.rng
  obtain ⟨⟨er, rl⟩, hRD⟩ : ∃ R, readS bs = R := ⟨_, rfl⟩
  rw [hRD] at hsm hcnt
  simp only at hsm hcnt
  obtain ⟨n, hN⟩ : ∃ n, bs.length = n := ⟨_, rfl⟩
  obtain ⟨nl, hNL⟩ : ∃ nl, rl.length = nl := ⟨_, rfl⟩
  have t1 : decide ((60 : Int) < n) = false := by simp; omega
  have t1' : decide (60 < n) = false := by simp; omega
  have hn60 : n ≤ 60 := by omega
  rw [hN] at hcap hcnt ⊢
  rw [hNL] at hcnt
  have HD := Lib.hid hd
  have HN := Lib.hid hN
  have HNL := Lib.hid hNL
  have HRD := Lib.hid hRD
  have HSM := Lib.hid hsm
  have HC := Lib.hid hcap
  have HM := Lib.hid hmax
  have HNI := Lib.hid hnil
  have H38 : Hid (∀ o ∈ rl, o.2.length ≤ 2 ^ 40) := fun o ho => by have := hsm o ho; omega
  have H20 : Hid (∀ o ∈ rl, o.2.length ≤ 2 ^ 20) := fun o ho => by have := hsm o ho; omega
  clear hd hN hNL hRD hsm hcap hmax hnil h60
  go_enter Try.func13, Try.ntmps13
  go_wp2_with fail
  refine (lent_m bs n A c _ HN.out HD.out (by omega) HNI.out).mono ?_
  rintro e Y1 ⟨g, rfl, hg, hgb, hb⟩
  have HG := Lib.hid hgb
  have HGE := Lib.hid hg
  have HB1 := Lib.hid hb
  clear hb hgb hg
  go_wp2_with fail
  refine (read_any2 bs n (some ⟨g, 0, none⟩) (n + 12) _ HN.out (by_lent HG.out HD.out.rng) (by omega) (lt_maxLen' (by omega)) HRD.out).mono ?_
  rintro e Y2 ⟨A4, c4, css, rfl, hGot, hO4, hb⟩
  rw [HNL.out]
  have HGOT := Lib.hid hGot
  have HO4 := Lib.hid hO4
  have HB2 := Lib.hid (HB1.out.trans (hb.mono HB1.out.size))
  have HG2 := Lib.hid (blk_below hb HG.out)
  have hs12 := hb.size
  have HS12 := Lib.hid hs12
  clear hb hGot hO4 hs12
  go_wp2_with fail
  refine (refRead_m bs n A c _ HN.out (HD.out.below HB2.out) HRD.out).mono ?_
  rintro e Y3 ⟨A6, c6, rfl, hO6, hb⟩
  rw [HNL.out]
  have HO6 := Lib.hid hO6
  have HB3 := Lib.hid (HB2.out.trans (hb.mono HB2.out.size))
  have HG3 := Lib.hid (blk_below hb HG2.out)
  have HGOT3 := Lib.hid (HGOT.out.below hb)
  have HO43 := Lib.hid (HO4.out.below hb)
  clear hb hO6
  go_wp2_with fail
  refine (ours_m rl nl A6 c6 _ HNL.out HO6.out (by omega)).mono ?_
  rintro e Y4 ⟨A7, c7, rfl, hO7, hb⟩
  have HO7 := Lib.hid hO7
  have HB4 := Lib.hid (HB3.out.trans (hb.mono HB3.out.size))
  have HG4 := Lib.hid (blk_below hb HG3.out)
  have HGOT4 := Lib.hid (HGOT3.out.below hb)
  have HO44 := Lib.hid (HO43.out.below hb)
  clear hb hO7
  go_wp2_with fail
  refine (same_m rl nl A4 A7 c4 c7 _ HNL.out HO44.out HO7.out (by omega) H38.out).mono ?_
  rintro e Y5 ⟨rfl, hb⟩
  have HB5 := Lib.hid (HB4.out.trans (hb.mono HB4.out.size))
  have HG5 := Lib.hid (blk_below hb HG4.out)
  have HGOT5 := Lib.hid (HGOT4.out.below hb)
  clear hb
  go_wp2_with fail
  refine (kept_m bs n g A c _ HN.out HG5.out (HD.out.below HB5.out) (by omega)).mono ?_
  rintro e Y6 ⟨rfl, hb⟩
  have HB6 := Lib.hid (HB5.out.trans (hb.mono HB5.out.size))
  have HG6 := Lib.hid (blk_below hb HG5.out)
  have HGOT6 := Lib.hid (HGOT5.out.below hb)
  clear hb
  go_upto_region 9 with fail
  obtain ⟨S, hS⟩ : ∃ S, Y6.heap.size = S := ⟨_, rfl⟩
  have hal := heap_alloc_last Y6 (Obj.cells #[Value.slice (some ⟨g, 0, none⟩) n (n + 12)] 22)
  have hba : Below Y6.heap.size Y6 (Y6.alloc (Obj.cells #[Value.slice (some ⟨g, 0, none⟩) n (n + 12)] 22)) := (Below.refl _ _).alloc (Nat.le_refl _) _
  obtain ⟨X7, hX7⟩ : ∃ X, Y6.alloc (Obj.cells #[Value.slice (some ⟨g, 0, none⟩) n (n + 12)] 22) = X := ⟨_, rfl⟩
  rw [hX7] at hal hba ⊢
  rw [hS] at hal ⊢
  have hrow0 : X7.ownsRow S 22 1 (.slice (some ⟨S, 0, none⟩) 1 1) 1 [.slice (some ⟨g, 0, none⟩) n (n + 12)] := ⟨rfl, .inr ⟨S, 1, _, rfl, Nat.le_refl _, hal, Nat.le_refl _, by decide, rfl, rfl⟩⟩
  have HROW0 := Lib.hid hrow0
  have HBA := Lib.hid hba
  have HSS := Lib.hid hS
  obtain ⟨i0, hi, hz0, hz1, hz2⟩ := info_parts info22s
  clear hX7 hal hba hrow0 hS
  go_wp2_with fail
  go_loopw [8, 46] (fun v8 v46 wr => ∃ k : Nat, k ≤ nl ∧ v46 = .int .i64 k ∧ wr.ownsRow S 22 1 v8 (k + 1) (.slice (some ⟨g, 0, none⟩) n (n + 12) :: (css.take k).map fun cs => cs.getD 1 undef) ∧ Below Y6.heap.size Y6 wr) (fun _ v _ => nl - (intOf v).toNat)
  case atStart => exact ⟨0, by omega, rfl, HROW0.out, HBA.out⟩
  case round =>
    obtain ⟨k, hk, rfl, hrow, hb⟩ := hrel
    obtain ⟨A8, c8, rfl⟩ := own_form hrow
    by_cases hlt : k < nl
    · have t2 : decide ((k : Int) < nl) = true := by simp; omega
      have t2' : decide (k < nl) = true := by simp; omega
      have hkn : (k : Int) < nl := by omega
      have hk0 : (0 : Int) ≤ k := by omega
      obtain ⟨b4, kd, A1, l1, c1, rfl, hcs, x0, x1⟩ : ∃ b4 kd A1 l1 c1, A4 = some ⟨b4, 0, none⟩ ∧ css[k]? = some [.int .u8 kd, .slice A1 l1 c1] ∧ Y6.cell? ⟨b4, k * 2, none⟩ = some (.int .u8 kd) ∧ Y6.cell? ⟨b4, k * 2 + 1, none⟩ = some (.slice A1 l1 c1) := got_at HGOT6.out (by rw [HNL.out]; exact hlt)
      replace x0 := kc hb x0
      replace x1 := kc hb x1
      have hbl := cell_lt x0
      simp only at hbl
      have HCS := Lib.hid hcs
      have HROW := Lib.hid hrow
      have HB := Lib.hid hb
      have HLT := Lib.hid hlt
      clear hcs hrow hb hlt
      go_upto_region 12 with fail
      obtain ⟨X, hX⟩ : ∃ X, wr.alloc (Obj.cells #[Value.int .u8 kd, Value.slice A1 l1 c1] 36) = X := ⟨_, rfl⟩
      have hbX : Below wr.heap.size wr X := by rw [← hX]; exact (Below.refl _ _).alloc (Nat.le_refl _) _
      have h5 : X.heap[wr.heap.size]? = some (.cells #[.int .u8 kd, .slice A1 l1 c1] 36 (0, 0)) := by rw [← hX]; exact heap_alloc_last _ _
      rw [hX]
      have o1 := blk_cell h5 1
      simp at o1
      have hl5 := blk_lt h5
      have HRX := Lib.hid (own_below HROW.out hbX)
      have HBX := Lib.hid (HB.out.trans (hbX.mono HB.out.size))
      have HSX : Hid (S ≤ X.heap.size) := by show _ ≤ _; rw [← HSS.out]; exact HBX.out.size
      clear hX hbX h5 x0 x1
      go_wp2_with (at_builtin; refine wpList_append_own _ rfl _ _ 65 rfl S 22 i0 (.slice none 0 0) 1 24 Try.underlying65 hi hz0 hz1 hz2 rfl (by decide) _ _ _ rfl (HRX.out.alloc _) ⟨X.heap.size, 0, none⟩ 1 1 [.slice A1 l1 c1] rfl rfl (cell_one_new _ _ _) (by simp [Value.oneCell']) (lt_maxLen' (by omega)) (by omega) (by have := HSX.out; simp; omega) ?_; intro v3 w3 hown3 hgrow3 hnil3; (try dsimp only [Act.put]); (try simp only [List.setIfInBounds_toArray, List.set_cons_succ, List.set_cons_zero]); obtain ⟨g3, cap3, rfl⟩ := ownsRow_succ hown3; have HO3 := Lib.hid hown3; have HB3' := Lib.hid ((HBX.out.alloc HBX.out.size (.cells #[.slice A1 l1 c1] 22)).grown hgrow3 (by simp; have := HBX.out.size; omega) fun k e => by have := (HRX.out.lt k e).1; have := HSS.out; omega); clear hown3 hgrow3 hnil3)
      exact ⟨⟨k + 1, HLT.out, by go_num, by
        rw [List.take_add_one, HCS.out, List.map_append, ← List.cons_append]
        exact HO3.out, HB3'.out⟩, by have := HLT.out; simp [intOf]; omega⟩
    · obtain rfl : k = nl := by omega
      have t2 : decide ((k : Int) < k) = false := by simp
      have t2' : decide (k < k) = false := by simp
      have hcl : css.length = k := by rw [HGOT6.out.each.opvs.length]; exact HNL.out
      rw [List.take_of_length_le (by omega)] at hrow
      obtain ⟨hz, hzv, hzb⟩ := datL_got HGOT6.out.each HGOT6.out.ord H20.out (by rw [HNL.out]; omega)
      have hlz : Lz 5 w.heap.size (⟨some g, n, n + 12⟩ :: datL css) Y6 := by
        refine Lz.cons ⟨(fun h => by cases h), Nat.le_add_right _ _, lt_maxLen' (show n + 12 ≤ 2 ^ 41 by omega), by show n ≤ 2 ^ 20; omega⟩ ⟨hz.lg, fun j s b h1 h2 => ⟨Nat.le_trans HB1.out.size (hz.bl j s b h1 h2).1, (hz.bl j s b h1 h2).2⟩⟩ (fun t ht b hb1 hb2 => ?_) (by simp [datL]; omega) (fun b hb1 => ?_)
        · cases hb1
          obtain ⟨cs, hc1, hc2⟩ := hzb t ht g hb2
          have := (HGOT6.out.each.lt cs hc1 g hc2).1
          have := blk_lt HG.out
          omega
        · cases hb1
          exact ⟨HGE.out, _, HG6.out, by simp [lentC, mks_len, HN.out]⟩
      have HLZ := Lib.hid (hlz.bel hb)
      have HROW : Hid (wr.ownsRow S 22 1 (.slice A8 (k + 1) c8) (k + 1) (((⟨some g, n, n + 12⟩ : Sli) :: datL css).map Sli.v)) := by
        show wr.ownsRow S 22 1 _ _ (_ :: (datL css).map Sli.v)
        rw [hzv]
        exact hrow
      have hll : ((⟨some g, n, n + 12⟩ : Sli) :: datL css).length = k + 1 := by simp [datL]; omega
      have HLL := Lib.hid hll
      have HBW := Lib.hid (HB6.out.trans (hb.mono HB6.out.size))
      clear hrow hb hz hzv hzb hlz hll hcl hlt
      go_wp2_with fail
      refine (apartB_any (xs := []) HLZ.out.lg HLL.out HROW.out HLZ.out.bl HBW.out.size (fun y hy => by cases hy) (fun y hy => by cases hy)).mono ?_
      rintro e Z ⟨rfl, hb, _⟩
      have HBZ := Lib.hid (HBW.out.trans hb)
      clear hb
      go_wp2_with fail
      go_ret
      exact ⟨rfl, HBZ.out⟩

set_option maxRecDepth 100000 in
theorem optsReads_walk (A : Option Addr) (d : List Int) (n cap : Nat) (w : World) (hl : n = d.length) (hle : n ≤ cap) (hmx : cap ≤ maxLen) (hnil : A = none → n = 0 ∧ cap = 0) (hby : By w A d) :
    Calls Try.prog 3 #[.slice A n cap] w fun e w' => e = .returned (.bool true) ∧ Below w.heap.size w w' := by
  have HR := Lib.hid (reads_any d A cap w hby (by omega) hmx fun h => (hnil h).2)
  subst hl
  clear hle hmx hnil hby
  go_enter Try.func3, Try.ntmps3
  go_wp2_with fail
  refine HR.out.mono ?_
  rintro e Y ⟨rfl, hb⟩
  have HB := Lib.hid hb
  clear hb
  go_wp2_with fail
  refine (awake_any _).mono ?_
  rintro e Y2 ⟨rfl, hb⟩
  have HB2 := Lib.hid (HB.out.trans (hb.mono HB.out.size))
  clear hb
  go_wp2_with fail
  go_ret
  exact ⟨rfl, HB2.out⟩

end Go.Proofs.Ytjfnnclbfaakkaa

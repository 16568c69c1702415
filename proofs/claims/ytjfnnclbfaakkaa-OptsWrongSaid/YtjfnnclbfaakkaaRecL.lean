/-
  The walk of OptsRecords. Conditions: the addresses lie.
-/
import Derived.Test.YtjfnnclbfaakkaaAwake
import Derived.Test.YtjfnnclbfaakkaaRecP
import Derived.Test.YtjfnnclbfaakkaaMade
import Derived.Test.YtjfnnclbfaakkaaWords
import Derived.Deep.LoopGhost
import Derived.BigQuiet
import Derived.BigRegion
import Derived.Deep.CutBlock
namespace Go.Proofs.Ytjfnnclbfaakkaa
open Go.RowKit
set_option linter.unusedVariables false
set_option linter.unusedSimpArgs false

theorem small_one {w : World} {b b2 : Nat} {kx m u : Int} {d : List Int} {c : Nat} (h : w.heap[b]? = some (.cells #[.int .u8 kx, .int .u8 m, .int .u8 u, .slice (some ⟨b2, 0, none⟩) d.length c] 44 (0, 0))) (hd : By w (some ⟨b2, 0, none⟩) d) (hl : d.length ≤ 9223372036854775807) (hok : Sm.Ok ⟨kx, m, u, d⟩) : Smalls w (some ⟨b, 0, none⟩) [⟨kx, m, u, d⟩] := by
  refine ⟨by simpa using hok, [[.int .u8 kx, .int .u8 m, .int .u8 u, .slice (some ⟨b2, 0, none⟩) d.length c]], ⟨by simp, fun _ => ⟨b, 0, rfl, blk_lt h, ?_⟩⟩, rfl, ?_⟩
  · intro i cs hi j v hv
    rcases i with _ | i
    · simp at hi
      subst hi
      rw [show 0 + 0 * 4 + j = j by omega, blk_cell h j]
      simpa using hv
    · simp at hi
  · intro i x hi
    rcases i with _ | i
    · simp at hi
      subst hi
      exact ⟨_, c, rfl, hd, hl⟩
    · simp at hi

theorem by_blk {w : World} {b : Nat} {F : Array Value} {t : TypeId} {d : List Int} (h : w.heap[b]? = some (.cells F t (0, 0))) (hF : F.toList = d.map (Value.int .u8)) (hr : ∀ x ∈ d, 0 ≤ x ∧ x ≤ 255) : By w (some ⟨b, 0, none⟩) d :=
  ⟨hr, fun _ => ⟨b, 0, rfl, blk_lt h, fun i x hi => by rw [Nat.zero_add, blk_cell h i, ← Array.getElem?_toList, hF, List.getElem?_map, hi]; rfl⟩⟩

theorem words_list : ∀ (css : List (List Value)), (∀ cs ∈ css, All2 [some .u32] cs) → ∃ d : List Int, css = d.map (fun x => [.int .u32 x]) ∧ ∀ x ∈ d, 0 ≤ x ∧ x < 4294967296
  | [], _ => ⟨[], rfl, by simp⟩
  | cs :: r, h => by
    obtain ⟨n0, r0, e0, w0, h0⟩ := all2_int (h cs (by simp))
    have e1 := all2_nil h0
    subst e1
    obtain ⟨d, e, hd⟩ := words_list r (fun c hc => h c (by simp [hc]))
    refine ⟨n0 :: d, by rw [e0, e]; rfl, fun x hx => ?_⟩
    rcases List.mem_cons.1 hx with rfl | hx
    · have := bounds_u32 w0
      omega
    · exact hd x hx
theorem words_of {w : World} {A : Option Addr} {css : List (List Value)} (hrd : Rd w A 1 css) (hall : ∀ cs ∈ css, All2 [some .u32] cs) : ∃ d : List Int, css.length = d.length ∧ Wo w A d := by
  obtain ⟨d, rfl, hd⟩ := words_list css hall
  exact ⟨d, by simp, Wo.of_rd hrd hd⟩
theorem sameW {d e : List Int} {A B : Option Addr} {c c2 n m : Nat} {w : World} (hd : Wo w A d) (he : Wo w B e) (hn : d.length = n) (hm : e.length = m) (h1 : n ≤ 2 ^ 40) (h2 : m ≤ 2 ^ 40) (hde : d = e) :
    Calls Try.prog 23 #[.slice A n c, .slice B m c2] w fun r w' => r = .returned (.bool true) ∧ Below w.heap.size w w' := by
  subst hn hm
  have h := sameWords_any d e A B c c2 w hd he h1 h2
  rw [decide_eq_true hde] at h
  exact h
theorem Wo.cut {w : World} {b o : Nat} {d : List Int} (h : Wo w (some ⟨b, o, none⟩) d) (k c : Nat) (hc : d.length ≤ c) : Wo w (if c = k then some ⟨b, o, none⟩ else some ⟨b, o + k, none⟩) (d.drop k) := by
  by_cases hk : c = k
  · rw [if_pos hk]
    have : d.drop k = [] := by rw [List.drop_eq_nil_iff]; omega
    rw [this]
    exact Wo.nil _ _
  · rw [if_neg hk]
    exact h.drop k
/-- Between the rounds: the option lies in the block behind Y's. -/
structure RcI (Y : World) (kd : Int) (d0 : List Int) (n k : Nat) (wr : World) (i : Nat) (d : List Int) (A : Option Addr) (c : Nat) : Prop where
  below : Below Y.heap.size Y wr
  obj : wr.heap[Y.heap.size]? = some (.cells #[.int .u8 kd, .slice A d.length c] 36 (0, 0))
  bys : By wr A d
  cap : d.length ≤ c
  rt : Rt (kd, d) n i
  lo : ∀ j, j < k → wd d j = wd d0 j
  hi : ∀ j, i ≤ j → wd d j = wd d0 j
theorem RcI.step {Y wr Z : World} {kd : Int} {d0 d d2 : List Int} {n k i : Nat} {A A2 : Option Addr} {c c2 : Nat} (h : RcI Y kd d0 n k wr i d A c) (hki : k ≤ i) {Z0 : World} (hb0 : Below wr.heap.size wr Z0) (hb : Below wr.heap.size wr Z) (hrow : Z.ownsRow Z0.heap.size 5 1 (.slice A2 d2.length c2) d2.length (d2.map (Value.int .u8))) (hr : ∀ x ∈ d2, 0 ≤ x ∧ x ≤ 255)
    (hrt : Rt (kd, d2) n (i + 1)) (hw : ∀ j, j ≠ i → wd d2 j = wd d j) : RcI Y kd d0 n k ((Z.setCell ⟨Y.heap.size, 0, none⟩ (.int .u8 kd)).setCell ⟨Y.heap.size, 1, none⟩ (.slice A2 d2.length c2)) (i + 1) d2 A2 c2 := by
  have hob := blk_below hb h.obj
  have hlt := blk_lt h.obj
  have hlt0 := hb0.size
  have hB : Below Y.heap.size Y Z := h.below.trans (hb.mono h.below.size)
  have hs1 := blk_set hob 0 (.int .u8 kd)
  have hs2 := blk_set hs1 1 (.slice A2 d2.length c2)
  have hrow2 : ((Z.setCell ⟨Y.heap.size, 0, none⟩ (.int .u8 kd)).setCell ⟨Y.heap.size, 1, none⟩ (.slice A2 d2.length c2)).ownsRow Z0.heap.size 5 1 (.slice A2 d2.length c2) d2.length (d2.map (Value.int .u8)) :=
    own_of_block hrow fun g hg _ _ => (Below.heap_setCell _ _ _ _ (by show g ≠ Y.heap.size; omega)).trans (Below.heap_setCell _ _ _ _ (by show g ≠ Y.heap.size; omega))
  obtain ⟨A', c', e, h1, h2, h3⟩ := By.of_own' hrow2 hr
  cases e
  refine ⟨(hB.setCell (p := ⟨Y.heap.size, 0, none⟩) (Nat.le_refl _) _).setCell (p := ⟨Y.heap.size, 1, none⟩) (Nat.le_refl _) _, by simpa using hs2, h3, h1, hrt, fun j hj => ?_, fun j hj => ?_⟩
  · rw [hw j (by omega)]
    exact h.lo j hj
  · rw [hw j (by omega)]
    exact h.hi j (by omega)

theorem setN_rng {d : List Int} {p : Nat} {a : Int} (h : ∀ x ∈ d, 0 ≤ x ∧ x ≤ 255) : ∀ k, ∀ x ∈ setN d p a k, 0 ≤ x ∧ x ≤ 255
  | 0 => h
  | k + 1 => fun x hx => by
    rw [setN] at hx
    rcases List.mem_or_eq_of_mem_set hx with hx | rfl
    · exact setN_rng h k x hx
    · omega
theorem rec_rng {k k2 : Int} {d d2 : List Int} {a : Int} (h : recS (k, d) a = (0, (k2, d2))) (hr : ∀ x ∈ d, 0 ≤ x ∧ x ≤ 255) : ∀ x ∈ d2, 0 ≤ x ∧ x ≤ 255 := by
  unfold recS at h
  split at h
  · simp at h
  · rename_i hl
    split at h
    · simp at h
    · obtain ⟨_, _, h4, _, h5, h6⟩ := listed_facts (by simpa using hl)
      simp only [Prod.mk.injEq] at h
      obtain ⟨_, _, rfl⟩ := h
      intro x hx
      rcases List.mem_or_eq_of_mem_set hx with hx | rfl
      · exact setN_rng hr _ x hx
      · show 0 ≤ d.getD 0 0 + 4 ∧ d.getD 0 0 + 4 ≤ 255
        omega

set_option maxRecDepth 100000 in
set_option maxHeartbeats 4000000 in
theorem records_any (kind many used : Int) (ad : List Int) (A : Option Addr) (c : Nat) (w : World) (hk : 0 ≤ kind ∧ kind ≤ 255) (hm : 0 ≤ many ∧ many ≤ 255) (hu : 0 ≤ used ∧ used ≤ 255) (hd : Wo w A ad) (hcap : ad.length ≤ c) (hmax : c ≤ maxLen) :
    Calls Try.prog 8 #[.int .u8 kind, .int .u8 many, .int .u8 used, .slice A ad.length c] w fun e w' => e = .returned (.bool true) ∧ Below w.heap.size w w' := by
  obtain ⟨q, hq⟩ : ∃ q, kind % 3 = q := ⟨_, rfl⟩
  have hq3 : 0 ≤ q ∧ q ≤ 2 := by omega
  have htk : kind.tmod 3 = q := by rw [Int.tmod_eq_emod_of_nonneg hk.1]; exact hq
  have hwq : IntKind.u8.wrap q = q := IntWalk.u8_in _ (by omega)
  have hwk : IntKind.u8.wrap (1 + q) = 1 + q := IntWalk.u8_in _ (by omega)
  have hok : Sm.Ok ⟨1 + q, many, used, [4, 192, 0, 2, 77]⟩ := ⟨by show 0 ≤ 1 + q ∧ 1 + q ≤ 255; omega, hm, hu, by intro y hy; simp at hy; omega⟩
  obtain ⟨hmd, hrt⟩ := made_rt hok (by show (1 + q) % 8 = 1 ∨ (1 + q) % 8 = 2 ∨ (1 + q) % 8 = 3; omega)
  simp only at hrt
  obtain ⟨n, hn⟩ : ∃ n : Nat, many % 10 = n := ⟨(many % 10).toNat, by omega⟩
  rw [hn] at hrt
  have hu0 := Int.emod_nonneg used (b := (n : Int) + 1) (by omega)
  obtain ⟨k, hk'⟩ : ∃ k : Nat, used % ((n : Int) + 1) = k := ⟨(used % ((n : Int) + 1)).toNat, by omega⟩
  rw [hk'] at hrt
  simp only [Int.toNat_natCast] at hrt
  obtain ⟨o0, ho0⟩ : ∃ o, moS ⟨1 + q, many, used, [4, 192, 0, 2, 77]⟩ = o := ⟨_, rfl⟩
  rw [ho0] at hmd hrt
  obtain ⟨kd, d0⟩ := o0
  obtain ⟨M, hM⟩ : ∃ M, madeS [⟨1 + q, many, used, [4, 192, 0, 2, 77]⟩] = M := ⟨_, rfl⟩
  rw [hM] at hmd
  obtain ⟨al, bt⟩ := M
  simp only at hmd
  subst hmd
  have htm : many.tmod 10 = n := by rw [Int.tmod_eq_emod_of_nonneg hm.1]; exact hn
  have htu : used.tmod ((n : Int) + 1) = k := by rw [Int.tmod_eq_emod_of_nonneg hu.1]; exact hk'
  have HTM := Lib.hid htm
  have HTU := Lib.hid htu
  have HM := Lib.hid hM
  have HRT := Lib.hid hrt
  have HD := Lib.hid hd
  have HOK := Lib.hid hok
  obtain ⟨na, hna⟩ : ∃ na, ad.length = na := ⟨_, rfl⟩
  have HNA := Lib.hid hna
  rw [hna] at hcap ⊢
  have HMAX := Lib.hid hmax
  have HCAP := Lib.hid hcap
  clear hM hrt hd hok hmax hcap ho0 hu0 hk' hn hq hna htm htu
  go_enter Try.func8, Try.ntmps8
  go_wp2_with fail
  refine (awake_any _).mono ?_
  rintro e Y1 ⟨rfl, hb1⟩
  have HB1 := Lib.hid hb1
  clear hb1
  go_wp2_with fail
  have hx5 := heap_alloc_last Y1 (Obj.cells #[Value.int IntKind.u8 4, Value.int IntKind.u8 192, Value.int IntKind.u8 0, Value.int IntKind.u8 2, Value.int IntKind.u8 77] 5)
  have hx4 := heap_alloc_last (Y1.alloc (Obj.cells #[Value.int IntKind.u8 4, Value.int IntKind.u8 192, Value.int IntKind.u8 0, Value.int IntKind.u8 2, Value.int IntKind.u8 77] 5)) (Obj.cells #[Value.int IntKind.u8 (1 + q), Value.int IntKind.u8 many, Value.int IntKind.u8 used, Value.slice (some ⟨Y1.heap.size, 0, none⟩) 5 5] 44)
  have hsm := small_one hx4 (d := [4, 192, 0, 2, 77]) ((by_blk hx5 rfl (by intro x hx; simp at hx; omega)).alloc _) (by decide) HOK.out
  rw [World.size_alloc] at hsm
  have hbY : Below w.heap.size w ((Y1.alloc (Obj.cells #[Value.int IntKind.u8 4, Value.int IntKind.u8 192, Value.int IntKind.u8 0, Value.int IntKind.u8 2, Value.int IntKind.u8 77] 5)).alloc (Obj.cells #[Value.int IntKind.u8 (1 + q), Value.int IntKind.u8 many, Value.int IntKind.u8 used, Value.slice (some ⟨Y1.heap.size, 0, none⟩) 5 5] 44)) := (HB1.out.alloc HB1.out.size _).alloc (by simp; have := HB1.out.size; omega) _
  refine (made_any [⟨1 + q, many, used, [4, 192, 0, 2, 77]⟩] (some ⟨Y1.heap.size + 1, 0, none⟩) 1 _ hsm (by simp) (by decide)).mono ?_
  rintro e Y2 ⟨v2, css, rfl, hG, hb2⟩
  rw [HM.out] at hG ⊢
  simp only at hG ⊢
  have HB2 := Lib.hid (hbY.trans (hb2.mono hbY.size))
  obtain ⟨A2, c2, rfl, h2a, h2b, hO2⟩ := hG.ops
  simp only [List.length_singleton] at hO2 h2a ⊢
  obtain ⟨b, o, rfl, hbl⟩ := hO2.pos (by simp)
  obtain ⟨A1, n1, x0, x1, hc1, hc1m, by1, hk0, hk1, hnil⟩ := hO2.at (i := 0) rfl
  simp only [Nat.zero_mul, Nat.add_zero] at x0 x1 hc1 by1 hk0 hk1
  have HBY2 := Lib.hid by1
  have HX0 := Lib.hid x0
  have HX1 := Lib.hid x1
  have hd0 := HRT.out.len
  simp only at hd0
  have HD0 := Lib.hid hd0
  have hn9 := HRT.out.n9
  have hkn := HRT.out.le
  clear hx5 hx4 hsm hbY hb2 hG hO2 by1 hnil HB1 hbl x0 x1 hd0
  have htm := HTM.out
  have htu := HTU.out
  have hwn : IntKind.i64.wrap (n : Int) = (n : Int) := IntWalk.i64_in _ (by omega)
  have hwn1 : IntKind.i64.wrap ((n : Int) + 1) = (n : Int) + 1 := IntWalk.i64_in _ (by omega)
  have hwkk : IntKind.i64.wrap (k : Int) = (k : Int) := IntWalk.i64_in _ (by omega)
  have hne : (((n : Int) + 1) == 0) = false := by simp; omega
  go_upto_region 6 with fail
  go_quiet (fail)
  obtain ⟨Y3, hY3⟩ : ∃ Y, Y2.drewN nq = Y := ⟨_, rfl⟩
  have hb3 : Below Y2.heap.size Y2 Y3 := by rw [← hY3]; exact below_drewN (Below.refl _ _) nq
  rw [hY3]
  have x0 := kc hb3 HX0.out
  have x1 := kc hb3 HX1.out
  have HB3 := Lib.hid (HB2.out.trans (hb3.mono HB2.out.size))
  have HBY3 := Lib.hid (HBY2.out.below hb3)
  have hbl := cell_lt x0
  replace hbl : b < Y3.heap.size := hbl
  clear hY3 hb3 HX0 HX1 HB2 HBY2 htm htu hwn hwn1 hwkk hne
  go_wp2_with fail
  refine (route_any kd d0 A1 n1 _ ⟨hk0, hk1⟩ HBY3.out (by have := HD0.out; omega) hc1).mono ?_
  rintro e Y4 ⟨v5, v6, rfl, hT, hb4⟩
  rw [HRT.out.route] at hT ⊢
  simp only at hT ⊢
  obtain ⟨Z, hz1, hz2, hr5, hr6⟩ := hT.ex
  obtain ⟨A5, c5, rfl⟩ := own_form hr5
  obtain ⟨A6, c6, rfl⟩ := own_form hr6
  obtain ⟨wo5, hc5, hc5m⟩ := Wo.of_own3 hr5 rfl (wds_rng HBY3.out.rng _ _)
  obtain ⟨wo6, hc6, hc6m⟩ := Wo.of_own3 hr6 rfl (wds_rng HBY3.out.rng _ _)
  replace wo5 := wo5.below hz2
  rw [wds_len] at hc5 hc6
  rw [wds_len, wds_len]
  obtain ⟨m, hm⟩ : ∃ m, n - k = m := ⟨_, rfl⟩
  rw [hm] at hc6 wo6 ⊢
  have HW5 := Lib.hid wo5
  have HW6 := Lib.hid wo6
  have HB4 := Lib.hid (HB3.out.trans (hb4.mono HB3.out.size))
  have HBY4 := Lib.hid (HBY3.out.below hb4)
  replace x0 := kc hb4 x0
  replace x1 := kc hb4 x1
  replace hbl := cell_lt x0
  replace hbl : b < Y4.heap.size := hbl
  have hwm : IntKind.i64.wrap ((n : Int) - k) = (m : Int) := by rw [IntWalk.i64_in _ (by omega)]; omega
  clear hT hb4 hz1 hz2 hr5 hr6 wo5 wo6 HB3 HBY3
  go_upto_region 10 with fail
  go_wp2_with fail
  have hax := heap_alloc_last Y4 (Obj.cells #[Value.int IntKind.u8 kd, Value.slice A1 d0.length n1] 36)
  have HAX := Lib.hid hax
  clear hwm hax x0 x1 hbl
  go_loopw [17] (fun v17 wr => ∃ (i : Nat) (d : List Int) (A' : Option Addr) (c' : Nat), k ≤ i ∧ i ≤ n ∧ v17 = .int .i64 i ∧ RcI Y4 kd d0 n k wr i d A' c') (fun v _ => n - (intOf v).toNat)
  case atStart => exact ⟨k, d0, A1, n1, Nat.le_refl _, hkn, rfl, ⟨(Below.refl _ _).alloc (Nat.le_refl _) _, HAX.out, HBY4.out.alloc _, hc1, HRT.out, fun _ _ => rfl, fun _ _ => rfl⟩⟩
  case round =>
    obtain ⟨i, d, A', c', hki, hin, rfl, hI⟩ := hrel
    by_cases hlt : i < n
    · have HI := Lib.hid hI
      obtain ⟨av, hav⟩ : ∃ av, (if na = 0 then (1000 * (i : Int)) else ad.getD (i % na) 0) = av := ⟨_, rfl⟩
      have HLT := Lib.hid hlt
      have hnm : 0 < na → i % na < na := fun h => Nat.mod_lt _ h
      have hav0 : 0 ≤ av ∧ av < 4294967296 := by
        rw [← hav]
        split
        · omega
        · have := HD.out.rng (ad.getD (i % na) 0) (List.mem_of_getElem? (getD_some (d := ad) (i := i % na) (by rw [HNA.out]; exact hnm (by omega))))
          exact this
      have HAV := Lib.hid hav
      obtain ⟨⟨kd2, d2⟩, hrec, hk2, hrt2, hwi, hwo⟩ := hI.rt.record hlt (a := av) (by omega)
      simp only at hk2 hwi hwo
      subst hk2
      have HREC := Lib.hid hrec
      have HRT2 := Lib.hid hrt2
      have HWI := Lib.hid hwi
      have HWO := Lib.hid hwo
      have hdl := hI.rt.len
      simp only at hdl
      have HDL := Lib.hid hdl
      have hdl2 := hrt2.len
      simp only at hdl2
      have HDL2 := Lib.hid hdl2
      have c0 := blk_cell hI.obj 0
      have c1 := blk_cell hI.obj 1
      simp at c0 c1
      have hl16 := blk_lt hI.obj
      have hBw := HB4.out.trans (hI.below.mono HB4.out.size)
      have HBW := Lib.hid hBw
      have t1 : decide ((i : Int) < n) = true := by simp; omega
      have t1' : decide (i < n) = true := by simp; omega
      have hw10 : IntKind.i64.wrap (1000 * (i : Int)) = 1000 * (i : Int) := IntWalk.i64_in _ (by omega)
      have hw11 : IntKind.u32.wrap (1000 * (i : Int)) = 1000 * (i : Int) := IntWalk.u32_in _ (by omega)
      clear hI hav hrec hrt2 hwi hwo hdl hdl2 hBw hlt
      go_upto_if 90 with fail
      go_cut [18] (fun v18 wx => v18 = .int .u32 av ∧ wx = wr)
      case first =>
        by_cases h0 : na = 0
        · subst h0
          have he : av = 1000 * (i : Int) := by rw [← HAV.out, if_pos rfl]
          have HE := Lib.hid he
          clear he
          go_wp2_with fail
          go_meet
          exact ⟨by rw [HE.out], rfl⟩
        · have he : av = ad.getD (i % na) 0 := by rw [← HAV.out, if_neg h0]
          have hnp : 0 < na := by omega
          have t2 : decide ((0 : Int) < na) = true := by simp; omega
          have t2' : decide (0 < na) = true := by simp; omega
          obtain ⟨bb, oo, rfl, hbb, hbc⟩ := (HD.out.below HBW.out).pos (by rw [HNA.out]; exact hnp)
          have q1 := hbc _ _ (getD_some (d := ad) (i := i % na) (by rw [HNA.out]; exact hnm hnp))
          rw [← he] at q1
          obtain ⟨im, him⟩ : ∃ im, i % na = im := ⟨_, rfl⟩
          rw [him] at q1 hnm
          have him2 := hnm hnp
          have him3 : im ≤ i := by rw [← him]; exact Nat.mod_le _ _
          have htm : (i : Int).tmod (na : Int) = (im : Int) := by rw [Int.tmod_eq_emod_of_nonneg (by omega)]; omega
          have hne : ((na : Int) == 0) = false := by simp; omega
          have him0 : (0 : Int) ≤ im := by omega
          have him1 : (im : Int) < na := by omega
          have hwt : IntKind.i64.wrap (im : Int) = im := IntWalk.i64_in _ (by omega)
          clear hbc him he
          go_wp2_with fail

          go_meet
          exact ⟨rfl, rfl⟩
      obtain ⟨rfl, hwc⟩ := hcut
      rw [hwc]
      clear hwc hw10 hw11 hnm
      go_wp2_with fail
      refine (record_any kd2 d A' c' av _ ⟨hk0, hk1⟩ HI.out.bys (by have := HDL.out; omega) (by omega)).mono ?_
      rintro e Y5 ⟨v7, rfl, hrow7, hb5⟩
      rw [HREC.out] at hrow7 ⊢
      simp only at hrow7 ⊢
      obtain ⟨A7, c7, rfl⟩ := own_form hrow7
      have hlt := HLT.out
      have hr2 := rec_rng HREC.out HI.out.bys.rng
      obtain ⟨A', c', e7, hc7, hc7m, hby7⟩ := By.of_own' hrow7 hr2
      cases e7
      have HROW7 := Lib.hid hrow7
      have HR2 := Lib.hid hr2
      have HBY7 := Lib.hid (hby7.alloc (Obj.cells #[Value.int IntKind.u8 kd2, Value.slice A7 d2.length c7] 36))
      have h19 := heap_alloc_last Y5 (Obj.cells #[Value.int IntKind.u8 kd2, Value.slice A7 d2.length c7] 36)
      have H19 := Lib.hid h19
      have hB5 : Below wr.heap.size wr (Y5.alloc (Obj.cells #[Value.int IntKind.u8 kd2, Value.slice A7 d2.length c7] 36)) := hb5.alloc hb5.size _
      have HB5 := Lib.hid hB5
      have HB5' := Lib.hid hb5
      clear hlt hrow7 hr2 hby7 h19 hB5 c0 c1 hl16
      go_wp2_with fail
      refine (route_any kd2 d2 A7 c7 _ ⟨hk0, hk1⟩ HBY7.out (by have := HDL2.out; omega) hc7).mono ?_
      rintro e Y6 ⟨v8, v9, rfl, hT6, hb6⟩
      have hlt := HLT.out
      rw [HRT2.out.route] at hT6 ⊢
      simp only at hT6 ⊢
      obtain ⟨Z2, hz1, hz2, hr8, hr9⟩ := hT6.ex
      obtain ⟨A8, c8, rfl⟩ := own_form hr8
      obtain ⟨A9, c9, rfl⟩ := own_form hr9
      obtain ⟨wo8, hc8, hc8m⟩ := Wo.of_own3 hr8 rfl (wds_rng HR2.out _ _)
      obtain ⟨wo9, hc9, hc9m⟩ := Wo.of_own3 hr9 rfl (wds_rng HR2.out _ _)
      replace wo8 := wo8.below hz2
      rw [wds_len] at hc8 hc9
      rw [wds_len, wds_len]
      obtain ⟨m2, hm2⟩ : ∃ m2, n - (i + 1) = m2 := ⟨_, rfl⟩
      rw [hm2] at hc9 wo9 ⊢
      have HW8 := Lib.hid wo8
      have HW9 := Lib.hid wo9
      obtain ⟨b8, o8, rfl, hb8, hb8c⟩ := wo8.pos (by rw [wds_len]; omega)
      have q8 := hb8c i av (by rw [getD_some (by rw [wds_len]; omega), wds_get (by omega), Nat.zero_add, HWI.out])
      obtain ⟨i1, hi1⟩ : ∃ i1, i + 1 = i1 := ⟨_, rfl⟩
      obtain ⟨lo, hlo⟩ : ∃ lo, i1 - k = lo := ⟨_, rfl⟩
      rw [hi1] at hc8 HW8 ⊢
      have hB6 : Below wr.heap.size wr Y6 := HB5.out.trans (hb6.mono HB5.out.size)
      have HB6 := Lib.hid hB6
      have HB56 := Lib.hid (bthen ((Below.refl Y5.heap.size Y5).alloc (Nat.le_refl _) (Obj.cells #[Value.int IntKind.u8 kd2, Value.slice A7 d2.length c7] 36)) hb6)
      have h19' := blk_below hb6 H19.out
      have H19' := Lib.hid h19'
      have h16 := blk_below hB6 HI.out.obj
      have H16 := Lib.hid h16
      have HW5' := Lib.hid ((HW5.out.below HI.out.below).below hB6)
      have HW6' := Lib.hid ((HW6.out.below HI.out.below).below hB6)
      obtain ⟨b6, o6, rfl, hb6', hb6x⟩ := HW6.out.pos (by rw [wds_len]; omega)
      have hwi : IntKind.i64.wrap ((i : Int) + 1) = (i1 : Int) := by rw [IntWalk.i64_in _ (by omega)]; omega
      have hwa : IntKind.i64.wrap ((n : Int) - i) = (n : Int) - i := IntWalk.i64_in _ (by omega)
      have hwb : IntKind.i64.wrap ((n : Int) - i - 1) = (m2 : Int) := by rw [IntWalk.i64_in _ (by omega)]; omega
      have hwc : IntKind.i64.wrap ((i1 : Int) - k) = (lo : Int) := by rw [IntWalk.i64_in _ (by omega)]; omega
      have hi1p : (i : Int) < i1 := by omega
      have hi0 : (0 : Int) ≤ i := by omega
      have hk0' : (0 : Int) ≤ k := by omega
      have hkc8 : (k : Int) ≤ c8 := by omega
      have hlo0 : (0 : Int) ≤ lo := by omega
      have hlom : (lo : Int) ≤ m := by omega
      clear hlt hT6 hz1 hz2 hr8 hr9 wo8 wo9 hb8c hb6 h19' h16 hB6 hb6x
      go_wp2_with fail
      have hws : ∀ j, j < k → wd d2 j = wd d0 j := fun j hj => (HWO.out j (by omega)).trans (HI.out.lo j hj)
      refine (sameW (d := (wds d2 0 i1).take k) (e := wds d0 0 k) (HW8.out.take k) HW5'.out (by rw [List.length_take, wds_len]; omega) (wds_len _ _ _) (by omega) (by omega) (by rw [wds_take _ _ _ _ (by omega)]; exact wds_congr fun j _ hj => hws j (by omega))).mono ?_
      rintro e Y7 ⟨rfl, hb7⟩
      have HB7 := Lib.hid (HB6.out.trans (hb7.mono HB6.out.size))
      have h19 := blk_below hb7 H19'.out
      have H19 := Lib.hid h19
      have h16 := blk_below hb7 H16.out
      have H16 := Lib.hid h16
      have HW9 := Lib.hid (HW9.out.below hb7)
      have HW6' := Lib.hid (HW6'.out.below hb7)
      have hhi : wds d2 (i + 1) m2 = (wds d0 k m).drop lo := by
        have := HLT.out
        rw [wds_drop, show k + lo = i + 1 by omega, show m - lo = m2 by omega]
        exact wds_congr fun j hj _ => (HWO.out j (by omega)).trans (HI.out.hi j (by omega))
      have HHI := Lib.hid hhi
      have HB57 := Lib.hid (HB56.out.trans (hb7.mono HB56.out.size))
      clear hb7 h19 h16 hhi hws q8
      by_cases hcl : c6 = lo
      · subst hcl
        go_wp2_with fail
        refine (sameW (d := wds d2 (i + 1) m2) (e := (wds d0 k m).drop c6) HW9.out ?_ (wds_len _ _ _) (by (try rw [List.length_drop, wds_len]); (try omega)) (by omega) (by omega) HHI.out).mono ?_
        · have := HW6'.out.cut c6 c6 (by rw [wds_len]; omega)
          rw [if_pos rfl] at this
          exact this
        rintro e Y8 ⟨rfl, hb9⟩
        have h19 := blk_below hb9 H19.out
        have h16 := blk_below hb9 H16.out
        have c0 := blk_cell h19 0
        have c1 := blk_cell h19 1
        have k0 := blk_cell h16 0
        have k1 := blk_cell h16 1
        simp at c0 c1 k0 k1
        have f0 := blk_free h16 0
        have f1 := blk_free h16 1
        have l19 := blk_lt h19
        have l16 := blk_lt h16
        have hrow := own_below HROW7.out (HB57.out.trans (hb9.mono HB57.out.size))
        have HST := Lib.hid (HI.out.step hki (Below.refl _ _) (HB7.out.trans (hb9.mono HB7.out.size)) hrow HR2.out HRT2.out HWO.out)
        clear hb9 h19 h16 hrow
        go_wp2_with fail
        exact ⟨⟨i1, d2, A7, c7, by omega, by have := HLT.out; omega, rfl, by have h := HST.out; rw [hi1] at h; exact h⟩, by have := HLT.out; simp [intOf]; omega⟩
      · have hcl' : ¬ (c6 : Int) = lo := by omega
        go_wp2_with fail
        refine (sameW (d := wds d2 (i + 1) m2) (e := (wds d0 k m).drop lo) HW9.out ?_ (wds_len _ _ _) (by (try rw [List.length_drop, wds_len]); (try omega)) (by omega) (by omega) HHI.out).mono ?_
        · exact HW6'.out.drop lo
        rintro e Y8 ⟨rfl, hb9⟩
        have h19 := blk_below hb9 H19.out
        have h16 := blk_below hb9 H16.out
        have c0 := blk_cell h19 0
        have c1 := blk_cell h19 1
        have k0 := blk_cell h16 0
        have k1 := blk_cell h16 1
        simp at c0 c1 k0 k1
        have f0 := blk_free h16 0
        have f1 := blk_free h16 1
        have l19 := blk_lt h19
        have l16 := blk_lt h16
        have hrow := own_below HROW7.out (HB57.out.trans (hb9.mono HB57.out.size))
        have HST := Lib.hid (HI.out.step hki (Below.refl _ _) (HB7.out.trans (hb9.mono HB7.out.size)) hrow HR2.out HRT2.out HWO.out)
        clear hb9 h19 h16 hrow
        go_wp2_with fail
        exact ⟨⟨i1, d2, A7, c7, by omega, by have := HLT.out; omega, rfl, by have h := HST.out; rw [hi1] at h; exact h⟩, by have := HLT.out; simp [intOf]; omega⟩
    · obtain rfl : i = n := by omega
      have HI := Lib.hid hI
      have hdl := hI.rt.len
      simp only at hdl
      have HDL := Lib.hid hdl
      have c0 := blk_cell hI.obj 0
      have c1 := blk_cell hI.obj 1
      simp at c0 c1
      have hl16 := blk_lt hI.obj
      have HBW := Lib.hid (HB4.out.trans (hI.below.mono HB4.out.size))
      have HRF := Lib.hid (hI.rt.full 5)
      have t1 : decide ((i : Int) < i) = false := by simp
      have t1' : decide (i < i) = false := by simp
      clear hI hdl
      go_wp2_with fail
      refine (record_any kd d A' c' 5 _ ⟨hk0, hk1⟩ HI.out.bys (by have := HDL.out; omega) (by decide)).mono ?_
      rintro e Y5 ⟨v7, rfl, hrow7, hb5⟩
      rw [HRF.out] at hrow7 ⊢
      simp only at hrow7 ⊢
      obtain ⟨A7, c7, rfl⟩ := own_form hrow7
      simp only [List.length_nil]
      have HB5 := Lib.hid ((HBW.out.trans (hb5.mono HBW.out.size)).alloc (by have := HBW.out.size; have := hb5.size; omega) (Obj.cells #[Value.int IntKind.u8 0, Value.slice A7 0 c7] 36))
      clear hrow7 hb5
      go_wp2_with fail
      go_ret
      exact ⟨rfl, HB5.out⟩

theorem optsRecords_walk (kind many used : Int) (A : Option Addr) (d : List Int) (n c : Nat) (w : World) (hk : 0 ≤ kind ∧ kind ≤ 255) (hm : 0 ≤ many ∧ many ≤ 255) (hu : 0 ≤ used ∧ used ≤ 255) (hl : n = d.length) (hle : n ≤ c) (hmx : c ≤ maxLen) (hd : Wo w A d) :
    Calls Try.prog 8 #[.int .u8 kind, .int .u8 many, .int .u8 used, .slice A n c] w fun e w' => e = .returned (.bool true) ∧ Below w.heap.size w w' := by
  subst hl
  exact records_any kind many used d A c w hk hm hu hd hle hmx

end Go.Proofs.Ytjfnnclbfaakkaa

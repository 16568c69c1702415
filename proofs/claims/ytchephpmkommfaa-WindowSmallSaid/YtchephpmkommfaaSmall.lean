/-
  The walk of WindowSmall: a closed statement: sides with numbers at their limits, and packets with numbers near them.
-/
import Derived.Test.YtchephpmkommfaaLawTells
import Derived.BigQuiet
import Derived.Deep.DeepCutAuto
namespace Go.Proofs.Ytchephpmkommfaa
open Go.RowKit
set_option linter.unusedVariables false
set_option linter.unusedSimpArgs false

def numL : List Value := [.int .u32 0, .int .u32 1, .int .u32 65535, .int .u32 65536, .int .u32 2147483647, .int .u32 2147483648, .int .u32 2147483649, .int .u32 4294967294, .int .u32 4294967295]
theorem num_at (i : Nat) (h : i < 9) : ∃ x : Int, (0 ≤ x ∧ x ≤ 4294967295) ∧ numL[i]? = some (.int .u32 x) := by
  rcases (by omega : i = 0 ∨ i = 1 ∨ i = 2 ∨ i = 3 ∨ i = 4 ∨ i = 5 ∨ i = 6 ∨ i = 7 ∨ i = 8) with rfl | rfl | rfl | rfl | rfl | rfl | rfl | rfl | rfl <;> exact ⟨_, by decide, rfl⟩
def szL : List Value := [.int .i64 (-9223372036854775808), .int .i64 (-1), .int .i64 0, .int .i64 1, .int .i64 2, .int .i64 65535, .int .i64 4294967296, .int .i64 9223372036854775807]
theorem sz_at (i : Nat) (h : i < 8) : ∃ x : Int, (-9223372036854775808 ≤ x ∧ x ≤ 9223372036854775807) ∧ szL[i]? = some (.int .i64 x) := by
  rcases (by omega : i = 0 ∨ i = 1 ∨ i = 2 ∨ i = 3 ∨ i = 4 ∨ i = 5 ∨ i = 6 ∨ i = 7) with rfl | rfl | rfl | rfl | rfl | rfl | rfl | rfl <;> exact ⟨_, by decide, rfl⟩
def lnL : List Value := [.int .i64 0, .int .i64 1, .int .i64 65535, .int .i64 (-1), .int .i64 4294967296, .int .i64 (-9223372036854775808), .int .i64 9223372036854775807]
theorem ln_at (i : Nat) (h : i < 7) : ∃ x : Int, (-9223372036854775808 ≤ x ∧ x ≤ 9223372036854775807) ∧ lnL[i]? = some (.int .i64 x) := by
  rcases (by omega : i = 0 ∨ i = 1 ∨ i = 2 ∨ i = 3 ∨ i = 4 ∨ i = 5 ∨ i = 6) with rfl | rfl | rfl | rfl | rfl | rfl | rfl <;> exact ⟨_, by decide, rfl⟩
def flL : List Value := [.int .u8 4, .int .u8 20, .int .u8 18, .int .u8 17]
theorem fl_at (i : Nat) (h : i < 4) : ∃ x : Int, (0 ≤ x ∧ x ≤ 255) ∧ flL[i]? = some (.int .u8 x) := by
  rcases (by omega : i = 0 ∨ i = 1 ∨ i = 2 ∨ i = 3) with rfl | rfl | rfl | rfl <;> exact ⟨_, by decide, rfl⟩
theorem rc {W : World} {b i : Nat} {l : List Value} {v : Value} (h : W.rangeAt b 0 l) (hi : l[i]? = some v) : W.cell? ⟨b, i, none⟩ = some v := by simpa using h i v hi
/-- What the done operations of the packet's region have left. -/
structure Iw (w1 : World) (val : Nat → Value) (i5 i7 : Nat) (D : Nat → Prop) (g : Nat → Value) (w' : World) : Prop where
  b : Below w1.heap.size w1 w'
  e : ∀ i, (i ≠ 0 ∧ i ≠ 5 ∧ i ≠ 14 ∧ i ≠ 17 ∧ i ≠ 20) → D i → g i = val i
  s0 : D 0 → ∃ b, g 0 = .slice (some ⟨b, 0, none⟩) 4 4 ∧ b < w'.heap.size ∧ w'.rangeAt b 0 flL
  s5 : D 5 → ∃ b, g 5 = .pointer (some ⟨b, i5, none⟩) ∧ b < w'.heap.size ∧ w'.rangeAt b 0 flL
  s14 : D 14 → ∃ b, g 14 = .slice (some ⟨b, 0, none⟩) 7 7 ∧ b < w'.heap.size ∧ w'.rangeAt b 0 lnL
  s17 : D 17 → ∃ b, g 17 = .pointer (some ⟨b, i7, none⟩) ∧ b < w'.heap.size ∧ w'.rangeAt b 0 lnL
  s20 : D 20 → ∃ b, g 20 = .pointer (some ⟨b, 0, none⟩) ∧ w1.heap.size ≤ b ∧ b < w'.heap.size ∧ w'.there b 0 19
theorem Iw.upd {w1 w' w'' : World} {val g : Nat → Value} {i5 i7 : Nat} {D : Nat → Prop} (h : Iw w1 val i5 i7 D g w') (i : Nat) (x : Value) (hb : Below w'.heap.size w' w'') (hv : (i ≠ 0 ∧ i ≠ 5 ∧ i ≠ 14 ∧ i ≠ 17 ∧ i ≠ 20) → x = val i) (h0 : i = 0 → ∃ b, x = .slice (some ⟨b, 0, none⟩) 4 4 ∧ b < w''.heap.size ∧ w''.rangeAt b 0 flL) (h5 : i = 5 → ∃ b, x = .pointer (some ⟨b, i5, none⟩) ∧ b < w''.heap.size ∧ w''.rangeAt b 0 flL) (h14 : i = 14 → ∃ b, x = .slice (some ⟨b, 0, none⟩) 7 7 ∧ b < w''.heap.size ∧ w''.rangeAt b 0 lnL) (h17 : i = 17 → ∃ b, x = .pointer (some ⟨b, i7, none⟩) ∧ b < w''.heap.size ∧ w''.rangeAt b 0 lnL) (h20 : i = 20 → ∃ b, x = .pointer (some ⟨b, 0, none⟩) ∧ w1.heap.size ≤ b ∧ b < w''.heap.size ∧ w''.there b 0 19) : Iw w1 val i5 i7 (fun j => D j ∨ j = i) (fun j => if j = i then x else g j) w'' := by
  refine ⟨bthen h.b hb, fun j hn hj => ?_, fun hj => ?_, fun hj => ?_, fun hj => ?_, fun hj => ?_, fun hj => ?_⟩
  · show (if j = i then x else g j) = val j
    by_cases hji : j = i
    · rw [if_pos hji, hv (hji ▸ hn), hji]
    · rw [if_neg hji]
      exact h.e j hn (hj.resolve_right hji)
  · by_cases hji : 0 = i
    · rw [if_pos hji]
      exact h0 hji.symm
    · rw [if_neg hji]
      obtain ⟨b, e, hl, hr⟩ := h.s0 (hj.resolve_right hji)
      exact ⟨b, e, Nat.lt_of_lt_of_le hl hb.size, range_below hb hl hr⟩
  · by_cases hji : 5 = i
    · rw [if_pos hji]
      exact h5 hji.symm
    · rw [if_neg hji]
      obtain ⟨b, e, hl, hr⟩ := h.s5 (hj.resolve_right hji)
      exact ⟨b, e, Nat.lt_of_lt_of_le hl hb.size, range_below hb hl hr⟩
  · by_cases hji : 14 = i
    · rw [if_pos hji]
      exact h14 hji.symm
    · rw [if_neg hji]
      obtain ⟨b, e, hl, hr⟩ := h.s14 (hj.resolve_right hji)
      exact ⟨b, e, Nat.lt_of_lt_of_le hl hb.size, range_below hb hl hr⟩
  · by_cases hji : 17 = i
    · rw [if_pos hji]
      exact h17 hji.symm
    · rw [if_neg hji]
      obtain ⟨b, e, hl, hr⟩ := h.s17 (hj.resolve_right hji)
      exact ⟨b, e, Nat.lt_of_lt_of_le hl hb.size, range_below hb hl hr⟩
  · by_cases hji : 20 = i
    · rw [if_pos hji]
      exact h20 hji.symm
    · rw [if_neg hji]
      obtain ⟨b, e, hl0, hl, hr⟩ := h.s20 (hj.resolve_right hji)
      exact ⟨b, e, hl0, Nat.lt_of_lt_of_le hl hb.size, there_below hb hl hr⟩
theorem Iw.zero (w1 : World) (val g : Nat → Value) (i5 i7 : Nat) : Iw w1 val i5 i7 (fun _ => False) g w1.drew := ⟨(Below.refl _ _).drew, fun _ _ h => h.elim, fun h => h.elim, fun h => h.elim, fun h => h.elim, fun h => h.elim, fun h => h.elim⟩
def svals (j k i5 j2 i7 : Nat) (fg v na ak sz ln : Int) : List Value := [undef, .int .i64 (j : Int), .int .i64 (k : Int), .int .i64 ((j : Int) + (k : Int)), .int .i64 (i5 : Int), undef, .int .u8 fg, .int .u32 v, .int .u32 na, .int .i64 (j : Int), .int .i64 (j2 : Int), .int .u32 (j2 : Int), .int .u32 ak, .int .i64 sz, undef, .int .i64 (j : Int), .int .i64 (i7 : Int), undef, .int .i64 ln, .agg (pk fg v ak sz ln), undef]
set_option maxRecDepth 100000 in
set_option maxHeartbeats 16000000 in
theorem windowSmall_walk (w : World) : Calls Try.prog 6 #[] w fun e w' => e = .returned (.bool true) ∧ Below w.heap.size w w' := by
  go_enter Try.func6, Try.ntmps6
  go_wp2_with fail
  obtain ⟨W2, hW2⟩ : ∃ W, (w.alloc (.cells #[.int .u32 0, .int .u32 1, .int .u32 65535, .int .u32 65536, .int .u32 2147483647, .int .u32 2147483648, .int .u32 2147483649, .int .u32 4294967294, .int .u32 4294967295] 22)).alloc (.cells #[.int .i64 (-9223372036854775808), .int .i64 (-1), .int .i64 0, .int .i64 1, .int .i64 2, .int .i64 65535, .int .i64 4294967296, .int .i64 9223372036854775807] 3) = W := ⟨_, rfl⟩
  have d1 : Below w.heap.size w W2 := by rw [← hW2]; exact ((Below.refl _ _).alloc (Nat.le_refl _) _).alloc (by simp) _
  have RN : W2.rangeAt w.heap.size 0 numL := by rw [← hW2]; exact World.rangeAt_alloc (range_new w _ _) _
  have RS : W2.rangeAt (w.heap.size + 1) 0 szL := by rw [← hW2]; exact range_new' _ _ _ _ (by simp)
  have z1 : w.heap.size + 1 < W2.heap.size := by rw [← hW2]; simp
  rw [hW2]
  clear hW2
  obtain ⟨bn, hbn⟩ : ∃ n, w.heap.size = n := ⟨_, rfl⟩
  obtain ⟨bz, hbz⟩ : ∃ n, bn + 1 = n := ⟨_, rfl⟩
  rw [hbn] at RN RS z1 ⊢
  rw [hbz] at RS z1 ⊢
  have z0 : bn < W2.heap.size := by omega
  have HRN := Lib.hid RN
  have HRS := Lib.hid RS
  have HD1 := Lib.hid d1
  clear RN RS hbn hbz d1
  go_loopw [15] (fun i wr => ∃ k : Nat, k ≤ 5184 ∧ i = .int .i64 k ∧ Below W2.heap.size W2 wr) (fun i _ => 5184 - (intOf i).toNat)
  case atStart => exact ⟨0, Nat.zero_le _, rfl, Below.refl _ _⟩
  case round =>
    obtain ⟨k, hk, rfl, hb⟩ := hrel
    by_cases hkl : k < 5184
    · have hkd : decide ((k : Int) < 5184) = true := by simp; omega
      obtain ⟨i1, hi1⟩ : ∃ m, k % 9 = m := ⟨_, rfl⟩
      obtain ⟨q9, hq9⟩ : ∃ m, k / 9 = m := ⟨_, rfl⟩
      obtain ⟨i2, hi2⟩ : ∃ m, q9 % 9 = m := ⟨_, rfl⟩
      obtain ⟨q81, hq81⟩ : ∃ m, k / 81 = m := ⟨_, rfl⟩
      obtain ⟨i3, hi3⟩ : ∃ m, q81 % 8 = m := ⟨_, rfl⟩
      obtain ⟨wy, hwy⟩ : ∃ m, k / 648 = m := ⟨_, rfl⟩
      obtain ⟨i4, hi4⟩ : ∃ m, (k + wy) % 8 = m := ⟨_, rfl⟩
      have E1 : (k : Int).tmod 9 = (i1 : Int) := by rw [Int.tmod_eq_emod_of_nonneg (by omega)]; omega
      have E2 : (k : Int).tdiv 9 = (q9 : Int) := by rw [Int.tdiv_eq_ediv_of_nonneg (by omega)]; omega
      have E3 : (q9 : Int).tmod 9 = (i2 : Int) := by rw [Int.tmod_eq_emod_of_nonneg (by omega)]; omega
      have E4 : (k : Int).tdiv 81 = (q81 : Int) := by rw [Int.tdiv_eq_ediv_of_nonneg (by omega)]; omega
      have E5 : (q81 : Int).tmod 8 = (i3 : Int) := by rw [Int.tmod_eq_emod_of_nonneg (by omega)]; omega
      have E6 : (k : Int).tdiv 648 = (wy : Int) := by rw [Int.tdiv_eq_ediv_of_nonneg (by omega)]; omega
      have E7 : ((k : Int) + (wy : Int)).tmod 8 = (i4 : Int) := by rw [Int.tmod_eq_emod_of_nonneg (by omega)]; omega
      have X1 : IntKind.i64.wrap (q9 : Int) = q9 := IntWalk.i64_in _ (by omega)
      have X2 : IntKind.i64.wrap (q81 : Int) = q81 := IntWalk.i64_in _ (by omega)
      have X3 : IntKind.i64.wrap (wy : Int) = wy := IntWalk.i64_in _ (by omega)
      obtain ⟨na, hna, ha⟩ := num_at i1 (by omega)
      obtain ⟨nb, hnb, hb0⟩ := num_at i2 (by omega)
      obtain ⟨sz, hsz, hs0⟩ := sz_at i3 (by omega)
      obtain ⟨sz2, hsz2, hs1⟩ := sz_at i4 (by omega)
      have RN := range_below hb z0 HRN.out
      have RS := range_below hb z1 HRS.out
      have ca := rc RN ha
      have cb := rc RN hb0
      have cs := rc RS hs0
      have cs2 := rc RS hs1
      have A0 : (0 : Int) ≤ (i1 : Int) := by omega
      have A1 : (i1 : Int) < 9 := by omega
      have B0 : (0 : Int) ≤ (i2 : Int) := by omega
      have B1 : (i2 : Int) < 9 := by omega
      have C0 : (0 : Int) ≤ (i3 : Int) := by omega
      have C1 : (i3 : Int) < 8 := by omega
      have D0 : (0 : Int) ≤ (i4 : Int) := by omega
      have D1 : (i4 : Int) < 8 := by omega
      obtain ⟨x1, hx1⟩ : ∃ x, bits .and .i64 (wy : Int) 1 = x := ⟨_, rfl⟩
      obtain ⟨x2, hx2⟩ : ∃ x, bits .and .i64 (wy : Int) 2 = x := ⟨_, rfl⟩
      obtain ⟨x4, hx4⟩ : ∃ x, bits .and .i64 (wy : Int) 4 = x := ⟨_, rfl⟩
      obtain ⟨p1, hp1⟩ : ∃ b, (x1 == 1) = b := ⟨_, rfl⟩
      obtain ⟨p2, hp2⟩ : ∃ b, (x2 == 2) = b := ⟨_, rfl⟩
      obtain ⟨o1, ho1⟩ : ∃ b, (x4 == 4) = b := ⟨_, rfl⟩
      obtain ⟨o2, ho2⟩ : ∃ b, (x1 == 0) = b := ⟨_, rfl⟩
      have hws := hb.size
      have wyb : wy ≤ 8 := by omega
      clear RN RS ha hb0 hs0 hs1 hi1 hq9 hi2 hq81 hi3 hwy hi4
      go_wp2_with fail
      go_quiet (fail)
      generalize hV0 : World.drewN wr _ = V0
      have bV : Below wr.heap.size wr V0 := hV0 ▸ below_drewN (Below.refl _ _) _
      have b0 := bthen hb bV
      have ct := kc bV cs2
      have hz0 : bz < V0.heap.size := cell_lt ct
      clear hV0 ca cb cs cs2 E1 E2 E3 E4 E5 E6 X1 X2 X3 A0 A1 B0 B1 C0 C1 bV hb hws
      go_wp2_with fail
      obtain ⟨W9, hW9⟩ : ∃ W, (((V0.alloc (.cells #[.bool p1, .bool p2, .int .u32 na, .int .u32 nb, .int .i64 sz] 27)).alloc (.cells #[.bool o1, .bool o2, .int .u32 nb, .int .u32 na, .int .i64 sz2] 27)).alloc (.cells #[.int .u32 na, .int .u32 nb, .int .u32 ((nb - 1) % 4294967296), .int .u32 ((nb + 1) % 4294967296), .int .u32 ((nb + sz) % 4294967296), .int .u32 ((nb + sz - 1) % 4294967296), .int .u32 ((nb - 65535) % 4294967296), .int .u32 ((nb - 65536) % 4294967296), .int .u32 ((na + 2147483648) % 4294967296)] 22)) = W := ⟨_, rfl⟩
      have d9 : Below V0.heap.size V0 W9 := by rw [← hW9]; exact (((Below.refl _ _).alloc (Nat.le_refl _) _).alloc (by simp) _).alloc (by simp; omega) _
      have RP : W9.rangeAt V0.heap.size 0 [.bool p1, .bool p2, .int .u32 na, .int .u32 nb, .int .i64 sz] := by rw [← hW9]; exact World.rangeAt_alloc (World.rangeAt_alloc (range_new V0 _ _) _) _
      have RO : W9.rangeAt (V0.heap.size + 1) 0 [.bool o1, .bool o2, .int .u32 nb, .int .u32 na, .int .i64 sz2] := by rw [← hW9]; exact World.rangeAt_alloc (range_new' _ _ _ _ (by simp)) _
      have RQ : W9.rangeAt (V0.heap.size + 1 + 1) 0 #[.int .u32 na, .int .u32 nb, .int .u32 ((nb - 1) % 4294967296), .int .u32 ((nb + 1) % 4294967296), .int .u32 ((nb + sz) % 4294967296), .int .u32 ((nb + sz - 1) % 4294967296), .int .u32 ((nb - 65535) % 4294967296), .int .u32 ((nb - 65536) % 4294967296), .int .u32 ((na + 2147483648) % 4294967296)].toList := by rw [← hW9]; exact range_new' _ _ _ _ (by simp)
      have z9 : V0.heap.size + 1 + 1 < W9.heap.size := by rw [← hW9]; simp
      rw [hW9]
      obtain ⟨ql, hql⟩ : ∃ ql : List Int, [na, nb, (nb - 1) % 4294967296, (nb + 1) % 4294967296, (nb + sz) % 4294967296, (nb + sz - 1) % 4294967296, (nb - 65535) % 4294967296, (nb - 65536) % 4294967296, (na + 2147483648) % 4294967296] = ql := ⟨_, rfl⟩
      have hqn : ql.length = 9 := by rw [← hql]; rfl
      have hqr : ∀ x ∈ ql, 0 ≤ x ∧ x ≤ 4294967295 := by
        rw [← hql]
        intro x hx
        simp only [List.mem_cons, List.not_mem_nil, or_false] at hx
        rcases hx with rfl | rfl | rfl | rfl | rfl | rfl | rfl | rfl | rfl <;> omega
      have RQ' : W9.rangeAt (V0.heap.size + 1 + 1) 0 (ql.map (.int .u32)) := by rw [← hql]; exact RQ
      have hb9 := bthen b0 d9
      have hwx : Sd.wf ⟨p1, p2, na, nb, sz⟩ := ⟨hna, hnb⟩
      have hwy : Sd.wf ⟨o1, o2, nb, na, sz2⟩ := ⟨hnb, hna⟩
      clear hW9 RQ hql hx1 hx2 hx4 hp1 hp2 ho1 ho2 ct hz0 E7 D0 D1 b0 d9
      obtain ⟨ps, hps⟩ : ∃ n, V0.heap.size = n := ⟨_, rfl⟩
      obtain ⟨po, hpo⟩ : ∃ n, ps + 1 = n := ⟨_, rfl⟩
      obtain ⟨bs, hbs⟩ : ∃ n, po + 1 = n := ⟨_, rfl⟩
      rw [hps] at RP RO RQ' z9 ⊢
      rw [hpo] at RO RQ' z9 ⊢
      rw [hbs] at RQ' z9 ⊢
      have zp : ps < W9.heap.size := by omega
      have zo : po < W9.heap.size := by omega
      have HRP := Lib.hid RP
      have HRO := Lib.hid RO
      have HRQ := Lib.hid RQ'
      have HQN := Lib.hid hqn
      have HQR := Lib.hid hqr
      have HB9 := Lib.hid hb9
      clear RP RO RQ' hqn hqr hb9 hps hpo hbs
      generalize (nb + sz % 4294967296) % 4294967296 = y1
      generalize ((nb + sz) % 4294967296 - 1) % 4294967296 = y2
      generalize sz % 4294967296 = y3
      go_loopw [86] (fun i wr => ∃ j : Nat, j ≤ 9 ∧ i = .int .i64 j ∧ Below W9.heap.size W9 wr) (fun i _ => 9 - (intOf i).toNat)
      case atStart => exact ⟨0, Nat.zero_le _, rfl, Below.refl _ _⟩
      case round =>
        obtain ⟨j, hj, rfl, hb⟩ := hrel
        by_cases hjl : j < 9
        · have hjd : decide ((j : Int) < 9) = true := by simp; omega
          obtain ⟨v, hv⟩ : ∃ v, ql[j]? = some v := ⟨_, List.getElem?_eq_getElem (by have := HQN.out; omega)⟩
          have hvr := HQR.out v (List.mem_of_getElem? hv)
          have RQ := range_below hb z9 HRQ.out
          have cq : wr.cell? ⟨bs, j, none⟩ = some (.int .u32 v) := rc RQ (by rw [List.getElem?_map, hv]; rfl)
          have J0 : (0 : Int) ≤ (j : Int) := by omega
          have J1 : (j : Int) < 9 := by omega
          clear hv RQ
          go_wp2_with fail
          obtain ⟨i5, hi5⟩ : ∃ m, (j + k) % 4 = m := ⟨_, rfl⟩
          obtain ⟨i7, hi7⟩ : ∃ m, j % 7 = m := ⟨_, rfl⟩
          obtain ⟨j2, hj2⟩ : ∃ m, j % 2 = m := ⟨_, rfl⟩
          obtain ⟨fg, hfgr, hfg⟩ := fl_at i5 (by omega)
          obtain ⟨ln, hlnr, hln⟩ := ln_at i7 (by omega)
          have F1 : ((j : Int) + (k : Int)).tmod 4 = (i5 : Int) := by rw [Int.tmod_eq_emod_of_nonneg (by omega)]; omega
          have F2 : (j : Int).tmod 7 = (i7 : Int) := by rw [Int.tmod_eq_emod_of_nonneg (by omega)]; omega
          have F3 : (j : Int).tmod 2 = (j2 : Int) := by rw [Int.tmod_eq_emod_of_nonneg (by omega)]; omega
          have F4 : (0 : Int) ≤ (i5 : Int) := by omega
          have F5 : (i5 : Int) < 4 := by omega
          have F6 : (0 : Int) ≤ (i7 : Int) := by omega
          have F7 : (i7 : Int) < 7 := by omega
          have F8 : IntKind.u32.wrap (j2 : Int) = j2 := by rw [IntKind.wrap_u32']; omega
          have F9 : (j2 : Int) % 4294967296 = (j2 : Int) := by omega
          have kb : k ≤ 5184 := hk
          obtain ⟨ak, hak⟩ : ∃ x, (na + (j2 : Int)) % 4294967296 = x := ⟨_, rfl⟩
          have hakr : 0 ≤ ak ∧ ak ≤ 4294967295 := by omega
          have F10 : IntKind.u32.wrap (na + (j2 : Int)) = ak := by rw [IntKind.wrap_u32']; exact hak
          generalize wr = U at *
          refine wp_region_steps 21 [[], [], [], [1, 2], [3], [0, 4], [5], [], [], [], [9], [10], [8, 11], [], [], [], [15], [14, 16], [17], [6, 7, 12, 13, 18], []] (fun D a w' => ∃ g : Nat → Value, a = ⟨#[u0, .slice (some ⟨bn, 0, none⟩) 9 9, .slice (some ⟨bz, 0, none⟩) 8 8, .int .i64 ↑k, .int .u32 na, .int .u32 nb, .int .i64 sz, .int .i64 ↑wy, .pointer (some ⟨ps, 0, none⟩), .pointer (some ⟨po, 0, none⟩), .int .i64 ↑j, .int .u32 v, g 20, .slice (some ⟨bn, 0, none⟩) 9 9, .slice (some ⟨bz, 0, none⟩) 8 8, .int .i64 ↑k, .bool true, .int .i64 ↑k, .slice (some ⟨bn, 0, none⟩) 9 9, .int .i64 ↑k, .int .i64 ↑i1, .pointer (some ⟨bn, i1, none⟩), .int .u32 na, .slice (some ⟨bn, 0, none⟩) 9 9, .int .i64 ↑k, .int .i64 ↑q9, .int .i64 ↑i2, .pointer (some ⟨bn, i2, none⟩), .int .u32 nb, .slice (some ⟨bz, 0, none⟩) 8 8, .int .i64 ↑k, .int .i64 ↑q81, .int .i64 ↑i3, .pointer (some ⟨bz, i3, none⟩), .int .i64 sz, .int .i64 ↑k, .int .i64 ↑wy, .int .i64 ↑wy, .int .i64 x1, .bool p1, .int .i64 ↑wy, .int .i64 x2, .bool p2, .int .u32 na, .int .u32 nb, .int .i64 sz, .agg #[.bool p1, .bool p2, .int .u32 na, .int .u32 nb, .int .i64 sz], .int .i64 ↑wy, .int .i64 x4, .bool o1, .int .i64 ↑wy, .int .i64 x1, .bool o2, .int .u32 nb, .int .u32 na, .slice (some ⟨bz, 0, none⟩) 8 8, .int .i64 ↑k, .int .i64 ↑wy, .int .i64 (↑k + ↑wy), .int .i64 ↑i4, .pointer (some ⟨bz, i4, none⟩), .int .i64 sz2, .agg #[.bool o1, .bool o2, .int .u32 nb, .int .u32 na, .int .i64 sz2], .int .u32 na, .int .u32 nb, .int .u32 nb, .int .u32 ((nb - 1) % 4294967296), .int .u32 nb, .int .u32 ((nb + 1) % 4294967296), .int .u32 nb, .int .i64 sz, .int .u32 y3, .int .u32 y1, .int .u32 nb, .int .i64 sz, .int .u32 y3, .int .u32 y1, .int .u32 y2, .int .u32 nb, .int .u32 ((nb - 65535) % 4294967296), .int .u32 nb, .int .u32 ((nb - 65536) % 4294967296), .int .u32 na, .int .u32 ((na + 2147483648) % 4294967296), .slice (some ⟨bs, 0, none⟩) 9 9, .int .i64 9, .int .i64 ↑j, .bool true, .int .i64 ↑j, .pointer (some ⟨bs, j, none⟩), .int .u32 v, g 0, g 1, g 2, g 3, g 4, g 5, g 6, g 7, g 8, g 9, g 10, g 11, g 12, g 13, g 14, g 15, g 16, g 17, g 18, g 19, u111, u112, u113, u114, u115, u116, u117, u118, u119, u120, u121, u122, u123, u124, u125, u126, u127, u128, u129, u130, u131, u132, u133, u134, u135, u136, u137, u138, u139, u140, u141, undef, undef, undef, undef, undef, undef, undef, undef, undef, undef, undef], []⟩ ∧ Iw U (fun i => (svals j k i5 j2 i7 fg v na ak sz ln).getD i undef) i5 i7 D g w') (by kernel_rfl) (by kernel_rfl) ⟨fun i => if i = 0 then u91 else if i = 1 then u92 else if i = 2 then u93 else if i = 3 then u94 else if i = 4 then u95 else if i = 5 then u96 else if i = 6 then u97 else if i = 7 then u98 else if i = 8 then u99 else if i = 9 then u100 else if i = 10 then u101 else if i = 11 then u102 else if i = 12 then u103 else if i = 13 then u104 else if i = 14 then u105 else if i = 15 then u106 else if i = 16 then u107 else if i = 17 then u108 else if i = 18 then u109 else if i = 19 then u110 else if i = 20 then u12 else undef, rfl, Iw.zero U _ _ i5 i7⟩ ?_ ?_
          · simp only [List.take_succ_cons, List.take_zero]
            refine ⟨?_, ?_, ?_, ?_, ?_, ?_, ?_, ?_, ?_, ?_, ?_, ?_, ?_, ?_, ?_, ?_, ?_, ?_, ?_, ?_, ?_, trivial⟩
            · intro D a w' hn hp hI
              obtain ⟨g, rfl, hR⟩ := hI
              clear hn hp
              go_wp2_with fail
              exact ⟨fun ix => if ix = 0 then .slice (some ⟨w'.heap.size, 0, none⟩) 4 4 else g ix, by rfl, hR.upd 0 _ ((Below.refl _ _).alloc (Nat.le_refl _) _) (fun h => by simp at h) (fun _ => ⟨_, rfl, by simp, range_new _ _ _⟩) (fun h => absurd h (by decide)) (fun h => absurd h (by decide)) (fun h => absurd h (by decide)) (fun h => absurd h (by decide))⟩
            · intro D a w' hn hp hI
              obtain ⟨g, rfl, hR⟩ := hI
              clear hn hp
              go_wp2_with fail
              exact ⟨fun ix => if ix = 1 then .int .i64 (j : Int) else g ix, by rfl, hR.upd 1 _ (Below.refl _ _) (fun _ => rfl) (fun h => absurd h (by decide)) (fun h => absurd h (by decide)) (fun h => absurd h (by decide)) (fun h => absurd h (by decide)) (fun h => absurd h (by decide))⟩
            · intro D a w' hn hp hI
              obtain ⟨g, rfl, hR⟩ := hI
              clear hn hp
              go_wp2_with fail
              exact ⟨fun ix => if ix = 2 then .int .i64 (k : Int) else g ix, by rfl, hR.upd 2 _ (Below.refl _ _) (fun _ => rfl) (fun h => absurd h (by decide)) (fun h => absurd h (by decide)) (fun h => absurd h (by decide)) (fun h => absurd h (by decide)) (fun h => absurd h (by decide))⟩
            · intro D a w' hn hp hI
              obtain ⟨g, rfl, hR⟩ := hI
              have e1 : g 1 = .int .i64 (j : Int) := hR.e 1 (by decide) hp.1
              have e2 : g 2 = .int .i64 (k : Int) := hR.e 2 (by decide) hp.2.1
              rw [e1, e2]
              clear hn hp
              go_wp2_with fail
              exact ⟨fun ix => if ix = 3 then .int .i64 ((j : Int) + (k : Int)) else g ix, by simp [e1, e2], hR.upd 3 _ (Below.refl _ _) (fun _ => rfl) (fun h => absurd h (by decide)) (fun h => absurd h (by decide)) (fun h => absurd h (by decide)) (fun h => absurd h (by decide)) (fun h => absurd h (by decide))⟩
            · intro D a w' hn hp hI
              obtain ⟨g, rfl, hR⟩ := hI
              have e3 : g 3 = .int .i64 ((j : Int) + (k : Int)) := hR.e 3 (by decide) hp.1
              rw [e3]
              clear hn hp
              go_wp2_with fail
              exact ⟨fun ix => if ix = 4 then .int .i64 (i5 : Int) else g ix, by simp [e3], hR.upd 4 _ (Below.refl _ _) (fun _ => rfl) (fun h => absurd h (by decide)) (fun h => absurd h (by decide)) (fun h => absurd h (by decide)) (fun h => absurd h (by decide)) (fun h => absurd h (by decide))⟩
            · intro D a w' hn hp hI
              obtain ⟨g, rfl, hR⟩ := hI
              obtain ⟨bb, e0, lb, rb⟩ := hR.s0 hp.1
              have e4 : g 4 = .int .i64 (i5 : Int) := hR.e 4 (by decide) hp.2.1
              rw [e0, e4]
              clear hn hp
              go_wp2_with fail
              exact ⟨fun ix => if ix = 5 then .pointer (some ⟨bb, i5, none⟩) else g ix, by simp [e0, e4], hR.upd 5 _ (Below.refl _ _) (fun h => by simp at h) (fun h => absurd h (by decide)) (fun _ => ⟨bb, rfl, lb, rb⟩) (fun h => absurd h (by decide)) (fun h => absurd h (by decide)) (fun h => absurd h (by decide))⟩
            · intro D a w' hn hp hI
              obtain ⟨g, rfl, hR⟩ := hI
              obtain ⟨bb, e5, lb, rb⟩ := hR.s5 hp.1
              rw [e5]
              have cc := rc rb hfg
              clear hn hp
              go_wp2_with fail
              exact ⟨fun ix => if ix = 6 then .int .u8 fg else g ix, by simp [e5], hR.upd 6 _ (Below.refl _ _) (fun _ => rfl) (fun h => absurd h (by decide)) (fun h => absurd h (by decide)) (fun h => absurd h (by decide)) (fun h => absurd h (by decide)) (fun h => absurd h (by decide))⟩
            · intro D a w' hn hp hI
              obtain ⟨g, rfl, hR⟩ := hI
              clear hn hp
              go_wp2_with fail
              exact ⟨fun ix => if ix = 7 then .int .u32 v else g ix, by rfl, hR.upd 7 _ (Below.refl _ _) (fun _ => rfl) (fun h => absurd h (by decide)) (fun h => absurd h (by decide)) (fun h => absurd h (by decide)) (fun h => absurd h (by decide)) (fun h => absurd h (by decide))⟩
            · intro D a w' hn hp hI
              obtain ⟨g, rfl, hR⟩ := hI
              clear hn hp
              go_wp2_with fail
              exact ⟨fun ix => if ix = 8 then .int .u32 na else g ix, by rfl, hR.upd 8 _ (Below.refl _ _) (fun _ => rfl) (fun h => absurd h (by decide)) (fun h => absurd h (by decide)) (fun h => absurd h (by decide)) (fun h => absurd h (by decide)) (fun h => absurd h (by decide))⟩
            · intro D a w' hn hp hI
              obtain ⟨g, rfl, hR⟩ := hI
              clear hn hp
              go_wp2_with fail
              exact ⟨fun ix => if ix = 9 then .int .i64 (j : Int) else g ix, by rfl, hR.upd 9 _ (Below.refl _ _) (fun _ => rfl) (fun h => absurd h (by decide)) (fun h => absurd h (by decide)) (fun h => absurd h (by decide)) (fun h => absurd h (by decide)) (fun h => absurd h (by decide))⟩
            · intro D a w' hn hp hI
              obtain ⟨g, rfl, hR⟩ := hI
              have e9 : g 9 = .int .i64 (j : Int) := hR.e 9 (by decide) hp.1
              rw [e9]
              clear hn hp
              go_wp2_with fail
              exact ⟨fun ix => if ix = 10 then .int .i64 (j2 : Int) else g ix, by simp [e9], hR.upd 10 _ (Below.refl _ _) (fun _ => rfl) (fun h => absurd h (by decide)) (fun h => absurd h (by decide)) (fun h => absurd h (by decide)) (fun h => absurd h (by decide)) (fun h => absurd h (by decide))⟩
            · intro D a w' hn hp hI
              obtain ⟨g, rfl, hR⟩ := hI
              have e10 : g 10 = .int .i64 (j2 : Int) := hR.e 10 (by decide) hp.1
              rw [e10]
              clear hn hp
              go_wp2_with fail
              exact ⟨fun ix => if ix = 11 then .int .u32 (j2 : Int) else g ix, by simp [e10], hR.upd 11 _ (Below.refl _ _) (fun _ => rfl) (fun h => absurd h (by decide)) (fun h => absurd h (by decide)) (fun h => absurd h (by decide)) (fun h => absurd h (by decide)) (fun h => absurd h (by decide))⟩
            · intro D a w' hn hp hI
              obtain ⟨g, rfl, hR⟩ := hI
              have e8 : g 8 = .int .u32 na := hR.e 8 (by decide) hp.1
              have e11 : g 11 = .int .u32 (j2 : Int) := hR.e 11 (by decide) hp.2.1
              rw [e8, e11]
              clear hn hp
              go_wp2_with fail
              exact ⟨fun ix => if ix = 12 then .int .u32 ak else g ix, by simp [e8, e11], hR.upd 12 _ (Below.refl _ _) (fun _ => rfl) (fun h => absurd h (by decide)) (fun h => absurd h (by decide)) (fun h => absurd h (by decide)) (fun h => absurd h (by decide)) (fun h => absurd h (by decide))⟩
            · intro D a w' hn hp hI
              obtain ⟨g, rfl, hR⟩ := hI
              clear hn hp
              go_wp2_with fail
              exact ⟨fun ix => if ix = 13 then .int .i64 sz else g ix, by rfl, hR.upd 13 _ (Below.refl _ _) (fun _ => rfl) (fun h => absurd h (by decide)) (fun h => absurd h (by decide)) (fun h => absurd h (by decide)) (fun h => absurd h (by decide)) (fun h => absurd h (by decide))⟩
            · intro D a w' hn hp hI
              obtain ⟨g, rfl, hR⟩ := hI
              clear hn hp
              go_wp2_with fail
              exact ⟨fun ix => if ix = 14 then .slice (some ⟨w'.heap.size, 0, none⟩) 7 7 else g ix, by rfl, hR.upd 14 _ ((Below.refl _ _).alloc (Nat.le_refl _) _) (fun h => by simp at h) (fun h => absurd h (by decide)) (fun h => absurd h (by decide)) (fun _ => ⟨_, rfl, by simp, range_new _ _ _⟩) (fun h => absurd h (by decide)) (fun h => absurd h (by decide))⟩
            · intro D a w' hn hp hI
              obtain ⟨g, rfl, hR⟩ := hI
              clear hn hp
              go_wp2_with fail
              exact ⟨fun ix => if ix = 15 then .int .i64 (j : Int) else g ix, by rfl, hR.upd 15 _ (Below.refl _ _) (fun _ => rfl) (fun h => absurd h (by decide)) (fun h => absurd h (by decide)) (fun h => absurd h (by decide)) (fun h => absurd h (by decide)) (fun h => absurd h (by decide))⟩
            · intro D a w' hn hp hI
              obtain ⟨g, rfl, hR⟩ := hI
              have e15 : g 15 = .int .i64 (j : Int) := hR.e 15 (by decide) hp.1
              rw [e15]
              clear hn hp
              go_wp2_with fail
              exact ⟨fun ix => if ix = 16 then .int .i64 (i7 : Int) else g ix, by simp [e15], hR.upd 16 _ (Below.refl _ _) (fun _ => rfl) (fun h => absurd h (by decide)) (fun h => absurd h (by decide)) (fun h => absurd h (by decide)) (fun h => absurd h (by decide)) (fun h => absurd h (by decide))⟩
            · intro D a w' hn hp hI
              obtain ⟨g, rfl, hR⟩ := hI
              obtain ⟨bb, e14, lb, rb⟩ := hR.s14 hp.1
              have e16 : g 16 = .int .i64 (i7 : Int) := hR.e 16 (by decide) hp.2.1
              rw [e14, e16]
              clear hn hp
              go_wp2_with fail
              exact ⟨fun ix => if ix = 17 then .pointer (some ⟨bb, i7, none⟩) else g ix, by simp [e14, e16], hR.upd 17 _ (Below.refl _ _) (fun h => by simp at h) (fun h => absurd h (by decide)) (fun h => absurd h (by decide)) (fun h => absurd h (by decide)) (fun _ => ⟨bb, rfl, lb, rb⟩) (fun h => absurd h (by decide))⟩
            · intro D a w' hn hp hI
              obtain ⟨g, rfl, hR⟩ := hI
              obtain ⟨bb, e17, lb, rb⟩ := hR.s17 hp.1
              rw [e17]
              have cc := rc rb hln
              clear hn hp
              go_wp2_with fail
              exact ⟨fun ix => if ix = 18 then .int .i64 ln else g ix, by simp [e17], hR.upd 18 _ (Below.refl _ _) (fun _ => rfl) (fun h => absurd h (by decide)) (fun h => absurd h (by decide)) (fun h => absurd h (by decide)) (fun h => absurd h (by decide)) (fun h => absurd h (by decide))⟩
            · intro D a w' hn hp hI
              obtain ⟨g, rfl, hR⟩ := hI
              have e6 : g 6 = .int .u8 fg := hR.e 6 (by decide) hp.1
              have e7 : g 7 = .int .u32 v := hR.e 7 (by decide) hp.2.1
              have e12 : g 12 = .int .u32 ak := hR.e 12 (by decide) hp.2.2.1
              have e13 : g 13 = .int .i64 sz := hR.e 13 (by decide) hp.2.2.2.1
              have e18 : g 18 = .int .i64 ln := hR.e 18 (by decide) hp.2.2.2.2.1
              rw [e6, e7, e12, e13, e18]
              clear hn hp
              go_wp2_with fail
              exact ⟨fun ix => if ix = 19 then .agg (pk fg v ak sz ln) else g ix, by simp [e6, e7, e12, e13, e18, pk], hR.upd 19 _ (Below.refl _ _) (fun _ => rfl) (fun h => absurd h (by decide)) (fun h => absurd h (by decide)) (fun h => absurd h (by decide)) (fun h => absurd h (by decide)) (fun h => absurd h (by decide))⟩
            · intro D a w' hn hp hI
              obtain ⟨g, rfl, hR⟩ := hI
              clear hn hp
              go_wp2_with fail
              exact ⟨fun ix => if ix = 20 then .pointer (some ⟨w'.heap.size, 0, none⟩) else g ix, by rfl, hR.upd 20 _ ((Below.refl _ _).alloc (Nat.le_refl _) _) (fun h => by simp at h) (fun h => absurd h (by decide)) (fun h => absurd h (by decide)) (fun h => absurd h (by decide)) (fun h => absurd h (by decide)) (fun _ => ⟨_, rfl, hR.b.size, by simp, there_new _ _ _ _ _ rfl rfl⟩)⟩
          intro D a w' hD hI
          obtain ⟨g, rfl, hR⟩ := hI
          have e19 : g 19 = .agg (pk fg v ak sz ln) := hR.e 19 (by decide) (hD 19 (by decide))
          obtain ⟨bf, e20, lf0, lf, tf⟩ := hR.s20 (hD 20 (by decide))
          rw [e19, e20]
          have dR := hR.b
          clear hD hR e19 e20
          simp only [List.drop_succ_cons, List.drop_zero]
          refine wpList_store_wide 34 (.tmp 12) (.tmp 110) rfl rfl bf 0 (pk fg v ak sz ln) rfl rfl U.heap.size U (by rw [info34]; rfl) (by simp [pk, Value.oneCell']) dR lf0 tf ?_
          intro X dX zX RG kX tX cX
          have hbX := bthen hb dX
          have RPX := range_below hbX zp HRP.out
          have ROX := range_below hbX zo HRO.out
          have hFa := fa_pk fg v ak sz ln hfgr hvr hakr hsz hlnr
          have HFI := Lib.hid hFa.hi
          have lbX : bf < X.heap.size := by omega
          clear dX kX tX cX dR tf lf lf0 zX F1 F2 F3 F4 F5 F6 F7 F8 F9 F10 hfg hln hi5 hi7 hj2 cq
          have p0c : X.cell? ⟨ps, 0, none⟩ = some (.bool p1) := rc RPX rfl
          have p1c : X.cell? ⟨ps, 1, none⟩ = some (.bool p2) := rc RPX rfl
          have p2c : X.cell? ⟨ps, 2, none⟩ = some (.int .u32 na) := rc RPX rfl
          have p3c : X.cell? ⟨ps, 3, none⟩ = some (.int .u32 nb) := rc RPX rfl
          have p4c : X.cell? ⟨ps, 4, none⟩ = some (.int .i64 sz) := rc RPX rfl
          have o0c : X.cell? ⟨po, 0, none⟩ = some (.bool o1) := rc ROX rfl
          have o1c : X.cell? ⟨po, 1, none⟩ = some (.bool o2) := rc ROX rfl
          have o2c : X.cell? ⟨po, 2, none⟩ = some (.int .u32 nb) := rc ROX rfl
          have o3c : X.cell? ⟨po, 3, none⟩ = some (.int .u32 na) := rc ROX rfl
          have o4c : X.cell? ⟨po, 4, none⟩ = some (.int .i64 sz2) := rc ROX rfl
          go_wp2_with (first | (refine wpList_load_wide 34 _ rfl (by rfl) _ _ rfl (pk fg v ak sz ln) _ Try.underlying34 rfl HFI.out ?_ ?_; · with_reducible assumption))
          refine (tells_any ⟨p1, p2, na, nb, sz⟩ ⟨o1, o2, nb, na, sz2⟩ (pk fg v ak sz ln) fg v ak sz ln (((j : Int) + (k : Int)) % 256 % 3) na nb X hFa hwx hwy (by omega) hna hnb).mono ?_
          rintro e w2 ⟨rfl, hb2⟩
          have RP2 := range_below hb2 (Nat.lt_of_lt_of_le zp hbX.size) RPX
          have RO2 := range_below hb2 (Nat.lt_of_lt_of_le zo hbX.size) ROX
          have RG2 := range_below hb2 lbX RG
          have b2 := bthen hbX hb2
          clear hb2 hbX RPX ROX RG lbX
          clear p0c o0c p1c o1c p2c o2c p3c o3c p4c o4c
          have p0c : w2.cell? ⟨ps, 0, none⟩ = some (.bool p1) := rc RP2 rfl
          have p1c : w2.cell? ⟨ps, 1, none⟩ = some (.bool p2) := rc RP2 rfl
          have p2c : w2.cell? ⟨ps, 2, none⟩ = some (.int .u32 na) := rc RP2 rfl
          have p3c : w2.cell? ⟨ps, 3, none⟩ = some (.int .u32 nb) := rc RP2 rfl
          have p4c : w2.cell? ⟨ps, 4, none⟩ = some (.int .i64 sz) := rc RP2 rfl
          have o0c : w2.cell? ⟨po, 0, none⟩ = some (.bool o1) := rc RO2 rfl
          have o1c : w2.cell? ⟨po, 1, none⟩ = some (.bool o2) := rc RO2 rfl
          have o2c : w2.cell? ⟨po, 2, none⟩ = some (.int .u32 nb) := rc RO2 rfl
          have o3c : w2.cell? ⟨po, 3, none⟩ = some (.int .u32 na) := rc RO2 rfl
          have o4c : w2.cell? ⟨po, 4, none⟩ = some (.int .i64 sz2) := rc RO2 rfl
          go_wp2_with (first | (refine wpList_load_wide 34 _ rfl (by rfl) _ _ rfl (pk fg v ak sz ln) _ Try.underlying34 rfl HFI.out ?_ ?_; · with_reducible assumption))
          refine (tells_any ⟨o1, o2, nb, na, sz2⟩ ⟨p1, p2, na, nb, sz⟩ (pk fg v ak sz ln) fg v ak sz ln (((j : Int) + (k : Int) + 1) % 256 % 3) v na w2 hFa hwy hwx (by omega) hvr hna).mono ?_
          rintro e w3 ⟨rfl, hb3⟩
          have b3 := bthen b2 hb3
          clear b2 hb3 RP2 RO2 RG2
          clear p0c o0c p1c o1c p2c o2c p3c o3c p4c o4c
          go_wp2_with fail
          go_roundw
          case rel => exact ⟨j + 1, by omega, by go_num, b3⟩
          case measure => simp [intOf]; omega
        · obtain rfl : j = 9 := by omega
          have hjd : decide (((9 : Nat) : Int) < 9) = false := by decide
          go_wp2_with fail
          go_roundw
          case rel => exact ⟨k + 1, by omega, by go_num, bthen HB9.out hb⟩
          case measure => simp [intOf]; omega
    · obtain rfl : k = 5184 := by omega
      have hkd : decide (((5184 : Nat) : Int) < 5184) = false := by decide
      have b1 := bthen HD1.out hb
      have f0 := fa_pk 0 0 0 0 0 (by decide) (by decide) (by decide) (by decide) (by decide)
      have f1 := fa_pk 20 0 0 0 0 (by decide) (by decide) (by decide) (by decide) (by decide)
      go_wp2_with fail
      refine (tells_any sd0 sd0 (pk 0 0 0 0 0) 0 0 0 0 0 0 0 0 _ f0 sd0_wf sd0_wf (by decide) (by decide) (by decide)).mono ?_
      rintro e w1 ⟨rfl, hb1⟩
      go_wp2_with fail
      refine (tells_any sd0 sd0 (pk 20 0 0 0 0) 20 0 0 0 0 255 0 1 _ f1 sd0_wf sd0_wf (by decide) (by decide) (by decide)).mono ?_
      rintro e w2 ⟨rfl, hb2⟩
      go_wp2_with fail
      refine (awake_any _).mono ?_
      rintro e w3 ⟨rfl, hb3⟩
      go_wp2_with fail
      go_ret
      exact ⟨rfl, bthen (bthen (bthen b1 hb1) hb2) hb3⟩

end Go.Proofs.Ytchephpmkommfaa

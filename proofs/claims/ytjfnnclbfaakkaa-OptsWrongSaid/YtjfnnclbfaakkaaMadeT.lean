/-
  A round of Made, behind the loading of the element, as a theorem of its own. Conditions: those of the theorem.
-/
import Derived.Test.YtjfnnclbfaakkaaMadeS
import Derived.BigQuiet
import Derived.BigRegion
import Derived.Deep.CutBlock
namespace Go.Proofs.Ytjfnnclbfaakkaa
open Go.RowKit
set_option linter.unusedVariables false
set_option linter.unusedSimpArgs false

set_option maxRecDepth 100000 in
set_option maxHeartbeats 16000000 in
theorem rest7_any {C R : Code} (hC : findC (isSeqL 7) (Try.f15.body.getD .skip) = some (.seq C R)) (Q4 : Exit → Act → World → Prop) (K1 K4 : Act → World → Prop)
    (a1 : ∀ a w, R.wp Try.prog (Exit.inBlock 1 (Exit.then K4 Q4)) a w → K1 a w)
    {l : List Sm} {w wr X0 : World} {k : Nat} {u4 : Value} {css : List (List Value)} {acc : List Op1 × Int} {M : Array Value} {b8 : Nat} {kq mq uq : Int} {bq : List Int} {Ab : Option Addr} {lb nb : Nat} {x0 x1 x2 x3 x7 x9 x10 x11 x12 x13 x14 x15 x16 x17 x18 x19 x20 x21 x22 x23 x24 x25 x26 x27 x28 x29 x30 x31 x32 x33 x34 x35 x36 x37 x38 x39 x40 x41 x42 x43 x44 x45 x46 x47 x48 x49 x50 x51 x52 x53 x54 x55 x56 x57 x58 x59 x60 x61 x62 x63 x64 x65 x66 x67 x68 x69 x70 x71 x72 x73 x74 x75 x76 x77 x78 x79 x80 x81 x82 x83 x84 x85 x86 x87 x88 x89 x90 x91 x92 x93 x94 x95 x96 x97 x98 x99 x100 x101 x102 x103 x104 x105 x106 x107 x108 x109 x110 x111 x112 x113 x114 x115 x116 x117 x118 x119 x120 x121 x122 x123 x124 x125 x126 x127 x128 x129 x130 x131 x132 x133 x134 x135 x136 x137 x138 x139 x140 x141 x142 x143 x144 x145 x146 x147 x148 x149 x150 x151 x152 x153 x154 x155 x156 x157 x158 x159 x160 x161 x162 x163 x164 x165 x166 x167 x168 x169 : Value}
    (HI : Hid (MdI w l wr k u4 css acc M)) (HX : Hid (l[k]? = some ⟨kq, mq, uq, bq⟩)) (HBY : Hid (By w Ab bq)) (HOK : Hid (Sm.Ok ⟨kq, mq, uq, bq⟩)) (HLB : Hid (bq.length = lb)) (H62' : Hid (lb ≤ 9223372036854775807)) (HX8 : Hid (X0.heap[b8]? = some (.cells #[.int .u8 kq, .int .u8 mq, .int .u8 uq, .slice Ab lb nb] 44 (0, 0)))) (HBX : Hid (Below wr.heap.size wr X0)) (Hb8 : Hid (wr.heap.size = b8)) (HW8 : Hid (w.heap.size < b8))
    (HK : Hid (∀ (y9 y10 y11 y12 y13 y14 y15 y16 y24 y25 y26 y27 y28 y29 y30 y31 y32 y33 y34 y35 y36 y37 y38 y39 y40 y41 y42 y43 y44 y45 y46 y47 y48 y49 y50 y51 y52 y53 y54 y55 y56 y57 y58 y59 y60 y61 y62 y63 y64 y65 y66 y67 y68 y69 y70 y71 y72 y73 y74 y75 y76 y77 y78 y79 y80 y81 y82 y83 y84 y85 y86 y87 y88 y89 y90 y91 y92 y93 y94 y95 y96 y97 y98 y99 y100 y101 y102 y103 y104 y105 y106 y107 y108 y109 y110 y111 y112 y113 y114 y115 y116 y117 y118 y119 y120 y121 y122 y123 y124 y125 y126 y127 y128 y129 y130 y131 y132 y133 y134 y135 y136 y137 y138 y139 y140 y141 y142 y143 y144 y145 y146 y147 y148 y149 y150 y151 y152 y153 y154 y155 y156 y157 y158 y159 y160 y161 y162 y163 y164 y165 y166 y167 v4 : Value) (css' : List (List Value)) (acc' : List Op1 × Int) (M' : Array Value) (w3 : World), MdI w l w3 (k + 1) v4 css' acc' M' → K4 ⟨#[x0, x1, x2, x3, v4, .int .i64 acc'.2, .pointer (some ⟨w.heap.size, 0, none⟩), x7, .pointer (some ⟨b8, 0, none⟩), y9, y10, y11, y12, y13, y14, y15, y16, x17, x18, x19, x20, x21, x22, x23, y24, y25, y26, y27, y28, y29, y30, y31, y32, y33, y34, y35, y36, y37, y38, y39, y40, y41, y42, y43, y44, y45, y46, y47, y48, y49, y50, y51, y52, y53, y54, y55, y56, y57, y58, y59, y60, y61, y62, y63, y64, y65, y66, y67, y68, y69, y70, y71, y72, y73, y74, y75, y76, y77, y78, y79, y80, y81, y82, y83, y84, y85, y86, y87, y88, y89, y90, y91, y92, y93, y94, y95, y96, y97, y98, y99, y100, y101, y102, y103, y104, y105, y106, y107, y108, y109, y110, y111, y112, y113, y114, y115, y116, y117, y118, y119, y120, y121, y122, y123, y124, y125, y126, y127, y128, y129, y130, y131, y132, y133, y134, y135, y136, y137, y138, y139, y140, y141, y142, y143, y144, y145, y146, y147, y148, y149, y150, y151, y152, y153, y154, y155, y156, y157, y158, y159, y160, y161, y162, y163, y164, y165, y166, y167, x168, x169], []⟩ w3)) :
    C.wp Try.prog (Exit.then K1 (Exit.inBlock 1 (Exit.then K4 Q4))) ⟨#[x0, x1, x2, x3, u4, .int .i64 acc.2, .pointer (some ⟨w.heap.size, 0, none⟩), x7, .pointer (some ⟨b8, 0, none⟩), x9, x10, x11, x12, x13, x14, x15, x16, x17, x18, x19, x20, x21, x22, x23, x24, x25, x26, x27, x28, x29, x30, x31, x32, x33, x34, x35, x36, x37, x38, x39, x40, x41, x42, x43, x44, x45, x46, x47, x48, x49, x50, x51, x52, x53, x54, x55, x56, x57, x58, x59, x60, x61, x62, x63, x64, x65, x66, x67, x68, x69, x70, x71, x72, x73, x74, x75, x76, x77, x78, x79, x80, x81, x82, x83, x84, x85, x86, x87, x88, x89, x90, x91, x92, x93, x94, x95, x96, x97, x98, x99, x100, x101, x102, x103, x104, x105, x106, x107, x108, x109, x110, x111, x112, x113, x114, x115, x116, x117, x118, x119, x120, x121, x122, x123, x124, x125, x126, x127, x128, x129, x130, x131, x132, x133, x134, x135, x136, x137, x138, x139, x140, x141, x142, x143, x144, x145, x146, x147, x148, x149, x150, x151, x152, x153, x154, x155, x156, x157, x158, x159, x160, x161, x162, x163, x164, x165, x166, x167, x168, x169], []⟩ X0 := by
  cases hC
  let QQ : Exit → Act → World → Prop := bodyPost Try.prog Try.f15 (fun _ _ => True)
  dsimp only
  have c0 := blk_cell HX8.out 0
  have c1 := blk_cell HX8.out 1
  have c2 := blk_cell HX8.out 2
  have c3 := blk_cell HX8.out 3
  simp at c0 c1 c2 c3
  have hl8 := blk_lt HX8.out
  obtain ⟨hk0, hk1⟩ := HOK.out.k
  obtain ⟨hm0', hm1'⟩ := HOK.out.m
  obtain ⟨hu0, hu1⟩ := HOK.out.u
  simp only at hk0 hk1 hm0' hm1' hu0 hu1
  go_cut [9] (fun v9 wx => ∃ b9, v9 = .pointer (some ⟨b9, 0, none⟩) ∧ X0.heap.size ≤ b9 ∧ wx.heap[b9]? = some (.cells #[.int .u8 (kdS ⟨kq, mq, uq, bq⟩), .slice none 0 0] 36 (0, 0)) ∧ Below X0.heap.size X0 wx)
  case first =>
    have hkm : kq.tmod 8 = kq % 8 := Int.tmod_eq_emod_of_nonneg hk0
    have hum : uq.tmod 5 = uq % 5 := Int.tmod_eq_emod_of_nonneg hu0
    have hu5 : 0 ≤ uq % 5 ∧ uq % 5 ≤ 4 := by omega
    obtain ⟨u5, hu5'⟩ : ∃ u5, uq % 5 = u5 := ⟨_, rfl⟩
    have hw2 : IntKind.u8.wrap (2 + u5) = 2 + u5 := IntWalk.u8_in _ (by omega)
    have hbb : Below X0.heap.size X0 ((X0.alloc (Obj.cells #[Value.int IntKind.u8 1, Value.int IntKind.u8 7, Value.int IntKind.u8 131, Value.int IntKind.u8 137, Value.int IntKind.u8 68, Value.int IntKind.u8 148, Value.int IntKind.u8 130, Value.int IntKind.u8 (2 + u5)] 5)).alloc (Obj.cells #[Value.int IntKind.u8 (kdS ⟨kq, mq, uq, bq⟩), Value.slice none 0 0] 36)) := ((Below.refl _ _).alloc (Nat.le_refl _) _).alloc (by simp) _
    have hbk := heap_alloc_last (X0.alloc (Obj.cells #[Value.int IntKind.u8 1, Value.int IntKind.u8 7, Value.int IntKind.u8 131, Value.int IntKind.u8 137, Value.int IntKind.u8 68, Value.int IntKind.u8 148, Value.int IntKind.u8 130, Value.int IntKind.u8 (2 + u5)] 5)) (Obj.cells #[Value.int IntKind.u8 (kdS ⟨kq, mq, uq, bq⟩), Value.slice none 0 0] 36)
    obtain ⟨kd, hkd⟩ : ∃ kd, kdS ⟨kq, mq, uq, bq⟩ = kd := ⟨_, rfl⟩
    rw [hkd] at hbb hbk
    rw [World.size_alloc] at hbk
    have HBB := Lib.hid hbb
    have HBK := Lib.hid hbk
    have HKD := Lib.hid hkd
    have HU5 := Lib.hid hu5'
    clear hbb hbk hkd
    obtain ⟨jk, hjk⟩ : ∃ jk : Nat, kq % 8 = jk := ⟨(kq % 8).toNat, by omega⟩
    rw [hjk] at hkm
    have hj8 : jk < 8 := by omega
    have hcell : (X0.alloc (Obj.cells #[Value.int IntKind.u8 1, Value.int IntKind.u8 7, Value.int IntKind.u8 131, Value.int IntKind.u8 137, Value.int IntKind.u8 68, Value.int IntKind.u8 148, Value.int IntKind.u8 130, Value.int IntKind.u8 (2 + u5)] 5)).cell? ⟨X0.heap.size, jk, none⟩ = some (.int .u8 kd) := by
      rw [blk_cell (heap_alloc_last _ _) jk, ← HKD.out]
      unfold kdS
      simp only [hjk, HU5.out]
      rcases (by omega : jk = 0 ∨ jk = 1 ∨ jk = 2 ∨ jk = 3 ∨ jk = 4 ∨ jk = 5 ∨ jk = 6 ∨ jk = 7) with rfl | rfl | rfl | rfl | rfl | rfl | rfl | rfl <;> rfl
    have hj8i : (jk : Int) < 8 := by omega
    have hwj : IntKind.u8.wrap (jk : Int) = jk := IntWalk.u8_in _ (by omega)
    clear hjk
    go_wp2_with fail
    go_meet
    exact ⟨_, rfl, by simp, by rw [HKD.out]; exact HBK.out, HBB.out⟩
  obtain ⟨b9, rfl, hb9, hk9, hbw⟩ := hcut
  obtain ⟨X1, hX1⟩ : ∃ X, X = wc := ⟨_, rfl⟩
  subst hX1
  have HX8' := Lib.hid (blk_below hbw HX8.out)
  have HX9 := Lib.hid hk9
  have HBX1 := Lib.hid (HBX.out.trans (hbw.mono HBX.out.size))
  have H89 := Lib.hid (show b8 < b9 from Nat.lt_of_lt_of_le hl8 hb9)
  clear hk9 hbw HX8 HBX c0 c1 c2 c3 hl8 hb9
  have c0 := blk_cell HX8'.out 0
  have c1 := blk_cell HX8'.out 1
  have c2 := blk_cell HX8'.out 2
  have c3 := blk_cell HX8'.out 3
  simp at c0 c1 c2 c3
  have hl8 := blk_lt HX8'.out
  have k0 := blk_cell HX9.out 0
  have k1 := blk_cell HX9.out 1
  simp at k0 k1
  have hl9 := blk_lt HX9.out
  obtain ⟨kd, hkd⟩ : ∃ kd, kdS ⟨kq, mq, uq, bq⟩ = kd := ⟨_, rfl⟩
  have HKD := Lib.hid hkd
  have hkc := kd_cases HOK.out
  rw [hkd] at HX9 k0 hkc
  clear hkd
  go_upto_block 2 with fail
  refine blk2_any _ (by kernel_rfl) _ HX8'.out HX9.out hkc hm0' hm1' ?_
  intro y40 y41 y42 y43 y44 y45 y46 y47 y48 y49 y50 y51 y52 y53 y54 X2 hbw
  have HY8 := Lib.hid (blk_below hbw HX8'.out)
  have HY9 := Lib.hid (blk_below hbw HX9.out)
  have HBX2 := Lib.hid (HBX1.out.trans (hbw.mono HBX1.out.size))
  have HWX := Lib.hid (HI.out.below.trans (HBX2.out.mono HI.out.below.size))
  clear hbw HX8' HX9 HBX1 c0 c1 c2 c3 hl8 k0 k1 hl9 hkc
  have c0 := blk_cell HY8.out 0
  have c1 := blk_cell HY8.out 1
  have c2 := blk_cell HY8.out 2
  have c3 := blk_cell HY8.out 3
  simp at c0 c1 c2 c3
  have hl8 := blk_lt HY8.out
  have k0 := blk_cell HY9.out 0
  have k1 := blk_cell HY9.out 1
  simp at k0 k1
  have hl9 := blk_lt HY9.out
  obtain ⟨gq, hgq⟩ : ∃ gq, gS kd = gq := ⟨_, rfl⟩
  obtain ⟨hq, hhq⟩ : ∃ hq, hS kd = hq := ⟨_, rfl⟩
  obtain ⟨sq, hsq⟩ : ∃ sq, sS kd mq = sq := ⟨_, rfl⟩
  obtain ⟨nq, hnq⟩ : ∃ nq, nS kd mq = nq := ⟨_, rfl⟩
  have hs148 : sq = 1 ∨ sq = 4 ∨ sq = 8 := by
    rw [← hsq]
    unfold sS
    repeat' split
    all_goals simp
  have hh2 : hq = 0 ∨ hq = 1 ∨ hq = 2 := by
    rw [← hhq]
    unfold hS
    repeat' split
    all_goals simp
  have hn9 : 0 ≤ nq ∧ nq ≤ 9 := by
    rw [← hnq]
    unfold nS
    split <;> omega
  have HGQ := Lib.hid hgq
  have HHQ := Lib.hid hhq
  have HSQ := Lib.hid hsq
  have HNQ := Lib.hid hnq
  rw [hgq, hhq, hsq]
  clear hgq hhq hsq hnq
  have hm10 : mq.tmod 10 = mq % 10 := Int.tmod_eq_emod_of_nonneg hm0'
  obtain ⟨z, hz⟩ : ∃ z, (kd == 1 || kd == 148) = z := ⟨_, rfl⟩
  have HZ := Lib.hid hz
  have hnz : nq = if z then 0 else mq % 10 := by
    rw [← HNQ.out, ← hz]
    unfold nS
    by_cases h1 : kd = 1
    · simp [h1]
    · by_cases h2 : kd = 148
      · simp [h2]
      · simp [h1, h2]
  have HNZ := Lib.hid hnz
  clear hz hnz
  go_upto_region 20 with fail
  go_cut [66] (fun v66 wx => v66 = .bool z ∧ wx = X2)
  case first =>
    by_cases h1 : kd = 1
    · have e1 : (kd == 1) = true := by simpa using h1
      have hz := HZ.out
      rw [e1, Bool.true_or] at hz
      subst hz
      clear h1
      go_wp2_with fail
      go_meet
      exact ⟨rfl, rfl⟩
    · have e1 : (kd == 1) = false := by simpa using h1
      have hz := HZ.out
      rw [e1, Bool.false_or] at hz
      clear h1
      go_wp2_with fail
      go_meet
      exact ⟨rfl, rfl⟩
  obtain ⟨rfl, hwc⟩ := hcut
  rw [hwc]
  clear hwc
  go_upto_if 66 with fail
  go_cut [13] (fun v13 wx => v13 = .int .i64 nq ∧ wx = X2)
  case first =>
    cases z
    · have hn : nq = mq % 10 := HNZ.out
      have HN0 := Lib.hid hn
      clear hn
      go_wp2_with fail
      go_meet
      exact ⟨by rw [HN0.out], rfl⟩
    · have hn : nq = 0 := HNZ.out
      have HN0 := Lib.hid hn
      clear hn
      go_wp2_with fail
      go_meet
      exact ⟨by rw [HN0.out], rfl⟩
  obtain ⟨rfl, hwc⟩ := hcut
  rw [hwc]
  clear hwc hm10 HZ HNZ
  obtain ⟨pq, hpq⟩ : ∃ pq, nq * sq = pq := ⟨_, rfl⟩
  have hp72 : 0 ≤ pq ∧ pq ≤ 72 := by
    rw [← hpq]
    rcases hs148 with rfl | rfl | rfl <;> omega
  have hwp : IntKind.i64.wrap (nq * sq) = pq := by rw [hpq]; exact IntWalk.i64_in _ (by omega)
  obtain ⟨L, hL⟩ : ∃ L : Nat, hq + pq = (L : Int) := ⟨(hq + pq).toNat, by omega⟩
  have hwl : IntKind.i64.wrap (hq + pq) = (L : Int) := by rw [hL]; exact IntWalk.i64_in _ (by omega)
  have hL74 : L ≤ 74 := by omega
  have hLen : lenS ⟨kq, mq, uq, bq⟩ = L := by
    unfold lenS
    rw [HKD.out]
    show (hS kd + nS kd mq * sS kd mq).toNat = L
    rw [HHQ.out, HNQ.out, HSQ.out, hpq, hL]
    rfl
  have HLEN := Lib.hid hLen
  have HPQ := Lib.hid hpq
  have HLQ := Lib.hid hL
  clear hLen hpq hL
  go_wp2_with fail
  clear hwp hwl
  go_loopw [72] (fun i wx => ∃ (j : Nat) (v : Value), j ≤ L ∧ i = .int .i64 j ∧ DtI X2 b9 kd ⟨kq, mq, uq, bq⟩ j v wx) (fun i _ => L - (intOf i).toNat)
  case atStart => exact ⟨0, _, by omega, rfl, ⟨HY9.out, World.ownsRow_nil _ _ _ _, Keep.refl _ _⟩⟩
  case round =>
    obtain ⟨j, v, hj, rfl, hD⟩ := hrel
    obtain ⟨Av, cv, rfl⟩ := own_form hD.row
    by_cases hjl : j < L
    · skip
      have t2 : decide ((j : Int) < L) = true := by simp; omega
      have d8 := blk_keep hD.keep (show b8 ≠ b9 by have := H89.out; omega) HY8.out
      have c3 := blk_cell d8 3
      have k1 := blk_cell hD.obj 1
      simp at c3 k1
      have hl8 := blk_lt d8
      have hl9 := blk_lt hD.obj
      have hwj : IntKind.u8.wrap (j : Int) = (j : Int) := IntWalk.u8_in _ (by omega)
      have HD := Lib.hid hD
      clear hD d8
      go_upto_if 80 with fail
      go_cut [15] (fun v15 wy => v15 = .int .u8 (byS bq j) ∧ Below wr.heap.size wr wy)
      case first =>
        by_cases hbq : bq = []
        · have hl0 : lb = 0 := by rw [← HLB.out, hbq]; rfl
          have t3 : decide ((0 : Int) < lb) = false := by simp; omega
          subst hl0
          have hy : byS bq j = j := by unfold byS; rw [if_pos hbq]; omega
          have HYY := Lib.hid hy
          clear hbq hy
          go_wp2_with fail
          go_meet
          exact ⟨by rw [HYY.out], Below.refl _ _⟩
        · have hl00 : 0 < bq.length := List.length_pos_iff.2 hbq
          have hl0 : 0 < lb := by rw [← HLB.out]; exact hl00
          have t3 : decide ((0 : Int) < lb) = true := by simp; omega
          have hBw : Below w.heap.size w wr := HWX.out.trans (HD.out.keep.below (fun g hg => by have := HW8.out; have := H89.out; omega) HWX.out.size)
          obtain ⟨bb, oo, rfl, hbb, hbc⟩ := (HBY.out.below hBw).pos hl00
          have hjm0 : j % bq.length < bq.length := Nat.mod_lt _ hl00
          have q1 := hbc _ _ (getD_some hjm0)
          rw [HLB.out] at q1
          have hjm : j % lb < lb := Nat.mod_lt _ hl0
          have htm : (j : Int).tmod (lb : Int) = ((j % lb : Nat) : Int) := by
            rw [Int.tmod_eq_emod_of_nonneg (by omega)]
            rfl
          have hy : byS bq j = bq.getD (j % lb) 0 := by unfold byS; rw [if_neg hbq, HLB.out]
          obtain ⟨y, hyy⟩ : ∃ y, bq.getD (j % lb) 0 = y := ⟨_, rfl⟩
          rw [hyy] at q1 hy
          obtain ⟨jm, hjm'⟩ : ∃ jm, j % lb = jm := ⟨_, rfl⟩
          rw [hjm'] at q1 htm hjm
          have hj0 : (0 : Int) ≤ jm := by omega
          have hj1 : (jm : Int) < lb := by omega
          have hne : ((lb : Int) == 0) = false := by simp; omega
          have hwt : IntKind.i64.wrap (jm : Int) = jm := IntWalk.i64_in _ (by have := H62'.out; omega)
          have HYY := Lib.hid hy
          clear hbq hbc hyy hjm' hy hBw hjm0 hl00
          go_upto_region 27 with fail
          go_quiet (fail)
          go_wp2_with fail
          go_meet
          exact ⟨by rw [HYY.out], below_drewN (Below.refl _ _) _⟩
      obtain ⟨rfl, hbY⟩ := hcut
      obtain ⟨Y, hY⟩ : ∃ X, X = wc := ⟨_, rfl⟩
      subst hY
      have hst := fun (w3 : World) (v' : Value) (hg : (Y.alloc (.cells #[.int .u8 (byS bq j)] 5)).grownBy w3 (Value.slice Av j cv).ownBlock) (hr : w3.ownsRow X2.heap.size 5 1 v' (j + 1) ((rawS ⟨kq, mq, uq, bq⟩ j).map (Value.int .u8) ++ [.int .u8 (byS bq j)])) => DtI.step HD.out (blk_lt HY9.out) hbY hg hr
      have HST := Lib.hid hst
      have hro := own_below HD.out.row hbY
      have HRO := Lib.hid hro
      have hoY := blk_below hbY HD.out.obj
      have k1 := blk_cell hoY 1
      simp at k1
      have hl9 := blk_lt hoY
      have hXY : X2.heap.size ≤ Y.heap.size := Nat.le_trans HD.out.keep.size hbY.size
      obtain ⟨i0, hi, hz0, hz1, hz2⟩ := info_parts info5b
      obtain ⟨y, hy⟩ : ∃ y, byS bq j = y := ⟨_, rfl⟩
      rw [hy] at HST ⊢
      clear hst hro hoY hbY c3 hl8 hy
      go_wp2_with (at_builtin; refine wpList_append_own _ rfl _ _ 22 rfl X2.heap.size 5 i0 (.int .u8 0) 1 1 Try.underlying22 hi hz0 hz1 hz2 rfl (by decide) _ _ _ rfl (HRO.out.alloc _) ⟨Y.heap.size, 0, none⟩ 1 1 [.int .u8 y] rfl rfl (cell_one_new _ _ _) (by simp [Value.oneCell']) (lt_maxLen' (by omega)) (by omega) (by simp; omega) ?_; intro v3 w3 hown3 hgrow3 hnil3; obtain ⟨g3, cap3, rfl⟩ := ownsRow_succ hown3; obtain ⟨hs1, hs2⟩ := HST.out w3 _ hgrow3 hown3; have u1 := blk_cell hs1 1; have fu := blk_free hs1 1; have lu := blk_lt hs1; simp at u1; have HS2 := Lib.hid hs2; clear hs1 hs2 hown3 hgrow3 hnil3)
      exact ⟨⟨j + 1, _, by omega, by go_num, HS2.out⟩, by simp [intOf]; omega⟩
    · obtain rfl : j = L := by omega
      have HD := Lib.hid hD
      clear hD
      have t2 : decide ((j : Int) < j) = false := by simp
      go_upto_region 30 with fail
      refine tail30_any (by kernel_rfl) _ _ _ _ (by assumption) (by assumption) HI HX HOK Hb8 HW8 hm0' hm1' hu0 hu1 H89 HKD HY8 HBX2 hs148 hh2 hn9 HGQ HHQ HSQ HNQ hp72 HPQ hL74 HLEN HLQ HD (Lib.hid ?_)
      intro y16 y24 y25 y26 y27 y28 y29 y30 y31 y32 y33 y34 y35 y36 y37 y38 y39 y40 y41 y42 y43 y44 y45 y46 y47 y48 y49 y50 y51 y52 y53 y54 y55 y56 y57 y58 y59 y60 y61 y62 y63 y64 y65 y66 y67 y68 y69 y70 y71 y72 y73 y74 y75 y76 y77 y78 y79 y80 y81 y82 y83 y84 y85 y86 y87 y88 y89 y90 y91 y92 y93 y94 y95 y96 y97 y98 y99 y100 y101 y102 y103 y104 y105 y106 y107 y108 y109 y110 y111 y112 y113 y114 y115 y116 y117 y118 y119 y120 y121 y122 y123 y124 y125 y126 y127 y128 y129 y130 y131 y132 y133 y134 y135 y136 y137 y138 y139 y140 y141 y142 y143 y144 y145 y146 y147 y148 y149 y150 y151 y152 y153 y154 y155 y156 y157 y158 y159 y160 y161 y162 y163 y164 y165 y166 y167 v4 css' acc' M' w3 hI3
      exact HK.out _ _ _ _ _ _ _ _ _ _ _ _ _ _ _ _ _ _ _ _ _ _ _ _ _ _ _ _ _ _ _ _ _ _ _ _ _ _ _ _ _ _ _ _ _ _ _ _ _ _ _ _ _ _ _ _ _ _ _ _ _ _ _ _ _ _ _ _ _ _ _ _ _ _ _ _ _ _ _ _ _ _ _ _ _ _ _ _ _ _ _ _ _ _ _ _ _ _ _ _ _ _ _ _ _ _ _ _ _ _ _ _ _ _ _ _ _ _ _ _ _ _ _ _ _ _ _ _ _ _ _ _ _ _ _ _ _ _ _ _ _ _ _ _ _ _ _ _ _ _ _ _ _ _ _ _ _ hI3

end Go.Proofs.Ytjfnnclbfaakkaa

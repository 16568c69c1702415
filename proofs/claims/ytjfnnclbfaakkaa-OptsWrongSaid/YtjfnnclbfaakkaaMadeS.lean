/-
  A round of Made, from the data's end on, as a theorem of its own. Conditions: those of the theorem.
-/
import Derived.Test.YtjfnnclbfaakkaaMadeR
import Derived.BigQuiet
import Derived.BigRegion
import Derived.Deep.CutBlock
namespace Go.Proofs.Ytjfnnclbfaakkaa
open Go.RowKit
set_option linter.unusedVariables false
set_option linter.unusedSimpArgs false

set_option maxRecDepth 100000 in
set_option maxHeartbeats 16000000 in
theorem tail30_any {C D R : Code} (hC : findC (isSeqR 30) (Try.f15.body.getD .skip) = some (.seq (.seq C D) R)) (Q4 : Exit → Act → World → Prop) (K1 K2 K4 : Act → World → Prop)
    (a1 : ∀ a w, D.wp Try.prog (Exit.then K2 (Exit.inBlock 1 (Exit.then K4 Q4))) a w → K1 a w) (a2 : ∀ a w, R.wp Try.prog (Exit.inBlock 1 (Exit.then K4 Q4)) a w → K2 a w)
    {l : List Sm} {w wr0 X2 wr : World} {k : Nat} {u4 : Value} {css : List (List Value)} {acc : List Op1 × Int} {M : Array Value} {b8 b9 : Nat} {kq mq uq kd gq hq sq nq pq : Int} {bq : List Int} {Ab : Option Addr} {lb nb j : Nat} {Av : Option Addr} {cv : Nat} {x0 x1 x2 x3 x7 x14 x15 x16 x17 x18 x19 x20 x21 x22 x23 x24 x25 x26 x27 x28 x29 x30 x31 x32 x33 x34 x35 x36 x37 x38 x39 x40 x41 x42 x43 x44 x45 x46 x47 x48 x49 x50 x51 x52 x53 x54 x55 x56 x57 x58 x59 x60 x61 x62 x63 x64 x65 x66 x67 x68 x69 x70 x71 x72 x73 x74 x75 x76 x77 x78 x79 x80 x81 x82 x83 x84 x85 x86 x87 x88 x89 x90 x91 x92 x93 x94 x95 x96 x97 x98 x99 x100 x101 x102 x103 x104 x105 x106 x107 x108 x109 x110 x111 x112 x113 x114 x115 x116 x117 x118 x119 x120 x121 x122 x123 x124 x125 x126 x127 x128 x129 x130 x131 x132 x133 x134 x135 x136 x137 x138 x139 x140 x141 x142 x143 x144 x145 x146 x147 x148 x149 x150 x151 x152 x153 x154 x155 x156 x157 x158 x159 x160 x161 x162 x163 x164 x165 x166 x167 x168 x169 : Value}
    (HI : Hid (MdI w l wr0 k u4 css acc M)) (HX : Hid (l[k]? = some ⟨kq, mq, uq, bq⟩)) (HOK : Hid (Sm.Ok ⟨kq, mq, uq, bq⟩)) (Hb8 : Hid (wr0.heap.size = b8)) (HW8 : Hid (w.heap.size < b8)) (hm0' : 0 ≤ mq) (hm1' : mq ≤ 255) (hu0 : 0 ≤ uq) (hu1 : uq ≤ 255) (H89 : Hid (b8 < b9)) (HKD : Hid (kdS ⟨kq, mq, uq, bq⟩ = kd))
    (HY8 : Hid (X2.heap[b8]? = some (.cells #[.int .u8 kq, .int .u8 mq, .int .u8 uq, .slice Ab lb nb] 44 (0, 0)))) (HBX2 : Hid (Below wr0.heap.size wr0 X2))
    (hs148 : sq = 1 ∨ sq = 4 ∨ sq = 8) (hh2 : hq = 0 ∨ hq = 1 ∨ hq = 2) (hn9 : 0 ≤ nq ∧ nq ≤ 9) (HGQ : Hid (gS kd = gq)) (HHQ : Hid (hS kd = hq)) (HSQ : Hid (sS kd mq = sq)) (HNQ : Hid (nS kd mq = nq)) (hp72 : 0 ≤ pq ∧ pq ≤ 72) (HPQ : Hid (nq * sq = pq)) (hL74 : j ≤ 74) (HLEN : Hid (lenS ⟨kq, mq, uq, bq⟩ = j)) (HLQ : Hid (hq + pq = (j : Int)))
    (HD : Hid (DtI X2 b9 kd ⟨kq, mq, uq, bq⟩ j (.slice Av j cv) wr))
    (HK : Hid (∀ (y16 y24 y25 y26 y27 y28 y29 y30 y31 y32 y33 y34 y35 y36 y37 y38 y39 y40 y41 y42 y43 y44 y45 y46 y47 y48 y49 y50 y51 y52 y53 y54 y55 y56 y57 y58 y59 y60 y61 y62 y63 y64 y65 y66 y67 y68 y69 y70 y71 y72 y73 y74 y75 y76 y77 y78 y79 y80 y81 y82 y83 y84 y85 y86 y87 y88 y89 y90 y91 y92 y93 y94 y95 y96 y97 y98 y99 y100 y101 y102 y103 y104 y105 y106 y107 y108 y109 y110 y111 y112 y113 y114 y115 y116 y117 y118 y119 y120 y121 y122 y123 y124 y125 y126 y127 y128 y129 y130 y131 y132 y133 y134 y135 y136 y137 y138 y139 y140 y141 y142 y143 y144 y145 y146 y147 y148 y149 y150 y151 y152 y153 y154 y155 y156 y157 y158 y159 y160 y161 y162 y163 y164 y165 y166 y167 v4 : Value) (css' : List (List Value)) (acc' : List Op1 × Int) (M' : Array Value) (w3 : World), MdI w l w3 (k + 1) v4 css' acc' M' → K4 ⟨#[x0, x1, x2, x3, v4, .int .i64 acc'.2, .pointer (some ⟨w.heap.size, 0, none⟩), x7, .pointer (some ⟨b8, 0, none⟩), .pointer (some ⟨b9, 0, none⟩), .int .i64 gq, .int .i64 hq, .int .i64 sq, .int .i64 nq, x14, x15, y16, x17, x18, x19, x20, x21, x22, x23, y24, y25, y26, y27, y28, y29, y30, y31, y32, y33, y34, y35, y36, y37, y38, y39, y40, y41, y42, y43, y44, y45, y46, y47, y48, y49, y50, y51, y52, y53, y54, y55, y56, y57, y58, y59, y60, y61, y62, y63, y64, y65, y66, y67, y68, y69, y70, y71, y72, y73, y74, y75, y76, y77, y78, y79, y80, y81, y82, y83, y84, y85, y86, y87, y88, y89, y90, y91, y92, y93, y94, y95, y96, y97, y98, y99, y100, y101, y102, y103, y104, y105, y106, y107, y108, y109, y110, y111, y112, y113, y114, y115, y116, y117, y118, y119, y120, y121, y122, y123, y124, y125, y126, y127, y128, y129, y130, y131, y132, y133, y134, y135, y136, y137, y138, y139, y140, y141, y142, y143, y144, y145, y146, y147, y148, y149, y150, y151, y152, y153, y154, y155, y156, y157, y158, y159, y160, y161, y162, y163, y164, y165, y166, y167, x168, x169], []⟩ w3)) :
    C.wp Try.prog (Exit.then K1 (Exit.then K2 (Exit.inBlock 1 (Exit.then K4 Q4)))) ⟨#[x0, x1, x2, x3, u4, .int .i64 acc.2, .pointer (some ⟨w.heap.size, 0, none⟩), x7, .pointer (some ⟨b8, 0, none⟩), .pointer (some ⟨b9, 0, none⟩), .int .i64 gq, .int .i64 hq, .int .i64 sq, .int .i64 nq, x14, x15, x16, x17, x18, x19, x20, x21, x22, x23, x24, x25, x26, x27, x28, x29, x30, x31, x32, x33, x34, x35, x36, x37, x38, x39, x40, x41, x42, x43, x44, x45, x46, x47, x48, x49, x50, x51, x52, x53, x54, x55, x56, x57, x58, x59, x60, x61, x62, x63, x64, x65, x66, x67, x68, x69, x70, x71, x72, x73, x74, x75, x76, x77, x78, x79, x80, x81, x82, x83, x84, x85, x86, x87, x88, x89, x90, x91, x92, x93, x94, x95, x96, x97, x98, x99, x100, x101, x102, x103, x104, x105, x106, x107, x108, x109, x110, x111, x112, x113, x114, x115, x116, x117, x118, x119, x120, x121, x122, x123, x124, x125, x126, x127, x128, x129, x130, x131, x132, x133, x134, x135, x136, x137, x138, x139, x140, x141, x142, x143, x144, x145, x146, x147, x148, x149, x150, x151, x152, x153, x154, x155, x156, x157, x158, x159, x160, x161, x162, x163, x164, x165, x166, x167, x168, x169], []⟩ wr := by
  cases hC
  let QQ : Exit → Act → World → Prop := bodyPost Try.prog Try.f15 (fun _ _ => True)
  dsimp only
  have hg4 : gq = -1 ∨ gq = 0 ∨ gq = 1 ∨ gq = 2 := by
    rw [← HGQ.out]
    unfold gS
    repeat' split
    all_goals simp
  have hgh : 0 ≤ gq → 1 ≤ hq := fun hg => by
    rw [← HGQ.out] at hg
    rw [← HHQ.out]
    unfold gS at hg
    unfold hS
    repeat' split at hg
    all_goals first | omega | (split <;> first | omega | (split <;> omega))
  obtain ⟨zg, hzg⟩ : ∃ zg, decide (0 ≤ gq) = zg := ⟨_, rfl⟩
  have HZG := Lib.hid hzg
  go_upto_if 98 with fail
  clear hzg
  go_cut [] (fun wx => ∃ d1 v1, DtF X2 b9 kd d1 v1 wx ∧ d1 = if gq < 0 then rawS ⟨kq, mq, uq, bq⟩ j else (rawS ⟨kq, mq, uq, bq⟩ j).set 0 (3 + hq + uq % (nq + 1) * sq))
  case first =>
    cases zg
    · have HG0 : Hid (gq < 0) := by have := HZG.out; simp at this; exact this
      go_wp2_with fail
      go_meet
      exact ⟨_, _, ⟨HD.out.obj, by rw [raw_len]; exact HD.out.row, HD.out.keep⟩, by rw [if_pos HG0.out]⟩
    · have hg0 : 0 ≤ gq := by have := HZG.out; simpa using this
      have HG0 := Lib.hid hg0
      have hq1 := hgh hg0
      clear hgh hg4 hg0
      have hlq := HLQ.out
      have hj1 : 1 ≤ j := by omega
      go_upto_region 31 with fail
      refine reg31_any _ (by kernel_rfl) _ HD.out HY8.out H89.out hj1 (by omega) hu0 hu1 hh2 hn9 hs148 ?_
      intro y99 y100 y101 y102 y103 y104 y105 y106 y107 y108 y109 y110 y111 y112 y113 v1 w1 hF1
      have HF1 := Lib.hid hF1
      clear hF1 hlq
      go_wp2_with fail
      go_meet
      exact ⟨_, _, HF1.out, by rw [if_neg (by have := HG0.out; omega)]⟩
  obtain ⟨d1, v1, hF, hd1⟩ := hcut
  obtain ⟨X3, hX3⟩ : ∃ X, X = wc := ⟨_, rfl⟩
  subst hX3
  have HF := Lib.hid hF
  have HD1 := Lib.hid hd1
  clear hF hd1
  obtain ⟨z2, hz2⟩ : ∃ z2, (gq == 2) = z2 := ⟨_, rfl⟩
  have HZ2 := Lib.hid hz2
  go_upto_if 115 with fail
  clear hz2
  go_cut [] (fun wx => ∃ v2, DtF X2 b9 kd (datS ⟨kq, mq, uq, bq⟩) v2 wx)
  case first =>
    cases z2
    · have hx2 : ¬ gq = 2 := by have := HZ2.out; simpa using this
      have HX2 := Lib.hid hx2
      clear hx2
      go_wp2_with fail
      go_meet
      exact ⟨v1, by have h := HF.out; rw [dat_eq HKD.out HGQ.out HHQ.out HNQ.out HSQ.out HLEN.out HD1.out, if_neg HX2.out]; exact h⟩
    · have hg2 : gq = 2 := by have := HZ2.out; simpa using this
      have hj2 := dat_two (HGQ.out.trans hg2) HHQ.out HLQ.out HPQ.out hn9.1 hs148
      have hd1l : d1.length = j := by rw [HD1.out, if_neg (by omega), List.length_set, raw_len]
      have hv := HF.out.row
      rcases own_cases hv with ⟨_, h0, _⟩ | ⟨gb, cb, eb, hgb, hgb2, hcb, hcb2⟩
      · omega
      subst eb
      have hraw : d1.getD 1 0 = (rawS ⟨kq, mq, uq, bq⟩ j).getD 1 0 := by rw [HD1.out, if_neg (by omega), set_getD_ne (by decide)]
      have hyr := rngD (raw_rng HOK.out j) 1
      rw [← hraw] at hyr
      have hF0 := HF.out
      have HRAW := Lib.hid hraw
      have HG2 := Lib.hid hg2
      have HYR := Lib.hid hyr
      have hcb3 : Hid (DtF X2 b9 kd d1 (.slice (some ⟨gb, 0, none⟩) j cb) X3) := by show DtF _ _ _ _ _ _; rw [← hd1l]; exact hF0
      clear hg2 hraw hv hcb hcb2 hF0 hyr
      go_upto_region 33 with fail
      refine reg33_any _ (by kernel_rfl) _ hcb3.out HY8.out H89.out hd1l hj2 HYR.out hm0' hm1' ?_
      intro y116 y117 y118 y119 y120 y121 y122 y123 y124 y125 y126 y127 y128 y129 y130 y131 v1 w1 hF1
      have HF1 := Lib.hid hF1
      clear hF1
      go_wp2_with fail
      go_meet
      exact ⟨_, by have h := HF1.out; rw [dat_eq HKD.out HGQ.out HHQ.out HNQ.out HSQ.out HLEN.out HD1.out, if_pos HG2.out, ← HRAW.out]; exact h⟩
  obtain ⟨v2, hF2⟩ := hcut
  obtain ⟨X4, hX4⟩ : ∃ X, X = wc := ⟨_, rfl⟩
  subst hX4
  obtain ⟨A2, c2, rfl⟩ := own_form hF2.row
  have hDl : (datS ⟨kq, mq, uq, bq⟩).length = j := by rw [dat_len]; exact HLEN.out
  rw [hDl] at hF2
  obtain ⟨D, hD⟩ : ∃ D, datS ⟨kq, mq, uq, bq⟩ = D := ⟨_, rfl⟩
  rw [hD] at hF2 hDl
  have hmt : X4.heap[w.heap.size]? = some (.cells M 69 (0, 0)) := blk_keep hF2.keep (by have := HW8.out; have := H89.out; show w.heap.size ≠ b9; omega) (blk_below HBX2.out HI.out.met)
  have h9 := Nat.lt_of_le_of_lt (Nat.le_of_eq Hb8.out) H89.out
  have hmo : ((bytesO (kd, D)).length : Int) = if kd = 1 then 1 else (j : Int) + 2 := by
    unfold bytesO
    by_cases h1 : kd = 1
    · rw [if_pos h1, if_pos h1]; rfl
    · rw [if_neg h1, if_neg h1]
      simp only [List.length_cons]
      omega
  obtain ⟨mo, hmo'⟩ : ∃ mo : Int, ((bytesO (kd, D)).length : Int) = mo := ⟨_, rfl⟩
  rw [hmo'] at hmo
  obtain ⟨gv, hgv⟩ : ∃ gv, num acc.1 (grp kd) = gv := ⟨_, rfl⟩
  have hgr := grp_nonneg kd
  have hadd : addS acc ⟨kq, mq, uq, bq⟩ = if 40 < acc.2 + mo ∨ (0 < grp kd ∧ 0 < gv) then acc else (acc.1 ++ [(kd, D)], acc.2 + ((bytesO (kd, D)).length : Int)) := by
    unfold addS moS
    rw [HKD.out, hD, hmo', hgv]
  have hinv := HI.out.inv
  have ha0 : 0 ≤ acc.2 := by rw [hinv.len]; omega
  have ha40 := hinv.max
  have hacl : acc.1.length ≤ 40 := by have h1 := flat_count acc.1; have h2 := hinv.len; omega
  have hmo76 : 1 ≤ mo ∧ mo ≤ 76 := by rw [hmo]; split <;> omega
  have HF2 := Lib.hid hF2
  have HDL := Lib.hid hDl
  have HDD := Lib.hid hD
  have HMT := Lib.hid hmt
  have H9 := Lib.hid h9
  have HMO := Lib.hid hmo
  have HMO' := Lib.hid hmo'
  have HGV := Lib.hid hgv
  have HADD := Lib.hid hadd
  have HACL := Lib.hid hacl
  have k0 := blk_cell hF2.obj 0
  have k1 := blk_cell hF2.obj 1
  simp at k0 k1
  have hl9 := blk_lt hF2.obj
  clear hF2 hDl hD hmt h9 hmo hmo' hgv hadd hinv hacl HF HD1 HD HZ2
  obtain ⟨z1, hz1⟩ : ∃ z, (kd == 1) = z := ⟨_, rfl⟩
  have HZ1 := Lib.hid hz1
  have hw16 : IntKind.i64.wrap (2 + (j : Int)) = 2 + (j : Int) := IntWalk.i64_in _ (by omega)
  go_upto_if 138 with fail
  clear hz1
  go_cut [16] (fun v16 wx => v16 = .int .i64 mo ∧ wx = X4)
  case first =>
    cases z1
    · have h1 : mo = 2 + (j : Int) := by
        rw [HMO.out, if_neg (by have := HZ1.out; simpa using this)]
        omega
      have H1 := Lib.hid h1
      clear h1
      go_wp2_with fail
      go_meet
      exact ⟨by rw [H1.out], rfl⟩
    · have h1 : mo = 1 := by rw [HMO.out, if_pos (by have := HZ1.out; simpa using this)]
      have H1 := Lib.hid h1
      clear h1
      go_wp2_with fail
      go_meet
      exact ⟨by rw [H1.out], rfl⟩
  obtain ⟨rfl, hwc⟩ := hcut
  rw [hwc]
  clear hwc hw16
  have hwa : IntKind.i64.wrap (acc.2 + mo) = acc.2 + mo := IntWalk.i64_in _ (by omega)
  obtain ⟨zb, hzb⟩ : ∃ z, decide (40 < acc.2 + mo) = z := ⟨_, rfl⟩
  obtain ⟨zq, hzq⟩ : ∃ z, decide (0 ≤ gq) = z := ⟨_, rfl⟩
  obtain ⟨zm, hzm⟩ : ∃ z, decide (0 < gv) = z := ⟨_, rfl⟩
  have HZB := Lib.hid hzb
  have HZQ := Lib.hid hzq
  have HZM := Lib.hid hzm
  have m0 := blk_cell HMT.out
  have HM0 := Lib.hid m0
  have hlm := blk_lt HMT.out
  clear m0
  go_upto_region 37 with fail
  go_cut [152] (fun v152 wx => v152 = .bool (zb || (zq && zm)) ∧ wx = X4)
  case first =>
    cases zb
    · cases zq
      · clear hzm
        go_wp2_with fail
        go_meet
        exact ⟨rfl, rfl⟩
      · obtain ⟨gn, hgn, hg3, hgp, hM⟩ := HI.out.mets.get HGQ.out (by have := HZQ.out; simpa using this)
        rw [HGV.out] at hM
        have cm := HM0.out gn
        rw [hM] at cm
        have hgi : (gn : Int) < 3 := by omega
        subst hgn
        clear hM hgp
        go_wp2_with fail
        go_meet
        exact ⟨rfl, rfl⟩
    · clear hzq hzm
      go_wp2_with fail
      go_meet
      exact ⟨rfl, rfl⟩
  obtain ⟨rfl, hwc⟩ := hcut
  rw [hwc]
  clear hwc hzb hzq hzm
  go_upto_if 152 with fail
  obtain ⟨zs, hzs⟩ : ∃ z, (zb || (zq && zm)) = z := ⟨_, rfl⟩
  rw [hzs]
  have HZS := Lib.hid hzs
  clear hzs
  go_cut [] (fun wx => zs = false ∧ wx = X4)
  case first =>
    cases zs
    · go_wp2_with fail
      go_meet
      first | exact ⟨rfl, rfl⟩ | exact ⟨trivial, rfl⟩
    · have hsk : addS acc ⟨kq, mq, uq, bq⟩ = acc := by
        rw [HADD.out, if_pos]
        have h1 := HZS.out
        rw [← HZB.out, ← HZQ.out, ← HZM.out, Bool.or_eq_true, Bool.and_eq_true, decide_eq_true_eq, decide_eq_true_eq, decide_eq_true_eq] at h1
        rcases h1 with h1 | ⟨h1, h2⟩
        · exact .inl h1
        · obtain ⟨gn, hgn, hg3, hgp, hM⟩ := HI.out.mets.get HGQ.out h1
          exact .inr ⟨hgp, h2⟩
      have HSK := Lib.hid (HI.out.skip HX.out HF2.out HBX2.out H9.out hsk)
      clear hsk
      go_wp2_with fail
      exact HK.out _ _ _ _ _ _ _ _ _ _ _ _ _ _ _ _ _ _ _ _ _ _ _ _ _ _ _ _ _ _ _ _ _ _ _ _ _ _ _ _ _ _ _ _ _ _ _ _ _ _ _ _ _ _ _ _ _ _ _ _ _ _ _ _ _ _ _ _ _ _ _ _ _ _ _ _ _ _ _ _ _ _ _ _ _ _ _ _ _ _ _ _ _ _ _ _ _ _ _ _ _ _ _ _ _ _ _ _ _ _ _ _ _ _ _ _ _ _ _ _ _ _ _ _ _ _ _ _ _ _ _ _ _ _ _ _ _ _ _ _ _ _ _ _ _ _ _ _ _ _ HSK.out
  obtain ⟨hzf, hwc⟩ := hcut
  rw [hwc]
  have hno : ¬ (40 < acc.2 + mo ∨ (0 < grp kd ∧ 0 < gv)) := fun h => by
    have h1 := HZS.out
    rw [hzf, ← HZB.out, ← HZQ.out, ← HZM.out, Bool.or_eq_false_iff, Bool.and_eq_false_iff, decide_eq_false_iff_not, decide_eq_false_iff_not, decide_eq_false_iff_not] at h1
    obtain ⟨h1, h2⟩ := h1
    rcases h with h | ⟨h, h3⟩
    · exact h1 h
    · rcases h2 with h2 | h2
      · have := gS_neg HGQ.out (by omega)
        omega
      · exact h2 h3
  have hadd2 : addS acc ⟨kq, mq, uq, bq⟩ = (acc.1 ++ [(kd, D)], acc.2 + ((bytesO (kd, D)).length : Int)) := by rw [HADD.out, if_neg hno]
  have HADD2 := Lib.hid hadd2
  have HNO := Lib.hid hno
  clear hwc hzf hno hadd2
  have hzq := HZQ.out
  go_upto_if 154 with fail
  clear hzq
  go_cut [] (fun wx => ∃ M', Met3 (acc.1 ++ [(kd, D)]) M' ∧ wx.heap[w.heap.size]? = some (.cells M' 69 (0, 0)) ∧ Keep (fun b => b ≠ w.heap.size) X4 wx)
  case first =>
    cases zq
    · have hgr0 := gS_neg HGQ.out (by have := HZQ.out; simp at this; exact this)
      have HGR := Lib.hid hgr0
      clear hgr0
      go_wp2_with fail
      go_meet
      exact ⟨M, HI.out.mets.push0 HGR.out, HMT.out, Keep.refl _ _⟩
    · obtain ⟨gn, hgn, hg3, hgp, hM⟩ := HI.out.mets.get HGQ.out (by have := HZQ.out; simpa using this)
      have HGG : Hid (gS kd = (gn : Int)) := by show _ = _; rw [← hgn]; exact HGQ.out
      rw [HGV.out] at hM
      have cm := HM0.out gn
      have fm := blk_free HMT.out gn
      rw [hM] at cm
      have hgi : (gn : Int) < 3 := by omega
      have hnn := num_nonneg acc.1 (grp kd)
      rw [HGV.out] at hnn
      have hgv0 : gv = 0 := by have := HNO.out; omega
      have HGV0 := Lib.hid hgv0
      have hw39 : IntKind.i64.wrap (gv + 1) = gv + 1 := IntWalk.i64_in _ (by omega)
      have hset := blk_set HMT.out gn (.int .i64 (gv + 1))
      have HSET := Lib.hid hset
      have hpsh := HI.out.mets.push (d := D) HGG.out
      rw [HGV.out] at hpsh
      have HPSH := Lib.hid hpsh
      subst hgn
      clear hM hgp hnn hgv0 hset hpsh
      go_wp2_with fail
      go_meet
      exact ⟨_, HPSH.out, HSET.out, (Keep.refl _ _).setCell (by simp) _ _⟩
  obtain ⟨M', hM', hm', hkw⟩ := hcut
  obtain ⟨X5, hX5⟩ : ∃ X, X = wc := ⟨_, rfl⟩
  subst hX5
  have o9 := blk_keep hkw (show b9 ≠ w.heap.size by have := HW8.out; have := H89.out; omega) HF2.out.obj
  have k0 := blk_cell o9 0
  have k1 := blk_cell o9 1
  simp at k0 k1
  have hl9 := blk_lt o9
  have hrow : X5.ownsRow (w.heap.size + 1) 36 2 u4 acc.1.length css.flatten := own_of_block (HI.out.got.below (HF2.out.frame HBX2.out H9.out)).row fun g hgn _ hlt => hkw.low g (by omega) hlt
  have HP := Lib.hid (fun (w3 : World) (v' : Value) (hg : (X5.alloc (.cells #[.int .u8 kd, .slice A2 j c2] 36)).grownBy w3 u4.ownBlock) (hr : w3.ownsRow (w.heap.size + 1) 36 2 v' (acc.1.length + 1) (css.flatten ++ [.int .u8 kd, .slice A2 j c2])) =>
    MdI.push HI.out HX.out HOK.out HF2.out HBX2.out H9.out HKD.out HDD.out HDL.out hkw hm' hM' HADD2.out hg hr)
  obtain ⟨A4, c4, hu4⟩ := own_form hrow
  subst hu4
  have HR := Lib.hid hrow
  have hX5 : w.heap.size + 1 ≤ X5.heap.size := blk_lt hm'
  have HB1 : Hid (acc.1.length + 1 ≤ maxLen) := by show _ ≤ _; have := HACL.out; unfold maxLen; omega
  have HB2 : Hid ((acc.1.length + 1) * 32 ≤ 140737488355328) := by show _ ≤ _; have := HACL.out; omega
  have HB3 : Hid (w.heap.size + 1 ≤ (X5.alloc (.cells #[.int .u8 kd, .slice A2 j c2] 36)).heap.size) := by show _ ≤ _; simp; omega
  have H1 : Hid (∀ u ∈ [Value.int .u8 kd, .slice A2 j c2], u.oneCell' = true) := by show ∀ u ∈ _, _; simp [Value.oneCell']
  obtain ⟨i0, hi, hz0, hz1, hz2⟩ := info_parts info36
  have hwa : IntKind.i64.wrap (acc.2 + mo) = acc.2 + mo := IntWalk.i64_in _ (by omega)
  clear o9 hrow hkw hm' hM'
  go_upto_region 40 with fail
  go_wp2_with (at_builtin; refine wpList_append_own _ rfl _ _ 26 rfl (w.heap.size + 1) 36 i0 (.agg #[.int .u8 0, .slice none 0 0]) 2 32 Try.underlying26 hi hz0 hz1 hz2 rfl (by decide) _ _ _ rfl (HR.out.alloc _) ⟨X5.heap.size, 0, none⟩ 1 1 [.int .u8 kd, .slice A2 j c2] rfl rfl (cell_two_new _ _ _ _) H1.out HB1.out HB2.out HB3.out ?_; intro v3 w3 hown3 hgrow3 hnil3; obtain ⟨g3, cap3, rfl⟩ := ownsRow_succ hown3; have HS3 := Lib.hid (HP.out w3 _ hgrow3 hown3); clear hown3 hgrow3 hnil3)
  rw [← HMO'.out]
  exact HK.out _ _ _ _ _ _ _ _ _ _ _ _ _ _ _ _ _ _ _ _ _ _ _ _ _ _ _ _ _ _ _ _ _ _ _ _ _ _ _ _ _ _ _ _ _ _ _ _ _ _ _ _ _ _ _ _ _ _ _ _ _ _ _ _ _ _ _ _ _ _ _ _ _ _ _ _ _ _ _ _ _ _ _ _ _ _ _ _ _ _ _ _ _ _ _ _ _ _ _ _ _ _ _ _ _ _ _ _ _ _ _ _ _ _ _ _ _ _ _ _ _ _ _ _ _ _ _ _ _ _ _ _ _ _ _ _ _ _ _ _ _ _ _ _ _ _ _ _ _ _ HS3.out

end Go.Proofs.Ytjfnnclbfaakkaa

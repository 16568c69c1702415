/-
  The walk of WindowRuns: along any packets tracks are as the reference has them. Condition: the packets are those of an argument.
-/
import Derived.Test.YtchephpmkommfaaLawTells
namespace Go.Proofs.Ytchephpmkommfaa
open Go.RowKit
set_option linter.unusedVariables false
set_option linter.unusedSimpArgs false


theorem and1_all : ∀ n : Fin 256, bits .and .u8 (n.val : Int) 1 = 0 ∨ bits .and .u8 (n.val : Int) 1 = 1 := by decide +kernel
theorem and1 (t : Int) (h : 0 ≤ t ∧ t ≤ 255) : bits .and .u8 t 1 = 0 ∨ bits .and .u8 t 1 = 1 := by
  have := and1_all ⟨t.toNat, by omega⟩
  have e : ((⟨t.toNat, by omega⟩ : Fin 256).val : Int) = t := by show (t.toNat : Int) = t; omega
  rwa [e] at this
theorem fa_of7 {cs : List Value} (h : All2 [some .u8, some .u32, some .u32, some .u16, some .u16, some .u8, some .u8, some .u8, some .u8, some .u32, some .u32, some .i64, some .i64, some .u8, some .u32, some .u32, some .u16, some .u16, some .u8] cs) : ∃ ty flags seq ack win len, cs.toArray[7]? = some (.int .u8 ty) ∧ (0 ≤ ty ∧ ty ≤ 255) ∧ Fa cs.toArray flags seq ack win len := by
  obtain ⟨flags, seq, ack, win, len, hf⟩ := fa_of h
  obtain ⟨n0, r0, rfl, w0, h0⟩ := all2_int h
  obtain ⟨n1, r1, rfl, w1, h1⟩ := all2_int h0
  obtain ⟨n2, r2, rfl, w2, h2⟩ := all2_int h1
  obtain ⟨n3, r3, rfl, w3, h3⟩ := all2_int h2
  obtain ⟨n4, r4, rfl, w4, h4⟩ := all2_int h3
  obtain ⟨n5, r5, rfl, w5, h5⟩ := all2_int h4
  obtain ⟨n6, r6, rfl, w6, h6⟩ := all2_int h5
  obtain ⟨n7, r7, rfl, w7, h7⟩ := all2_int h6
  obtain ⟨n8, r8, rfl, w8, h8⟩ := all2_int h7
  obtain ⟨n9, r9, rfl, w9, h9⟩ := all2_int h8
  obtain ⟨n10, r10, rfl, w10, h10⟩ := all2_int h9
  obtain ⟨n11, r11, rfl, w11, h11⟩ := all2_int h10
  obtain ⟨n12, r12, rfl, w12, h12⟩ := all2_int h11
  obtain ⟨n13, r13, rfl, w13, h13⟩ := all2_int h12
  obtain ⟨n14, r14, rfl, w14, h14⟩ := all2_int h13
  obtain ⟨n15, r15, rfl, w15, h15⟩ := all2_int h14
  obtain ⟨n16, r16, rfl, w16, h16⟩ := all2_int h15
  obtain ⟨n17, r17, rfl, w17, h17⟩ := all2_int h16
  obtain ⟨n18, r18, rfl, w18, h18⟩ := all2_int h17
  obtain rfl := all2_nil h18
  exact ⟨n7, flags, seq, ack, win, len, rfl, bounds_u8 w7, hf⟩

set_option maxRecDepth 100000 in
set_option maxHeartbeats 4000000 in
theorem runs_core (A : Option Addr) (css : List (List Value)) (n cap m : Nat) (w : World) (Hn : Hid (n = css.length)) (hc : n ≤ cap) (hmx : cap ≤ maxLen) (hm : (if 200 < (n : Int) then (200 : Int) else n) = m) (hm1 : m ≤ n) (hm2 : m ≤ 200)
    (HRd : Hid (Rd w A 19 css)) (HA : Hid (∀ x ∈ css, All2 [some .u8, some .u32, some .u32, some .u16, some .u16, some .u8, some .u8, some .u8, some .u8, some .u32, some .u32, some .i64, some .i64, some .u8, some .u32, some .u32, some .u16, some .u16, some .u8] x)) :
    Calls Try.prog 5 #[.slice A n cap] w fun e w' => e = .returned (.bool true) ∧ Below w.heap.size w w' := by
  unfold maxLen at *
  go_enter Try.func5, Try.ntmps5
  go_wp2_with fail
  obtain ⟨W1, hW1⟩ : ∃ W, w.alloc (.cells #[.bool false, .bool false, .int .u32 0, .int .u32 0, .int .i64 0, .bool false, .bool false, .int .u32 0, .int .u32 0, .int .i64 0] 29) = W := ⟨_, rfl⟩
  have b1 : Below w.heap.size w W1 := by rw [← hW1]; exact (Below.refl _ _).alloc (Nat.le_refl _) _
  have r1 : W1.rangeAt w.heap.size 0 (trk sd0 sd0).toList := by rw [← hW1]; exact range_new w _ _
  have t1 : W1.there w.heap.size 0 10 := by rw [← hW1]; exact there_new _ _ _ _ _ rfl rfl
  rw [hW1]
  clear hW1
  obtain ⟨bt, hbt⟩ : ∃ n, w.heap.size = n := ⟨_, rfl⟩
  rw [hbt] at r1 t1 ⊢
  go_loopw [13] (fun i wr => ∃ k : Nat, k ≤ m ∧ i = .int .i64 k ∧ Below w.heap.size w wr ∧ ∃ a b : Sd, a.wf ∧ b.wf ∧ wr.rangeAt bt 0 (trk a b).toList ∧ wr.there bt 0 10) (fun i _ => m - (intOf i).toNat)
  case atStart => exact ⟨0, Nat.zero_le _, rfl, b1, sd0, sd0, sd0_wf, sd0_wf, r1, t1⟩
  case round =>
    clear b1 r1 t1
    obtain ⟨k, hk, rfl, hb, a, b, hwa, hwb, hrt, hth⟩ := hrel
    by_cases hkl : k < m
    · obtain ⟨cs, hcs⟩ : ∃ cs, css[k]? = some cs := ⟨_, List.getElem?_eq_getElem (by have := Hn.out; omega)⟩
      obtain ⟨q, off, rfl, hlt, hcell⟩ := (HRd.out.below hb).mem (by rintro rfl; simp at hcs)
      have R0 : wr.rangeAt q (off + k * 19) cs := fun j v hv => hcell k cs hcs j v hv
      obtain ⟨F, hF⟩ : ∃ F, cs.toArray = F := ⟨_, rfl⟩
      obtain ⟨ty, flags, seq, ack, win, len, hty, hty1, hfa⟩ := fa_of7 (HA.out cs (List.mem_of_getElem? hcs))
      rw [hF] at hty hfa
      have R1 : wr.rangeAt q (off + k * 19) F.toList := by rw [← hF]; exact R0
      obtain ⟨dd, hdd⟩ : ∃ dd, bits .and .u8 ty 1 = dd := ⟨_, rfl⟩
      have hd1 : dd = 0 ∨ dd = 1 := hdd ▸ and1 ty hty1
      have hd0 : 0 ≤ dd ∧ dd ≤ 1 := by omega
      have HC1 := Lib.hid (fun W => tells_any a b F flags seq ack win len dd seq ack W hfa hwa hwb hd0.1 hfa.bs hfa.ba)
      have HC2 := Lib.hid (fun W => tells_any a b F flags seq ack win len (1 - dd) ack seq W hfa hwa hwb (by omega) hfa.ba hfa.bs)
      obtain ⟨a2, b2, hwa2, hwb2, hsee⟩ : ∃ a2 b2 : Sd, a2.wf ∧ b2.wf ∧ ∀ W, Calls Try.prog 14 #[.agg (trk a b), .int .u8 dd, .agg F] W fun e w' => e = .returned (.agg (trk a2 b2)) ∧ Below W.heap.size W w' := by
        rcases hd1 with rfl | rfl
        · exact ⟨_, b, seeS_wf a flags seq ack win len hwa hfa.ba, hwb, fun W => see0_any a b F flags seq ack win len W hfa hwa⟩
        · exact ⟨a, _, hwa, seeS_wf b flags seq ack win len hwb hfa.ba, fun W => see1_any a b F flags seq ack win len W hfa hwb⟩
      have HSEE := Lib.hid hsee
      have IF : Hid ((Try.prog.info? 34).map (·.size) = some F.toList.length) := hfa.hi
      have IF' : Hid ((Try.prog.info? 34).map (·.size) = some F.size) := by show _ = _; rw [info34, hfa.size]
      have HO := Lib.hid hfa.one
      have HSZ := Lib.hid hfa.size
      have hse := hfa.cseq
      have hac := hfa.cack
      have IT : Hid ((Try.prog.info? 29).map (·.size) = some (trk a b).toList.length) := info29
      have IT2 : Hid ((Try.prog.info? 29).map (·.size) = some (trk a2 b2).size) := info29
      have HO2 : Hid ((trk a2 b2).all (·.oneCell') = true) := by show _ = _; simp [trk, Sd.cells, Value.oneCell']
      have HS2 : Hid ((trk a2 b2).size = 10) := rfl
      have hdw : IntKind.u8.wrap (1 - dd) = 1 - dd := by unfold IntKind.wrap; simp [IntKind.bits, IntKind.signed]; omega
      clear hcell R0 hF hcs hsee hd1 hty1 hfa hlt
      obtain ⟨T, hT⟩ : ∃ T, trk a b = T := ⟨_, rfl⟩
      obtain ⟨T2, hT2⟩ : ∃ T, trk a2 b2 = T := ⟨_, rfl⟩
      rw [hT] at HC1 HC2 HSEE IT hrt
      rw [hT2] at HSEE IT2 HO2 HS2
      have hws := hb.size
      have hltb : bt < wr.heap.size := there_lt hth
      have hkm : (k : Int) < (m : Int) := by omega
      have hkd : decide ((k : Int) < (m : Int)) = true := by simpa using hkl
      go_wp2_with (first | (refine wpList_load_wide 34 _ rfl (by rfl) _ _ rfl F _ Try.underlying34 rfl IF.out ?_ ?_; · with_reducible assumption) | (refine wpList_load_wide 29 _ rfl (by rfl) _ _ rfl T _ Try.underlying29 rfl IT.out ?_ ?_; · with_reducible assumption) | (refine wpList_store_wide 34 (.tmp 5) (.tmp 16) rfl rfl wr.heap.size 0 F rfl rfl w.heap.size w IF'.out HO.out ?_ ?_ ?_ ?_; (· exact hb.alloc hb.size _); (· omega); (· rw [HSZ.out]; exact there_new _ _ _ _ _ rfl rfl); intro V dV zV RF kV tV cV; have RT := kV _ _ _ (by omega) (World.rangeAt_alloc hrt _); have TT := tV _ _ _ (World.there_alloc hth _); have c7 := fcell RF 7 _ hty; have c9 := fcell RF 9 _ hse; have c10 := fcell RF 10 _ hac; clear kV tV cV))
      have hlF : wr.heap.size < V.heap.size := cell_lt c7
      have hlT : bt < V.heap.size := by omega
      refine (HC1.out _).mono ?_
      rintro e w2 ⟨rfl, hb2⟩
      have RT2 := range_below hb2 hlT RT
      have RF2 := range_below hb2 hlF RF
      have TT2 := there_below hb2 hlT TT
      have g9 := fcell RF2 9 _ hse
      have g10 := fcell RF2 10 _ hac
      have d2 := bthen dV hb2
      have l2F : wr.heap.size < w2.heap.size := cell_lt g9
      have l2T : bt < w2.heap.size := by omega
      clear RT RF TT c7 c9 c10 hb2 dV hlF hlT zV hrt hth R1 hb
      go_wp2_with (first | (refine wpList_load_wide 34 _ rfl (by rfl) _ _ rfl F _ Try.underlying34 rfl IF.out ?_ ?_; · with_reducible assumption) | (refine wpList_load_wide 29 _ rfl (by rfl) _ _ rfl T _ Try.underlying29 rfl IT.out ?_ ?_; · with_reducible assumption))
      refine (HC2.out _).mono ?_
      rintro e w3 ⟨rfl, hb3⟩
      have RT3 := range_below hb3 l2T RT2
      have RF3 := range_below hb3 l2F RF2
      have TT3 := there_below hb3 l2T TT2
      have d3 := bthen d2 hb3
      have l3T : bt < w3.heap.size := Nat.lt_of_lt_of_le l2T hb3.size
      clear RT2 RF2 TT2 g9 g10 hb3 d2 l2F l2T
      go_wp2_with (first | (refine wpList_load_wide 34 _ rfl (by rfl) _ _ rfl F _ Try.underlying34 rfl IF.out ?_ ?_; · with_reducible assumption) | (refine wpList_load_wide 29 _ rfl (by rfl) _ _ rfl T _ Try.underlying29 rfl IT.out ?_ ?_; · with_reducible assumption))
      refine (HSEE.out _).mono ?_
      rintro e w4 ⟨rfl, hb4⟩
      have TT4 := there_below hb4 l3T TT3
      have d4 := bthen d3 hb4
      clear RT3 RF3 TT3 hb4 d3 l3T
      go_wp2_with (first | (refine wpList_store_wide 29 (.tmp 3) (.tmp 44) rfl rfl bt 0 T2 rfl rfl w.heap.size w IT2.out HO2.out ?_ ?_ ?_ ?_; (· with_reducible assumption); (· omega); (· rw [HS2.out]; with_reducible assumption); intro V5 dV5 zV5 RT5 kV5 tV5 cV5; have TT5 := tV5 _ _ _ TT4; clear kV5 tV5 cV5 zV5))
      go_roundw
      case rel => exact ⟨k + 1, by omega, by go_num, dV5, a2, b2, hwa2, hwb2, by rw [hT2]; exact RT5, TT5⟩
      case measure => simp [intOf]; omega
    · obtain rfl : k = m := by omega
      have hkd : decide ((k : Int) < (k : Int)) = false := by simp
      go_wp2_with fail
      refine (awake_any _).mono ?_
      rintro e w2 ⟨rfl, hb2⟩
      go_wp2_with fail
      go_ret
      exact ⟨rfl, bthen hb hb2⟩
theorem facts_rows {A : Option Addr} {cap : Nat} {css : List (List Value)} {w : World} (hle : css.length ≤ cap) (hmx : cap ≤ maxLen) (hnil : A = none → css = [] ∧ cap = 0) (hrd : Rd w A 19 css) (hall : ∀ cs ∈ css, All2 [some .u8, some .u32, some .u32, some .u16, some .u16, some .u8, some .u8, some .u8, some .u8, some .u32, some .u32, some .i64, some .i64, some .u8, some .u32, some .u32, some .u16, some .u16, some .u8] cs) :
    ∃ l : List (List Value), css.length = l.length ∧ (cap ≤ maxLen ∧ Rd w A 19 l ∧ ∀ x ∈ l, All2 [some .u8, some .u32, some .u32, some .u16, some .u16, some .u8, some .u8, some .u8, some .u8, some .u32, some .u32, some .i64, some .i64, some .u8, some .u32, some .u32, some .u16, some .u16, some .u8] x) := ⟨css, rfl, hmx, hrd, hall⟩
theorem windowRuns_walk (A : Option Addr) (css : List (List Value)) (n cap : Nat) (w : World) (hn : n = css.length) (hle0 : n ≤ cap) (hp : cap ≤ maxLen ∧ Rd w A 19 css ∧ ∀ x ∈ css, All2 [some .u8, some .u32, some .u32, some .u16, some .u16, some .u8, some .u8, some .u8, some .u8, some .u32, some .u32, some .i64, some .i64, some .u8, some .u32, some .u32, some .u16, some .u16, some .u8] x) :
    Calls Try.prog 5 #[.slice A n cap] w fun e w' => e = .returned (.bool true) ∧ Below w.heap.size w w' :=
  runs_core A css n cap (min n 200) w hn hle0 hp.1 (by split <;> omega) (by omega) (by omega) hp.2.1 hp.2.2

end Go.Proofs.Ytchephpmkommfaa

/-
  The contract of the laws' own 'runs': stream.Run against the reference, packet by packet; the packets are not modified.
-/
import Derived.Test.YtjmcpgagbjmfgaaDoorRun
import Derived.StillTailTactics
namespace Go.Proofs.YtjmcpgagbjmfgaaDoor
open Go.RowKit
set_option linter.unusedVariables false
set_option linter.unusedSimpArgs false

set_option maxHeartbeats 1000000 in
theorem neq_self (d n0 n1 n2 n3 n4 n5 n6 n7 n8 n9 n10 n11 n12 n13 n14 n15 n16 n17 n18 : Int) (w : World) :
    (binOp .neq 35 (.agg #[.int .u8 d, .int .u8 n0, .int .u32 n1, .int .u32 n2, .int .u16 n3, .int .u16 n4, .int .u8 n5, .int .u8 n6, .int .u8 n7, .int .u8 n8, .int .u32 n9, .int .u32 n10, .int .i64 n11, .int .i64 n12, .int .u8 n13, .int .u32 n14, .int .u32 n15, .int .u16 n16, .int .u16 n17, .int .u8 n18]) (.agg #[.int .u8 d, .int .u8 n0, .int .u32 n1, .int .u32 n2, .int .u16 n3, .int .u16 n4, .int .u8 n5, .int .u8 n6, .int .u8 n7, .int .u8 n8, .int .u32 n9, .int .u32 n10, .int .i64 n11, .int .i64 n12, .int .u8 n13, .int .u32 n14, .int .u32 n15, .int .u16 n16, .int .u16 n17, .int .u8 n18])).run Tryd.prog w = .ok (.bool false) w := by
  go_simp

theorem PktOk.neq {p : Pkt} (h : PktOk p) (w : World) : (binOp .neq 35 (.agg (pcs p).toArray) (.agg (pcs p).toArray)).run Tryd.prog w = .ok (.bool false) w := by
  have ha := h.all
  unfold pcs
  generalize p.F = F at *
  unfold K19 at ha
  obtain ⟨n0, r0, rfl, _, h0⟩ := all2_int ha
  obtain ⟨n1, r1, rfl, _, h1⟩ := all2_int h0
  obtain ⟨n2, r2, rfl, _, h2⟩ := all2_int h1
  obtain ⟨n3, r3, rfl, _, h3⟩ := all2_int h2
  obtain ⟨n4, r4, rfl, _, h4⟩ := all2_int h3
  obtain ⟨n5, r5, rfl, _, h5⟩ := all2_int h4
  obtain ⟨n6, r6, rfl, _, h6⟩ := all2_int h5
  obtain ⟨n7, r7, rfl, _, h7⟩ := all2_int h6
  obtain ⟨n8, r8, rfl, _, h8⟩ := all2_int h7
  obtain ⟨n9, r9, rfl, _, h9⟩ := all2_int h8
  obtain ⟨n10, r10, rfl, _, h10⟩ := all2_int h9
  obtain ⟨n11, r11, rfl, _, h11⟩ := all2_int h10
  obtain ⟨n12, r12, rfl, _, h12⟩ := all2_int h11
  obtain ⟨n13, r13, rfl, _, h13⟩ := all2_int h12
  obtain ⟨n14, r14, rfl, _, h14⟩ := all2_int h13
  obtain ⟨n15, r15, rfl, _, h15⟩ := all2_int h14
  obtain ⟨n16, r16, rfl, _, h16⟩ := all2_int h15
  obtain ⟨n17, r17, rfl, _, h17⟩ := all2_int h16
  obtain ⟨n18, r18, rfl, _, h18⟩ := all2_int h17
  obtain rfl := all2_nil h18
  exact neq_self _ _ _ _ _ _ _ _ _ _ _ _ _ _ _ _ _ _ _ _ w
theorem wpStill_load_wide {P : Program} {ops : Array Oper} {rest : List Oper} {op : Oper} {a : Act} {w : World} {Q : Act → Prop} (ty : TypeId) (x : Operand) (ho : op.op = .load ty x) (hw : Region.wanted op (yielded ops a.tmps) = true)
    (b o : Nat) (hx : a.eval x = .pointer (some ⟨b, o, none⟩)) (F : Array Value) (d : TypeDesc) (hu : P.underlying ty = some d) (hd : d.isRow = true) (hi : (P.info? ty).map (·.size) = some F.toList.length) (hc : w.rangeAt b o F.toList)
    (h : wpStill P ops w Q rest (a.put op.dst (.agg F))) : wpStill P ops w Q (op :: rest) a :=
  wpStill_step fun K hK => by
    rw [if_pos hw]
    unfold Oper.still execOp
    simp only [ho, hx, Instr.loadAt, Instr.sureAddr, Sem.run_bind, Sem.run_pure, Result.andThen_ok, run_loadVar_mid w b o ty F.toList d hc hu hd hi]
    exact ⟨rfl, hK _ (by simpa using h)⟩

theorem info35b : (Tryd.prog.info? 35).map (fun i => (i.zero, i.size, i.bytes)) = some (some (.agg #[.int .u8 0, .int .u8 0, .int .u32 0, .int .u32 0, .int .u16 0, .int .u16 0, .int .u8 0, .int .u8 0, .int .u8 0, .int .u8 0, .int .u32 0, .int .u32 0, .int .i64 0, .int .i64 0, .int .u8 0, .int .u32 0, .int .u32 0, .int .u16 0, .int .u16 0, .int .u8 0]), 20, 80) := by kernel_rfl
theorem mx2000 : 2000 ≤ maxLen := by decide
theorem own_cap {w : World} {base : Nat} {e : TypeId} {size n cap g : Nat} {xs : List Value} (h : w.ownsRow base e size (.slice (some ⟨g, 0, none⟩) n cap) n xs) : n ≤ cap := by
  rcases h.2 with ⟨h, _⟩ | ⟨g', cap', cur, h, _, _, hc, _⟩
  · cases h
  · cases h
    exact hc
/-- The packets and their copy. -/
structure Copied (w : World) (b off g : Nat) (l : List Pkt) : Prop where
  old : Pkts w (some ⟨b, off, none⟩) l
  new : Pkts w (some ⟨g, 0, none⟩) l
theorem Copied.below {w w' : World} {b off g : Nat} {l : List Pkt} (h : Copied w b off g l) (hb : Below w.heap.size w w') : Copied w' b off g l := ⟨h.old.below hb, h.new.below hb⟩

theorem runs_long (A : Option Addr) (n c : Nat) (w : World) (h : 300 < n) : Calls Tryd.prog 18 #[.slice A n c] w fun e w' => e = .returned (.bool true) ∧ Below w.heap.size w w' := by
  have h1 : (300 : Int) < n := by omega
  go_enter Tryd.func18, Tryd.ntmps18
  go_wp2_with fail
  go_ret
  exact ⟨rfl, Below.refl _ _⟩

set_option maxRecDepth 100000 in
set_option maxHeartbeats 4000000 in
theorem runs_nodir (b off : Nat) (p0 : Pkt) (r : List Pkt) (c : Nat) (w : World) (hnc : r.length + 1 ≤ c) (hl : r.length + 1 ≤ 300) (hmx : c ≤ maxLen) (HA : Hid (Ans w)) (HP : Hid (Pkts w (some ⟨b, off, none⟩) (p0 :: r))) (hd : Hid ((p0.d == 0) = false)) :
    Calls Tryd.prog 18 #[.slice (some ⟨b, off, none⟩) (r.length + 1) c] w fun e w' => e = .returned (.bool true) ∧ Below w.heap.size w w' := by
  have hb15 : decide ((300 : Int) < r.length + 1) = false := by simp; omega
  have hb16 : decide ((0 : Int) < r.length + 1) = true := by first | (simp; done) | (simp; omega)
  obtain ⟨i0, hi, hz0, hz1, hz2⟩ := info_parts info35b
  have hmx1 : 2000 ≤ maxLen := mx2000
  have hok := HP.out.ok
  have hnews := Lib.hid (HP.out.rd.below ((Below.refl _ _).alloc (Nat.le_refl _) (.cells #[] 35)))
  have hl2 : ((p0 :: r).map pcs).flatten.length = (r.length + 1) * 20 := by have := flatten_length (pcs_each (p0 :: r) hok); simpa using this
  have hone : ∀ u ∈ ((p0 :: r).map pcs).flatten, u.oneCell' = true := by
    intro u hu
    obtain ⟨cs, hcs, hu⟩ := List.mem_flatten.1 hu
    obtain ⟨p, hp, rfl⟩ := List.mem_map.1 hcs
    rcases List.mem_cons.1 hu with rfl | hu
    · rfl
    · exact (hok p hp).one u hu
  have hL2 := Lib.hid hl2
  have Hone := Lib.hid hone
  have Hok := Lib.hid hok
  clear hl2 hone hok
  go_enter Tryd.func18, Tryd.ntmps18
  go_wp2_with (at_builtin; refine wpList_append_lies _ rfl _ _ 49 rfl w.heap.size 35 i0 _ 20 80 Tryd.underlying49 hi hz0 hz1 hz2 rfl (by decide) _ 0 [] rfl ⟨rfl, .inr ⟨w.heap.size, 0, #[], rfl, Nat.le_refl _, heap_alloc_new _ _, Nat.le_refl _, Nat.zero_le _, rfl, rfl⟩⟩ ⟨b, off, none⟩ (r.length + 1) c ((p0 :: r).map pcs).flatten rfl hL2.out (hnews.out.news (by decide)) Hone.out ?_ ?_ ?_ ?_ (w.heap.size + 1) (by simp) ?_; omega; omega; omega; (simp <;> omega); intro g cap w1 hown hgrow hat hglt)
  have b1 : Below w.heap.size w w1 := ((Below.refl _ _).alloc (Nat.le_refl _) _).grown hgrow (by simp) (fun k hk => by cases hk; exact Nat.le_refl _)
  simp only [Nat.zero_add, List.nil_append] at hown ⊢
  have hcap := own_cap hown
  have HC1 := Lib.hid (show Copied w1 b off g (p0 :: r) from ⟨HP.out.below b1, ⟨Hok.out, HP.out.len, Rd.of_own hown (pcs_each _ Hok.out) hglt⟩⟩)
  clear hown hgrow hat hnews hL2 Hone
  go_wp2_with fail
  refine (run_any (some ⟨g, 0, none⟩) (p0 :: r) _ cap w1 (by simp) hcap (HA.out.below b1) HC1.out.new).mono ?_
  rintro e w2 ⟨he, hb2⟩
  have hrun : runS (p0 :: r) = ((0, 0, 0), 0) := by simp [runS]; intro h; exact absurd h (by simpa using hd.out)
  rw [hrun] at he
  subst he
  have b2 := bthen b1 hb2
  have HC2 := Lib.hid (HC1.out.below hb2)
  have hr0 := HC2.out.old.at_ (i := 0) rfl
  rw [Nat.zero_mul, Nat.add_zero] at hr0
  obtain ⟨q0, Rq⟩ := range_tail hr0
  have hbl : b < w2.heap.size := cell_lt q0
  have hd1 := hd.out
  clear hb2 b1 HC1 hr0 Rq hrun
  generalize p0.d = d0 at q0 hd1
  go_wp2_with fail
  generalize hW : World.alloc (World.alloc w2 _) _ = wo
  have hwo : Below w2.heap.size w2 wo := by subst hW; exact ((Below.refl _ _).alloc (Nat.le_refl _) _).alloc (by simp) _
  have HC := Lib.hid (HC2.out.below hwo)
  have bo := bthen b2 hwo
  have CX : C3 wo w2.heap.size (0, 0, 0) := by subst hW; exact ⟨by simp [go_sem], by simp [go_sem], by simp [go_sem], by simp [go_sem], by simp [go_sem], by simp [go_sem]⟩
  have CY : C3 wo (w2.heap.size + 1) (0, 0, 0) := by subst hW; exact ⟨by simp [go_sem], by simp [go_sem], by simp [go_sem], by simp [go_sem], by simp [go_sem], by simp [go_sem]⟩
  clear hW hwo HC2 b2 q0 hbl
  have HCX := Lib.hid CX
  have HCY := Lib.hid CY
  clear CX CY
  go_wp2_with fail
  go_loopw [70] (fun i wr => ∃ k : Nat, k ≤ r.length + 1 ∧ i = .int .i64 k ∧ Below wo.heap.size wo wr) (fun i _ => r.length + 1 - (intOf i).toNat)
  case atStart => exact ⟨0, Nat.zero_le _, rfl, Below.refl _ _⟩
  case round =>
    obtain ⟨k, hk, rfl, hb4⟩ := hrel
    by_cases hkl : k < r.length + 1
    · obtain ⟨p, hrk⟩ : ∃ p, (p0 :: r)[k]? = some p := ⟨_, List.getElem?_eq_getElem (by simpa using hkl)⟩
      have hpk := HC.out.old.ok p (List.mem_of_getElem? hrk)
      have R1 := (HC.out.old.below hb4).at_ hrk
      have R2 := (HC.out.new.below hb4).at_ hrk
      rw [Nat.zero_add] at R2
      have hneq := hpk.neq
      have hi35 : (Tryd.prog.info? 35).map (·.size) = some (pcs p).toArray.toList.length := by rw [info35]; simp [hpk.len20]
      obtain ⟨V, hV⟩ : ∃ V, (pcs p).toArray = V := ⟨_, rfl⟩
      have S1 : wr.rangeAt b (off + k * 20) V.toList := by rw [← hV]; simpa using R1
      have S2 : wr.rangeAt g (k * 20) V.toList := by rw [← hV]; simpa using R2
      rw [hV] at hneq hi35
      have I35 := Lib.hid hi35
      have hk0 : (0 : Int) ≤ (k : Int) := by omega
      have hk1 : (k : Int) < (r.length : Int) + 1 := by omega
      have hkd : decide ((k : Int) < (r.length : Int) + 1) = true := by simpa using hk1
      clear hrk hpk R1 R2 hV hi35
      go_wp2_with fail
      refine wp_region_still_lit (by kernel_rfl) (by kernel_rfl) ?_
      iterate 3 still_step
      refine wpStill_load_wide 35 _ rfl (by rfl) _ _ rfl V _ Tryd.underlying35 rfl I35.out ((World.rangeAt_drew _ _ _ _).2 S2) ?_
      iterate 3 still_step
      refine wpStill_load_wide 35 _ rfl (by rfl) _ _ rfl V _ Tryd.underlying35 rfl I35.out ((World.rangeAt_drew _ _ _ _).2 S1) ?_
      still_step
      refine wpStill_nil ?_
      clear hneq S1 S2
      go_wp2_with fail
      go_roundw
      case rel => exact ⟨k + 1, by omega, by go_num, hb4.drew⟩
      case measure => simp [intOf]; omega
    · have hkd : decide ((k : Int) < (r.length : Int) + 1) = false := by simp; omega
      obtain ⟨c0, c1, c2, _, _, _⟩ := HCX.out.below hb4
      obtain ⟨d0, d1, d2, _, _, _⟩ := HCY.out.below hb4
      simp only at c0 c1 c2 d0 d1 d2
      go_wp2_with fail
      go_ret
      exact ⟨by first | rfl | simp, bthen bo hb4⟩

set_option maxRecDepth 100000 in
set_option maxHeartbeats 4000000 in
theorem runs_noopen (b off : Nat) (p0 : Pkt) (r : List Pkt) (c : Nat) (w : World) (hnc : r.length + 1 ≤ c) (hl : r.length + 1 ≤ 300) (hmx : c ≤ maxLen) (HA : Hid (Ans w)) (HP : Hid (Pkts w (some ⟨b, off, none⟩) (p0 :: r))) (hd : Hid (p0.d = 0)) (ho : Hid (opens p0.kind p0.typ = false)) :
    Calls Tryd.prog 18 #[.slice (some ⟨b, off, none⟩) (r.length + 1) c] w fun e w' => e = .returned (.bool true) ∧ Below w.heap.size w w' := by
  have hb15 : decide ((300 : Int) < r.length + 1) = false := by simp; omega
  have hb16 : decide ((0 : Int) < r.length + 1) = true := by first | (simp; done) | (simp; omega)
  obtain ⟨i0, hi, hz0, hz1, hz2⟩ := info_parts info35b
  have hmx1 : 2000 ≤ maxLen := mx2000
  have hok := HP.out.ok
  have hnews := Lib.hid (HP.out.rd.below ((Below.refl _ _).alloc (Nat.le_refl _) (.cells #[] 35)))
  have hl2 : ((p0 :: r).map pcs).flatten.length = (r.length + 1) * 20 := by have := flatten_length (pcs_each (p0 :: r) hok); simpa using this
  have hone : ∀ u ∈ ((p0 :: r).map pcs).flatten, u.oneCell' = true := by
    intro u hu
    obtain ⟨cs, hcs, hu⟩ := List.mem_flatten.1 hu
    obtain ⟨p, hp, rfl⟩ := List.mem_map.1 hcs
    rcases List.mem_cons.1 hu with rfl | hu
    · rfl
    · exact (hok p hp).one u hu
  have hL2 := Lib.hid hl2
  have Hone := Lib.hid hone
  have Hok := Lib.hid hok
  clear hl2 hone hok
  go_enter Tryd.func18, Tryd.ntmps18
  go_wp2_with (at_builtin; refine wpList_append_lies _ rfl _ _ 49 rfl w.heap.size 35 i0 _ 20 80 Tryd.underlying49 hi hz0 hz1 hz2 rfl (by decide) _ 0 [] rfl ⟨rfl, .inr ⟨w.heap.size, 0, #[], rfl, Nat.le_refl _, heap_alloc_new _ _, Nat.le_refl _, Nat.zero_le _, rfl, rfl⟩⟩ ⟨b, off, none⟩ (r.length + 1) c ((p0 :: r).map pcs).flatten rfl hL2.out (hnews.out.news (by decide)) Hone.out ?_ ?_ ?_ ?_ (w.heap.size + 1) (by simp) ?_; omega; omega; omega; (simp <;> omega); intro g cap w1 hown hgrow hat hglt)
  have b1 : Below w.heap.size w w1 := ((Below.refl _ _).alloc (Nat.le_refl _) _).grown hgrow (by simp) (fun k hk => by cases hk; exact Nat.le_refl _)
  simp only [Nat.zero_add, List.nil_append] at hown ⊢
  have hcap := own_cap hown
  have HC1 := Lib.hid (show Copied w1 b off g (p0 :: r) from ⟨HP.out.below b1, ⟨Hok.out, HP.out.len, Rd.of_own hown (pcs_each _ Hok.out) hglt⟩⟩)
  clear hown hgrow hat hnews hL2 Hone
  go_wp2_with fail
  refine (run_any (some ⟨g, 0, none⟩) (p0 :: r) _ cap w1 (by simp) hcap (HA.out.below b1) HC1.out.new).mono ?_
  rintro e w2 ⟨he, hb2⟩
  have hrun : runS (p0 :: r) = ((0, 0, 0), 0) := by simp [runS, ho.out]
  rw [hrun] at he
  subst he
  have b2 := bthen b1 hb2
  have HC2 := Lib.hid (HC1.out.below hb2)
  have hr0 := HC2.out.old.at_ (i := 0) rfl
  rw [Nat.zero_mul, Nat.add_zero] at hr0
  obtain ⟨q0, Rq⟩ := range_tail hr0
  have hbl : b < w2.heap.size := cell_lt q0
  rw [hd.out] at q0
  have hp0 := Hok.out p0 (by simp)
  have HI9 := Lib.hid hp0.fa.hi
  obtain ⟨F0, hF0⟩ : ∃ F0, p0.F.toArray = F0 := ⟨_, rfl⟩
  have hRq : w2.rangeAt b (off + 1) F0.toList := by rw [← hF0]; simpa using Rq
  rw [hF0] at HI9
  have hfa : Hid (Fa F0 p0.kind p0.typ) := by rw [← hF0]; exact hp0.fa
  clear hb2 b1 HC1 hr0 Rq hrun hp0 hF0
  go_wp2_with (refine wpList_load_wide 29 _ rfl (by rfl) _ _ rfl F0 _ Tryd.underlying29 rfl HI9.out ?_ ?_; · (repeat (first | with_reducible exact hRq | refine World.rangeAt_alloc ?_ _)))
  refine (ropen_is F0 p0.kind p0.typ (0, 0, 0) false _ hfa.out (by rw [opn, ho.out]; rfl) ho.out).mono ?_
  rintro e w3 ⟨rfl, hb3⟩
  have hw3 : Below w2.heap.size w2 w3 := bthen (((Below.refl _ _).alloc (Nat.le_refl _) _).alloc (by simp) _) hb3
  have CX3 : C3 w3 w2.heap.size (0, 0, 0) := C3.below ⟨by simp [go_sem], by simp [go_sem], by simp [go_sem], by simp [go_sem], by simp [go_sem], by simp [go_sem]⟩ hb3
  have CY3 : C3 w3 (w2.heap.size + 1) (0, 0, 0) := C3.below ⟨by simp [go_sem], by simp [go_sem], by simp [go_sem], by simp [go_sem], by simp [go_sem], by simp [go_sem]⟩ hb3
  clear hb3
  go_wp2_with fail
  generalize hW : World.alloc w3 _ = wo
  have hw3o : Below w3.heap.size w3 wo := by subst hW; exact (Below.refl _ _).alloc (Nat.le_refl _) _
  have hwo := bthen hw3 hw3o
  have HC := Lib.hid (HC2.out.below hwo)
  have bo := bthen b2 hwo
  have CX := CX3.below hw3o
  have CY := CY3.below hw3o
  clear hW hwo HC2 b2 q0 hbl hw3 hw3o CX3 CY3 hRq
  have HCX := Lib.hid CX
  have HCY := Lib.hid CY
  clear CX CY
  go_wp2_with fail
  go_loopw [70] (fun i wr => ∃ k : Nat, k ≤ r.length + 1 ∧ i = .int .i64 k ∧ Below wo.heap.size wo wr) (fun i _ => r.length + 1 - (intOf i).toNat)
  case atStart => exact ⟨0, Nat.zero_le _, rfl, Below.refl _ _⟩
  case round =>
    obtain ⟨k, hk, rfl, hb4⟩ := hrel
    by_cases hkl : k < r.length + 1
    · obtain ⟨p, hrk⟩ : ∃ p, (p0 :: r)[k]? = some p := ⟨_, List.getElem?_eq_getElem (by simpa using hkl)⟩
      have hpk := HC.out.old.ok p (List.mem_of_getElem? hrk)
      have R1 := (HC.out.old.below hb4).at_ hrk
      have R2 := (HC.out.new.below hb4).at_ hrk
      rw [Nat.zero_add] at R2
      have hneq := hpk.neq
      have hi35 : (Tryd.prog.info? 35).map (·.size) = some (pcs p).toArray.toList.length := by rw [info35]; simp [hpk.len20]
      obtain ⟨V, hV⟩ : ∃ V, (pcs p).toArray = V := ⟨_, rfl⟩
      have S1 : wr.rangeAt b (off + k * 20) V.toList := by rw [← hV]; simpa using R1
      have S2 : wr.rangeAt g (k * 20) V.toList := by rw [← hV]; simpa using R2
      rw [hV] at hneq hi35
      have I35 := Lib.hid hi35
      have hk0 : (0 : Int) ≤ (k : Int) := by omega
      have hk1 : (k : Int) < (r.length : Int) + 1 := by omega
      have hkd : decide ((k : Int) < (r.length : Int) + 1) = true := by simpa using hk1
      clear hrk hpk R1 R2 hV hi35
      go_wp2_with fail
      refine wp_region_still_lit (by kernel_rfl) (by kernel_rfl) ?_
      iterate 3 still_step
      refine wpStill_load_wide 35 _ rfl (by rfl) _ _ rfl V _ Tryd.underlying35 rfl I35.out ((World.rangeAt_drew _ _ _ _).2 S2) ?_
      iterate 3 still_step
      refine wpStill_load_wide 35 _ rfl (by rfl) _ _ rfl V _ Tryd.underlying35 rfl I35.out ((World.rangeAt_drew _ _ _ _).2 S1) ?_
      still_step
      refine wpStill_nil ?_
      clear hneq S1 S2
      go_wp2_with fail
      go_roundw
      case rel => exact ⟨k + 1, by omega, by go_num, hb4.drew⟩
      case measure => simp [intOf]; omega
    · have hkd : decide ((k : Int) < (r.length : Int) + 1) = false := by simp; omega
      obtain ⟨c0, c1, c2, _, _, _⟩ := HCX.out.below hb4
      obtain ⟨d0, d1, d2, _, _, _⟩ := HCY.out.below hb4
      simp only at c0 c1 c2 d0 d1 d2
      go_wp2_with fail
      go_ret
      exact ⟨by first | rfl | simp, bthen bo hb4⟩

set_option maxRecDepth 100000 in
set_option maxHeartbeats 4000000 in
theorem runs_yes (b off : Nat) (p0 : Pkt) (r : List Pkt) (c : Nat) (w : World) (hnc : r.length + 1 ≤ c) (hl : r.length + 1 ≤ 300) (hmx : c ≤ maxLen) (HA : Hid (Ans w)) (HP : Hid (Pkts w (some ⟨b, off, none⟩) (p0 :: r))) (hc1 : ¬ c = 1) (hd : Hid (p0.d = 0)) (ho : Hid (opens p0.kind p0.typ = true)) :
    Calls Tryd.prog 18 #[.slice (some ⟨b, off, none⟩) (r.length + 1) c] w fun e w' => e = .returned (.bool true) ∧ Below w.heap.size w w' := by
  have hb15 : decide ((300 : Int) < r.length + 1) = false := by simp; omega
  have hb16 : decide ((0 : Int) < r.length + 1) = true := by first | (simp; done) | (simp; omega)
  have hfb := (HP.out.ok p0 (by simp)).fa
  have hon : FlOk (opn p0.kind p0.typ) := opn_ok _ _ hfb.bk hfb.bt
  obtain ⟨X, hX⟩ : ∃ X, opn p0.kind p0.typ = X := ⟨_, rfl⟩
  rw [hX] at hon
  have HX := Lib.hid hX
  have hrun : runS (p0 :: r) = r.foldl gS (X, 1) := by simp [runS, ho.out, hd.out, hX]
  have Hrun := Lib.hid hrun
  clear hX hrun hfb
  obtain ⟨i0, hi, hz0, hz1, hz2⟩ := info_parts info35b
  have hmx1 : 2000 ≤ maxLen := mx2000
  have hok := HP.out.ok
  have hnews := Lib.hid (HP.out.rd.below ((Below.refl _ _).alloc (Nat.le_refl _) (.cells #[] 35)))
  have hl2 : ((p0 :: r).map pcs).flatten.length = (r.length + 1) * 20 := by have := flatten_length (pcs_each (p0 :: r) hok); simpa using this
  have hone : ∀ u ∈ ((p0 :: r).map pcs).flatten, u.oneCell' = true := by
    intro u hu
    obtain ⟨cs, hcs, hu⟩ := List.mem_flatten.1 hu
    obtain ⟨p, hp, rfl⟩ := List.mem_map.1 hcs
    rcases List.mem_cons.1 hu with rfl | hu
    · rfl
    · exact (hok p hp).one u hu
  have hL2 := Lib.hid hl2
  have Hone := Lib.hid hone
  have Hok := Lib.hid hok
  clear hl2 hone hok
  go_enter Tryd.func18, Tryd.ntmps18
  go_wp2_with (at_builtin; refine wpList_append_lies _ rfl _ _ 49 rfl w.heap.size 35 i0 _ 20 80 Tryd.underlying49 hi hz0 hz1 hz2 rfl (by decide) _ 0 [] rfl ⟨rfl, .inr ⟨w.heap.size, 0, #[], rfl, Nat.le_refl _, heap_alloc_new _ _, Nat.le_refl _, Nat.zero_le _, rfl, rfl⟩⟩ ⟨b, off, none⟩ (r.length + 1) c ((p0 :: r).map pcs).flatten rfl hL2.out (hnews.out.news (by decide)) Hone.out ?_ ?_ ?_ ?_ (w.heap.size + 1) (by simp) ?_; omega; omega; omega; (simp <;> omega); intro g cap w1 hown hgrow hat hglt)
  have b1 : Below w.heap.size w w1 := ((Below.refl _ _).alloc (Nat.le_refl _) _).grown hgrow (by simp) (fun k hk => by cases hk; exact Nat.le_refl _)
  simp only [Nat.zero_add, List.nil_append] at hown ⊢
  have hcap := own_cap hown
  have HC1 := Lib.hid (show Copied w1 b off g (p0 :: r) from ⟨HP.out.below b1, ⟨Hok.out, HP.out.len, Rd.of_own hown (pcs_each _ Hok.out) hglt⟩⟩)
  clear hown hgrow hat hnews hL2 Hone
  go_wp2_with fail
  refine (run_any (some ⟨g, 0, none⟩) (p0 :: r) _ cap w1 (by simp) hcap (HA.out.below b1) HC1.out.new).mono ?_
  rintro e w2 ⟨he, hb2⟩
  rw [Hrun.out] at he
  obtain ⟨E, hE⟩ : ∃ E, r.foldl gS (X, 1) = E := ⟨_, rfl⟩
  rw [hE] at he
  have HE := Lib.hid hE
  clear hE
  obtain ⟨⟨a1, a2, a3⟩, m⟩ := E
  simp only at he
  subst he
  have b2 := bthen b1 hb2
  have HC2 := Lib.hid (HC1.out.below hb2)
  have hr0 := HC2.out.old.at_ (i := 0) rfl
  rw [Nat.zero_mul, Nat.add_zero] at hr0
  obtain ⟨q0, Rq⟩ := range_tail hr0
  have hbl : b < w2.heap.size := cell_lt q0
  rw [hd.out] at q0
  have hp0 := Hok.out p0 (by simp)
  have HI9 := Lib.hid hp0.fa.hi
  obtain ⟨F0, hF0⟩ : ∃ F0, p0.F.toArray = F0 := ⟨_, rfl⟩
  have hRq : w2.rangeAt b (off + 1) F0.toList := by rw [← hF0]; simpa using Rq
  rw [hF0] at HI9
  have hfa : Hid (Fa F0 p0.kind p0.typ) := by rw [← hF0]; exact hp0.fa
  clear hb2 b1 HC1 hr0 Rq hp0 hF0
  go_wp2_with (refine wpList_load_wide 29 _ rfl (by rfl) _ _ rfl F0 _ Tryd.underlying29 rfl HI9.out ?_ ?_; · (repeat (first | with_reducible exact hRq | refine World.rangeAt_alloc ?_ _)))
  refine (ropen_is F0 p0.kind p0.typ X true _ hfa.out HX.out ho.out).mono ?_
  rintro e w3 ⟨rfl, hb3⟩
  obtain ⟨x1, x2, x3⟩ := X
  simp only
  have hw3 : Below w2.heap.size w2 w3 := bthen (((Below.refl _ _).alloc (Nat.le_refl _) _).alloc (by simp) _) hb3
  obtain ⟨x4, hx4⟩ : ∃ x4, w2.heap.size = x4 := ⟨_, rfl⟩
  have CX3 : C3 w3 w2.heap.size (a1, a2, a3) := C3.below ⟨by simp [go_sem], by simp [go_sem], by simp [go_sem], by simp [go_sem], by simp [go_sem], by simp [go_sem]⟩ hb3
  have CY3 : C3 w3 (w2.heap.size + 1) (0, 0, 0) := C3.below ⟨by simp [go_sem], by simp [go_sem], by simp [go_sem], by simp [go_sem], by simp [go_sem], by simp [go_sem]⟩ hb3
  rw [hx4] at CX3 CY3 hw3
  have HC2' := Lib.hid HC2.out
  have hx5 := b2.size
  rw [hx4] at hx5 ⊢
  obtain ⟨c0, c1, c2, f0, f1, f2⟩ := CY3
  simp only at c0 c1 c2
  have hy3 : x4 + 1 < w3.heap.size := cell_lt c0
  have hx3 : x4 < w3.heap.size := by omega
  have HX3 := Lib.hid CX3
  have HX4 := Lib.hid hx4
  clear hb3 CX3 HC2 q0 hRq hbl hx4
  go_wp2_with fail
  generalize hW : World.alloc _ _ = W
  have hCW : C3 W (x4 + 1) (x1, x2, x3) := by subst hW; exact ((⟨c0, c1, c2, f0, f1, f2⟩ : C3 w3 (x4 + 1) (0, 0, 0)).set (x1, x2, x3)).below ((Below.refl _ _).alloc (Nat.le_refl _) _)
  have hXW : C3 W x4 (a1, a2, a3) := by subst hW; exact (HX3.out.other (by omega) (x1, x2, x3)).below ((Below.refl _ _).alloc (Nat.le_refl _) _)
  have hbW : Below x4 w2 W := by subst hW; have h4 := HX4.out; have h3 := below_set3 (b := x4 + 1) hw3 (by omega) (x1, x2, x3); exact h3.alloc (by have := h3.size; omega) _
  clear hW c0 c1 c2 f0 f1 f2 hy3 hx3 HX3 hw3
  go_loopw [7, 50] (fun n i wr => ∃ k : Nat, k ≤ r.length ∧ i = .int .i64 k ∧ n = .int .i64 ((r.take k).foldl gS ((x1, x2, x3), 1)).2 ∧ Below x4 w2 wr ∧ C3 wr (x4 + 1) ((r.take k).foldl gS ((x1, x2, x3), 1)).1 ∧ C3 wr x4 (a1, a2, a3)) (fun _ i _ => r.length - (intOf i).toNat)
  case atStart => exact ⟨0, Nat.zero_le _, rfl, rfl, hbW, hCW, hXW⟩
  case round =>
    obtain ⟨k, hk, rfl, rfl, hb, hq, hz⟩ := hrel
    have hb' : Below w2.heap.size w2 wr := by rw [HX4.out]; exact hb
    have hst := foldS (r.take k) ((x1, x2, x3), 1) hon
    have hlk : (r.take k).length ≤ k := List.length_take_le _ _
    by_cases hkl : k < r.length
    · obtain ⟨p, hrk⟩ : ∃ p, r[k]? = some p := ⟨_, List.getElem?_eq_getElem hkl⟩
      have hpk := Hok.out p (List.mem_cons_of_mem _ (List.mem_of_getElem? hrk))
      have hrp := (HC2'.out.old.below hb').at_ (i := k + 1) (p := p) (by simpa using hrk)
      rw [show off + (k + 1) * 20 = off + 20 + k * 20 by omega] at hrp
      have HS := Lib.hid (foldS_snoc r ((x1, x2, x3), 1) k p hrk)
      generalize (r.take k).foldl gS ((x1, x2, x3), 1) = st at *
      obtain ⟨⟨e1, e2, e3⟩, mm⟩ := st
      simp only at hst hq ⊢
      obtain ⟨⟨hf1, hf2, hf3⟩, hm1, hm2⟩ := hst
      simp only at hf1 hf2 hf3 hm1 hm2
      have hm3 : mm ≤ 1000001 := by omega
      obtain ⟨V, hV⟩ : ∃ V, (pcs p).toArray = V := ⟨_, rfl⟩
      obtain ⟨F, hF⟩ : ∃ F, p.F.toArray = F := ⟨_, rfl⟩
      have hi35 : (Tryd.prog.info? 35).map (·.size) = some V.size := by rw [info35, ← hV]; simp [hpk.len20]
      have hone : V.all (·.oneCell') = true := by rw [← hV]; exact hpk.one20
      have hRV : wr.rangeAt b (off + 20 + k * 20) V.toList := by rw [← hV]; simpa using hrp
      have hsp : ∀ (u : World) (B : Nat), u.rangeAt B 0 V.toList → u.cell? ⟨B, 0, none⟩ = some (.int .u8 p.d) ∧ u.rangeAt B 1 F.toList := fun u B h => by
        rw [← hV] at h
        have := range_tail (d := p.d) (F := p.F) (by simpa [pcs] using h)
        rw [← hF]
        simpa using this
      have hi29 : (Tryd.prog.info? 29).map (·.size) = some F.toList.length := by rw [← hF]; exact hpk.fa.hi
      have hfa2 : Fa F p.kind p.typ := hF ▸ hpk.fa
      have hV20 : V.size = 20 := by rw [← hV]; simp [hpk.len20]
      have I35 := Lib.hid hi35
      have I35' : Hid ((Tryd.prog.info? 35).map (·.size) = some V.toList.length) := by rw [Array.length_toList]; exact hi35
      have One := Lib.hid hone
      have Sp := Lib.hid hsp
      have I29 := Lib.hid hi29
      have HFA := Lib.hid hfa2
      have V20 := Lib.hid hV20
      obtain ⟨hpd0, hpd1⟩ := hpk.bd
      have hkd : decide (k < r.length) = true := by simpa using hkl
      have HQ := Lib.hid hq
      have HZ := Lib.hid hz
      clear hi35 hone hsp hi29 hfa2 hV20 hV hF hrk hrp hpk hq hz hlk
      have cq := HQ.out.c0
      have hqr : x4 + 1 < wr.heap.size := cell_lt cq
      have hzr : x4 < wr.heap.size := by omega
      clear cq
      obtain ⟨pd, hpd⟩ : ∃ pd, p.d = pd := ⟨_, rfl⟩
      obtain ⟨pk, hpk⟩ : ∃ pk, p.kind = pk := ⟨_, rfl⟩
      obtain ⟨pt, hpt⟩ : ∃ pt, p.typ = pt := ⟨_, rfl⟩
      rw [hpd] at hpd0 hpd1 Sp
      rw [hpk, hpt] at HFA
      have HG : Hid (gS ((e1, e2, e3), mm) p = if alw e1 e2 e3 pd pk pt then (stF e1 e2 e3 pd pk pt, mm + 1) else ((e1, e2, e3), mm)) := by unfold gS; rw [hpd, hpk, hpt]; exact rfl
      rw [HG.out] at HS
      clear hpd hpk hpt HG
      go_wp2_with (first | (refine wpList_load_wide 35 _ rfl (by rfl) _ _ rfl V _ Tryd.underlying35 rfl I35'.out hRV ?_) | (refine wpList_store_wide 35 _ _ rfl rfl wr.heap.size 0 V rfl rfl wr.heap.size wr I35.out One.out ((Below.refl _ _).alloc (Nat.le_refl _) _) (Nat.le_refl _) (there_new _ _ _ _ _ rfl ?_) ?_; (· (rw [V20.out]; rfl)); intro v1 hv1 zz1 r1 _ _ _; have R1 := (Sp.out _ _ r1).2; have D1 := (Sp.out _ _ r1).1; have q0 := (HQ.out.below hv1).c0; have q1 := (HQ.out.below hv1).c1; have q2 := (HQ.out.below hv1).c2; clear zz1 r1; simp only at q0 q1 q2) | (refine wpList_load_wide 29 _ rfl (by rfl) _ _ rfl F _ Tryd.underlying29 rfl I29.out R1 ?_))
      refine (rstep_is F e1 e2 e3 pd pk pt _ _ _ HFA.out hf3 hpd0 rfl rfl).mono ?_
      rintro e v2 ⟨rfl, hb2⟩
      have hv2 := bthen hv1 hb2
      have Q2 := HQ.out.below hv2
      have Z2 := Lib.hid (HZ.out.below hv2)
      have hbv : Below x4 w2 v2 := hb.trans (hv2.mono (by omega))
      have hqv : x4 + 1 < v2.heap.size := cell_lt Q2.c0
      clear hb2 hv1 q0 q1 q2 D1 R1 hRV
      obtain ⟨c0, c1, c2, f0, f1, f2⟩ := Q2
      simp only at c0 c1 c2
      have hfo := stF_ok (x := (e1, e2, e3)) ⟨hf1, hf2, hf3⟩ pd pk pt
      simp only at hfo
      generalize stF e1 e2 e3 pd pk pt = S at *
      obtain ⟨s1, s2, s3⟩ := S
      simp only at hfo HS ⊢
      generalize alw e1 e2 e3 pd pk pt = ab at *
      cases ab
      · rw [if_neg (by simp)] at HS
        go_wp2_with fail
        go_roundw
        case rel => exact ⟨k + 1, by omega, by go_num, by rw [HS.out], hbv.alloc (by omega) _, by rw [HS.out]; exact C3.below (⟨c0, c1, c2, f0, f1, f2⟩ : C3 v2 (x4 + 1) (e1, e2, e3)) ((Below.refl _ _).alloc (Nat.le_refl _) _), Z2.out.below ((Below.refl _ _).alloc (Nat.le_refl _) _)⟩
        case measure => simp [intOf]; omega
      · rw [if_pos rfl] at HS
        go_wp2_with fail
        have hB : Below x4 w2 (set3 v2 (x4 + 1) (s1, s2, s3)) := below_set3 hbv (by omega) _
        have hBs : (set3 v2 (x4 + 1) (s1, s2, s3)).heap.size = v2.heap.size := by unfold set3; rw [size_setC, size_setC, size_setC]
        have hA2 : ∀ o, Below (set3 v2 (x4 + 1) (s1, s2, s3)).heap.size (set3 v2 (x4 + 1) (s1, s2, s3)) ((set3 v2 (x4 + 1) (s1, s2, s3)).alloc o) := fun o => (Below.refl _ _).alloc (Nat.le_refl _) o
        go_roundw
        case rel => exact ⟨k + 1, by omega, by go_num, by rw [HS.out], hB.alloc (by rw [hBs]; omega) _, by rw [HS.out]; exact ((⟨c0, c1, c2, f0, f1, f2⟩ : C3 v2 (x4 + 1) (e1, e2, e3)).set (s1, s2, s3)).below (hA2 _), (Z2.out.other (by omega) (s1, s2, s3)).below (hA2 _)⟩
        case measure => simp [intOf]; omega
    · obtain rfl : k = r.length := by omega
      rw [List.take_length, HE.out] at hq ⊢
      simp only at hq ⊢
      obtain ⟨wo, rfl⟩ : ∃ wo : World, wo = wr := ⟨_, rfl⟩
      have HC := Lib.hid (HC2'.out.below hb')
      have bo := bthen b2 hb'
      have CX := hz
      have CY := hq
      have hkd : decide (r.length < r.length) = false := by simp
      clear hz hq hb hst hlk hbW hCW hXW b2
      have HCX := Lib.hid CX
      have HCY := Lib.hid CY
      clear CX CY
      go_wp2_with fail
      go_loopw [70] (fun i wr => ∃ k : Nat, k ≤ r.length + 1 ∧ i = .int .i64 k ∧ Below wo.heap.size wo wr) (fun i _ => r.length + 1 - (intOf i).toNat)
      case atStart => exact ⟨0, Nat.zero_le _, rfl, Below.refl _ _⟩
      case round =>
        obtain ⟨k, hk, rfl, hb4⟩ := hrel
        by_cases hkl : k < r.length + 1
        · obtain ⟨p, hrk⟩ : ∃ p, (p0 :: r)[k]? = some p := ⟨_, List.getElem?_eq_getElem (by simpa using hkl)⟩
          have hpk := HC.out.old.ok p (List.mem_of_getElem? hrk)
          have R1 := (HC.out.old.below hb4).at_ hrk
          have R2 := (HC.out.new.below hb4).at_ hrk
          rw [Nat.zero_add] at R2
          have hneq := hpk.neq
          have hi35 : (Tryd.prog.info? 35).map (·.size) = some (pcs p).toArray.toList.length := by rw [info35]; simp [hpk.len20]
          obtain ⟨V, hV⟩ : ∃ V, (pcs p).toArray = V := ⟨_, rfl⟩
          have S1 : wr.rangeAt b (off + k * 20) V.toList := by rw [← hV]; simpa using R1
          have S2 : wr.rangeAt g (k * 20) V.toList := by rw [← hV]; simpa using R2
          rw [hV] at hneq hi35
          have I35 := Lib.hid hi35
          have hk0 : (0 : Int) ≤ (k : Int) := by omega
          have hk1 : (k : Int) < (r.length : Int) + 1 := by omega
          have hkd : decide ((k : Int) < (r.length : Int) + 1) = true := by simpa using hk1
          clear hrk hpk R1 R2 hV hi35
          go_wp2_with fail
          refine wp_region_still_lit (by kernel_rfl) (by kernel_rfl) ?_
          iterate 3 still_step
          refine wpStill_load_wide 35 _ rfl (by rfl) _ _ rfl V _ Tryd.underlying35 rfl I35.out ((World.rangeAt_drew _ _ _ _).2 S2) ?_
          iterate 3 still_step
          refine wpStill_load_wide 35 _ rfl (by rfl) _ _ rfl V _ Tryd.underlying35 rfl I35.out ((World.rangeAt_drew _ _ _ _).2 S1) ?_
          still_step
          refine wpStill_nil ?_
          clear hneq S1 S2
          go_wp2_with fail
          go_roundw
          case rel => exact ⟨k + 1, by omega, by go_num, hb4.drew⟩
          case measure => simp [intOf]; omega
        · have hkd : decide ((k : Int) < (r.length : Int) + 1) = false := by simp; omega
          obtain ⟨c0, c1, c2, _, _, _⟩ := HCX.out.below hb4
          obtain ⟨d0, d1, d2, _, _, _⟩ := HCY.out.below hb4
          simp only at c0 c1 c2 d0 d1 d2
          go_wp2_with fail
          go_ret
          exact ⟨by first | rfl | simp, bthen bo hb4⟩

end Go.Proofs.YtjmcpgagbjmfgaaDoor

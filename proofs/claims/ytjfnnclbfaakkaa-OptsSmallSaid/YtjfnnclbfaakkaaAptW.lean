/-
  The contract of a flat function, by its five phases. Conditions: those of the theorems.
-/
import Derived.Test.YtjfnnclbfaakkaaAptB
import Derived.Deep.QuietTactic
import Derived.BigQuiet
namespace Go.Proofs.Ytjfnnclbfaakkaa
open Go.RowKit
set_option linter.unusedVariables false
set_option linter.unusedSimpArgs false

theorem info40b : (Try.prog.info? 40).map (fun i => (i.zero, i.size, i.bytes)) = some (some (.int .u32 0), 1, 4) := by kernel_rfl

/-- The mark as a word. -/
def mwS (k i : Int) : Int := mkS k i % 2 ^ 32 * 2654435769 % 2 ^ 32
def FW (k i : Nat) : Value := .int .u32 (mwS (k : Nat) (i : Nat))
theorem markWord_any (k i : Int) (w : World) (hk : 0 ≤ k ∧ k ≤ 2 ^ 20) (hi : 0 ≤ i ∧ i ≤ 2 ^ 50) : Calls Try.prog 79 #[.int .i64 k, .int .i64 i] w fun e w' => e = .returned (.int .u32 (mwS k i)) ∧ w' = w := by
  obtain ⟨r, hr'⟩ : ∃ r, mwS k i = r := ⟨_, rfl⟩
  have HR := Lib.hid hr'
  rw [hr']
  obtain ⟨m, hm⟩ : ∃ m, mkS k i = m := ⟨_, rfl⟩
  have hmr : 0 ≤ m ∧ m < 2 ^ 62 := by rw [← hm]; unfold mkS; omega
  have HM := Lib.hid hm
  clear hr' hm
  go_enter Try.func79, Try.ntmps79
  go_wp2_with fail
  refine (mark_any k i _ hk hi).mono ?_
  rintro e Y ⟨rfl, hY⟩
  rw [hY, HM.out]
  clear hY
  go_wp2_with fail
  go_ret
  refine ⟨?_, rfl⟩
  rw [← HR.out]
  unfold mwS
  rw [HM.out]
  rfl
theorem made_repW (m : Nat) : madeCells (Value.int .u32 0).cells (m * 1) = (List.replicate m (Value.int .u32 0)).toArray := by
  apply Array.ext
  · simp [madeCells]
  · intro i h1 h2
    simp [madeCells, Value.cells, Nat.mod_one]
theorem mk_words (k : IntKind) (x : Int) (m : Nat) (h : x = m) (hm : m ≤ 2 ^ 40) (w : World) : (Instr.makeSlice 42 (.int k x) (.int k x)).run Try.prog w = .ok (.slice (some ⟨w.heap.size, 0, none⟩) m m) (w.alloc (.cells (List.replicate m (Value.int .u32 0)).toArray 40)) := by
  obtain ⟨i0, hi, hz0, hz1, hz2⟩ := info_parts info40b
  subst h
  have hr := run_make (P := Try.prog) w 42 40 i0 (.int .u32 0) Try.underlying42 hi hz0 k k (m : Int) (m : Int) (by omega) (Int.le_refl _) (by rw [hz2]; omega) (by omega)
  rw [hz1, Int.toNat_natCast, made_repW] at hr
  exact hr
set_option maxRecDepth 100000 in
set_option maxHeartbeats 8000000 in
theorem flW1_any (C : Code) (hC : findC (isBlock 0) (Try.f68.body.getD .skip) = some C) (Q : Exit → Act → World → Prop) {x : List Ext} {L : List Sli} {A : Option Addr} {cl N B : Nat} {W : World} {x1 x2 x4 x5 x6 x7 x8 x9 x10 x11 x12 x13 x14 x15 x16 x17 x18 x19 x20 x21 x22 x23 x24 x25 x26 x27 x28 x29 x30 x31 x32 x33 x34 x35 x36 x37 x38 x39 x40 x41 x42 x43 x44 x45 x46 x47 x48 x49 x50 x51 x52 x53 x54 x55 x56 x57 x58 x59 x60 x61 x62 x63 x64 x65 x66 x67 x68 x69 x70 x71 x72 x73 x74 x75 x76 x77 x78 x79 x80 x81 x82 x83 x84 x85 x86 x87 x88 x89 x90 x91 x92 x93 x94 x95 x96 x97 x98 x99 x100 x101 x102 x103 x104 x105 x106 x107 x108 x109 x110 x111 x112 x113 x114 x115 x116 x117 x118 x119 x120 x121 x122 x123 x124 x125 x126 x127 x128 x129 x130 x131 x132 x133 x134 x135 x136 x137 x138 x139 x140 x141 x142 x143 x144 x145 x146 x147 x148 x149 x150 x151 x152 x153 x154 x155 x156 x157 x158 x159 x160 x161 x162 x163 x164 x165 x166 x167 x168 x169 x170 x171 x172 x173 x174 x175 x176 x177 x178 x179 x180 x181 x182 x183 x184 x185 x186 x187 x188 x189 x190 x191 x192  : Value}
    (hL : Lg L) (hN : L.length = N) (hF : Fl x 40 42 B FW L (.slice A N cl) W (fun _ => 0)) (hB : B ≤ W.heap.size)
    (hh : ∀ (y3 y4 y16 y17 y18 y19 y20 y21 y22 y23 y24 y25 y26 y27 y28 y29 y30 y31 y32 y33 y34 y35 y36 y37 y38 y39 : Value) (W' : World), Fl x 40 42 B FW L (.slice A N cl) W' (nL L) → Below B W W' → Q .normal ⟨#[.slice A N cl, x1, x2, y3, y4, x5, x6, x7, x8, x9, x10, x11, x12, x13, x14, x15, y16, y17, y18, y19, y20, y21, y22, y23, y24, y25, y26, y27, y28, y29, y30, y31, y32, y33, y34, y35, y36, y37, y38, y39, x40, x41, x42, x43, x44, x45, x46, x47, x48, x49, x50, x51, x52, x53, x54, x55, x56, x57, x58, x59, x60, x61, x62, x63, x64, x65, x66, x67, x68, x69, x70, x71, x72, x73, x74, x75, x76, x77, x78, x79, x80, x81, x82, x83, x84, x85, x86, x87, x88, x89, x90, x91, x92, x93, x94, x95, x96, x97, x98, x99, x100, x101, x102, x103, x104, x105, x106, x107, x108, x109, x110, x111, x112, x113, x114, x115, x116, x117, x118, x119, x120, x121, x122, x123, x124, x125, x126, x127, x128, x129, x130, x131, x132, x133, x134, x135, x136, x137, x138, x139, x140, x141, x142, x143, x144, x145, x146, x147, x148, x149, x150, x151, x152, x153, x154, x155, x156, x157, x158, x159, x160, x161, x162, x163, x164, x165, x166, x167, x168, x169, x170, x171, x172, x173, x174, x175, x176, x177, x178, x179, x180, x181, x182, x183, x184, x185, x186, x187, x188, x189, x190, x191, x192], []⟩ W') : C.wp Try.prog Q ⟨#[.slice A N cl, x1, x2, .int .i64 0, x4, x5, x6, x7, x8, x9, x10, x11, x12, x13, x14, x15, x16, x17, x18, x19, x20, x21, x22, x23, x24, x25, x26, x27, x28, x29, x30, x31, x32, x33, x34, x35, x36, x37, x38, x39, x40, x41, x42, x43, x44, x45, x46, x47, x48, x49, x50, x51, x52, x53, x54, x55, x56, x57, x58, x59, x60, x61, x62, x63, x64, x65, x66, x67, x68, x69, x70, x71, x72, x73, x74, x75, x76, x77, x78, x79, x80, x81, x82, x83, x84, x85, x86, x87, x88, x89, x90, x91, x92, x93, x94, x95, x96, x97, x98, x99, x100, x101, x102, x103, x104, x105, x106, x107, x108, x109, x110, x111, x112, x113, x114, x115, x116, x117, x118, x119, x120, x121, x122, x123, x124, x125, x126, x127, x128, x129, x130, x131, x132, x133, x134, x135, x136, x137, x138, x139, x140, x141, x142, x143, x144, x145, x146, x147, x148, x149, x150, x151, x152, x153, x154, x155, x156, x157, x158, x159, x160, x161, x162, x163, x164, x165, x166, x167, x168, x169, x170, x171, x172, x173, x174, x175, x176, x177, x178, x179, x180, x181, x182, x183, x184, x185, x186, x187, x188, x189, x190, x191, x192], []⟩ W := by
  cases hC
  let QQ : Exit → Act → World → Prop := bodyPost Try.prog Try.f68 (fun _ _ => True)
  dsimp only
  have HL := Lib.hid hL
  have HN := Lib.hid hN
  have HF := Lib.hid hF
  have HBW := Lib.hid hB
  have HH := Lib.hid hh
  have hN20 : N ≤ 2 ^ 18 := by rw [← hN]; exact hL.len
  clear hL hN hF hB hh
  go_wp2_with fail
  go_loopw [3] (fun v3 wr => ∃ k : Nat, k ≤ N ∧ v3 = .int .i64 k ∧ Fl x 40 42 B FW L (.slice A N cl) wr (mL L k 0) ∧ Below B W wr) (fun v _ => N - (intOf v).toNat)
  case atStart => exact ⟨0, by omega, rfl, ⟨HF.out.row, fun k s b hk hg => ⟨(HF.out.blk k s b hk hg).1, (HF.out.blk k s b hk hg).2.less (by unfold mL; split <;> first | omega | (split <;> omega))⟩, HF.out.ext, HF.out.off⟩, Below.refl _ _⟩
  case round =>
    obtain ⟨k, hk, rfl, hI, hb⟩ := hrel
    by_cases hlt : k < N
    · have t1 : decide ((k : Int) < N) = true := by simp; omega
      have t1' : decide (k < N) = true := by simp; omega
      have hkN : (k : Int) < N := by omega
      have hk0 : (0 : Int) ≤ k := by omega
      obtain ⟨⟨g, n, c⟩, hs⟩ : ∃ s, L[k]? = some s := ⟨L[k]'(by rw [HN.out]; omega), List.getElem?_eq_getElem _⟩
      have hok := HL.out.ok _ (List.mem_of_getElem? hs)
      have hn20 : n ≤ 2 ^ 20 := hok.small
      have hnc : n ≤ c := hok.le
      obtain ⟨bl, rfl, _, _, _, _⟩ := hI.cell HN.out hs
      have HI := Lib.hid hI
      have HB := Lib.hid hb
      have HS := Lib.hid hs
      have HOK := Lib.hid hok
      have HLT := Lib.hid hlt
      clear hI hb hs hok hlt
      go_upto_region 5 with fail
      go_loopw [4] (fun v4 wy => ∃ i : Nat, i ≤ n ∧ v4 = .int .i64 i ∧ Fl x 40 42 B FW L (.slice (some ⟨bl, 0, none⟩) N cl) wy (mL L k i) ∧ Below B W wy) (fun v _ => n - (intOf v).toNat)
      case atStart => exact ⟨0, by omega, rfl, HI.out, HB.out⟩
      case round =>
        obtain ⟨i, hi, rfl, hI, hb⟩ := hrel
        have hq := hI.cell HN.out HS.out
        obtain ⟨bl', e1, hbl, _, q0, _⟩ := hq
        cases e1
        by_cases hin : i < n
        · obtain ⟨b, rfl⟩ : ∃ b, g = some b := by
            cases g with
            | none => have := (HOK.out.nil rfl).1; simp only at this; omega
            | some b => exact ⟨b, rfl⟩
          simp only [Sli.v, Option.map_some] at q0
          have htr := (hI.blk k _ b HS.out rfl).2
          have hBb := (hI.blk k _ b HS.out rfl).1
          rw [mL_self] at htr
          simp only at htr
          have t2 : decide ((i : Int) < n) = true := by simp; omega
          have t2' : decide (i < n) = true := by simp; omega
          have hii : (i : Int) < n := by omega
          have hi0 : (0 : Int) ≤ i := by omega
          obtain ⟨z, hz⟩ : ∃ z, mwS (k : Nat) (i : Nat) = z := ⟨_, rfl⟩
          have HZ := Lib.hid hz
          have HTR := Lib.hid htr
          have HI2 := Lib.hid hI
          have HB2 := Lib.hid hb
          have HIN := Lib.hid hin
          clear htr hI hb hz hin
          go_upto_region 7 with fail
          refine wp_region_steps 9 [[], [], [0, 1], [2], [], [], [], [5, 6], [3, 4]] (fun D a w' => ∃ g : Nat → Value, a = ⟨#[.slice (some ⟨bl, 0, none⟩) N cl, x1, x2, .int .i64 k, .int .i64 i, x5, x6, x7, x8, x9, x10, x11, x12, x13, x14, x15, .int .i64 k, .slice (some ⟨bl, 0, none⟩) N cl, .int .i64 N, .bool true, u20, u21, .int .i64 i, .slice (some ⟨bl, 0, none⟩) N cl, .int .i64 k, .pointer (some ⟨bl, k, none⟩), .slice (some ⟨b, 0, none⟩) n c, .int .i64 n, .bool true, u29, u30, g 0, g 1, g 2, g 3, g 4, g 5, g 6, g 7, g 8, x40, x41, x42, x43, x44, x45, x46, x47, x48, x49, x50, x51, x52, x53, x54, x55, x56, x57, x58, x59, x60, x61, x62, x63, x64, x65, x66, x67, x68, x69, x70, x71, x72, x73, x74, x75, x76, x77, x78, x79, x80, x81, x82, x83, x84, x85, x86, x87, x88, x89, x90, x91, x92, x93, x94, x95, x96, x97, x98, x99, x100, x101, x102, x103, x104, x105, x106, x107, x108, x109, x110, x111, x112, x113, x114, x115, x116, x117, x118, x119, x120, x121, x122, x123, x124, x125, x126, x127, x128, x129, x130, x131, x132, x133, x134, x135, x136, x137, x138, x139, x140, x141, x142, x143, x144, x145, x146, x147, x148, x149, x150, x151, x152, x153, x154, x155, x156, x157, x158, x159, x160, x161, x162, x163, x164, x165, x166, x167, x168, x169, x170, x171, x172, x173, x174, x175, x176, x177, x178, x179, x180, x181, x182, x183, x184, x185, x186, x187, x188, x189, x190, x191, x192], []⟩ ∧ Iq wr (fun iq vq _ => vq = ([.slice (some ⟨bl, 0, none⟩) N cl, .int .i64 (k : Int), .pointer (some ⟨bl, k, none⟩), .slice (some ⟨b, 0, none⟩) n c, .int .i64 (i : Int), .int .i64 (k : Int), .int .i64 (i : Int), .int .u32 z, .pointer (some ⟨b, i, none⟩)] : List Value).getD iq undef) D g w') (by kernel_rfl) (by kernel_rfl) ⟨fun i => if i = 0 then u31 else if i = 1 then u32 else if i = 2 then u33 else if i = 3 then u34 else if i = 4 then u35 else if i = 5 then u36 else if i = 6 then u37 else if i = 7 then u38 else if i = 8 then u39 else undef, rfl, Iq.zero _ _ _⟩ ?_ ?_
          · simp only [List.take_succ_cons, List.take_zero]
            refine ⟨?_, ?_, ?_, ?_, ?_, ?_, ?_, ?_, ?_, trivial⟩
            · intro D a w' hn hp hI
              obtain ⟨g, rfl, hR⟩ := hI
              clear hn hp
              go_wp2_with fail
              exact ⟨fun ix => if ix = 0 then .slice (some ⟨bl, 0, none⟩) N cl else g ix, by rfl, hR.upd (fun _ _ _ _ h _ => h) 0 _ (Below.refl _ _) rfl⟩
            · intro D a w' hn hp hI
              obtain ⟨g, rfl, hR⟩ := hI
              clear hn hp
              go_wp2_with fail
              exact ⟨fun ix => if ix = 1 then .int .i64 (k : Int) else g ix, by rfl, hR.upd (fun _ _ _ _ h _ => h) 1 _ (Below.refl _ _) rfl⟩
            · intro D a w' hn hp hI
              obtain ⟨g, rfl, hR⟩ := hI
              have e0 : g 0 = .slice (some ⟨bl, 0, none⟩) N cl := hR.e 0 hp.1
              rw [e0]
              have e1 : g 1 = .int .i64 (k : Int) := hR.e 1 hp.2.1
              rw [e1]
              clear hn hp
              go_wp2_with fail
              exact ⟨fun ix => if ix = 2 then .pointer (some ⟨bl, k, none⟩) else g ix, by simp [e0, e1], hR.upd (fun _ _ _ _ h _ => h) 2 _ (Below.refl _ _) rfl⟩
            · intro D a w' hn hp hI
              obtain ⟨g, rfl, hR⟩ := hI
              have e2 : g 2 = .pointer (some ⟨bl, k, none⟩) := hR.e 2 hp.1
              rw [e2]
              have cc := kc hR.b q0
              clear hn hp
              go_wp2_with fail
              exact ⟨fun ix => if ix = 3 then .slice (some ⟨b, 0, none⟩) n c else g ix, by simp [e2], hR.upd (fun _ _ _ _ h _ => h) 3 _ (Below.refl _ _) rfl⟩
            · intro D a w' hn hp hI
              obtain ⟨g, rfl, hR⟩ := hI
              clear hn hp
              go_wp2_with fail
              exact ⟨fun ix => if ix = 4 then .int .i64 (i : Int) else g ix, by rfl, hR.upd (fun _ _ _ _ h _ => h) 4 _ (Below.refl _ _) rfl⟩
            · intro D a w' hn hp hI
              obtain ⟨g, rfl, hR⟩ := hI
              clear hn hp
              go_wp2_with fail
              exact ⟨fun ix => if ix = 5 then .int .i64 (k : Int) else g ix, by rfl, hR.upd (fun _ _ _ _ h _ => h) 5 _ (Below.refl _ _) rfl⟩
            · intro D a w' hn hp hI
              obtain ⟨g, rfl, hR⟩ := hI
              clear hn hp
              go_wp2_with fail
              exact ⟨fun ix => if ix = 6 then .int .i64 (i : Int) else g ix, by rfl, hR.upd (fun _ _ _ _ h _ => h) 6 _ (Below.refl _ _) rfl⟩
            · intro D a w' hn hp hI
              obtain ⟨g, rfl, hR⟩ := hI
              have e5 : g 5 = .int .i64 (k : Int) := hR.e 5 hp.1
              rw [e5]
              have e6 : g 6 = .int .i64 (i : Int) := hR.e 6 hp.2.1
              rw [e6]
              clear hn hp
              go_wp2_with fail
              refine (markWord_any (k : Nat) (i : Nat) _ (by omega) (by omega)).mono ?_
              rintro e Y ⟨rfl, hY⟩
              rw [hY, HZ.out]
              clear hY
              go_wp2_with fail
              exact ⟨fun ix => if ix = 7 then .int .u32 z else g ix, by simp [e5, e6], hR.upd (fun _ _ _ _ h _ => h) 7 _ (Below.refl _ _) rfl⟩
            · intro D a w' hn hp hI
              obtain ⟨g, rfl, hR⟩ := hI
              have e3 : g 3 = .slice (some ⟨b, 0, none⟩) n c := hR.e 3 hp.1
              rw [e3]
              have e4 : g 4 = .int .i64 (i : Int) := hR.e 4 hp.2.1
              rw [e4]
              clear hn hp
              go_wp2_with fail
              exact ⟨fun ix => if ix = 8 then .pointer (some ⟨b, i, none⟩) else g ix, by simp [e3, e4], hR.upd (fun _ _ _ _ h _ => h) 8 _ (Below.refl _ _) rfl⟩
          intro D a w' hD2 hI2
          obtain ⟨g7, rfl, hR⟩ := hI2
          have e7 : g7 7 = .int .u32 z := hR.e 7 (hD2 7 (by decide))
          have e8 : g7 8 = .pointer (some ⟨b, i, none⟩) := hR.e 8 (hD2 8 (by decide))
          rw [e7, e8]
          have htr2 := HTR.out.below hR.b
          obtain ⟨⟨cu, hcu⟩, fu⟩ := htr2.any (i := i) (by omega)
          have lu := htr2.lt
          have hin := HIN.out
          have hst := (HI2.out.bel hR.b).turn (by decide) HL.out HS.out rfl (keep_set b i (.int .u32 z)) (m' := mL L k (i + 1)) (by
            rw [mL_self]
            refine htr2.set (by show i < c; omega) _ fun j hj => ?_
            by_cases hji : j = i
            · rw [if_pos hji, hji]
              show Value.int .u32 (mwS (k : Nat) (i : Nat)) = _
              rw [HZ.out]
            · rw [if_neg hji]
              exact ⟨by omega, rfl⟩) (fun j hj => by simp only [mL]; rw [if_neg hj, if_neg hj])
          have HST := Lib.hid hst
          have HBB := Lib.hid ((HB2.out.trans (hR.b.mono (Nat.le_trans HBW.out HB2.out.size))).setCell (p := ⟨b, i, none⟩) hBb (.int .u32 z))
          simp only [List.drop_succ_cons, List.drop_zero]
          clear hD2 hR e7 e8 htr2 hst hin q0
          go_wp2_with fail
          exact ⟨⟨i + 1, HIN.out, by go_num, HST.out, HBB.out⟩, by have := HIN.out; simp [intOf]; omega⟩
        · obtain rfl : i = n := by omega
          have t2 : decide ((i : Int) < i) = false := by simp
          have t2' : decide (i < i) = false := by simp
          simp only [Sli.v] at q0
          have HI2 := Lib.hid hI
          have HB2 := Lib.hid hb
          clear hI hb hin
          go_wp2_with fail
          have hlt := HLT.out
          exact ⟨⟨k + 1, by omega, by go_num, by have h := HI2.out; rw [← mL_next, nL_get HS.out]; exact h, HB2.out⟩, by simp [intOf]; omega⟩
    · obtain rfl : k = N := by omega
      have t1 : decide ((k : Int) < k) = false := by simp
      have t1' : decide (k < k) = false := by simp
      have HI := Lib.hid hI
      have HB := Lib.hid hb
      clear hI hb hlt
      go_wp2_with fail
      exact HH.out _ _ _ _ _ _ _ _ _ _ _ _ _ _ _ _ _ _ _ _ _ _ _ _ _ _ _ ⟨HI.out.row, fun j s b hj hg => ⟨(HI.out.blk j s b hj hg).1, (HI.out.blk j s b hj hg).2.less (by have : j < L.length := (List.getElem?_eq_some_iff.1 hj).1; rw [HN.out] at this; unfold mL; rw [if_pos this]; exact Nat.le_refl _)⟩, HI.out.ext, HI.out.off⟩ HB.out
set_option maxRecDepth 100000 in
set_option maxHeartbeats 8000000 in
theorem flW2_any (C : Code) (hC : findC (isBlock 4) (Try.f68.body.getD .skip) = some C) (Q : Exit → Act → World → Prop) {x : List Ext} {L : List Sli} {A : Option Addr} {cl N B gb : Nat} {W : World} {x1 x2 x3 x4 x7 x8 x9 x10 x11 x12 x13 x14 x15 x16 x17 x18 x19 x20 x21 x22 x23 x24 x25 x26 x27 x28 x29 x30 x31 x32 x33 x34 x35 x36 x37 x38 x39 x40 x41 x42 x43 x44 x45 x46 x47 x48 x49 x50 x51 x52 x53 x54 x55 x56 x57 x58 x59 x60 x61 x62 x63 x64 x65 x66 x67 x68 x69 x70 x71 x72 x73 x74 x75 x76 x77 x78 x79 x80 x81 x82 x83 x84 x85 x86 x87 x88 x89 x90 x91 x92 x93 x94 x95 x96 x97 x98 x99 x100 x101 x102 x103 x104 x105 x106 x107 x108 x109 x110 x111 x112 x113 x114 x115 x116 x117 x118 x119 x120 x121 x122 x123 x124 x125 x126 x127 x128 x129 x130 x131 x132 x133 x134 x135 x136 x137 x138 x139 x140 x141 x142 x143 x144 x145 x146 x147 x148 x149 x150 x151 x152 x153 x154 x155 x156 x157 x158 x159 x160 x161 x162 x163 x164 x165 x166 x167 x168 x169 x170 x171 x172 x173 x174 x175 x176 x177 x178 x179 x180 x181 x182 x183 x184 x185 x186 x187 x188 x189 x190 x191 x192  : Value}
    (hL : Lg L) (hN : L.length = N) (hF : Fl x 40 42 B FW L (.slice A N cl) W (nL L)) (hG : Gl 40 42 B FW L (fun k => nL L k + 64) gb N W 0 (List.replicate N ⟨none, 0, 0⟩)) (hlv : (Value.slice A N cl).ownBlock ≠ some gb)
    (hh : ∀ (y6 y7 y8 y43 y44 y45 y46 y47 y48 y49 y50 y51 y52 y53 y54 y55 y56 y57 y58 y59 y60 y61 y62 y63 y64 y65 y66 y67 y68 y69 y70 y71 y72 : Value) (G : List Sli) (W' : World), Fl x 40 42 B FW L (.slice A N cl) W' (nL L) → Gl 40 42 B FW L (fun k => nL L k + 64) gb N W' N G → Below B W W' → Q .normal ⟨#[.slice A N cl, x1, x2, x3, x4, .slice (some ⟨gb, 0, none⟩) N N, y6, y7, y8, x9, x10, x11, x12, x13, x14, x15, x16, x17, x18, x19, x20, x21, x22, x23, x24, x25, x26, x27, x28, x29, x30, x31, x32, x33, x34, x35, x36, x37, x38, x39, x40, x41, x42, y43, y44, y45, y46, y47, y48, y49, y50, y51, y52, y53, y54, y55, y56, y57, y58, y59, y60, y61, y62, y63, y64, y65, y66, y67, y68, y69, y70, y71, y72, x73, x74, x75, x76, x77, x78, x79, x80, x81, x82, x83, x84, x85, x86, x87, x88, x89, x90, x91, x92, x93, x94, x95, x96, x97, x98, x99, x100, x101, x102, x103, x104, x105, x106, x107, x108, x109, x110, x111, x112, x113, x114, x115, x116, x117, x118, x119, x120, x121, x122, x123, x124, x125, x126, x127, x128, x129, x130, x131, x132, x133, x134, x135, x136, x137, x138, x139, x140, x141, x142, x143, x144, x145, x146, x147, x148, x149, x150, x151, x152, x153, x154, x155, x156, x157, x158, x159, x160, x161, x162, x163, x164, x165, x166, x167, x168, x169, x170, x171, x172, x173, x174, x175, x176, x177, x178, x179, x180, x181, x182, x183, x184, x185, x186, x187, x188, x189, x190, x191, x192], []⟩ W') : C.wp Try.prog Q ⟨#[.slice A N cl, x1, x2, x3, x4, .slice (some ⟨gb, 0, none⟩) N N, .int .i64 0, x7, x8, x9, x10, x11, x12, x13, x14, x15, x16, x17, x18, x19, x20, x21, x22, x23, x24, x25, x26, x27, x28, x29, x30, x31, x32, x33, x34, x35, x36, x37, x38, x39, x40, x41, x42, x43, x44, x45, x46, x47, x48, x49, x50, x51, x52, x53, x54, x55, x56, x57, x58, x59, x60, x61, x62, x63, x64, x65, x66, x67, x68, x69, x70, x71, x72, x73, x74, x75, x76, x77, x78, x79, x80, x81, x82, x83, x84, x85, x86, x87, x88, x89, x90, x91, x92, x93, x94, x95, x96, x97, x98, x99, x100, x101, x102, x103, x104, x105, x106, x107, x108, x109, x110, x111, x112, x113, x114, x115, x116, x117, x118, x119, x120, x121, x122, x123, x124, x125, x126, x127, x128, x129, x130, x131, x132, x133, x134, x135, x136, x137, x138, x139, x140, x141, x142, x143, x144, x145, x146, x147, x148, x149, x150, x151, x152, x153, x154, x155, x156, x157, x158, x159, x160, x161, x162, x163, x164, x165, x166, x167, x168, x169, x170, x171, x172, x173, x174, x175, x176, x177, x178, x179, x180, x181, x182, x183, x184, x185, x186, x187, x188, x189, x190, x191, x192], []⟩ W := by
  cases hC
  let QQ : Exit → Act → World → Prop := bodyPost Try.prog Try.f68 (fun _ _ => True)
  dsimp only
  have HL := Lib.hid hL
  have HN := Lib.hid hN
  have HF := Lib.hid hF
  have HG := Lib.hid hG
  have HLV := Lib.hid hlv
  have HH := Lib.hid hh
  have hN20 : N ≤ 2 ^ 18 := by rw [← hN]; exact hL.len
  have HBG : Hid (B ≤ gb) := (hG.row.lt gb rfl).1
  obtain ⟨i0, hi, hz0, hz1, hz2⟩ := info_parts info40b
  clear hL hN hF hG hh hlv
  go_wp2_with fail
  go_loopw [6] (fun v6 wr => ∃ (k : Nat) (G : List Sli), k ≤ N ∧ v6 = .int .i64 k ∧ Fl x 40 42 B FW L (.slice A N cl) wr (nL L) ∧ Gl 40 42 B FW L (fun k => nL L k + 64) gb N wr k G ∧ Below B W wr) (fun v _ => N - (intOf v).toNat)
  case atStart => exact ⟨0, _, by omega, rfl, HF.out, HG.out, Below.refl _ _⟩
  case round =>
    obtain ⟨k, G, hk, rfl, hF, hG, hb⟩ := hrel
    by_cases hlt : k < N
    · have t1 : decide ((k : Int) < N) = true := by simp; omega
      have t1' : decide (k < N) = true := by simp; omega
      have hkN : (k : Int) < N := by omega
      have hk0 : (0 : Int) ≤ k := by omega
      obtain ⟨⟨g, n, c⟩, hs⟩ : ∃ s, L[k]? = some s := ⟨L[k]'(by rw [HN.out]; omega), List.getElem?_eq_getElem _⟩
      have hn20 : n ≤ 2 ^ 20 := (HL.out.ok _ (List.mem_of_getElem? hs)).small
      obtain ⟨bl, rfl, hbl, _, q0, _⟩ := hF.cell HN.out hs
      simp only [Sli.v] at q0
      have HP := Lib.hid (Ph.start HL.out hs hF hG)
      obtain ⟨S0, hS0⟩ : ∃ S0, wr.heap.size = S0 := ⟨_, rfl⟩
      have HS0 := Lib.hid (show S0 ≤ wr.heap.size from Nat.le_of_eq hS0.symm)
      rw [hS0] at HP
      have HBS : Hid (B ≤ wr.heap.size) := by show _ ≤ _; have := (hG.row.lt gb rfl).2; have := HBG.out; omega
      have HB := Lib.hid hb
      have HS := Lib.hid hs
      have HLT := Lib.hid hlt
      clear hF hG hb hs hlt hS0
      go_upto_region 14 with fail
      go_loopw [7, 8] (fun v7 v8 wy => ∃ (t : Nat) (h : Option Nat) (c' : Nat), t ≤ 64 ∧ v7 = .slice (Option.map (fun b => (⟨b, 0, none⟩ : Addr)) h) (n + t) c' ∧ v8 = .int .i64 t ∧ Ph x 40 42 B FW L (.slice (some ⟨bl, 0, none⟩) N cl) (fun k => nL L k + 64) gb N k G S0 ⟨g, n, c⟩ h (n + t) c' (n + t) wy ∧ Below B W wy ∧ S0 ≤ wy.heap.size) (fun _ v _ => 64 - (intOf v).toNat)
      case atStart => exact ⟨0, g, c, by omega, rfl, rfl, HP.out, HB.out, HS0.out⟩
      case round =>
        obtain ⟨t, h, c', ht, rfl, rfl, hP, hb, hsz⟩ := hrel
        by_cases htl : t < 64
        · have t2 : decide ((t : Int) < 64) = true := by simp; omega
          have t2' : decide (t < 64) = true := by simp; omega
          obtain ⟨bl', e1, hbl, _, q0, _⟩ := hP.fl.cell HN.out HS.out
          cases e1
          simp only [Sli.v] at q0
          obtain ⟨u, hu⟩ : ∃ u, n + t = u := ⟨_, rfl⟩
          have hwu : IntKind.i64.wrap ((n : Int) + t) = (u : Int) := by rw [IntWalk.i64_in _ (by omega)]; omega
          obtain ⟨z, hz⟩ : ∃ z, mwS (k : Nat) (u : Nat) = z := ⟨_, rfl⟩
          have HZ := Lib.hid hz
          rw [hu] at hP
          rw [hu]
          have HU := Lib.hid hu
          have HP2 := Lib.hid hP
          have HB2 := Lib.hid hb
          have HTL := Lib.hid htl
          have HSZ := Lib.hid hsz
          have hu64 : u ≤ 2 ^ 20 + 64 := by omega
          clear hP hb hz htl hu hsz
          go_wp2_with fail
          refine (markWord_any (k : Nat) (u : Nat) _ (by omega) (by omega)).mono ?_
          rintro e Y ⟨rfl, hY⟩
          rw [hY, HZ.out]
          clear hY
          go_wp2_with (at_builtin; refine wpList_appT rfl _ _ 42 rfl Try.underlying42 hi hz0 hz1 hz2 rfl h u c' (FW k) rfl HP2.out.nil HP2.out.le HP2.out.max (fun b hb => ((HP2.out.tr b hb).2.below ((Below.refl _ _).alloc (Nat.le_refl _) _))) ⟨wr.heap.size, 0, none⟩ 1 1 [.int .u32 z] rfl (by decide) rfl (cell_one_new _ _ _) (by simp [Value.oneCell']) (lt_maxLen' (by omega)) (by omega) ?_; intro h2 c2 w3 hA; (try dsimp only [Act.put]); (try simp only [List.setIfInBounds_toArray, List.set_cons_succ, List.set_cons_zero]); have HA := Lib.hid hA; clear hA)
          have hu := HU.out
          have htl := HTL.out
          have hbal : Below wr.heap.size wr (wr.alloc (.cells #[.int .u32 z] 40)) := (Below.refl _ _).alloc (Nat.le_refl _) _
          have hBw : B ≤ wr.heap.size := by have := HBG.out; have := (HP2.out.gl.row.lt gb rfl).2; omega
          obtain ⟨hP3, hb3⟩ := (HP2.out.bel hbal).app (by decide) HL.out HS.out (by show n ≤ u; omega) (by have := HSZ.out; simp; omega) (by simp; omega) HA.out (q := u + 1) (.inr ⟨rfl, by rw [← HZ.out]; rfl⟩)
          have HP3 := Lib.hid hP3
          have HB3 := Lib.hid (HB2.out.trans ((hbal.mono hBw).trans hb3))
          have hsz3 : S0 ≤ w3.heap.size := by have := HSZ.out; have := hbal.size; have := hb3.size; omega
          clear hP3 hb3 hbal hBw
          exact ⟨⟨t + 1, h2, c2, by omega, by rw [show n + (t + 1) = u + 1 by omega], by go_num, by rw [show n + (t + 1) = u + 1 by omega]; exact HP3.out, HB3.out, hsz3⟩, by simp [intOf]; omega⟩
        · obtain rfl : t = 64 := by omega
          have t2 : decide ((64 : Int) < 64) = false := by simp
          rw [show (((64 : Nat) : Int)) = 64 from rfl]
          have hkl : k < G.length := by rw [hP.gl.len]; exact HLT.out
          have hgc := hP.gl.cell (List.getElem?_eq_getElem hkl)
          obtain ⟨vo, hvo⟩ : ∃ vo, (G[k]'hkl).v = vo := ⟨_, rfl⟩
          rw [hvo] at hgc
          have hgl := (hP.gl.row.lt gb rfl).2
          have hgf : wr.frozen? ⟨gb, k, none⟩ = false := row_free hP.gl.row k
          obtain ⟨hF4, hG4, hb4⟩ := hP.done (by decide) HL.out HS.out (by rw [nL_get HS.out]) (by rw [nL_get HS.out]; exact Nat.le_refl _) HLT.out HLV.out
          have HF4 := Lib.hid hF4
          have HG4 := Lib.hid hG4
          have HB4 := Lib.hid (hb.trans hb4)
          clear hP hF4 hG4 hb hb4 hvo hsz htl
          go_wp2_with fail
          exact ⟨⟨k + 1, _, HLT.out, by go_num, HF4.out, HG4.out, HB4.out⟩, by have := HLT.out; simp [intOf]; omega⟩
    · obtain rfl : k = N := by omega
      have t1 : decide ((k : Int) < k) = false := by simp
      have t1' : decide (k < k) = false := by simp
      have HF2 := Lib.hid hF
      have HG2 := Lib.hid hG
      have HB := Lib.hid hb
      clear hF hG hb hlt
      go_wp2_with fail
      exact HH.out _ _ _ _ _ _ _ _ _ _ _ _ _ _ _ _ _ _ _ _ _ _ _ _ _ _ _ _ _ _ _ _ _ G _ HF2.out HG2.out HB.out
set_option maxRecDepth 100000 in
set_option maxHeartbeats 8000000 in
theorem flW3_any (C : Code) (hC : findC (isBlock 8) (Try.f68.body.getD .skip) = some C) (Q : Exit → Act → World → Prop) {x : List Ext} {L G : List Sli} {A : Option Addr} {cl N B gb : Nat} {W : World} {x1 x2 x3 x4 x6 x7 x8 x10 x11 x12 x13 x14 x15 x16 x17 x18 x19 x20 x21 x22 x23 x24 x25 x26 x27 x28 x29 x30 x31 x32 x33 x34 x35 x36 x37 x38 x39 x40 x41 x42 x43 x44 x45 x46 x47 x48 x49 x50 x51 x52 x53 x54 x55 x56 x57 x58 x59 x60 x61 x62 x63 x64 x65 x66 x67 x68 x69 x70 x71 x72 x73 x74 x75 x76 x77 x78 x79 x80 x81 x82 x83 x84 x85 x86 x87 x88 x89 x90 x91 x92 x93 x94 x95 x96 x97 x98 x99 x100 x101 x102 x103 x104 x105 x106 x107 x108 x109 x110 x111 x112 x113 x114 x115 x116 x117 x118 x119 x120 x121 x122 x123 x124 x125 x126 x127 x128 x129 x130 x131 x132 x133 x134 x135 x136 x137 x138 x139 x140 x141 x142 x143 x144 x145 x146 x147 x148 x149 x150 x151 x152 x153 x154 x155 x156 x157 x158 x159 x160 x161 x162 x163 x164 x165 x166 x167 x168 x169 x170 x171 x172 x173 x174 x175 x176 x177 x178 x179 x180 x181 x182 x183 x184 x185 x186 x187 x188 x189 x190 x191 x192  : Value}
    (hL : Lg L) (hN : L.length = N) (hF : Fl x 40 42 B FW L (.slice A N cl) W (nL L)) (hG : Gl 40 42 B FW L (fun k => nL L k + 64) gb N W N G)
    (hh : ∀ (y2 y9 y10 y73 y74 y75 y76 y77 y78 y79 y80 y81 y82 y83 y84 y85 y86 y87 y88 y89 y90 y91 y92 y93 y94 y95 y96 y97 y98 y99 y100 y101 y102 y103 y104 y105 y106 y107 y108 y109 y110 y111 y112 y113 y114 y115 y116 y117 y118 y119 y120 y121 y122 : Value) (W' : World), Below W.heap.size W W' → Q .normal ⟨#[.slice A N cl, x1, y2, x3, x4, .slice (some ⟨gb, 0, none⟩) N N, x6, x7, x8, y9, y10, x11, x12, x13, x14, x15, x16, x17, x18, x19, x20, x21, x22, x23, x24, x25, x26, x27, x28, x29, x30, x31, x32, x33, x34, x35, x36, x37, x38, x39, x40, x41, x42, x43, x44, x45, x46, x47, x48, x49, x50, x51, x52, x53, x54, x55, x56, x57, x58, x59, x60, x61, x62, x63, x64, x65, x66, x67, x68, x69, x70, x71, x72, y73, y74, y75, y76, y77, y78, y79, y80, y81, y82, y83, y84, y85, y86, y87, y88, y89, y90, y91, y92, y93, y94, y95, y96, y97, y98, y99, y100, y101, y102, y103, y104, y105, y106, y107, y108, y109, y110, y111, y112, y113, y114, y115, y116, y117, y118, y119, y120, y121, y122, x123, x124, x125, x126, x127, x128, x129, x130, x131, x132, x133, x134, x135, x136, x137, x138, x139, x140, x141, x142, x143, x144, x145, x146, x147, x148, x149, x150, x151, x152, x153, x154, x155, x156, x157, x158, x159, x160, x161, x162, x163, x164, x165, x166, x167, x168, x169, x170, x171, x172, x173, x174, x175, x176, x177, x178, x179, x180, x181, x182, x183, x184, x185, x186, x187, x188, x189, x190, x191, x192], []⟩ W') : C.wp Try.prog Q ⟨#[.slice A N cl, x1, x2, x3, x4, .slice (some ⟨gb, 0, none⟩) N N, x6, x7, x8, .int .i64 0, x10, x11, x12, x13, x14, x15, x16, x17, x18, x19, x20, x21, x22, x23, x24, x25, x26, x27, x28, x29, x30, x31, x32, x33, x34, x35, x36, x37, x38, x39, x40, x41, x42, x43, x44, x45, x46, x47, x48, x49, x50, x51, x52, x53, x54, x55, x56, x57, x58, x59, x60, x61, x62, x63, x64, x65, x66, x67, x68, x69, x70, x71, x72, x73, x74, x75, x76, x77, x78, x79, x80, x81, x82, x83, x84, x85, x86, x87, x88, x89, x90, x91, x92, x93, x94, x95, x96, x97, x98, x99, x100, x101, x102, x103, x104, x105, x106, x107, x108, x109, x110, x111, x112, x113, x114, x115, x116, x117, x118, x119, x120, x121, x122, x123, x124, x125, x126, x127, x128, x129, x130, x131, x132, x133, x134, x135, x136, x137, x138, x139, x140, x141, x142, x143, x144, x145, x146, x147, x148, x149, x150, x151, x152, x153, x154, x155, x156, x157, x158, x159, x160, x161, x162, x163, x164, x165, x166, x167, x168, x169, x170, x171, x172, x173, x174, x175, x176, x177, x178, x179, x180, x181, x182, x183, x184, x185, x186, x187, x188, x189, x190, x191, x192], []⟩ W := by
  cases hC
  let QQ : Exit → Act → World → Prop := bodyPost Try.prog Try.f68 (fun _ _ => True)
  dsimp only
  have HL := Lib.hid hL
  have HN := Lib.hid hN
  have HF := Lib.hid hF
  have HG := Lib.hid hG
  have HH := Lib.hid hh
  have hN20 : N ≤ 2 ^ 18 := by rw [← hN]; exact hL.len
  clear hL hN hF hG hh
  go_wp2_with fail
  go_loopw [9] (fun vo wr => ∃ k : Nat, k ≤ N ∧ vo = .int .i64 k ∧ Below W.heap.size W wr) (fun v _ => N - (intOf v).toNat)
  case atStart => exact ⟨0, by omega, rfl, Below.refl _ _⟩
  case round =>
    obtain ⟨k, hk, rfl, hb⟩ := hrel
    by_cases hlt : k < N
    · have t1 : decide ((k : Int) < N) = true := by simp; omega
      have t1' : decide (k < N) = true := by simp; omega
      have hkN : (k : Int) < N := by omega
      have hk0 : (0 : Int) ≤ k := by omega
      obtain ⟨⟨g, n, c⟩, hs⟩ : ∃ s, L[k]? = some s := ⟨L[k]'(by rw [HN.out]; omega), List.getElem?_eq_getElem _⟩
      obtain ⟨⟨h, ng, cg⟩, hsG⟩ : ∃ s, G[k]? = some s := ⟨G[k]'(by rw [HG.out.len]; omega), List.getElem?_eq_getElem _⟩
      have hok := HL.out.ok _ (List.mem_of_getElem? hs)
      have hn20 : n ≤ 2 ^ 20 := hok.small
      obtain ⟨hng, _, bh, hbh, _, htG⟩ := HG.out.blk k _ hlt hsG
      simp only at hng hbh htG
      subst hbh
      rw [nL_get hs] at hng
      simp only at hng
      subst hng
      have htL : ∀ b, g = some b → Tr 40 W b c (FW k) n := fun b hb => by
        have := (HF.out.blk k _ b hs hb).2
        rw [nL_get hs] at this
        exact this
      simp only [nL_get hs] at htG
      obtain ⟨bl, rfl, hbl, _, q0, _⟩ := HF.out.cell HN.out hs
      have q1 := HG.out.cell hsG
      simp only [Sli.v, Option.map_some] at q0 q1
      have HTG := Lib.hid htG
      have HTL := Lib.hid htL
      have HQ0 := Lib.hid q0
      have HQ1 := Lib.hid q1
      have HOK := Lib.hid hok
      have HB := Lib.hid hb
      have HLT := Lib.hid hlt
      clear htG htL q0 q1 hok hb hlt hs hsG
      go_upto_region 22 with fail
      go_loopw [10] (fun vi wy => ∃ i : Nat, i ≤ n + 64 ∧ vi = .int .i64 i ∧ Below W.heap.size W wy) (fun v _ => n + 64 - (intOf v).toNat)
      case atStart => exact ⟨0, by omega, rfl, HB.out⟩
      case round =>
        obtain ⟨i, hi, rfl, hb⟩ := hrel
        have q0 := kc hb HQ0.out
        have q1 := kc hb HQ1.out
        have hbl := cell_lt q0
        have hgl := cell_lt q1
        simp only at hbl hgl
        by_cases hin : i < n + 64
        · have t2 : decide ((i : Int) < (n + 64 : Nat)) = true := by simp; omega
          have t2' : decide (i < n + 64) = true := by simp; omega
          have t2q : decide ((i : Int) < (n : Int) + 64) = true := by simp; omega
          have hi0 : (0 : Int) ≤ i := by omega
          obtain ⟨z, hz⟩ : ∃ z, mwS (k : Nat) (i : Nat) = z := ⟨_, rfl⟩
          have hcall : ∀ w, Calls Try.prog 79 #[.int .i64 (k : Nat), .int .i64 (i : Nat)] w fun e w' => e = .returned (.int .u32 z) ∧ w' = w := fun w => by
            rw [← hz]
            exact markWord_any (k : Nat) (i : Nat) w (by omega) (by omega)
          have hfz : FW k i = .int .u32 z := by rw [← hz]; rfl
          have HB2 := Lib.hid hb
          have HIN := Lib.hid hin
          have HFZ := Lib.hid hfz
          have qh := (HTG.out.below hb).cell (i := i) (by omega)
          rw [HFZ.out] at qh
          have hlh := cell_lt qh
          simp only at hlh
          have hii : (i : Int) < (n + 64 : Nat) := by omega
          have hii' : (i : Int) < (n : Int) + 64 := by omega
          by_cases hiL : i < n
          · obtain ⟨b, rfl⟩ : ∃ b, g = some b := by
              cases g with
              | none => have := (HOK.out.nil rfl).1; simp only at this; omega
              | some b => exact ⟨b, rfl⟩
            simp only [Option.map_some] at q0
            have ql := ((HTL.out b rfl).below hb).cell (i := i) hiL
            rw [HFZ.out] at ql
            have hlb := cell_lt ql
            simp only at hlb
            have t3 : decide ((i : Int) < n) = true := by simp; omega
            have t3' : decide (i < n) = true := by simp; omega
            have hiL' : (i : Int) < n := by omega
            clear hb hz hfz hin
            go_upto_region 24 with fail
            go_quiet ((go_at_call 79; exact Calls.quiet_of_same (hcall _)))
            go_wp2_with fail
            exact ⟨⟨i + 1, HIN.out, by go_num, below_drewN HB2.out nq⟩, by have := HIN.out; simp [intOf]; omega⟩
          · have t3 : decide ((i : Int) < n) = false := by simp; omega
            have t3' : decide (i < n) = false := by simp; omega
            clear hb hz hfz hin hiL
            go_upto_region 24 with fail
            go_quiet ((go_at_call 79; exact Calls.quiet_of_same (hcall _)))
            go_wp2_with fail
            exact ⟨⟨i + 1, HIN.out, by go_num, below_drewN HB2.out nq⟩, by have := HIN.out; simp [intOf]; omega⟩
        · obtain rfl : i = n + 64 := by omega
          have t2 : decide (((n + 64 : Nat) : Int) < (n + 64 : Nat)) = false := by simp
          have t2' : decide (n + 64 < n + 64) = false := by simp
          have HB2 := Lib.hid hb
          clear hb hin hi
          go_wp2_with fail
          have hlt := HLT.out
          exact ⟨⟨k + 1, by omega, by go_num, HB2.out⟩, by simp [intOf]; omega⟩
    · obtain rfl : k = N := by omega
      have t1 : decide ((k : Int) < k) = false := by simp
      have t1' : decide (k < k) = false := by simp
      have HB := Lib.hid hb
      clear hb hlt
      go_wp2_with fail
      exact HH.out _ _ _ _ _ _ _ _ _ _ _ _ _ _ _ _ _ _ _ _ _ _ _ _ _ _ _ _ _ _ _ _ _ _ _ _ _ _ _ _ _ _ _ _ _ _ _ _ _ _ _ _ _ _ HB.out
set_option maxRecDepth 100000 in
set_option maxHeartbeats 8000000 in
theorem flW5_any (C : Code) (hC : findC (isBlock 16) (Try.f68.body.getD .skip) = some C) (Q : Exit → Act → World → Prop) {x : List Ext} {L G : List Sli} {A : Option Addr} {cl N B gb : Nat} {W : World} {x1 x2 x3 x4 x6 x7 x8 x9 x10 x11 x12 x13 x15 x16 x17 x18 x19 x20 x21 x22 x23 x24 x25 x26 x27 x28 x29 x30 x31 x32 x33 x34 x35 x36 x37 x38 x39 x40 x41 x42 x43 x44 x45 x46 x47 x48 x49 x50 x51 x52 x53 x54 x55 x56 x57 x58 x59 x60 x61 x62 x63 x64 x65 x66 x67 x68 x69 x70 x71 x72 x73 x74 x75 x76 x77 x78 x79 x80 x81 x82 x83 x84 x85 x86 x87 x88 x89 x90 x91 x92 x93 x94 x95 x96 x97 x98 x99 x100 x101 x102 x103 x104 x105 x106 x107 x108 x109 x110 x111 x112 x113 x114 x115 x116 x117 x118 x119 x120 x121 x122 x123 x124 x125 x126 x127 x128 x129 x130 x131 x132 x133 x134 x135 x136 x137 x138 x139 x140 x141 x142 x143 x144 x145 x146 x147 x148 x149 x150 x151 x152 x153 x154 x155 x156 x157 x158 x159 x160 x161 x162 x163 x164 x165 x166 x167 x168 x169 x170 x171 x172 x173 x174 x175 x176 x177 x178 x179 x180 x181 x182 x183 x184 x185 x186 x187 x188 x189 x190 x191 x192  : Value}
    (hL : Lg L) (hN : L.length = N) (hF : Fl x 40 42 B FW L (.slice A N cl) W (nL L)) (hG : Gl 40 42 B FW L (nL L) gb N W N G)
    (hh : ∀ (y2 y14 y15 y152 y153 y154 y155 y156 y157 y158 y159 y160 y161 y162 y163 y164 y165 y166 y167 y168 y169 y170 y171 y172 y173 y174 y175 y176 y177 y178 y179 y180 y181 y182 y183 y184 y185 y186 y187 y188 y189 y190 y191 y192 : Value) (W' : World), Below W.heap.size W W' → Q .normal ⟨#[.slice A N cl, x1, y2, x3, x4, .slice (some ⟨gb, 0, none⟩) N N, x6, x7, x8, x9, x10, x11, x12, x13, y14, y15, x16, x17, x18, x19, x20, x21, x22, x23, x24, x25, x26, x27, x28, x29, x30, x31, x32, x33, x34, x35, x36, x37, x38, x39, x40, x41, x42, x43, x44, x45, x46, x47, x48, x49, x50, x51, x52, x53, x54, x55, x56, x57, x58, x59, x60, x61, x62, x63, x64, x65, x66, x67, x68, x69, x70, x71, x72, x73, x74, x75, x76, x77, x78, x79, x80, x81, x82, x83, x84, x85, x86, x87, x88, x89, x90, x91, x92, x93, x94, x95, x96, x97, x98, x99, x100, x101, x102, x103, x104, x105, x106, x107, x108, x109, x110, x111, x112, x113, x114, x115, x116, x117, x118, x119, x120, x121, x122, x123, x124, x125, x126, x127, x128, x129, x130, x131, x132, x133, x134, x135, x136, x137, x138, x139, x140, x141, x142, x143, x144, x145, x146, x147, x148, x149, x150, x151, y152, y153, y154, y155, y156, y157, y158, y159, y160, y161, y162, y163, y164, y165, y166, y167, y168, y169, y170, y171, y172, y173, y174, y175, y176, y177, y178, y179, y180, y181, y182, y183, y184, y185, y186, y187, y188, y189, y190, y191, y192], []⟩ W') : C.wp Try.prog Q ⟨#[.slice A N cl, x1, x2, x3, x4, .slice (some ⟨gb, 0, none⟩) N N, x6, x7, x8, x9, x10, x11, x12, x13, .int .i64 0, x15, x16, x17, x18, x19, x20, x21, x22, x23, x24, x25, x26, x27, x28, x29, x30, x31, x32, x33, x34, x35, x36, x37, x38, x39, x40, x41, x42, x43, x44, x45, x46, x47, x48, x49, x50, x51, x52, x53, x54, x55, x56, x57, x58, x59, x60, x61, x62, x63, x64, x65, x66, x67, x68, x69, x70, x71, x72, x73, x74, x75, x76, x77, x78, x79, x80, x81, x82, x83, x84, x85, x86, x87, x88, x89, x90, x91, x92, x93, x94, x95, x96, x97, x98, x99, x100, x101, x102, x103, x104, x105, x106, x107, x108, x109, x110, x111, x112, x113, x114, x115, x116, x117, x118, x119, x120, x121, x122, x123, x124, x125, x126, x127, x128, x129, x130, x131, x132, x133, x134, x135, x136, x137, x138, x139, x140, x141, x142, x143, x144, x145, x146, x147, x148, x149, x150, x151, x152, x153, x154, x155, x156, x157, x158, x159, x160, x161, x162, x163, x164, x165, x166, x167, x168, x169, x170, x171, x172, x173, x174, x175, x176, x177, x178, x179, x180, x181, x182, x183, x184, x185, x186, x187, x188, x189, x190, x191, x192], []⟩ W := by
  cases hC
  let QQ : Exit → Act → World → Prop := bodyPost Try.prog Try.f68 (fun _ _ => True)
  dsimp only
  have HL := Lib.hid hL
  have HN := Lib.hid hN
  have HF := Lib.hid hF
  have HG := Lib.hid hG
  have HH := Lib.hid hh
  have hN20 : N ≤ 2 ^ 18 := by rw [← hN]; exact hL.len
  clear hL hN hF hG hh
  go_wp2_with fail
  go_loopw [14] (fun vo wr => ∃ k : Nat, k ≤ N ∧ vo = .int .i64 k ∧ Below W.heap.size W wr) (fun v _ => N - (intOf v).toNat)
  case atStart => exact ⟨0, by omega, rfl, Below.refl _ _⟩
  case round =>
    obtain ⟨k, hk, rfl, hb⟩ := hrel
    by_cases hlt : k < N
    · have t1 : decide ((k : Int) < N) = true := by simp; omega
      have t1' : decide (k < N) = true := by simp; omega
      have hkN : (k : Int) < N := by omega
      have hk0 : (0 : Int) ≤ k := by omega
      obtain ⟨⟨g, n, c⟩, hs⟩ : ∃ s, L[k]? = some s := ⟨L[k]'(by rw [HN.out]; omega), List.getElem?_eq_getElem _⟩
      obtain ⟨⟨h, ng, cg⟩, hsG⟩ : ∃ s, G[k]? = some s := ⟨G[k]'(by rw [HG.out.len]; omega), List.getElem?_eq_getElem _⟩
      have hok := HL.out.ok _ (List.mem_of_getElem? hs)
      have hn20 : n ≤ 2 ^ 20 := hok.small
      obtain ⟨hng, _, bh, hbh, _, htG⟩ := HG.out.blk k _ hlt hsG
      simp only at hng hbh htG
      subst hbh
      rw [nL_get hs] at hng
      simp only at hng
      subst hng
      have htL : ∀ b, g = some b → Tr 40 W b c (FW k) n := fun b hb => by
        have := (HF.out.blk k _ b hs hb).2
        rw [nL_get hs] at this
        exact this
      simp only [nL_get hs] at htG
      obtain ⟨bl, rfl, hbl, _, q0, _⟩ := HF.out.cell HN.out hs
      have q1 := HG.out.cell hsG
      simp only [Sli.v, Option.map_some] at q0 q1
      have HTG := Lib.hid htG
      have HTL := Lib.hid htL
      have HQ0 := Lib.hid q0
      have HQ1 := Lib.hid q1
      have HOK := Lib.hid hok
      have HB := Lib.hid hb
      have HLT := Lib.hid hlt
      clear htG htL q0 q1 hok hb hlt hs hsG
      go_upto_region 39 with fail
      go_loopw [15] (fun vi wy => ∃ i : Nat, i ≤ n ∧ vi = .int .i64 i ∧ Below W.heap.size W wy) (fun v _ => n - (intOf v).toNat)
      case atStart => exact ⟨0, by omega, rfl, HB.out⟩
      case round =>
        obtain ⟨i, hi, rfl, hb⟩ := hrel
        have q0 := kc hb HQ0.out
        have q1 := kc hb HQ1.out
        have hbl := cell_lt q0
        have hgl := cell_lt q1
        simp only at hbl hgl
        by_cases hin : i < n
        · have t2 : decide ((i : Int) < (n : Nat)) = true := by simp; omega
          have t2' : decide (i < n) = true := by simp; omega
          have t2q : decide ((i : Int) < n) = true := by simp; omega
          have hi0 : (0 : Int) ≤ i := by omega
          obtain ⟨z, hz⟩ : ∃ z, mwS (k : Nat) (i : Nat) = z := ⟨_, rfl⟩
          have hcall : ∀ w, Calls Try.prog 79 #[.int .i64 (k : Nat), .int .i64 (i : Nat)] w fun e w' => e = .returned (.int .u32 z) ∧ w' = w := fun w => by
            rw [← hz]
            exact markWord_any (k : Nat) (i : Nat) w (by omega) (by omega)
          have hfz : FW k i = .int .u32 z := by rw [← hz]; rfl
          have HB2 := Lib.hid hb
          have HIN := Lib.hid hin
          have HFZ := Lib.hid hfz
          obtain ⟨b, rfl⟩ : ∃ b, g = some b := by
            cases g with
            | none => have := (HOK.out.nil rfl).1; simp only at this; omega
            | some b => exact ⟨b, rfl⟩
          simp only [Option.map_some] at q0
          have ql := ((HTL.out b rfl).below hb).cell (i := i) hin
          rw [HFZ.out] at ql
          have hlb := cell_lt ql
          have qh := (HTG.out.below hb).cell (i := i) (by omega)
          rw [HFZ.out] at qh
          have hlh := cell_lt qh
          simp only at hlb hlh
          have hii : (i : Int) < n := by omega
          have hii' : (i : Int) < ((n + 64 : Nat) : Int) := by omega
          have hii3 : (i : Int) < (n : Int) + 64 := by omega
          clear hb hz hfz hin
          go_upto_region 41 with fail
          go_quiet ((go_at_call 79; exact Calls.quiet_of_same (hcall _)))
          go_wp2_with fail
          exact ⟨⟨i + 1, HIN.out, by go_num, below_drewN HB2.out nq⟩, by have := HIN.out; simp [intOf]; omega⟩
        · obtain rfl : i = n := by omega
          have t2 : decide (((i : Nat) : Int) < (i : Nat)) = false := by simp
          have t2' : decide (i < i) = false := by simp
          have HB2 := Lib.hid hb
          clear hb hin hi
          go_wp2_with fail
          have hlt := HLT.out
          exact ⟨⟨k + 1, by omega, by go_num, HB2.out⟩, by simp [intOf]; omega⟩
    · obtain rfl : k = N := by omega
      have t1 : decide ((k : Int) < k) = false := by simp
      have t1' : decide (k < k) = false := by simp
      have HB := Lib.hid hb
      clear hb hlt
      go_wp2_with fail
      exact HH.out _ _ _ _ _ _ _ _ _ _ _ _ _ _ _ _ _ _ _ _ _ _ _ _ _ _ _ _ _ _ _ _ _ _ _ _ _ _ _ _ _ _ _ _ _ HB.out
set_option maxRecDepth 100000 in
set_option maxHeartbeats 8000000 in
theorem flW4_any (C : Code) (hC : findC (isBlock 12) (Try.f68.body.getD .skip) = some C) (Q : Exit → Act → World → Prop) {x : List Ext} {L G0 : List Sli} {A : Option Addr} {cl N B gb : Nat} {W : World} {x1 x2 x3 x4 x6 x7 x8 x9 x10 x12 x13 x14 x15 x16 x17 x18 x19 x20 x21 x22 x23 x24 x25 x26 x27 x28 x29 x30 x31 x32 x33 x34 x35 x36 x37 x38 x39 x40 x41 x42 x43 x44 x45 x46 x47 x48 x49 x50 x51 x52 x53 x54 x55 x56 x57 x58 x59 x60 x61 x62 x63 x64 x65 x66 x67 x68 x69 x70 x71 x72 x73 x74 x75 x76 x77 x78 x79 x80 x81 x82 x83 x84 x85 x86 x87 x88 x89 x90 x91 x92 x93 x94 x95 x96 x97 x98 x99 x100 x101 x102 x103 x104 x105 x106 x107 x108 x109 x110 x111 x112 x113 x114 x115 x116 x117 x118 x119 x120 x121 x122 x123 x124 x125 x126 x127 x128 x129 x130 x131 x132 x133 x134 x135 x136 x137 x138 x139 x140 x141 x142 x143 x144 x145 x146 x147 x148 x149 x150 x151 x152 x153 x154 x155 x156 x157 x158 x159 x160 x161 x162 x163 x164 x165 x166 x167 x168 x169 x170 x171 x172 x173 x174 x175 x176 x177 x178 x179 x180 x181 x182 x183 x184 x185 x186 x187 x188 x189 x190 x191 x192  : Value}
    (hL : Lg L) (hN : L.length = N) (hF : Fl x 40 42 B FW L (.slice A N cl) W (nL L)) (hG : Gl 40 42 B FW L (nL L) gb N W 0 G0) (hlv : (Value.slice A N cl).ownBlock ≠ some gb)
    (hh : ∀ (y11 y12 y13 y123 y124 y125 y126 y127 y128 y129 y130 y131 y132 y133 y134 y135 y136 y137 y138 y139 y140 y141 y142 y143 y144 y145 y146 y147 y148 y149 y150 y151 : Value) (G : List Sli) (W' : World), Fl x 40 42 B FW L (.slice A N cl) W' (nL L) → Gl 40 42 B FW L (nL L) gb N W' N G → Below B W W' → Q .normal ⟨#[.slice A N cl, x1, x2, x3, x4, .slice (some ⟨gb, 0, none⟩) N N, x6, x7, x8, x9, x10, y11, y12, y13, x14, x15, x16, x17, x18, x19, x20, x21, x22, x23, x24, x25, x26, x27, x28, x29, x30, x31, x32, x33, x34, x35, x36, x37, x38, x39, x40, x41, x42, x43, x44, x45, x46, x47, x48, x49, x50, x51, x52, x53, x54, x55, x56, x57, x58, x59, x60, x61, x62, x63, x64, x65, x66, x67, x68, x69, x70, x71, x72, x73, x74, x75, x76, x77, x78, x79, x80, x81, x82, x83, x84, x85, x86, x87, x88, x89, x90, x91, x92, x93, x94, x95, x96, x97, x98, x99, x100, x101, x102, x103, x104, x105, x106, x107, x108, x109, x110, x111, x112, x113, x114, x115, x116, x117, x118, x119, x120, x121, x122, y123, y124, y125, y126, y127, y128, y129, y130, y131, y132, y133, y134, y135, y136, y137, y138, y139, y140, y141, y142, y143, y144, y145, y146, y147, y148, y149, y150, y151, x152, x153, x154, x155, x156, x157, x158, x159, x160, x161, x162, x163, x164, x165, x166, x167, x168, x169, x170, x171, x172, x173, x174, x175, x176, x177, x178, x179, x180, x181, x182, x183, x184, x185, x186, x187, x188, x189, x190, x191, x192], []⟩ W') : C.wp Try.prog Q ⟨#[.slice A N cl, x1, x2, x3, x4, .slice (some ⟨gb, 0, none⟩) N N, x6, x7, x8, x9, x10, .int .i64 0, x12, x13, x14, x15, x16, x17, x18, x19, x20, x21, x22, x23, x24, x25, x26, x27, x28, x29, x30, x31, x32, x33, x34, x35, x36, x37, x38, x39, x40, x41, x42, x43, x44, x45, x46, x47, x48, x49, x50, x51, x52, x53, x54, x55, x56, x57, x58, x59, x60, x61, x62, x63, x64, x65, x66, x67, x68, x69, x70, x71, x72, x73, x74, x75, x76, x77, x78, x79, x80, x81, x82, x83, x84, x85, x86, x87, x88, x89, x90, x91, x92, x93, x94, x95, x96, x97, x98, x99, x100, x101, x102, x103, x104, x105, x106, x107, x108, x109, x110, x111, x112, x113, x114, x115, x116, x117, x118, x119, x120, x121, x122, x123, x124, x125, x126, x127, x128, x129, x130, x131, x132, x133, x134, x135, x136, x137, x138, x139, x140, x141, x142, x143, x144, x145, x146, x147, x148, x149, x150, x151, x152, x153, x154, x155, x156, x157, x158, x159, x160, x161, x162, x163, x164, x165, x166, x167, x168, x169, x170, x171, x172, x173, x174, x175, x176, x177, x178, x179, x180, x181, x182, x183, x184, x185, x186, x187, x188, x189, x190, x191, x192], []⟩ W := by
  cases hC
  let QQ : Exit → Act → World → Prop := bodyPost Try.prog Try.f68 (fun _ _ => True)
  dsimp only
  have HL := Lib.hid hL
  have HN := Lib.hid hN
  have HF := Lib.hid hF
  have HG := Lib.hid hG
  have HLV := Lib.hid hlv
  have HH := Lib.hid hh
  have hN20 : N ≤ 2 ^ 18 := by rw [← hN]; exact hL.len
  have HBG : Hid (B ≤ gb) := (hG.row.lt gb rfl).1
  obtain ⟨i0, hi, hz0, hz1, hz2⟩ := info_parts info40b
  have hmk := mk_words .i64 64 64 rfl (by decide)
  clear hL hN hF hG hh hlv
  go_wp2_with fail
  go_loopw [11] (fun v11 wr => ∃ (k : Nat) (G : List Sli), k ≤ N ∧ v11 = .int .i64 k ∧ Fl x 40 42 B FW L (.slice A N cl) wr (nL L) ∧ Gl 40 42 B FW L (nL L) gb N wr k G ∧ Below B W wr) (fun v _ => N - (intOf v).toNat)
  case atStart => exact ⟨0, G0, by omega, rfl, HF.out, HG.out, Below.refl _ _⟩
  case round =>
    obtain ⟨k, G, hk, rfl, hF, hG, hb⟩ := hrel
    by_cases hlt : k < N
    · have t1 : decide ((k : Int) < N) = true := by simp; omega
      have t1' : decide (k < N) = true := by simp; omega
      have hkN : (k : Int) < N := by omega
      have hk0 : (0 : Int) ≤ k := by omega
      obtain ⟨⟨g, n, c⟩, hs⟩ : ∃ s, L[k]? = some s := ⟨L[k]'(by rw [HN.out]; omega), List.getElem?_eq_getElem _⟩
      have hn20 : n ≤ 2 ^ 20 := (HL.out.ok _ (List.mem_of_getElem? hs)).small
      have hwk : IntKind.i64.wrap ((k : Int) + N) = (k : Int) + N := IntWalk.i64_in _ (by omega)
      obtain ⟨bl, rfl, _, _, _, _⟩ := hF.cell HN.out hs
      obtain ⟨X0, hX0⟩ : ∃ X, X = wr := ⟨_, rfl⟩
      subst hX0
      have hbm := heap_alloc_last X0 (Obj.cells (List.replicate 64 (Value.int .u32 0)).toArray 40)
      obtain ⟨bm, hbm'⟩ : ∃ b, X0.heap.size = b := ⟨_, rfl⟩
      have hb1 : Below bm X0 (X0.alloc (Obj.cells (List.replicate 64 (Value.int .u32 0)).toArray 40)) := by rw [← hbm']; exact (Below.refl _ _).alloc (Nat.le_refl _) _
      rw [hbm'] at hbm
      have HBM := Lib.hid hbm
      have HB1 := Lib.hid hb1
      have HS := Lib.hid hs
      have HF2 := Lib.hid hF
      have HG2 := Lib.hid hG
      have HB := Lib.hid hb
      have HLT := Lib.hid hlt
      have HX := Lib.hid hbm'
      clear hbm hb1 hF hG hb hs hlt
      go_upto_region 31 with fail
      (try rw [hbm'])
      clear hbm'
      go_loopw [13] (fun v13 wy => ∃ (j : Nat) (F : Array Value), j ≤ 64 ∧ v13 = .int .i64 j ∧ wy.heap[bm]? = some (.cells F 40 (0, 0)) ∧ F.size = 64 ∧ (∀ (i : Nat) (v : Value), F[i]? = some v → v.oneCell' = true) ∧ Below bm X0 wy) (fun v _ => 64 - (intOf v).toNat)
      case atStart => exact ⟨0, _, by omega, rfl, HBM.out, by simp, fun i v hv => rep_one hv, HB1.out⟩
      case round =>
        obtain ⟨j, F, hj, rfl, hbF, hFs, hF1, hb⟩ := hrel
        by_cases hjl : j < 64
        · have t2 : decide ((j : Int) < 64) = true := by simp; omega
          have t2' : decide (j < 64) = true := by simp; omega
          have hj0 : (0 : Int) ≤ j := by omega
          have hj64 : (j : Int) < 64 := by omega
          obtain ⟨z, hz⟩ : ∃ z, mwS ((k : Int) + N) (j : Nat) = z := ⟨_, rfl⟩
          have HZ := Lib.hid hz
          have qc := blk_cell hbF j
          obtain ⟨cu, hcu⟩ : ∃ cu, F[j]? = some cu := ⟨F[j]'(by omega), Array.getElem?_eq_getElem _⟩
          rw [hcu] at qc
          have qf := blk_free hbF j
          have qlt := blk_lt hbF
          have hst := blk_set hbF j (.int .u32 z)
          have HST := Lib.hid hst
          have HF1 := Lib.hid hF1
          have HBB := Lib.hid (hb.setCell (p := ⟨bm, j, none⟩) (Nat.le_refl _) (.int .u32 z))
          have HFS := Lib.hid hFs
          have HJL := Lib.hid hjl
          clear hbF hF1 hb hst hz hFs hcu hjl
          go_wp2_with fail
          refine (markWord_any ((k : Int) + N) (j : Nat) _ (by omega) (by omega)).mono ?_
          rintro e Y ⟨rfl, hY⟩
          rw [hY, HZ.out]
          clear hY
          go_wp2_with fail
          exact ⟨⟨j + 1, _, HJL.out, by go_num, HST.out, by rw [Array.size_setIfInBounds]; exact HFS.out, fun i v hv => by
            by_cases hij : i = j
            · subst hij
              rw [Array.getElem?_setIfInBounds_self_of_lt (by rw [HFS.out]; exact HJL.out)] at hv
              cases hv
              rfl
            · rw [Array.getElem?_setIfInBounds_ne (fun h => hij h.symm)] at hv
              exact HF1.out i v hv, HBB.out⟩, by have := HJL.out; simp [intOf]; omega⟩
        · obtain rfl : j = 64 := by omega
          have t2 : decide ((64 : Int) < 64) = false := by simp
          rw [show (((64 : Nat) : Int)) = 64 from rfl]
          have hbX : Below X0.heap.size X0 wr := by rw [HX.out]; exact hb
          have hP := Ph.start HL.out HS.out (HF2.out.bel hbX) (HG2.out.bel hbX)
          obtain ⟨bl', e1, hbl, _, q0, _⟩ := hP.fl.cell HN.out HS.out
          cases e1
          simp only [Sli.v] at q0
          have hkl : k < G.length := by rw [hP.gl.len]; exact HLT.out
          have HP := Lib.hid hP
          have HBX := Lib.hid (HB.out.trans (hbX.mono (by have := (hP.gl.row.lt gb rfl).1; have := (HG2.out.row.lt gb rfl).2; omega)))
          have hnews : ∀ j u, F.toList[j]? = some u → wr.cell? ((⟨bm, 0, none⟩ : Addr).add j) = some u := World.news_of_block hbF
          have HNEWS := Lib.hid hnews
          have HONE : Hid (∀ u ∈ F.toList, u.oneCell' = true) := fun u hu => by
            obtain ⟨i, hi⟩ := List.getElem?_of_mem hu
            exact hF1 i u (by simpa using hi)
          have HFL : Hid (F.toList.length = 64) := by show _ = _; rw [Array.length_toList]; exact hFs
          have hbS : B ≤ wr.heap.size := by have := HBG.out; have := (hP.gl.row.lt gb rfl).2; omega
          clear hP hbX hb hbF hF1 hFs hnews hjl hj
          go_wp2_with (at_builtin; refine wpList_appT rfl _ _ 42 rfl Try.underlying42 hi hz0 hz1 hz2 rfl g n c (FW k) rfl HP.out.nil HP.out.le HP.out.max (fun b hb => (HP.out.tr b hb).2) ⟨bm, 0, none⟩ 64 64 F.toList rfl (by decide) HFL.out HNEWS.out HONE.out (lt_maxLen' (by omega)) (by omega) ?_; intro h2 c2 w3 hA; (try dsimp only [Act.put]); (try simp only [List.setIfInBounds_toArray, List.set_cons_succ, List.set_cons_zero]); have hPP := Ph.app (by decide) HL.out HS.out HP.out (Nat.le_refl _) (Nat.le_refl _) hbS hA (q := n) (.inl (Nat.le_refl _)); rw [HFL.out] at hPP; have HP3 := Lib.hid hPP.1; have HB3 := Lib.hid (HBX.out.trans hPP.2); have hgc := HP3.out.gl.cell (List.getElem?_eq_getElem hkl); obtain ⟨vo, hvo⟩ : ∃ vo, (G[k]'hkl).v = vo := ⟨_, rfl⟩; rw [hvo] at hgc; have hgl := (HP3.out.gl.row.lt gb rfl).2; have hgf := row_free HP3.out.gl.row k; clear hA hPP hvo)
          obtain ⟨hF4, hG4, hb4⟩ := HP3.out.done (by decide) HL.out HS.out (by rw [nL_get HS.out]) (by rw [nL_get HS.out]; exact Nat.le_refl _) HLT.out HLV.out
          exact ⟨⟨k + 1, _, HLT.out, by go_num, hF4, hG4, HB3.out.trans hb4⟩, by have := HLT.out; simp [intOf]; omega⟩
    · obtain rfl : k = N := by omega
      have t1 : decide ((k : Int) < k) = false := by simp
      have t1' : decide (k < k) = false := by simp
      have HF2 := Lib.hid hF
      have HG2 := Lib.hid hG
      have HB := Lib.hid hb
      clear hF hG hb hlt
      go_wp2_with fail
      exact HH.out _ _ _ _ _ _ _ _ _ _ _ _ _ _ _ _ _ _ _ _ _ _ _ _ _ _ _ _ _ _ _ _ G _ HF2.out HG2.out HB.out
theorem info42s : (Try.prog.info? 42).map (fun i => (i.zero, i.size, i.bytes)) = some (some (.slice none 0 0), 1, 24) := by kernel_rfl
theorem mk_sl42 (N : Nat) (hN : N ≤ 2 ^ 18) (w : World) : (Instr.makeSlice 86 (.int .i64 (N : Int)) (.int .i64 (N : Int))).run Try.prog w = .ok (.slice (some ⟨w.heap.size, 0, none⟩) N N) (w.alloc (.cells (List.replicate N (Value.slice none 0 0)).toArray 42)) := by
  obtain ⟨i0, hi, hz0, hz1, hz2⟩ := info_parts info42s
  have hr := run_make (P := Try.prog) w 86 42 i0 (.slice none 0 0) Try.underlying86 hi hz0 .i64 .i64 (N : Int) (N : Int) (by omega) (Int.le_refl _) (by rw [hz2]; omega) (by omega)
  rw [hz1, Int.toNat_natCast] at hr
  have e : madeCells (Value.slice none 0 0).cells (N * 1) = (List.replicate N (Value.slice none 0 0)).toArray := by
    apply Array.ext
    · simp [madeCells]
    · intro i h1 h2
      simp [madeCells, Value.cells, Nat.mod_one]
  rw [e] at hr
  exact hr
set_option maxRecDepth 100000 in
set_option maxHeartbeats 8000000 in
theorem flatW_any {x : List Ext} {L : List Sli} {A : Option Addr} {N cl B : Nat} {W : World} (hL : Lg L) (hN : L.length = N) (hrow : W.ownsRow B 42 1 (.slice A N cl) N (L.map Sli.v)) (hbl : ∀ (k : Nat) (s : Sli) (b : Nat), L[k]? = some s → s.g = some b → B ≤ b ∧ ∃ F, W.heap[b]? = some (.cells F 40 (0, 0)) ∧ F.size = s.c) (hB : B ≤ W.heap.size) (hx : ∀ y ∈ x, W.heap[y.b]? = some (.cells y.F y.t (0, 0))) (hxo : ∀ y ∈ x, y.t ≠ 40 ∧ y.t ≠ 42) :
    Calls Try.prog 68 #[.slice A N cl] W fun e w' => e = .returned (.bool true) ∧ Below B W w' ∧ ∀ y ∈ x, w'.heap[y.b]? = some (.cells y.F y.t (0, 0)) := by
  have hN20 : N ≤ 2 ^ 18 := by rw [← hN]; exact hL.len
  have hF : Fl x 40 42 B FW L (.slice A N cl) W (fun _ => 0) := ⟨by rw [hN]; exact hrow, fun k s b hk hg => ⟨(hbl k s b hk hg).1, by
    obtain ⟨F, h1, h2⟩ := (hbl k s b hk hg).2
    exact ⟨F, h1, h2, fun i hi => by omega⟩⟩, hx, hxo⟩
  have HF := Lib.hid hF
  have HBB := Lib.hid hB
  have hmk := mk_sl42 N hN20
  have HL := Lib.hid hL
  have HN := Lib.hid hN
  clear hF hrow hbl hL hN hB hx hxo
  go_enter Try.func68, Try.ntmps68
  go_upto_block 0 with fail
  refine flW1_any _ (by kernel_rfl) _ HL.out HN.out HF.out HBB.out ?_
  intro y3 y4 y16 y17 y18 y19 y20 y21 y22 y23 y24 y25 y26 y27 y28 y29 y30 y31 y32 y33 y34 y35 y36 y37 y38 y39 W1 hF1 hb1
  have HF1 := Lib.hid hF1
  have HB1 := Lib.hid hb1
  clear hF1 hb1
  go_upto_region 8 with fail
  go_upto_block 4 with fail
  have hal := heap_alloc_last W1 (Obj.cells (List.replicate N (Value.slice none 0 0)).toArray 42)
  have hb2 : Below W1.heap.size W1 (W1.alloc (Obj.cells (List.replicate N (Value.slice none 0 0)).toArray 42)) := (Below.refl _ _).alloc (Nat.le_refl _) _
  have hlv : (Value.slice A N cl).ownBlock ≠ some W1.heap.size := fun h => by have := (HF1.out.row.lt _ h).2; omega
  have hG2 : Gl 40 42 B FW L (fun k => nL L k + 64) W1.heap.size N (W1.alloc (Obj.cells (List.replicate N (Value.slice none 0 0)).toArray 42)) 0 (List.replicate N ⟨none, 0, 0⟩) := by
    refine ⟨by simp, ⟨by simp, .inr ⟨W1.heap.size, N, _, rfl, Nat.le_trans HBB.out HB1.out.size, hal, Nat.le_refl _, lt_maxLen' (by omega), by simp, ?_⟩⟩, fun k s hk => by omega, fun k j s t b hk => by omega, fun k j s t b hk => by omega⟩
    rw [Nat.mul_one, List.take_of_length_le (by simp)]
    simp [Sli.v]
  have hBS : B ≤ W1.heap.size := Nat.le_trans HBB.out HB1.out.size
  refine flW2_any _ (by kernel_rfl) _ HL.out HN.out (HF1.out.bel hb2) hG2 hlv ?_
  intro y6 y7 y8 y43 y44 y45 y46 y47 y48 y49 y50 y51 y52 y53 y54 y55 y56 y57 y58 y59 y60 y61 y62 y63 y64 y65 y66 y67 y68 y69 y70 y71 y72 G W3 hF3 hG3 hb3
  have HF3 := Lib.hid hF3
  have HG3 := Lib.hid hG3
  have HB3 := Lib.hid ((HB1.out.trans (hb2.mono hBS)).trans hb3)
  have HLV := Lib.hid hlv
  clear hF3 hG3 hb3 hal hb2 hG2 hlv hmk
  obtain ⟨gb, hgb⟩ : ∃ gb, W1.heap.size = gb := ⟨_, rfl⟩
  rw [hgb] at HG3 HLV ⊢
  clear hgb
  go_upto_block 8 with fail
  refine flW3_any _ (by kernel_rfl) _ HL.out HN.out HF3.out HG3.out ?_
  intro y2 y9 y10 y73 y74 y75 y76 y77 y78 y79 y80 y81 y82 y83 y84 y85 y86 y87 y88 y89 y90 y91 y92 y93 y94 y95 y96 y97 y98 y99 y100 y101 y102 y103 y104 y105 y106 y107 y108 y109 y110 y111 y112 y113 y114 y115 y116 y117 y118 y119 y120 y121 y122 W4 hb4
  have hBS3 : B ≤ W3.heap.size := Nat.le_trans HBB.out HB3.out.size
  have HF4 := Lib.hid (HF3.out.bel hb4)
  have HG4 := Lib.hid (HG3.out.bel hb4)
  have HB4 := Lib.hid (HB3.out.trans (hb4.mono hBS3))
  clear hb4
  go_upto_block 12 with fail
  refine flW4_any (G0 := G) _ (by kernel_rfl) _ HL.out HN.out HF4.out ⟨HG4.out.len, HG4.out.row, fun k s hk => by omega, fun k j s t b hk => by omega, fun k j s t b hk => by omega⟩ HLV.out ?_
  intro y11 y12 y13 y123 y124 y125 y126 y127 y128 y129 y130 y131 y132 y133 y134 y135 y136 y137 y138 y139 y140 y141 y142 y143 y144 y145 y146 y147 y148 y149 y150 y151 G5 W5 hF5 hG5 hb5
  have HF5 := Lib.hid hF5
  have HG5 := Lib.hid hG5
  have HB5 := Lib.hid (HB4.out.trans hb5)
  clear hF5 hG5 hb5
  go_upto_block 16 with fail
  refine flW5_any _ (by kernel_rfl) _ HL.out HN.out HF5.out HG5.out ?_
  intro y2 y14 y15 y152 y153 y154 y155 y156 y157 y158 y159 y160 y161 y162 y163 y164 y165 y166 y167 y168 y169 y170 y171 y172 y173 y174 y175 y176 y177 y178 y179 y180 y181 y182 y183 y184 y185 y186 y187 y188 y189 y190 y191 y192 W6 hb6
  have HB6 := Lib.hid (HB5.out.trans (hb6.mono (Nat.le_trans HBB.out HB5.out.size)))
  have HX6 := Lib.hid (fun y (hy : y ∈ x) => blk_below hb6 (HF5.out.ext y hy))
  clear hb6
  go_wp2_with fail
  go_ret
  exact ⟨rfl, HB6.out, HX6.out⟩

end Go.Proofs.Ytjfnnclbfaakkaa

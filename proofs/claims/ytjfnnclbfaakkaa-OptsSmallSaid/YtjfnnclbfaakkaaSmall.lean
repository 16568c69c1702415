/-
  The walk of OptsSmall. No conditions.
-/
import Derived.Test.YtjfnnclbfaakkaaSmallQ
import Derived.Deep.LoopGhost
import Derived.Deep.DeepCutAuto
namespace Go.Proofs.Ytjfnnclbfaakkaa
open Go.RowKit
set_option linter.unusedVariables false
set_option linter.unusedSimpArgs false

set_option maxRecDepth 100000 in
set_option maxHeartbeats 16000000 in
theorem optsSmall_walk (w : World) : Calls Try.prog 12 #[] w fun e w' => e = .returned (.bool true) ∧ Below w.heap.size w w' := by
  go_enter Try.func12, Try.ntmps12
  go_wp2_with fail
  obtain ⟨X0, hX0⟩ : ∃ X, w.alloc (Obj.cells #[Value.int IntKind.u8 0, Value.int IntKind.u8 1, Value.int IntKind.u8 2, Value.int IntKind.u8 7, Value.int IntKind.u8 68, Value.int IntKind.u8 131, Value.int IntKind.u8 137, Value.int IntKind.u8 148, Value.int IntKind.u8 255] 5) = X := ⟨_, rfl⟩
  have hb0 : Below w.heap.size w X0 := by rw [← hX0]; exact (Below.refl _ _).alloc (Nat.le_refl _) _
  have h0 : X0.heap[w.heap.size]? = some (.cells #[Value.int IntKind.u8 0, Value.int IntKind.u8 1, Value.int IntKind.u8 2, Value.int IntKind.u8 7, Value.int IntKind.u8 68, Value.int IntKind.u8 131, Value.int IntKind.u8 137, Value.int IntKind.u8 148, Value.int IntKind.u8 255] 5 (0, 0)) := by rw [← hX0]; exact heap_alloc_last _ _
  rw [hX0]
  obtain ⟨b17, hb17⟩ : ∃ b, w.heap.size = b := ⟨_, rfl⟩
  have hby0 : By X0 (some ⟨w.heap.size, 0, none⟩) [0, 1, 2, 7, 68, 131, 137, 148, 255] := by_blk_s h0 rfl (by decide)
  rw [hb17] at hby0 ⊢
  have HB0 := Lib.hid hb0
  have HBY0 := Lib.hid hby0
  have hl17 : b17 < X0.heap.size := by rw [← hb17]; exact blk_lt h0
  have HL17 := Lib.hid hl17
  clear hX0 h0 hb17 hby0 hb0 hl17
  go_loopw [19] (fun v19 wx => ∃ i : Nat, 0 ≤ i ∧ i ≤ 9 ∧ v19 = .int .i64 i ∧ Below X0.heap.size X0 wx) (fun v _ => 9 - (intOf v).toNat)
  case atStart => exact ⟨0, by omega, by omega, rfl, Below.refl _ _⟩
  case round =>
    obtain ⟨i, hmni, hmxi, rfl, hb⟩ := hrel
    have HBi := Lib.hid hb
    clear hb
    by_cases hlti : i < 9
    · have ti : decide ((i : Int) < 9) = true := by simp; omega
      have ti' : decide (i < 9) = true := by simp; omega
      have tii : (i : Int) < 9 := by omega
      have tji : (0 : Int) ≤ i := by omega
      obtain ⟨kd, c0, hk⟩ := by_at HBY0.out (q := i) (by simpa using hlti)
      replace c0 := kc HBi.out c0
      have l17 := Nat.lt_of_lt_of_le HL17.out HBi.out.size
      go_wp2_with fail
      clear c0 l17
      go_loopw [3] (fun v3 wx => ∃ n : Nat, 0 ≤ n ∧ n ≤ 41 ∧ v3 = .int .i64 n ∧ Below X0.heap.size X0 wx) (fun v _ => 41 - (intOf v).toNat)
      case atStart => exact ⟨0, by omega, by omega, rfl, HBi.out⟩
      case round =>
        obtain ⟨n, hmnn, hmxn, rfl, hb⟩ := hrel
        have HBn := Lib.hid hb
        clear hb
        by_cases hltn : n < 41
        · have tn : decide ((n : Int) < 41) = true := by simp; omega
          have tn' : decide (n < 41) = true := by simp; omega
          have tin : (n : Int) < 41 := by omega
          have tjn : (0 : Int) ≤ n := by omega
          go_wp2_with fail
          go_loopw [4] (fun v4 wx => ∃ p : Nat, 0 ≤ p ∧ p ≤ 48 ∧ v4 = .int .i64 p ∧ Below X0.heap.size X0 wx) (fun v _ => 48 - (intOf v).toNat)
          case atStart => exact ⟨0, by omega, by omega, rfl, HBn.out⟩
          case round =>
            obtain ⟨p, hmnp, hmxp, rfl, hb⟩ := hrel
            have HBp := Lib.hid hb
            clear hb
            by_cases hltp : p < 48
            · have tp : decide ((p : Int) < 48) = true := by simp; omega
              have tp' : decide (p < 48) = true := by simp; omega
              have tip : (p : Int) < 48 := by omega
              have tjp : (0 : Int) ≤ p := by omega
              have hmk := mk_bytes_s .i64 n n rfl (by omega) wr
              go_upto_region 11 with fail
              obtain ⟨X1, hX1⟩ : ∃ X, (wr.alloc (Obj.cells (Array.replicate n (Value.int IntKind.u8 0)) 5)).alloc (Obj.cells #[Value.int IntKind.u8 kd, Value.slice (some { block := wr.heap.size, off := 0 }) n n] 36) = X := ⟨_, rfl⟩
              have hdt : DtS X0 wr.heap.size (wr.heap.size + 1) n kd X1 := by rw [← hX1]; exact DtS.mk' HBp.out rfl rfl
              rw [hX1]
              obtain ⟨b5, hb5⟩ : ∃ b, wr.heap.size + 1 = b := ⟨_, rfl⟩
              rw [hb5] at hdt ⊢
              obtain ⟨g0, hg0⟩ : ∃ b, wr.heap.size = b := ⟨_, rfl⟩
              rw [hg0] at hdt ⊢
              have HDT := Lib.hid hdt
              have HPW := Lib.hid hmk
              clear hX1 hb5 hg0 hdt hmk tp tp' tip
              go_upto_if 36 with fail
              go_cut [] (fun wx => DtS X0 g0 b5 n kd wx)
              case first =>
                by_cases h0 : 0 < n
                · have t5 : decide ((0 : Int) < n) = true := by simp; omega
                  have t5' : decide (0 < n) = true := by simp; omega
                  obtain ⟨⟨u, c1⟩, f1⟩ := HDT.out.cell h0
                  have c2 := blk_cell HDT.out.obj 1
                  simp at c2
                  have l5 := blk_lt HDT.out.obj
                  have hg := cell_lt c1
                  replace hg : g0 < X1.heap.size := hg
                  have hp8 : (p : Int) % 256 = p := by omega
                  go_wp2_with fail
                  go_meet
                  exact HDT.out.set h0 (by omega)
                · obtain rfl : n = 0 := by omega
                  go_wp2_with fail
                  go_meet
                  exact HDT.out
              have HD1 := Lib.hid hcut
              clear hcut HDT HPW
              go_upto_region 13 with fail
              go_cut [47] (fun v47 wx => (∃ z : Bool, v47 = .bool z ∧ (z = true → 1 < n)) ∧ wx = wc)
              case first =>
                by_cases h1 : 1 < n
                · have t5 : decide ((1 : Int) < n) = true := by simp; omega
                  have t5' : decide (1 < n) = true := by simp; omega
                  have ht1 : (1 : Int) < n := by omega
                  by_cases h68 : kd = 68
                  · have t6 : (kd == 68) = true := by simp [h68]
                    have t6' : decide (kd = 68) = true := by simp [h68]
                    clear h68
                    go_wp2_with fail
                    go_meet
                    exact ⟨⟨true, rfl, fun _ => h1⟩, rfl⟩
                  · have t6 : (kd == 68) = false := by simp [h68]
                    have t6' : decide (kd = 68) = false := by simp [h68]
                    clear h68
                    go_wp2_with fail
                    go_meet
                    exact ⟨⟨false, rfl, fun _ => h1⟩, rfl⟩
                · have t5 : decide ((1 : Int) < n) = false := by simp; omega
                  have t5' : decide (1 < n) = false := by simp; omega
                  go_wp2_with fail
                  go_meet
                  exact ⟨⟨false, rfl, fun h => by cases h⟩, rfl⟩
              obtain ⟨⟨z, rfl, hz⟩, rfl⟩ := hcut
              have HZ := Lib.hid hz
              clear hz
              go_upto_if 47 with fail
              go_cut [] (fun wx => DtS X0 g0 b5 n kd wx)
              case first =>
                cases z
                · go_wp2_with fail
                  go_meet
                  exact HD1.out
                · have h1 : 1 < n := HZ.out rfl
                  obtain ⟨⟨u, c1⟩, f1⟩ := HD1.out.cell h1
                  have c2 := blk_cell HD1.out.obj 1
                  simp at c2
                  have l5 := blk_lt HD1.out.obj
                  have hg := cell_lt c1
                  have ht1 : (1 : Int) < n := by omega
                  go_wp2_with fail
                  go_meet
                  exact HD1.out.set h1 (by omega)
              obtain ⟨d, hd1, hd2, hd3⟩ := hcut.ex
              have hby := by_blk_s hd3 (by simp) hd2
              have HD1' := Lib.hid hd1
              have HD2 := Lib.hid hd2
              have HC := Lib.hid hcut
              have HBYD := Lib.hid hby
              clear hcut hd1 hd2 hd3 hby HD1 HZ
              go_upto_region 15 with fail
              refine r15_any _ (by kernel_rfl) _ HC.out.obj HBYD.out HD1'.out (by omega) hltp hk ?_
              intro y56 y57 y58 y59 y60 y61 y62 y63 y64 y65 y66 y67 y68 y69 y70 y71 y72 y73 y74 y75 y76 y77 y78 y79 y80 X2 hb
              have HBX := Lib.hid (HC.out.b.trans (hb.mono HC.out.b.size))
              have HBY2 := Lib.hid (HBYD.out.below hb)
              have hobj := blk_below hb HC.out.obj
              have c1 := blk_cell hobj 1
              simp at c1
              have l5 := blk_lt hobj
              clear hb hobj HC HBYD
              go_upto_region 17 with fail
              obtain ⟨r8, hr8⟩ : ∃ r : Nat, (p : Int).tmod 8 = r := ⟨p % 8, by rw [Int.tmod_eq_emod_of_nonneg (by omega)]; omega⟩
              go_cut [100] (fun v100 wx => v100 = .bool false ∧ Below X2.heap.size X2 wx)
              case first =>
                by_cases h4 : r8 = 4
                · have t5 : decide ((r8 : Int) = 4) = true := by simp; omega
                  have t5' : ((r8 : Int) == 4) = true := by simp; omega
                  clear h4
                  by_cases h39 : n < 39
                  · have t6 : decide ((n : Int) < 39) = true := by simp; omega
                    have t6' : decide (n < 39) = true := by simp; omega
                    have hi39 : (n : Int) < 39 := by omega
                    have hn2 : ((n : Int) + 2) % 256 = (n : Int) + 2 := by omega
                    obtain ⟨S, hS⟩ : ∃ S, X2.heap.size = S := ⟨_, rfl⟩
                    obtain ⟨X3, hX3⟩ : ∃ X, X2.alloc (Obj.cells #[Value.int IntKind.u8 kd, Value.int IntKind.u8 (n + 2)] 5) = X := ⟨_, rfl⟩
                    have hal := heap_alloc_last X2 (Obj.cells #[Value.int IntKind.u8 kd, Value.int IntKind.u8 (n + 2)] 5)
                    have hba : Below X2.heap.size X2 X3 := by rw [← hX3]; exact (Below.refl _ _).alloc (Nat.le_refl _) _
                    rw [hX3, hS] at hal
                    have HROW := Lib.hid (row2_w hal)
                    have HBY3 := Lib.hid (HBY2.out.below hba)
                    have HBA := Lib.hid hba
                    have HX3 := Lib.hid hX3
                    have HSS := Lib.hid hS
                    have HSZ : Hid (S ≤ X3.heap.size) := by show _ ≤ _; rw [← hS]; exact hba.size
                    have HNEW := Lib.hid HBY3.out.news
                    have HL1 : Hid ((d.map (Value.int .u8)).length = n) := by show _ = _; simp [HD1'.out]
                    have HONE := Lib.hid (one_bytes d)
                    clear hX3 hal hba hS
                    go_wp2_with (at_builtin; (try rw [HX3.out]); (try rw [HSS.out]); refine wpList_append_g rfl _ _ rfl S _ 2 [.int .u8 kd, .int .u8 (n + 2)] rfl HROW.out ⟨g0, 0, none⟩ n n (d.map (Value.int .u8)) rfl HL1.out HNEW.out HONE.out (by omega) HSZ.out ?_; intro v3 w3 hown3 hgrow3; (try dsimp only [Act.put]); (try simp only [List.setIfInBounds_toArray, List.set_cons_succ, List.set_cons_zero]); have HO3 := Lib.hid hown3; have HB3 := Lib.hid (HBA.out.grown hgrow3 HBA.out.size fun k e => by have := (HROW.out.lt k e).1; have := HSS.out; omega); clear hown3 hgrow3)
                    refine (reads_own (kd :: (n + 2) :: d) HO3.out rfl (by simp [HD1'.out]; omega) (by intro x hx; simp at hx; rcases hx with rfl | rfl | hx; exact hk; omega; exact HD2.out x hx)).mono ?_
                    rintro e Y ⟨rfl, hb⟩
                    have HB4 := Lib.hid (HB3.out.trans (hb.mono HB3.out.size))
                    clear hb
                    go_wp2_with fail
                    go_meet
                    exact ⟨rfl, HB4.out⟩
                  · have t6 : decide ((n : Int) < 39) = false := by simp; omega
                    have t6' : decide (n < 39) = false := by simp; omega
                    go_wp2_with fail
                    go_meet
                    exact ⟨rfl, Below.refl _ _⟩
                · have t5 : decide ((r8 : Int) = 4) = false := by simp; omega
                  have t5' : ((r8 : Int) == 4) = false := by simp; omega
                  go_wp2_with fail
                  go_meet
                  exact ⟨rfl, Below.refl _ _⟩
              obtain ⟨rfl, hb⟩ := hcut
              have HBE := Lib.hid (HBX.out.trans (hb.mono HBX.out.size))
              clear hb c1 l5 hr8
              go_wp2_with fail
              exact ⟨⟨p + 1, by omega, by omega, by go_num, HBE.out⟩, by simp [intOf]; omega⟩
            · have tp : decide ((p : Int) < 48) = false := by simp; omega
              have tp' : decide (p < 48) = false := by simp; omega
              have tnp : ¬ ((p : Int) < 48) := by omega
              clear HBn
              go_wp2_with fail
              exact ⟨⟨n + 1, by omega, by omega, by go_num, HBp.out⟩, by simp [intOf]; omega⟩
        · have tn : decide ((n : Int) < 41) = false := by simp; omega
          have tn' : decide (n < 41) = false := by simp; omega
          have tnn : ¬ ((n : Int) < 41) := by omega
          clear HBi
          go_wp2_with fail
          exact ⟨⟨i + 1, by omega, by omega, by go_num, HBn.out⟩, by simp [intOf]; omega⟩
    · have ti : decide ((i : Int) < 9) = false := by simp; omega
      have ti' : decide (i < 9) = false := by simp; omega
      have tni : ¬ ((i : Int) < 9) := by omega
      go_wp2_with fail
      obtain ⟨Z0, hZ0⟩ : ∃ X, wr.alloc (Obj.cells #[Value.int IntKind.u8 0, Value.int IntKind.u8 1, Value.int IntKind.u8 2, Value.int IntKind.u8 3, Value.int IntKind.u8 4, Value.int IntKind.u8 7, Value.int IntKind.u8 68, Value.int IntKind.u8 137] 5) = X := ⟨_, rfl⟩
      have hb0 : Below wr.heap.size wr Z0 := by rw [← hZ0]; exact (Below.refl _ _).alloc (Nat.le_refl _) _
      have h0 : Z0.heap[wr.heap.size]? = some (.cells #[Value.int IntKind.u8 0, Value.int IntKind.u8 1, Value.int IntKind.u8 2, Value.int IntKind.u8 3, Value.int IntKind.u8 4, Value.int IntKind.u8 7, Value.int IntKind.u8 68, Value.int IntKind.u8 137] 5 (0, 0)) := by rw [← hZ0]; exact heap_alloc_last _ _
      rw [hZ0]
      have hby0 : By Z0 (some ⟨wr.heap.size, 0, none⟩) [0, 1, 2, 3, 4, 7, 68, 137] := by_blk_s h0 rfl (by decide)
      obtain ⟨b6, hb6⟩ : ∃ b, wr.heap.size = b := ⟨_, rfl⟩
      rw [hb6] at hby0 ⊢
      have HBY6 := Lib.hid hby0
      have HZ := Lib.hid (HB0.out.trans ((HBi.out.trans (hb0.mono HBi.out.size)).mono HB0.out.size))
      clear hZ0 h0 hb6 hby0 hb0 HBi HBY0 HL17 ti ti' tni hmni hmxi hlti
      go_loopw [7] (fun v7 wx => ∃ i : Nat, 0 ≤ i ∧ i ≤ 4096 ∧ v7 = .int .i64 i ∧ Below Z0.heap.size Z0 wx) (fun v _ => 4096 - (intOf v).toNat)
      case atStart => exact ⟨0, by omega, by omega, rfl, Below.refl _ _⟩
      case round =>
        obtain ⟨i, hmni, hmxi, rfl, hb⟩ := hrel
        have HBi := Lib.hid hb
        clear hb
        by_cases hlti : i < 4096
        · have ti : decide ((i : Int) < 4096) = true := by simp; omega
          have ti' : decide (i < 4096) = true := by simp; omega
          have tii : (i : Int) < 4096 := by omega
          have tji : (0 : Int) ≤ i := by omega
          go_upto_region 24 with fail
          refine r24_any _ (by kernel_rfl) _ (HBY6.out.below HBi.out) rfl hlti ?_
          intro y107 y108 y109 y110 y111 y112 y113 y114 y115 y116 y117 y118 y119 y120 y121 y122 y123 y124 y125 y126 y127 y128 y129 b8 d8 X2 hd8 hby hb
          have HBY := Lib.hid hby
          have HD8 := Lib.hid hd8
          have HBX := Lib.hid (HBi.out.trans (hb.mono HBi.out.size))
          clear hby hd8 hb ti ti' tii
          obtain ⟨q, hq⟩ : ∃ r : Nat, (i : Int).tmod 4 = r := ⟨i % 4, by rw [Int.tmod_eq_emod_of_nonneg (by omega)]; omega⟩
          have hq4 : q < 4 := by rw [Int.tmod_eq_emod_of_nonneg (by omega)] at hq; omega
          have hqi : (1 : Int) + q ≤ 4 := by omega
          have hqj : (0 : Int) ≤ 1 + q := by omega
          go_wp2_with fail
          refine (reads_s (d8.take (1 + q)) (1 + q) (some ⟨b8, 0, none⟩) 4 _ (by rw [List.length_take, HD8.out]; omega) (HBY.out.take _) (by omega) (lt_maxLen' (by omega)) (fun h => by cases h)).mono ?_
          rintro e X3 ⟨rfl, hb⟩
          have HBY3 := Lib.hid (HBY.out.below hb)
          have HBX3 := Lib.hid (HBX.out.trans (hb.mono HBX.out.size))
          clear hb
          go_wp2_with fail
          refine (reads_s d8 4 (some ⟨b8, 0, none⟩) 4 _ HD8.out HBY3.out (by omega) (lt_maxLen' (by omega)) (fun h => by cases h)).mono ?_
          rintro e X4 ⟨rfl, hb⟩
          have HBX4 := Lib.hid (HBX3.out.trans (hb.mono HBX3.out.size))
          clear hb
          go_wp2_with fail
          exact ⟨⟨i + 1, by omega, by omega, by go_num, HBX4.out⟩, by simp [intOf]; omega⟩
        · have ti : decide ((i : Int) < 4096) = false := by simp; omega
          have ti' : decide (i < 4096) = false := by simp; omega
          have tni : ¬ ((i : Int) < 4096) := by omega
          go_wp2_with fail
          clear HBY6 ti ti' tni hmni hmxi hlti
          go_loopw [9] (fun v9 wx => ∃ n : Nat, 36 ≤ n ∧ n ≤ 44 ∧ v9 = .int .i64 n ∧ Below Z0.heap.size Z0 wx) (fun v _ => 44 - (intOf v).toNat)
          case atStart => exact ⟨36, by omega, by omega, rfl, HBi.out⟩
          case round =>
            obtain ⟨n, hmnn, hmxn, rfl, hb⟩ := hrel
            have HBn := Lib.hid hb
            clear hb
            by_cases hltn : n < 44
            · have tn : decide ((n : Int) < 44) = true := by simp; omega
              have tn' : decide (n < 44) = true := by simp; omega
              have tin : (n : Int) < 44 := by omega
              have tjn : (0 : Int) ≤ n := by omega
              have hmk := mk_bytes_s .i64 n n rfl (by omega) wr
              go_upto_region 31 with fail
              obtain ⟨X1, hX1⟩ : ∃ X, wr.alloc (Obj.cells (Array.replicate n (Value.int IntKind.u8 0)) 5) = X := ⟨_, rfl⟩
              have hb1 : Below wr.heap.size wr X1 := by rw [← hX1]; exact (Below.refl _ _).alloc (Nat.le_refl _) _
              have h1 : X1.heap[wr.heap.size]? = some (.cells (Array.replicate n (Value.int IntKind.u8 0)) 5 (0, 0)) := by rw [← hX1]; exact heap_alloc_last _ _
              rw [hX1]
              have hlow := HBn.out.size
              have HBX1 := Lib.hid (HBn.out.trans (hb1.mono HBn.out.size))
              obtain ⟨g, hg⟩ : ∃ b, wr.heap.size = b := ⟨_, rfl⟩
              rw [hg] at h1 hlow ⊢
              have H1 := Lib.hid h1
              have HLOW := Lib.hid hlow
              have f0 := blk_free h1 0
              have f1 := blk_free h1 1
              have c0 : X1.cell? ⟨g, 0, none⟩ = some (.int .u8 0) := by
                rw [blk_cell h1 0, Array.getElem?_replicate, if_pos (by omega)]
              have c1 : X1.cell? ⟨g, 1, none⟩ = some (.int .u8 0) := by
                rw [blk_cell h1 1, Array.getElem?_replicate, if_pos (by omega)]
              have hgl := blk_lt h1
              have hn8 : (n : Int) % 256 = n := by omega
              have i0 : (0 : Int) < n := by omega
              have i1 : (1 : Int) < n := by omega
              clear hmk hX1 hb1 h1 hlow hg tn tn' tin
              go_upto_region 32 with fail
              have hset := blk_set (blk_set H1.out 0 (.int .u8 200)) 1 (.int .u8 n)
              obtain ⟨X2, hX2⟩ : ∃ X, (X1.setCell ⟨g, 0, none⟩ (.int .u8 200)).setCell ⟨g, 1, none⟩ (.int .u8 (n : Int)) = X := ⟨_, rfl⟩
              have hb2 : Below Z0.heap.size Z0 X2 := by rw [← hX2]; exact (HBX1.out.setCell (p := ⟨g, 0, none⟩) HLOW.out _).setCell (p := ⟨g, 1, none⟩) HLOW.out _
              rw [hX2] at hset ⊢
              have hby : By X2 (some ⟨g, 0, none⟩) (((List.replicate n (0 : Int)).set 0 200).set 1 n) := by_blk_s hset (by simp [List.map_set]) fun x hx => by
                rcases List.mem_or_eq_of_mem_set hx with hx | rfl
                · rcases List.mem_or_eq_of_mem_set hx with hx | rfl
                  · have := (List.mem_replicate.1 hx).2
                    omega
                  · decide
                · omega
              have HB2 := Lib.hid hb2
              have HBY := Lib.hid hby
              clear hset hX2 hb2 hby c0 c1 f0 f1 hgl hn8 i0 i1 H1 HBX1 HLOW
              refine r32_any _ (by kernel_rfl) _ HBY.out (by simp) hmnn hltn ?_
              intro y154 y155 y156 y157 y158 y159 y160 y161 y162 y163 y164 y165 y166 y167 y168 y169 y170 y171 y172 y173 y174 y175 y176 y177 y178 y179 y180 y181 X3 hb
              have HBE := Lib.hid (HB2.out.trans (hb.mono HB2.out.size))
              clear hb
              go_wp2_with fail
              exact ⟨⟨n + 1, by omega, by omega, by go_num, HBE.out⟩, by simp [intOf]; omega⟩
            · have tn : decide ((n : Int) < 44) = false := by simp; omega
              have tn' : decide (n < 44) = false := by simp; omega
              have tnn : ¬ ((n : Int) < 44) := by omega
              go_wp2_with fail
              obtain ⟨V0, hV⟩ : ∃ X, wr.alloc (Obj.cells #[Value.int IntKind.u8 7, Value.int IntKind.u8 68, Value.int IntKind.u8 131, Value.int IntKind.u8 137, Value.int IntKind.u8 148, Value.int IntKind.u8 9] 5) = X := ⟨_, rfl⟩
              have hbV : Below wr.heap.size wr V0 := by rw [← hV]; exact (Below.refl _ _).alloc (Nat.le_refl _) _
              have h0 : V0.heap[wr.heap.size]? = some (.cells #[Value.int IntKind.u8 7, Value.int IntKind.u8 68, Value.int IntKind.u8 131, Value.int IntKind.u8 137, Value.int IntKind.u8 148, Value.int IntKind.u8 9] 5 (0, 0)) := by rw [← hV]; exact heap_alloc_last _ _
              rw [hV]
              have hby0 : By V0 (some ⟨wr.heap.size, 0, none⟩) [7, 68, 131, 137, 148, 9] := by_blk_s h0 rfl (by decide)
              obtain ⟨bq, hbb⟩ : ∃ b, wr.heap.size = b := ⟨_, rfl⟩
              have hlb : bq < V0.heap.size := by rw [← hbb]; exact blk_lt h0
              rw [hbb] at hby0 ⊢
              have HBYbq := Lib.hid hby0
              have HLbq := Lib.hid hlb
              have HXbq := Lib.hid (HBn.out.trans (hbV.mono HBn.out.size))
              clear hV h0 hbb hby0 hbV hlb
              have HV0 := Lib.hid (HZ.out.trans (HXbq.out.mono HZ.out.size))
              clear HXbq tn tn' tnn hmnn hmxn hltn HBn
              go_loopw [185] (fun v185 wx => ∃ i : Nat, 0 ≤ i ∧ i ≤ 6 ∧ v185 = .int .i64 i ∧ Below V0.heap.size V0 wx) (fun v _ => 6 - (intOf v).toNat)
              case atStart => exact ⟨0, by omega, by omega, rfl, Below.refl _ _⟩
              case round =>
                obtain ⟨i, hmni, hmxi, rfl, hb⟩ := hrel
                have HBi := Lib.hid hb
                clear hb
                by_cases hlti : i < 6
                · have ti : decide ((i : Int) < 6) = true := by simp; omega
                  have ti' : decide (i < 6) = true := by simp; omega
                  have tii : (i : Int) < 6 := by omega
                  have tji : (0 : Int) ≤ i := by omega
                  obtain ⟨ka, c0, hka⟩ := by_at HBYbq.out (q := i) (by simpa using hlti)
                  replace c0 := kc HBi.out c0
                  have l17 := Nat.lt_of_lt_of_le HLbq.out HBi.out.size
                  go_wp2_with fail
                  clear c0 l17
                  obtain ⟨V1, hV⟩ : ∃ X, wr.alloc (Obj.cells #[Value.int IntKind.u8 7, Value.int IntKind.u8 68, Value.int IntKind.u8 131, Value.int IntKind.u8 137, Value.int IntKind.u8 148, Value.int IntKind.u8 9] 5) = X := ⟨_, rfl⟩
                  have hbV : Below wr.heap.size wr V1 := by rw [← hV]; exact (Below.refl _ _).alloc (Nat.le_refl _) _
                  have h0 : V1.heap[wr.heap.size]? = some (.cells #[Value.int IntKind.u8 7, Value.int IntKind.u8 68, Value.int IntKind.u8 131, Value.int IntKind.u8 137, Value.int IntKind.u8 148, Value.int IntKind.u8 9] 5 (0, 0)) := by rw [← hV]; exact heap_alloc_last _ _
                  rw [hV]
                  have hby0 : By V1 (some ⟨wr.heap.size, 0, none⟩) [7, 68, 131, 137, 148, 9] := by_blk_s h0 rfl (by decide)
                  obtain ⟨br, hbb⟩ : ∃ b, wr.heap.size = b := ⟨_, rfl⟩
                  have hlb : br < V1.heap.size := by rw [← hbb]; exact blk_lt h0
                  rw [hbb] at hby0 ⊢
                  have HBYbr := Lib.hid hby0
                  have HLbr := Lib.hid hlb
                  have HXbr := Lib.hid (HBi.out.trans (hbV.mono HBi.out.size))
                  clear hV h0 hbb hby0 hbV hlb
                  go_loopw [191] (fun v191 wx => ∃ j : Nat, 0 ≤ j ∧ j ≤ 6 ∧ v191 = .int .i64 j ∧ Below V1.heap.size V1 wx) (fun v _ => 6 - (intOf v).toNat)
                  case atStart => exact ⟨0, by omega, by omega, rfl, Below.refl _ _⟩
                  case round =>
                    obtain ⟨j, hmnj, hmxj, rfl, hb⟩ := hrel
                    have HBj := Lib.hid hb
                    clear hb
                    by_cases hltj : j < 6
                    · have tj : decide ((j : Int) < 6) = true := by simp; omega
                      have tj' : decide (j < 6) = true := by simp; omega
                      have tij : (j : Int) < 6 := by omega
                      have tjj : (0 : Int) ≤ j := by omega
                      obtain ⟨kb, c0, hkb⟩ := by_at HBYbr.out (q := j) (by simpa using hltj)
                      replace c0 := kc HBj.out c0
                      have l17 := Nat.lt_of_lt_of_le HLbr.out HBj.out.size
                      go_upto_if 198 with fail
                      obtain ⟨U0, hU0⟩ : ∃ X, (wr.alloc (Obj.cells #[Value.int IntKind.u8 4] 5)).alloc (Obj.cells #[Value.int IntKind.u8 4] 5) = X := ⟨_, rfl⟩
                      have ha1 : Below wr.heap.size wr (wr.alloc (Obj.cells #[Value.int IntKind.u8 4] 5)) := (Below.refl _ _).alloc (Nat.le_refl _) _
                      have ha2 : Below (wr.alloc (Obj.cells #[Value.int IntKind.u8 4] 5)).heap.size (wr.alloc (Obj.cells #[Value.int IntKind.u8 4] 5)) U0 := by rw [← hU0]; exact (Below.refl _ _).alloc (Nat.le_refl _) _
                      have hh1 := heap_alloc_last wr (Obj.cells #[Value.int IntKind.u8 4] 5)
                      have hh2 := heap_alloc_last (wr.alloc (Obj.cells #[Value.int IntKind.u8 4] 5)) (Obj.cells #[Value.int IntKind.u8 4] 5)
                      have hsz : (wr.alloc (Obj.cells #[Value.int IntKind.u8 4] 5)).heap.size = wr.heap.size + 1 := by simp
                      rw [hU0, hsz] at hh2
                      rw [hU0]
                      have hy1 := (by_blk_s (d := [4]) hh1 rfl (by decide)).below ha2
                      have hy2 := by_blk_s (d := [4]) hh2 rfl (by decide)
                      have HBU := Lib.hid (HBj.out.trans ((ha1.trans (ha2.mono (by rw [hsz]; omega))).mono HBj.out.size))
                      obtain ⟨g16, hg16⟩ : ∃ b, wr.heap.size + 1 = b := ⟨_, rfl⟩
                      rw [hg16] at hy2 ⊢
                      obtain ⟨g15, hg15⟩ : ∃ b, wr.heap.size = b := ⟨_, rfl⟩
                      rw [hg15] at hy1 ⊢
                      have HY1 := Lib.hid hy1
                      have HY2 := Lib.hid hy2
                      clear c0 l17 tj' tij tjj hU0 ha1 ha2 hh1 hh2 hsz hy1 hy2 hg15 hg16
                      go_cut [15] (fun vx wx => (∃ g m d, vx = .slice (some ⟨g, 0, none⟩) m m ∧ d.length = m ∧ m ≤ 2 ∧ By wx (some ⟨g, 0, none⟩) d) ∧ Below U0.heap.size U0 wx)
                      case first =>
                        by_cases h68 : ka = 68
                        · have t6 : (ka == 68) = true := by simp [h68]
                          have t6' : decide (ka = 68) = true := by simp [h68]
                          clear h68
                          go_wp2_with fail
                          go_meet
                          exact ⟨⟨_, 2, [5, 0], rfl, rfl, by decide, by_blk_s (heap_alloc_last _ _) rfl (by decide)⟩, (Below.refl _ _).alloc (Nat.le_refl _) _⟩
                        · have t6 : (ka == 68) = false := by simp [h68]
                          have t6' : decide (ka = 68) = false := by simp [h68]
                          clear h68
                          go_wp2_with fail
                          go_meet
                          exact ⟨⟨g15, 1, [4], rfl, rfl, by decide, HY1.out⟩, Below.refl _ _⟩
                      obtain ⟨⟨ga, ma, da, rfl, hda, hma, hya⟩, hb⟩ := hcut
                      have HYA := Lib.hid hya
                      have HY22 := Lib.hid (HY2.out.below hb)
                      have HBU2 := Lib.hid (HBU.out.trans (hb.mono HBU.out.size))
                      have HDA := Lib.hid hda
                      have HMA := Lib.hid hma
                      clear hya hb hda hma
                      obtain ⟨U1, hU1⟩ : ∃ U, wc = U := ⟨_, rfl⟩
                      rw [hU1] at HYA HY22 HBU2 ⊢
                      clear hU1
                      go_upto_if 201 with fail
                      go_cut [16] (fun vx wx => (∃ g m d, vx = .slice (some ⟨g, 0, none⟩) m m ∧ d.length = m ∧ m ≤ 2 ∧ By wx (some ⟨g, 0, none⟩) d) ∧ Below U1.heap.size U1 wx)
                      case first =>
                        by_cases h68 : kb = 68
                        · have t6 : (kb == 68) = true := by simp [h68]
                          have t6' : decide (kb = 68) = true := by simp [h68]
                          clear h68
                          go_wp2_with fail
                          go_meet
                          exact ⟨⟨_, 2, [5, 1], rfl, rfl, by decide, by_blk_s (heap_alloc_last _ _) rfl (by decide)⟩, (Below.refl _ _).alloc (Nat.le_refl _) _⟩
                        · have t6 : (kb == 68) = false := by simp [h68]
                          have t6' : decide (kb = 68) = false := by simp [h68]
                          clear h68
                          go_wp2_with fail
                          go_meet
                          exact ⟨⟨g16, 1, [4], rfl, rfl, by decide, HY22.out⟩, Below.refl _ _⟩
                      obtain ⟨⟨gb, mb, db, rfl, hdb, hmb, hyb⟩, hb⟩ := hcut
                      have HYB := Lib.hid hyb
                      have HYA2 := Lib.hid (HYA.out.below hb)
                      have HBU3 := Lib.hid (HBU2.out.trans (hb.mono HBU2.out.size))
                      have HDB := Lib.hid hdb
                      have HMB := Lib.hid hmb
                      clear hyb hb hdb hmb
                      go_upto_region 45 with fail
                      refine r45_any _ (by kernel_rfl) _ hka hkb HYA2.out HDA.out HMA.out HYB.out HDB.out HMB.out ?_
                      intro y203 y204 y205 y206 y207 y208 y209 y210 y211 y212 y213 y214 y215 y216 y217 y218 y219 y220 y221 y222 y223 y224 y225 y226 y227 y228 y229 y230 y231 y232 y233 X3 hb
                      have HBE := Lib.hid (HBU3.out.trans (hb.mono HBU3.out.size))
                      clear hb
                      go_wp2_with fail
                      exact ⟨⟨j + 1, by omega, by omega, by go_num, HBE.out⟩, by simp [intOf]; omega⟩
                    · have tj : decide ((j : Int) < 6) = false := by simp; omega
                      have tj' : decide (j < 6) = false := by simp; omega
                      have tnj : ¬ ((j : Int) < 6) := by omega
                      have HBE := Lib.hid (HXbr.out.trans (HBj.out.mono HXbr.out.size))
                      clear HBi
                      go_wp2_with fail
                      exact ⟨⟨i + 1, by omega, by omega, by go_num, HBE.out⟩, by simp [intOf]; omega⟩
                · have ti : decide ((i : Int) < 6) = false := by simp; omega
                  have ti' : decide (i < 6) = false := by simp; omega
                  have tni : ¬ ((i : Int) < 6) := by omega
                  have HE := Lib.hid (HV0.out.trans (HBi.out.mono HV0.out.size))
                  clear HBi
                  go_wp2_with fail
                  refine (reads_any [] none 0 _ (By.nil _ _) (Nat.le_refl _) (by decide) (fun _ => rfl)).mono ?_
                  rintro e R1 ⟨rfl, hb⟩
                  have HE1 := Lib.hid (HE.out.trans (hb.mono HE.out.size))
                  clear hb
                  go_wp2_with fail
                  refine (writes_any [] none 0 0 _ (Ops.nil _ _)).mono ?_
                  rintro e R2 ⟨rfl, hb⟩
                  have HE2 := Lib.hid (HE1.out.trans (hb.mono HE1.out.size))
                  clear hb
                  go_wp2_with fail
                  refine (awake_any _).mono ?_
                  rintro e R3 ⟨rfl, hb⟩
                  have HE3 := Lib.hid (HE2.out.trans (hb.mono HE2.out.size))
                  clear hb
                  go_wp2_with fail
                  go_ret
                  exact ⟨rfl, HE3.out⟩

end Go.Proofs.Ytjfnnclbfaakkaa

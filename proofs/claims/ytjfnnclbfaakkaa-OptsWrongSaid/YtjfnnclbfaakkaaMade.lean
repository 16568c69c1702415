/-
  The contract of Made. Conditions: the small numbers lie.
-/
import Derived.Test.YtjfnnclbfaakkaaMadeT
import Derived.BigQuiet
import Derived.BigRegion
import Derived.Deep.CutBlock
namespace Go.Proofs.Ytjfnnclbfaakkaa
open Go.RowKit
set_option linter.unusedVariables false
set_option linter.unusedSimpArgs false

set_option maxRecDepth 100000 in
set_option maxHeartbeats 16000000 in
theorem made_any (l : List Sm) (A : Option Addr) (c : Nat) (w : World) (hl : Smalls w A l) (hcap : l.length ≤ c) (hmax : c ≤ maxLen) :
    Calls Try.prog 15 #[.slice A l.length c] w fun e w' => ∃ v css, e = .returned (.tuple #[v, .int .i64 (madeS l).2]) ∧ Got w.heap.size w' v css (madeS l).1 ∧ Below w.heap.size w w' := by
  obtain ⟨n, hN⟩ : ∃ n, l.length = n := ⟨_, rfl⟩
  rw [hN] at hcap ⊢
  have HN := Lib.hid hN
  have HL := Lib.hid hl
  obtain ⟨RES, hRES⟩ : ∃ r, madeS l = r := ⟨_, rfl⟩
  rw [hRES]
  have HRES := Lib.hid hRES
  obtain ⟨m, hm⟩ : ∃ m, min n 40 = m := ⟨_, rfl⟩
  have hmn : m ≤ n := by omega
  have hmin1 : (if 40 < n then (40 : Int) else n) = m := by split <;> omega
  have hmin2 : (if (40 : Int) < n then (40 : Int) else n) = m := by split <;> omega
  have hm0 : (0 : Int) ≤ m := by omega
  have hm40 : m ≤ 40 := by omega
  have hmc : (m : Int) ≤ c := by omega
  have Hm := Lib.hid hm
  have Hmax := Lib.hid hmax
  clear hN hl hRES hm hmax
  go_enter Try.func15, Try.ntmps15
  go_wp2_with fail
  clear hmin1 hmin2
  go_loopw [4, 5, 23] (fun v4 v5 i wr => ∃ (k : Nat) (css : List (List Value)) (acc : List Op1 × Int) (M : Array Value), k ≤ m ∧ v5 = .int .i64 acc.2 ∧ i = .int .i64 k ∧ MdI w l wr k v4 css acc M) (fun _ _ i _ => m - (intOf i).toNat)
  case atStart => exact ⟨0, [], ([], 0), _, by omega, rfl, rfl, ⟨(Below.refl _ _).alloc (Nat.le_refl _) _, Got.nil _ _, heap_alloc_last _ _, ⟨rfl, rfl, rfl, rfl⟩, rfl, MdInv.nil⟩⟩
  case round =>
    obtain ⟨k, css, acc, M, hk, rfl, rfl, hI⟩ := hrel
    by_cases hkl : k < m
    · obtain ⟨b, o, rfl, hbl⟩ := HL.out.pos (by rw [HN.out]; omega)
      obtain ⟨⟨kq, mq, uq, bq⟩, hx⟩ : ∃ x, l[k]? = some x := ⟨l[k]'(by rw [HN.out]; omega), List.getElem?_eq_getElem _⟩
      have hok := HL.out.ok _ (List.mem_of_getElem? hx)
      obtain ⟨Ab, nb, x0, x1, x2, x3, hby, hbl62⟩ := HL.out.at hx
      simp only at x0 x1 x2 x3 hby hbl62
      replace x0 := kc hI.below x0
      replace x1 := kc hI.below x1
      replace x2 := kc hI.below x2
      replace x3 := kc hI.below x3
      have hbl := cell_lt x0
      replace hbl : b < wr.heap.size := hbl
      have t1 : decide ((k : Int) < m) = true := by simp; omega
      have hpos : (k : Int) < m := by omega
      have HI := Lib.hid hI
      have HX := Lib.hid hx
      have HBY := Lib.hid hby
      have HOK := Lib.hid hok
      have H62 := Lib.hid hbl62
      obtain ⟨lb, hlb⟩ : ∃ lb, bq.length = lb := ⟨_, rfl⟩
      have HLB := Lib.hid hlb
      rw [hlb] at x3 hbl62
      have H62' := Lib.hid hbl62
      clear hI hx hby hok hbl62 hlb
      go_upto_region 7 with fail
      obtain ⟨X0, hX0⟩ : ∃ X0, wr.alloc (Obj.cells #[Value.int IntKind.u8 kq, Value.int IntKind.u8 mq, Value.int IntKind.u8 uq, Value.slice Ab lb nb] 44) = X0 := ⟨_, rfl⟩
      have hbx : Below wr.heap.size wr X0 := by rw [← hX0]; exact (Below.refl _ _).alloc (Nat.le_refl _) _
      have hx8 : X0.heap[wr.heap.size]? = some (.cells #[.int .u8 kq, .int .u8 mq, .int .u8 uq, .slice Ab lb nb] 44 (0, 0)) := by rw [← hX0]; exact heap_alloc_last _ _
      rw [hX0]
      have HX8 := Lib.hid hx8
      have HBX := Lib.hid hbx
      obtain ⟨b8, hb8⟩ : ∃ b8, wr.heap.size = b8 := ⟨_, rfl⟩
      have Hb8 := Lib.hid hb8
      have HW8 : Hid (w.heap.size < b8) := by rw [← hb8]; exact blk_lt HI.out.met
      rw [hb8] at HX8 ⊢
      clear hX0 hbx hx8 hb8 x0 x1 x2 x3
      refine rest7_any (by kernel_rfl) _ _ _ (by assumption) HI HX HBY HOK HLB H62' HX8 HBX Hb8 HW8 (Lib.hid ?_)
      intro y9 y10 y11 y12 y13 y14 y15 y16 y24 y25 y26 y27 y28 y29 y30 y31 y32 y33 y34 y35 y36 y37 y38 y39 y40 y41 y42 y43 y44 y45 y46 y47 y48 y49 y50 y51 y52 y53 y54 y55 y56 y57 y58 y59 y60 y61 y62 y63 y64 y65 y66 y67 y68 y69 y70 y71 y72 y73 y74 y75 y76 y77 y78 y79 y80 y81 y82 y83 y84 y85 y86 y87 y88 y89 y90 y91 y92 y93 y94 y95 y96 y97 y98 y99 y100 y101 y102 y103 y104 y105 y106 y107 y108 y109 y110 y111 y112 y113 y114 y115 y116 y117 y118 y119 y120 y121 y122 y123 y124 y125 y126 y127 y128 y129 y130 y131 y132 y133 y134 y135 y136 y137 y138 y139 y140 y141 y142 y143 y144 y145 y146 y147 y148 y149 y150 y151 y152 y153 y154 y155 y156 y157 y158 y159 y160 y161 y162 y163 y164 y165 y166 y167 v4 css' acc' M' w3 hI3
      have HI3 := Lib.hid hI3
      clear hI3
      go_wp2_with fail
      go_roundw
      case rel => exact ⟨k + 1, _, _, _, by omega, rfl, by go_num, HI3.out⟩
      case measure => simp [intOf]; omega
    · obtain rfl : k = m := by omega
      have t1 : decide ((k : Int) < k) = false := by simp
      have hres : RES = acc := by
        rw [← HRES.out, ← hI.eq, madeS]
        congr 1
        rcases Nat.le_total n 40 with h | h
        · rw [List.take_of_length_le (by rw [HN.out]; exact h), List.take_of_length_le (by rw [HN.out, ← Hm.out]; omega)]
        · rw [← Hm.out, Nat.min_eq_right h]
      have HI := Lib.hid hI
      subst hres
      clear hI
      go_wp2_with fail
      refine bodyPost_ret (v := .tuple #[u4, .int .i64 RES.2]) (by simp [results, Try.results15, go_sem]) rfl ?_
      exact ⟨_, _, rfl, HI.out.got.base (by omega), HI.out.below⟩

end Go.Proofs.Ytjfnnclbfaakkaa

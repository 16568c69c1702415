/-
  The walk of HandshakeSmall: all small states, directions and flags, and lists of up to four packets.
-/
import Derived.Test.YtdnammkfipfdbaaDoorTells
import Derived.Test.YtdnammkfipfdbaaDoorRuns
import Derived.StillTailTactics
import Derived.Deep.RegionHeld3
namespace Go.Proofs.YtdnammkfipfdbaaDoor
open Go.RowKit
set_option linter.unusedVariables false

theorem nm_size : ∀ i : Fin 9, (nm i).size ≤ 9 := by decide +kernel
theorem nmi_size (x : Int) (h : 0 ≤ x) : (nmi x).size ≤ 9 := by
  unfold nmi
  split
  · decide
  · exact nm_size ⟨x.toNat, by omega⟩

/-- The packets out of which lists are made. -/
def someL : List Pk := [(0, 2), (1, 18), (0, 16), (1, 24), (0, 17), (1, 49), (1, 20), (0, 0), (2, 16)]
theorem some_ok : ∀ i : Fin 9, PkOk (someL.getD i (0, 0)) := by
  unfold PkOk
  decide +kernel
theorem some_lies (w : World) (g : Nat) (W : World) (hg : w.heap.size = g) (hW : w.alloc (.cells #[.int .u8 0, .int .u8 2, .int .u8 1, .int .u8 18, .int .u8 0, .int .u8 16, .int .u8 1, .int .u8 24, .int .u8 0, .int .u8 17, .int .u8 1, .int .u8 49, .int .u8 1, .int .u8 20, .int .u8 0, .int .u8 0, .int .u8 2, .int .u8 16] 33) = W) :
    ∀ i, i < 9 → ∃ p : Pk, PkOk p ∧ W.cell? ⟨g, i * 2, none⟩ = some (.int .u8 p.1) ∧ W.cell? ⟨g, i * 2 + 1, none⟩ = some (.int .u8 p.2) := by
  subst hg hW
  intro i hi
  refine ⟨someL.getD i (0, 0), some_ok ⟨i, hi⟩, ?_, ?_⟩
  all_goals
    match i, hi with
    | 0, _ | 1, _ | 2, _ | 3, _ | 4, _ | 5, _ | 6, _ | 7, _ | 8, _ => simp [go_sem, someL]

theorem mx5 : 5 ≤ maxLen := by decide
theorem mx4 : 4 ≤ maxLen := by decide
theorem rd_tail {w : World} {b off size : Nat} {css : List (List Value)} (h : Rd w (some ⟨b, off, none⟩) size css) : Rd w (some ⟨b, off + size, none⟩) size css.tail :=
  ⟨fun cs hcs => h.each cs (List.mem_of_mem_tail hcs), fun hne => by
    obtain ⟨b', off', e, hlt, hc⟩ := h.mem (fun e => hne (by rw [e]; rfl))
    simp only [Option.some.injEq, Addr.mk.injEq, and_true] at e
    obtain ⟨rfl, rfl⟩ := e
    refine ⟨b, off + size, rfl, hlt, fun i cs hi j v hv => ?_⟩
    have := hc (i + 1) cs (by simpa using hi) j v hv
    rw [show off + (i + 1) * size + j = off + size + i * size + j by rw [Nat.succ_mul]; omega] at this
    exact this⟩
theorem rd_take {w : World} {A : Option Addr} {size : Nat} {css : List (List Value)} (h : Rd w A size css) (k : Nat) : Rd w A size (css.take k) :=
  ⟨fun cs hcs => h.each cs (List.mem_of_mem_take hcs), fun hne => by
    obtain ⟨b', off', e, hlt, hc⟩ := h.mem (fun e => hne (by rw [e]; simp))
    refine ⟨b', off', e, hlt, fun i cs hi j v hv => hc i cs ?_ j v hv⟩
    rw [List.getElem?_take] at hi
    split at hi
    · exact hi
    · cases hi⟩
theorem mx1 : 1 ≤ maxLen := by decide
theorem one_lies (w : World) (g : Nat) (V : World) (hg : w.heap.size = g) (hV : w.alloc (.cells #[.int .u8 1, .int .u8 2] 33) = V) : Rd V (some ⟨g, 0, none⟩) 2 (([(1, 2)] : List Pk).map pc) := by
  subst hg hV
  refine ⟨pc_each _, fun _ => ⟨_, _, rfl, by simp, fun i cs hi j v hv => ?_⟩⟩
  match i, hi with
  | 0, hi =>
    simp only [List.map_cons, List.getElem?_cons_zero, Option.some.injEq, pc] at hi
    subst hi
    match j, hv with
    | 0, hv | 1, hv =>
      simp only [List.getElem?_cons_zero, List.getElem?_cons_succ, Option.some.injEq] at hv
      subst hv
      simp [go_sem]
    | j + 2, hv => simp at hv
  | i + 1, hi => simp at hi
theorem five_lies (w : World) (g : Nat) (V : World) (hg : w.heap.size = g) (a1 a2 b1 b2 c1 c2 d1 d2 : Int) (hV : (w.alloc (.cells #[.int .u8 0, .int .u8 2, .int .u8 a1, .int .u8 a2, .int .u8 b1, .int .u8 b2, .int .u8 c1, .int .u8 c2, .int .u8 d1, .int .u8 d2] 33)).drew = V) :
    Rd V (some ⟨g, 0, none⟩) 2 (([(0, 2), (a1, a2), (b1, b2), (c1, c2), (d1, d2)] : List Pk).map pc) := by
  subst hg hV
  refine ⟨pc_each _, fun _ => ⟨_, _, rfl, by simp, fun i cs hi j v hv => ?_⟩⟩
  match i, hi with
  | 0, hi | 1, hi | 2, hi | 3, hi | 4, hi =>
    simp only [List.map_cons, List.getElem?_cons_zero, List.getElem?_cons_succ, Option.some.injEq, pc] at hi
    subst hi
    match j, hv with
    | 0, hv | 1, hv =>
      simp only [List.getElem?_cons_zero, List.getElem?_cons_succ, Option.some.injEq] at hv
      subst hv
      simp [go_sem]
    | j + 2, hv => simp at hv
  | i + 5, hi => simp at hi

set_option maxRecDepth 100000 in
set_option maxHeartbeats 4000000 in
theorem handshakeSmall_walk (w : World) (hT : Tab w) : Calls Tryd.prog 10 #[] w fun e w' => e = .returned (.bool true) ∧ Below w.heap.size w w' := by
  have HT := Lib.hid hT
  clear hT
  go_enter Tryd.func10, Tryd.ntmps10
  go_wp2_with fail
  go_loopw [7] (fun i wr => ∃ k : Nat, k ≤ 20 ∧ i = .int .u8 k ∧ Below w.heap.size w wr) (fun i _ => 20 - (intOf i).toNat)
  case atStart => exact ⟨0, by omega, rfl, Below.refl _ _⟩
  case round =>
    obtain ⟨k, hk, rfl, hb⟩ := hrel
    by_cases hlt : k < 20
    · have hkb : decide ((k : Int) < 20) = true := by simp; omega
      go_wp2_with fail
      obtain ⟨wo, rfl⟩ : ∃ wo : World, wo = wr := ⟨_, rfl⟩
      go_loopw [10] (fun i wr => ∃ d : Nat, d ≤ 4 ∧ i = .int .u8 d ∧ Below w.heap.size w wr) (fun i _ => 4 - (intOf i).toNat)
      case atStart => exact ⟨0, by omega, rfl, hb⟩
      case round =>
        obtain ⟨d, hd, rfl, hb1⟩ := hrel
        clear hb
        by_cases hdl : d < 4
        · have hdb : decide ((d : Int) < 4) = true := by simp; omega
          go_wp2_with fail
          obtain ⟨wp, rfl⟩ : ∃ wp : World, wp = wr := ⟨_, rfl⟩
          go_loopw [13] (fun i wr => ∃ f : Nat, f ≤ 256 ∧ i = .int .i64 f ∧ Below w.heap.size w wr) (fun i _ => 256 - (intOf i).toNat)
          case atStart => exact ⟨0, by omega, rfl, hb1⟩
          case round =>
            obtain ⟨f, hf, rfl, hb2⟩ := hrel
            clear hb1
            by_cases hfl : f < 256
            · go_wp2_with fail
              refine (tells_any k d f _ _ (HT.out.below hb2) (by omega) (by omega) (by omega)).mono ?_
              rintro e w1 ⟨rfl, hb3⟩
              go_wp2_with fail
              go_roundw
              case rel => exact ⟨f + 1, by omega, by go_num, bthen hb2 hb3⟩
              case measure => simp [intOf]; omega
            · go_wp2_with fail
              go_roundw
              case rel => exact ⟨d + 1, by omega, by go_num, hb2⟩
              case measure => simp [intOf]; omega
        · go_wp2_with fail
          refine (rname_any k _ (by omega) (by omega)).mono ?_
          rintro e w1 ⟨rfl, hb2⟩
          have hb3 := bthen hb1 hb2
          clear hb1 hb2
          go_wp2_with fail
          refine (tells_any k 0 0 _ _ (HT.out.below hb3) (by omega) (by omega) (by omega)).mono ?_
          rintro e w2 ⟨rfl, hb4⟩
          have hb5 := bthen hb3 hb4
          clear hb3 hb4
          go_wp2_with fail
          refine (tells_any (255 - k) 255 2 _ _ (HT.out.below hb5) (by omega) (by omega) (by omega)).mono ?_
          rintro e w3 ⟨rfl, hb6⟩
          have hb7 := bthen hb5 hb6
          clear hb5 hb6
          go_wp2_with fail
          refine (rname_any k _ (by omega) (by omega)).mono ?_
          rintro e w4 ⟨rfl, hb8⟩
          have hz := nmi_size k (by omega)
          have hb9 := bthen hb7 hb8
          clear hb7 hb8
          go_wp2_with fail
          refine (tells_any 1 k 4 _ _ (HT.out.below hb9) (by omega) (by omega) (by omega)).mono ?_
          rintro e w5 ⟨rfl, hb10⟩
          have hb11 := bthen hb9 hb10
          clear hb9 hb10
          go_wp2_with fail
          go_roundw
          case rel => exact ⟨k + 1, by omega, by go_num, hb11⟩
          case measure => simp [intOf]; omega
    · have hkb : decide ((k : Int) < 20) = false := by simp; omega
      go_wp2_with fail
      obtain ⟨g, hg⟩ : ∃ g, wr.heap.size = g := ⟨_, rfl⟩
      rw [hg]
      generalize hW : World.alloc wr _ = W
      have hS := some_lies wr g W hg hW
      have hbW : Below w.heap.size w W := by subst hW; exact hb.alloc hb.size _
      have hgW : g < W.heap.size := by subst hW hg; simp
      have HS := Lib.hid hS
      clear hW hS hb hg
      go_loopw [54] (fun i wr => ∃ n : Nat, n ≤ 6561 ∧ i = .int .i64 n ∧ Below W.heap.size W wr) (fun i _ => 6561 - (intOf i).toNat)
      case atStart => exact ⟨0, by omega, rfl, Below.refl _ _⟩
      case round =>
        obtain ⟨n, hn, rfl, hb⟩ := hrel
        by_cases hnl : n < 6561
        · obtain ⟨a, hia⟩ : ∃ a, n % 9 = a := ⟨_, rfl⟩
          obtain ⟨q, hiq⟩ : ∃ q, n / 9 = q := ⟨_, rfl⟩
          obtain ⟨b, hib⟩ : ∃ b, q % 9 = b := ⟨_, rfl⟩
          obtain ⟨r, hir⟩ : ∃ r, n / 81 = r := ⟨_, rfl⟩
          obtain ⟨c, hic⟩ : ∃ c, r % 9 = c := ⟨_, rfl⟩
          obtain ⟨d, hid'⟩ : ∃ d, n / 729 = d := ⟨_, rfl⟩
          obtain ⟨⟨a1, a2⟩, ha0, ha1, ha2⟩ := HS.out a (by omega)
          obtain ⟨⟨b1, b2⟩, hb0, hb1, hb2⟩ := HS.out b (by omega)
          obtain ⟨⟨c1, c2⟩, hc0, hc1, hc2⟩ := HS.out c (by omega)
          obtain ⟨⟨d1, d2⟩, hd0, hd1, hd2⟩ := HS.out d (by omega)
          have qa1 := (hb.cell (p := ⟨g, a * 2, none⟩) hgW).trans ha1
          have qa2 := (hb.cell (p := ⟨g, a * 2 + 1, none⟩) hgW).trans ha2
          have qb1 := (hb.cell (p := ⟨g, b * 2, none⟩) hgW).trans hb1
          have qb2 := (hb.cell (p := ⟨g, b * 2 + 1, none⟩) hgW).trans hb2
          have qc1 := (hb.cell (p := ⟨g, c * 2, none⟩) hgW).trans hc1
          have qc2 := (hb.cell (p := ⟨g, c * 2 + 1, none⟩) hgW).trans hc2
          have qd1 := (hb.cell (p := ⟨g, d * 2, none⟩) hgW).trans hd1
          have qd2 := (hb.cell (p := ⟨g, d * 2 + 1, none⟩) hgW).trans hd2
          clear ha1 ha2 hb1 hb2 hc1 hc2 hd1 hd2
          have A0 : (0 : Int) ≤ (a : Int) := by omega
          have A1 : (a : Int) < 9 := by omega
          have B0 : (0 : Int) ≤ (b : Int) := by omega
          have B1 : (b : Int) < 9 := by omega
          have C0 : (0 : Int) ≤ (c : Int) := by omega
          have C1 : (c : Int) < 9 := by omega
          have D0 : (0 : Int) ≤ (d : Int) := by omega
          have D1 : (d : Int) < 9 := by omega
          have E6 : (n : Int).tdiv 729 = (d : Int) := by rw [Int.tdiv_eq_ediv_of_nonneg (by omega)]; omega
          have E5 : (r : Int).tmod 9 = (c : Int) := by rw [Int.tmod_eq_emod_of_nonneg (by omega)]; omega
          have E4 : (n : Int).tdiv 81 = (r : Int) := by rw [Int.tdiv_eq_ediv_of_nonneg (by omega)]; omega
          have E3 : (q : Int).tmod 9 = (b : Int) := by rw [Int.tmod_eq_emod_of_nonneg (by omega)]; omega
          have E2 : (n : Int).tdiv 9 = (q : Int) := by rw [Int.tdiv_eq_ediv_of_nonneg (by omega)]; omega
          have E1 : (n : Int).tmod 9 = (a : Int) := by rw [Int.tmod_eq_emod_of_nonneg (by omega)]; omega
          have X1 : IntKind.i64.wrap (q : Int) = q := IntWalk.i64_in _ (by omega)
          have X2 : IntKind.i64.wrap (r : Int) = r := IntWalk.i64_in _ (by omega)
          have X3 : IntKind.i64.wrap (d : Int) = d := IntWalk.i64_in _ (by omega)
          clear hia hiq hib hir hic hid'
          go_wp2_with fail
          go_region_held3 (fun w' => w'.cell? ⟨g, a * 2, none⟩ = some (.int .u8 a1) ∧ w'.cell? ⟨g, a * 2 + 1, none⟩ = some (.int .u8 a2) ∧ w'.cell? ⟨g, b * 2, none⟩ = some (.int .u8 b1) ∧ w'.cell? ⟨g, b * 2 + 1, none⟩ = some (.int .u8 b2) ∧ w'.cell? ⟨g, c * 2, none⟩ = some (.int .u8 c1) ∧ w'.cell? ⟨g, c * 2 + 1, none⟩ = some (.int .u8 c2) ∧ w'.cell? ⟨g, d * 2, none⟩ = some (.int .u8 d1) ∧ w'.cell? ⟨g, d * 2 + 1, none⟩ = some (.int .u8 d2)) (go_keep) (fail)
          clear E1 E2 E3 E4 E5 E6 X1 X2 X3 qa1 qa2 qb1 qb2 qc1 qc2 qd1 qd2 A0 A1 B0 B1 C0 C1 D0 D1
          obtain ⟨h, hh⟩ : ∃ h, wr.heap.size = h := ⟨_, rfl⟩
          rw [hh]
          generalize hV : World.drew _ = V
          have hR : Rd V (some ⟨h, 0, none⟩) 2 (([(0, 2), (a1, a2), (b1, b2), (c1, c2), (d1, d2)] : List Pk).map pc) := five_lies wr h V hh _ _ _ _ _ _ _ _ hV
          have hbV : Below W.heap.size W V := by subst hV; exact (hb.alloc hb.size _).drew
          have hok : ∀ p ∈ ([(0, 2), (a1, a2), (b1, b2), (c1, c2), (d1, d2)] : List Pk), PkOk p := by
            simp only [List.mem_cons, List.not_mem_nil, or_false]
            rintro p (rfl | rfl | rfl | rfl | rfl)
            · exact ⟨by decide, by decide, by decide, by decide⟩
            all_goals assumption
          have hL : 5 = ([(0, 2), (a1, a2), (b1, b2), (c1, c2), (d1, d2)] : List Pk).length := rfl
          generalize ([(0, 2), (a1, a2), (b1, b2), (c1, c2), (d1, d2)] : List Pk) = L at hR hok hL
          have HR := Lib.hid hR
          have HL := Lib.hid hL
          have Hok := Lib.hid hok
          clear hV hh ha0 hb0 hc0 hd0 hb hR hL hok
          go_wp2_with fail
          refine (runs_any (some ⟨h, 0, none⟩) L 5 5 V (HT.out.below (bthen hbW hbV)) HL.out (by omega) mx5 (by simp) Hok.out HR.out).mono ?_
          rintro e V1 ⟨rfl, hv1⟩
          have hbV1 := bthen hbV hv1
          by_cases h729 : n < 729
          · have h7 : decide ((n : Int) < 729) = true := by simp; omega
            go_wp2_with fail
            refine (runs_any (some ⟨h, 2, none⟩) L.tail 4 4 V1 (HT.out.below (bthen hbW hbV1)) (by rw [List.length_tail, ← HL.out]) (by omega) mx4 (by simp) (fun p hp => Hok.out p (List.mem_of_mem_tail hp)) (by rw [List.map_tail]; exact rd_tail (HR.out.below hv1))).mono ?_
            rintro e V2 ⟨rfl, hv2⟩
            have hbV2 := bthen hbV1 hv2
            go_wp2_with fail
            refine (runs_any (some ⟨h, 0, none⟩) (L.take (n % 5)) (n % 5) 5 V2 (HT.out.below (bthen hbW hbV2)) (by rw [List.length_take, ← HL.out]; omega) (by omega) mx5 (by simp) (fun p hp => Hok.out p (List.mem_of_mem_take hp)) (by rw [List.map_take]; exact rd_take ((HR.out.below hv1).below hv2) _)).mono ?_
            rintro e V3 ⟨rfl, hv3⟩
            have hbV3 := bthen hbV2 hv3
            go_wp2_with fail
            go_roundw
            case rel => exact ⟨n + 1, by omega, by go_num, hbV3⟩
            case measure => simp [intOf]; omega
          · have h7 : decide ((n : Int) < 729) = false := by simp; omega
            go_wp2_with fail
            go_roundw
            case rel => exact ⟨n + 1, by omega, by go_num, hbV1⟩
            case measure => simp [intOf]; omega
        · have hnb : decide ((n : Int) < 6561) = false := by simp; omega
          have hb0 := bthen hbW hb
          clear hb hbW HS
          go_wp2_with fail
          obtain ⟨h, hh⟩ : ∃ h, wr.heap.size = h := ⟨_, rfl⟩
          rw [hh]
          generalize hV : World.alloc wr _ = V
          have hR : Rd V (some ⟨h, 0, none⟩) 2 (([(1, 2)] : List Pk).map pc) := one_lies wr h V hh hV
          have hbV : Below w.heap.size w V := by subst hV; exact hb0.alloc hb0.size _
          clear hV hh hb0
          refine (runs_any (some ⟨h, 0, none⟩) [(1, 2)] 1 1 V (HT.out.below hbV) rfl (by omega) mx1 (by simp) (fun p hp => by simp at hp; subst hp; exact ⟨by decide, by decide, by decide, by decide⟩) hR).mono ?_
          rintro e V1 ⟨rfl, hv1⟩
          have hbV1 := bthen hbV hv1
          go_wp2_with fail
          refine (awake_any _ (HT.out.below hbV1)).mono ?_
          rintro e V2 ⟨rfl, hv2⟩
          go_wp2_with fail
          go_ret
          exact ⟨rfl, bthen hbV1 hv2⟩

end Go.Proofs.YtdnammkfipfdbaaDoor

/-
  The walk of HandshakeLeaves: packets that are not allowed change nothing; bits that do not matter do not matter.
-/
import Derived.Test.YtdnammkfipfdbaaDoorKept
import Derived.ArgAppend
import Derived.Deep.Onto
namespace Go.Proofs.YtdnammkfipfdbaaDoor
open Go.RowKit
set_option linter.unusedVariables false

theorem own_form {w : World} {B n : Nat} {v : Value} {xs : List Value} (h : w.ownsRow B 33 2 v (n + 1) xs) : ∃ g cap, v = .slice (some ⟨g, 0, none⟩) (n + 1) cap ∧ g < w.heap.size := by
  rcases h.2 with ⟨_, h0⟩ | ⟨g, cap, cur, hv, _, hh, _⟩
  · omega
  · exact ⟨g, cap, hv, (Array.getElem?_eq_some_iff.1 hh).1⟩

/-- Packets that lie in a block, their flags free to be written. -/
def Lies (w : World) (h : Nat) (l : List Pk) : Prop := ∀ j (p : Pk), l[j]? = some p → w.cell? ⟨h, j * 2, none⟩ = some (.int .u8 p.1) ∧ w.cell? ⟨h, j * 2 + 1, none⟩ = some (.int .u8 p.2) ∧ w.frozen? ⟨h, j * 2 + 1, none⟩ = false
theorem size_setC (w : World) (a : Addr) (v : Value) : (w.setCell a v).heap.size = w.heap.size := by simp [World.setCell]
theorem Lies.set {w : World} {h : Nat} {l : List Pk} (hl : Lies w h l) (i : Nat) (p : Pk) (x : Int) (hi : l[i]? = some p) : Lies (w.setCell ⟨h, i * 2 + 1, none⟩ (.int .u8 x)) h (l.set i (p.1, x)) := by
  intro j q hq
  rw [List.getElem?_set] at hq
  by_cases hij : i = j
  · subst hij
    rw [if_pos rfl] at hq
    split at hq
    · cases hq
      obtain ⟨a, b, c⟩ := hl i p hi
      refine ⟨?_, World.cell?_setCell_same _ _ _ b, by rw [World.frozen?_setCell]; exact c⟩
      rw [World.cell?_setCell_other _ _ _ _ (fun e => by injection e; omega)]
      exact a
    · cases hq
  · rw [if_neg hij] at hq
    obtain ⟨a, b, c⟩ := hl j q hq
    refine ⟨?_, ?_, by rw [World.frozen?_setCell]; exact c⟩
    · rw [World.cell?_setCell_other _ _ _ _ (fun e => by injection e; omega)]
      exact a
    · rw [World.cell?_setCell_other _ _ _ _ (fun e => by injection e; omega)]
      exact b
theorem lies_of_own {w : World} {B h n c : Nat} {l : List Pk} (ho : w.ownsRow B 33 2 (.slice (some ⟨h, 0, none⟩) n c) n (l.map pc).flatten) (hl : h < w.heap.size) : Lies w h l := by
  intro j p hp
  have hr := Rd.of_own ho (pc_each l) hl
  have hpp : (l.map pc)[j]? = some (pc p) := by simp [hp]
  have h1 := hr.cell hpp (j := 0) rfl
  have h2 := hr.cell hpp (j := 1) rfl
  rw [Nat.zero_add] at h1 h2
  refine ⟨h1, h2, ?_⟩
  rcases ho.2 with ⟨hv, _⟩ | ⟨g, cap, cur, hv, _, hh, _⟩
  · cases hv
  · cases hv
    simp [World.frozen?, hh]
theorem rd_of_lies {w : World} {h : Nat} {l : List Pk} (hl : Lies w h l) (hlt : h < w.heap.size) : Rd w (some ⟨h, 0, none⟩) 2 (l.map pc) := by
  refine ⟨pc_each l, fun _ => ⟨h, 0, rfl, hlt, fun i cs hi j v hv => ?_⟩⟩
  rw [List.getElem?_map] at hi
  obtain ⟨p, hp, rfl⟩ := Option.map_eq_some_iff.1 hi
  obtain ⟨a, b, _⟩ := hl i p hp
  match j, hv with
  | 0, hv =>
    cases hv
    rw [Nat.zero_add]
    exact a
  | 1, hv =>
    cases hv
    rw [Nat.zero_add]
    exact b
  | j + 2, hv => simp [pc] at hv
/-- The first j packets with other bits. -/
def mixed (b : Int) (acc : List Pk) (j : Nat) : List Pk := ((((0, 2) :: acc).take j).map (alt2 b)) ++ ((0, 2) :: acc).drop j
theorem mixed_at (b : Int) (acc : List Pk) (j : Nat) (p : Pk) (h : ((0, 2) :: acc)[j]? = some p) : (mixed b acc j)[j]? = some p := by
  have hj : j < ((0, 2) :: acc).length := (List.getElem?_eq_some_iff.1 h).1
  unfold mixed
  rw [List.getElem?_append_right (by simp; omega), List.getElem?_drop]
  rw [show j + (j - ((((0, 2) :: acc).take j).map (alt2 b)).length) = j by simp at hj ⊢; omega]
  exact h
theorem mixed_set (b : Int) (acc : List Pk) (j : Nat) (p : Pk) (h : ((0, 2) :: acc)[j]? = some p) : (mixed b acc j).set j (p.1, alt b p.2) = mixed b acc (j + 1) := by
  have hj : j < ((0, 2) :: acc).length := (List.getElem?_eq_some_iff.1 h).1
  have hl : ((((0, 2) :: acc).take j).map (alt2 b)).length = j := by simp at hj ⊢; omega
  unfold mixed
  rw [List.set_append_right _ _ (by omega), hl, Nat.sub_self, List.take_add_one, h, List.drop_eq_getElem_cons hj]
  have e : ((0, 2) :: acc)[j] = p := (List.getElem?_eq_some_iff.1 h).2
  simp [alt2]
theorem mixed_all (b : Int) (acc : List Pk) : mixed b acc (acc.length + 1) = (0, alt b 2) :: acc.map (alt2 b) := by
  unfold mixed
  rw [List.take_of_length_le (by simp), List.drop_of_length_le (by simp)]
  simp [alt2]
theorem run_len {A : Option Addr} {l : List Pk} {n c : Nat} {w : World} {Q : Ending → World → Prop} (hn : l.length = n) (h : Calls Tryd.prog 13 #[.slice A l.length c] w Q) : Calls Tryd.prog 13 #[.slice A n c] w Q := hn ▸ h

/-- The kept packets, as they lie behind k packets: in the flow's own row, or in a row of the call's own. -/
structure Kp (B g : Nat) (wr : World) (acc : List Pk) (b c : Nat) : Prop where
  rd : Rd wr (some ⟨b, 0, none⟩) 2 (((0, 2) :: acc).map pc)
  cap : acc.length + 1 ≤ c
  lies : (acc = [] ∧ b = g ∧ c = 1) ∨ wr.ownsRow B 33 2 (.slice (some ⟨b, 0, none⟩) (acc.length + 1) c) (acc.length + 1) (((0, 2) :: acc).map pc).flatten
  lt : b < wr.heap.size

theorem Kp.below {B g : Nat} {w w' : World} {acc : List Pk} {b c : Nat} (h : Kp B g w acc b c) (hb : Below w.heap.size w w') : Kp B g w' acc b c :=
  ⟨h.rd.below hb, h.cap, h.lies.imp id fun ho => by
    obtain ⟨h1, h2⟩ := ho
    refine ⟨h1, h2.imp id ?_⟩
    rintro ⟨g', cap, cur, hv, hg, hh, hr⟩
    cases hv
    exact ⟨_, _, cur, rfl, hg, (hb.block _ h.lt).trans hh, hr⟩, Nat.lt_of_lt_of_le h.lt hb.size⟩

set_option maxRecDepth 100000 in
set_option maxHeartbeats 4000000 in
theorem leaves_many (A : Option Addr) (zs : List Int) (n c : Nat) (bt : Int) (r : List Pk) (w : World) (HT : Hid (Tab w)) (hn : n = zs.length) (hc : n ≤ c) (H : Hid (Nums w A zs)) (hbt : 0 ≤ bt ∧ bt ≤ 255) (hr : Hid (flow zs = (0, 2) :: r)) (hrl : r.length ≤ 100) :
    Calls Tryd.prog 9 #[.slice A n c, .int .u8 bt] w fun e w' => e = .returned (.bool true) ∧ Below w.heap.size w w' := by
  subst hn
  obtain ⟨i0, hi, hz0, hz1, hz2⟩ := info_parts info33
  have hmx1 : 200 ≤ maxLen := mx200
  go_enter Tryd.func9, Tryd.ntmps9
  go_wp2_with fail
  refine (awake_any _ HT.out).mono ?_
  rintro e w1 ⟨rfl, hb1⟩
  go_wp2_with fail
  refine (flow_any A zs c w1 hc (H.out.below hb1)).mono ?_
  rintro e w2 hrow
  obtain ⟨g, cap, rfl, hcap, hseen, hb2⟩ := hrow.seens (flow_ok zs H.out.ok) (by have := flow_length zs; omega)
  have hb02 := bthen hb1 hb2
  have hok := flow_ok zs H.out.ok
  rw [hr.out] at hseen hcap hok
  have hfl : (flow zs).length = r.length + 1 := by rw [hr.out]; rfl
  rw [hfl]
  have Hseen := Lib.hid hseen
  have Hok := Lib.hid hok
  simp only [List.length_cons] at hcap
  clear hrow hseen hok hfl
  go_wp2_with fail
  refine (run_any _ ((0, 2) :: r) cap w2 hcap (HT.out.below hb02) Hseen.out).mono ?_
  rintro e w3 ⟨he, hb3⟩
  rw [run_cons 2 r rfl, kept_go] at he
  subst he
  have hb03 := bthen hb02 hb3
  have hRd := (Hseen.out.below hb3).rd
  have hglt : g < w3.heap.size := by
    obtain ⟨b', o', e', hlt, _⟩ := hRd.mem (by simp)
    cases e'
    exact hlt
  have HRd := Lib.hid hRd
  clear hRd hb1 hb2 hb3 hb02 Hseen
  by_cases hc1 : cap = 1
  · subst hc1
    obtain rfl : r = [] := List.eq_nil_of_length_eq_zero (by omega)
    simp only [kept, List.foldl_nil, List.length_nil, Nat.zero_add]
    go_wp2_with fail
    refine wp_loop_rounds 1 ?_
    rw [rounds_succ]
    go_wp2_with fail
    refine (clone_any g 0 [(0, 2)] 1 1 w3 (show _ = _ from rfl) (by decide) (by decide) HRd.out).mono ?_
    rintro e w4 hrow
    obtain ⟨h, cap2, rfl, hc2, hhb, hhl, hown, hb4⟩ := hrow
    simp only [List.length_cons, List.length_nil, Nat.zero_add] at hown hc2 ⊢
    have hLies := lies_of_own hown hhl
    obtain ⟨q0, q1, q2⟩ := hLies 0 (0, 2) rfl
    have HLs := Lib.hid (hLies.set 0 (0, 2) (alt bt 2) rfl)
    simp only [Nat.zero_mul, Nat.zero_add] at q0 q1 q2 HLs
    clear hown hLies
    go_wp2_with fail
    refine wp_loop_rounds 2 ?_
    rw [rounds_succ]
    go_wp2_with fail
    rw [rounds_succ]
    go_wp2_with fail
    have hal := alt_cls bt 2 hbt (by decide)
    have hbs : Below w3.heap.size w3 (w4.setCell ⟨h, 1, none⟩ (.int .u8 (alt bt 2))) := hb4.setCell (p := ⟨h, 1, none⟩) hhb _
    have hrd2 : Rd (w4.setCell ⟨h, 1, none⟩ (.int .u8 (alt bt 2))) (some ⟨h, 0, none⟩) 2 (([(0, alt bt 2)] : List Pk).map pc) := rd_of_lies HLs.out (by rw [size_setC]; exact hhl)
    have HR2 := Lib.hid hrd2
    have HB := Lib.hid hbs
    clear hrd2 hbs HLs
    refine (run_any (some ⟨g, 0, none⟩) [(0, 2)] 1 _ (by decide) (HT.out.below (bthen hb03 HB.out)) ⟨?_, by decide, HRd.out.below HB.out⟩).mono ?_
    · intro p hp
      rcases List.mem_cons.1 hp with rfl | hp
      · exact ⟨by decide, by decide, by decide, by decide⟩
      · simp at hp
    rintro e w5 ⟨he, hb5⟩
    rw [run_cons 2 [] rfl] at he
    subst he
    go_wp2_with fail
    refine (run_any (some ⟨h, 0, none⟩) [(0, alt bt 2)] cap2 w5 hc2 (HT.out.below (bthen (bthen hb03 HB.out) hb5)) ⟨?_, by simp, HR2.out.below hb5⟩).mono ?_
    · intro p hp
      rcases List.mem_cons.1 hp with rfl | hp
      · exact ⟨by simp, by simp, hal.2.1, hal.2.2⟩
      · simp at hp
    rintro e w6 ⟨he, hb6⟩
    rw [run_cons _ _ (hal.1.trans rfl)] at he
    subst he
    go_wp2_with fail
    go_ret
    exact ⟨by simp, bthen (bthen (bthen hb03 HB.out) hb5) hb6⟩
  go_wp2_with fail
  go_loopw [8, 9, 34] (fun v s i wr => ∃ k b c' : Nat, k ≤ r.length ∧ i = .int .i64 k ∧ s = .int .u8 (kept (r.take k)).2 ∧ v = .slice (some ⟨b, 0, none⟩) ((kept (r.take k)).1.length + 1) c' ∧ Kp w3.heap.size g wr (kept (r.take k)).1 b c' ∧ Below w3.heap.size w3 wr) (fun _ _ i _ => r.length - (intOf i).toNat)
  case atStart =>
    refine ⟨0, g, 1, Nat.zero_le _, rfl, rfl, rfl, ⟨?_, Nat.le_refl _, .inl ⟨rfl, rfl, rfl⟩, hglt⟩, Below.refl _ _⟩
    have := HRd.out
    refine ⟨pc_each _, fun _ => ?_⟩
    obtain ⟨b', o', e', hlt, hcc⟩ := this.mem (by simp)
    refine ⟨b', o', e', hlt, fun i cs hi => ?_⟩
    cases i with
    | zero => exact hcc 0 cs (by simpa using hi)
    | succ i => simp [kept] at hi
  case round =>
    obtain ⟨k, b, c', hk, rfl, rfl, rfl, hK, hb⟩ := hrel
    have HK := Lib.hid hK
    clear hK
    by_cases hkl : k < r.length
    · obtain ⟨⟨d, f⟩, hrk⟩ : ∃ p, r[k]? = some p := ⟨_, List.getElem?_eq_getElem hkl⟩
      have hpk := Hok.out (d, f) (List.mem_cons_of_mem _ (List.mem_of_getElem? hrk))
      have hrp : (((0, 2) :: r).map pc)[k + 1]? = some (pc (d, f)) := by simp [hrk]
      have c1 := (HRd.out.below hb).cell hrp (j := 0) rfl
      have c2 := (HRd.out.below hb).cell hrp (j := 1) rfl
      rw [show 0 + (k + 1) * 2 + 0 = 2 + k * 2 by omega] at c1
      rw [show 0 + (k + 1) * 2 + 1 = 2 + k * 2 + 1 by omega] at c2
      have HS := Lib.hid (kept_snoc r k (d, f) hrk)
      have hkr := kept_range (r.take k)
      have hkn := kept_len (r.take k)
      have hkn2 : (r.take k).length ≤ k := List.length_take_le _ _
      generalize kept (r.take k) = st at *
      obtain ⟨acc, s⟩ := st
      unfold PkOk at hpk
      simp only at hpk hkr hkn c1 c2
      obtain ⟨hp1, hp2, hp3, hp4⟩ := hpk
      have hacc : acc.length ≤ 100 := by omega
      have hkd : decide (k < r.length) = true := by simpa using hkl
      clear hrk hrp hkn hkn2
      have hT1 := Lib.hid (HT.out.below (bthen hb03 hb))
      go_wp2_with fail
      refine (step_any s d f _ hkr.1 hp1 (hT1.out.alloc _)).mono ?_
      rintro e w4 ⟨rfl, hb4⟩
      have hx0 : w4.cell? ⟨wr.heap.size, 0, none⟩ = some (.int .u8 d) := (hb4.cell (p := ⟨wr.heap.size, 0, none⟩) (by simp)).trans (by simp [go_sem])
      have hx1 : w4.cell? ⟨wr.heap.size, 1, none⟩ = some (.int .u8 f) := (hb4.cell (p := ⟨wr.heap.size, 1, none⟩) (by simp)).trans (by simp [go_sem])
      have hb5 : Below wr.heap.size wr w4 := bthen ((Below.refl _ _).alloc (Nat.le_refl _) _) hb4
      have hb6 := bthen hb hb5
      have HK4 := Lib.hid (HK.out.below hb5)
      clear hb4 HK
      cases hy : stp s d f != 0
      · go_wp2_with fail
        go_roundw
        case rel => exact ⟨k + 1, b, c', by omega, by go_num, by rw [HS.out, kst, if_neg (by simp [hy])], by rw [HS.out, kst, if_neg (by simp [hy])], by rw [HS.out, kst, if_neg (by simp [hy])]; exact HK4.out, hb6⟩
        case measure => simp [intOf]; omega
      · have HKs : Hid (kept (r.take (k + 1)) = (acc ++ [(d, f)], stp s d f)) := by rw [HS.out, kst, if_pos hy]; exact rfl
        have hone : ∀ u ∈ ([.int .u8 d, .int .u8 f] : List Value), u.oneCell' = true := by simp [Value.oneCell']
        have hnew : ∀ j u, ([.int .u8 d, .int .u8 f] : List Value)[j]? = some u → (w4.alloc (.cells #[.int .u8 d, .int .u8 f] 33)).cell? ((⟨w4.heap.size, 0, none⟩ : Addr).add j) = some u := World.news_of_block (B := w4.heap.size) (cs := #[.int .u8 d, .int .u8 f]) (t := 33) (fr := (0, 0)) (heap_alloc_new _ _)
        have Hone := Lib.hid hone
        have Hnew := Lib.hid hnew
        have hsz := hb6.size
        clear hone hnew HS
        rcases HK4.out.lies with ⟨rfl, rfl, rfl⟩ | hown
        · have hold : ∀ b', some (⟨b, 0, none⟩ : Addr) = some b' → ∀ j u, (pc (0, 2))[j]? = some u → (w4.alloc (.cells #[.int .u8 d, .int .u8 f] 33)).cell? (b'.add j) = some u := by
            rintro b' ⟨rfl⟩ j u hu
            have := (HK4.out.rd.below ((Below.refl _ _).alloc (Nat.le_refl _) (.cells #[.int .u8 d, .int .u8 f] 33))).news (by decide) j u (by simpa using hu)
            exact this
          have Hold := Lib.hid hold
          clear hold
          go_wp2_with (at_builtin; refine wpList_append_grows _ rfl _ _ 22 rfl 33 i0 (.agg #[.int .u8 0, .int .u8 0]) 2 2 Tryd.underlying22 hi hz0 hz1 hz2 rfl (by decide) (some ⟨b, 0, none⟩) 1 1 (pc (0, 2)) rfl ?_ rfl Hold.out ⟨w4.heap.size, 0, none⟩ 1 1 [.int .u8 d, .int .u8 f] rfl rfl Hnew.out Hone.out ?_ ?_ ?_ ?_; simp; omega; omega; omega; intro v' w5 hown hgrow; obtain ⟨g', cap', hv, hgl⟩ := own_form hown; rw [hv])
          have hown1 := hown
          rw [hv] at hown1
          have hb7 : Below w3.heap.size w3 w5 := (hb6.alloc hsz _).grown hgrow (by simp; omega) (fun k hk => by cases hk)
          go_roundw
          case rel => exact ⟨k + 1, g', cap', by omega, by go_num, by rw [HKs.out], by rw [HKs.out]; rfl, by rw [HKs.out]; exact ⟨Rd.of_own hown1 (pc_each _) hgl, own_cap hown1, .inr (hown1.mono (by simp; omega)), hgl⟩, hb7⟩
          case measure => simp [intOf]; omega
        · have HO := Lib.hid (hown.alloc (.cells #[.int .u8 d, .int .u8 f] 33))
          have hgb := (hown.lt b rfl).1
          clear hown
          go_wp2_with (at_builtin; refine wpList_append_lies _ rfl _ _ 22 rfl w3.heap.size 33 i0 (.agg #[.int .u8 0, .int .u8 0]) 2 2 Tryd.underlying22 hi hz0 hz1 hz2 rfl (by decide) _ (acc.length + 1) _ rfl HO.out ⟨w4.heap.size, 0, none⟩ 1 1 [.int .u8 d, .int .u8 f] rfl rfl Hnew.out Hone.out (by decide) ?_ ?_ ?_ (w4.heap.size + 1) (by simp) ?_; omega; omega; (simp; omega); intro g' cap' w5 hown1 hgrow hat hgl)
          have hb7 : Below w3.heap.size w3 w5 := (hb6.alloc hsz _).grown hgrow (by simp; omega) (fun k hk => by cases hk; exact hgb)
          have ef : (((0, 2) :: (acc ++ [(d, f)])).map pc).flatten = (((0, 2) :: acc).map pc).flatten ++ [.int .u8 d, .int .u8 f] := by simp [pc]
          have el : (acc ++ [(d, f)]).length + 1 = acc.length + 1 + 1 := by simp
          have hown2 : w5.ownsRow w3.heap.size 33 2 (.slice (some ⟨g', 0, none⟩) (acc.length + 1 + 1) cap') (acc.length + 1 + 1) (((0, 2) :: (acc ++ [(d, f)])).map pc).flatten := by rw [ef]; exact hown1
          go_roundw
          case rel => exact ⟨k + 1, g', cap', by omega, by go_num, by rw [HKs.out], by rw [HKs.out, el], by rw [HKs.out]; exact ⟨Rd.of_own hown2 (pc_each _) hgl, by rw [el]; exact own_cap hown2, .inr (by rw [el]; exact hown2), hgl⟩, hb7⟩
          case measure => simp [intOf]; omega
    · obtain rfl : k = r.length := by omega
      rw [List.take_length] at HK ⊢
      have hkd : decide (r.length < r.length) = false := by simp
      have hkn := kept_len r
      have hkr := kept_run r
      have hkm : ∀ p ∈ (kept r).1, PkOk p := fun p hp => Hok.out p (List.mem_cons_of_mem _ (kept_mem r p hp))
      generalize kept r = st at *
      obtain ⟨acc, s⟩ := st
      simp only at hkn hkr hkm HK ⊢
      have HKr := Lib.hid hkr
      have HKm := Lib.hid hkm
      have hb05 := bthen hb03 hb
      clear hkr hkm
      go_wp2_with fail
      refine (clone_any b 0 ((0, 2) :: acc) _ c' wr (show _ = _ by simp) (by omega) (by omega) HK.out.rd).mono ?_
      rintro e w4 hrow
      obtain ⟨h, cap2, rfl, hc2, hhb, hhl, hown, hb4⟩ := hrow
      have el : ((0, 2) :: acc).length = acc.length + 1 := rfl
      rw [el] at hown hc2 ⊢
      have hLies := lies_of_own hown hhl
      have HL := Lib.hid hLies
      have HK4 := Lib.hid (HK.out.rd)
      have HKc := HK.out.cap
      clear hown hLies el HK
      go_wp2_with fail
      obtain ⟨wk, rfl⟩ : ∃ wk : World, wk = wr := ⟨_, rfl⟩
      go_loopw [58] (fun i wr => ∃ j : Nat, j ≤ acc.length + 1 ∧ i = .int .i64 j ∧ Lies wr h (mixed bt acc j) ∧ Below wk.heap.size wk wr ∧ h < wr.heap.size) (fun i _ => acc.length + 1 - (intOf i).toNat)
      case atStart => exact ⟨0, Nat.zero_le _, rfl, HL.out, hb4, hhl⟩
      case round =>
        obtain ⟨j, hj, rfl, hl, hbj, hhj⟩ := hrel
        have HLj := Lib.hid hl
        clear hl
        by_cases hjl : j < acc.length + 1
        · obtain ⟨⟨d, f⟩, hdf⟩ : ∃ p, ((0, 2) :: acc)[j]? = some p := ⟨_, List.getElem?_eq_getElem (by simpa using hjl)⟩
          obtain ⟨q0, q1, q2⟩ := HLj.out j (d, f) (mixed_at bt acc j (d, f) hdf)
          have HLs := Lib.hid (HLj.out.set j (d, f) (alt bt f) (mixed_at bt acc j (d, f) hdf))
          rw [mixed_set bt acc j (d, f) hdf] at HLs
          clear hdf HLj
          simp only at q0 q1
          have hjd : decide (j < acc.length + 1) = true := by simpa using hjl
          have hjd2 : decide ((j : Int) < (acc.length : Int) + 1) = true := by simp; omega
          go_wp2_with fail
          go_roundw
          case rel => exact ⟨j + 1, by omega, by go_num, HLs.out, hbj.setCell (p := ⟨h, j * 2 + 1, none⟩) hhb _, by rw [size_setC]; exact hhj⟩
          case measure => simp [intOf]; omega
        · obtain rfl : j = acc.length + 1 := by omega
          have hjd : decide (acc.length + 1 < acc.length + 1) = false := by simp
          have hrd2 : Rd wr (some ⟨h, 0, none⟩) 2 (((0, alt bt 2) :: acc.map (alt2 bt)).map pc) := rd_of_lies (by rw [mixed_all] at HLj; exact HLj.out) hhj
          have HR2 := Lib.hid hrd2
          clear hrd2 HLj
          go_wp2_with fail
          refine (run_any (some ⟨b, 0, none⟩) ((0, 2) :: acc) c' wr HKc (HT.out.below (bthen hb05 hbj)) ⟨?_, ?_, HK4.out.below hbj⟩).mono ?_
          · intro p hp
            rcases List.mem_cons.1 hp with rfl | hp
            · exact ⟨by decide, by decide, by decide, by decide⟩
            · exact HKm.out p hp
          · simp; omega
          rintro e w5 ⟨he, hb5⟩
          rw [run_cons 2 acc rfl, HKr.out] at he
          subst he
          go_wp2_with fail
          have hal := alt_cls bt 2 hbt (by decide)
          refine (run_any (some ⟨h, 0, none⟩) ((0, alt bt 2) :: acc.map (alt2 bt)) cap2 w5 (by simpa using hc2) (HT.out.below (bthen (bthen hb05 hbj) hb5)) ⟨?_, ?_, HR2.out.below hb5⟩ |> run_len (by simp)).mono ?_
          · intro p hp
            rcases List.mem_cons.1 hp with rfl | hp
            · exact ⟨by simp, by simp, hal.2.1, hal.2.2⟩
            · obtain ⟨q, hq, rfl⟩ := List.mem_map.1 hp
              exact alt_ok bt hbt q (HKm.out q hq)
          · simp; omega
          rintro e w6 ⟨he, hb6⟩
          rw [run_cons _ _ (hal.1.trans rfl), alt_fold bt hbt acc HKm.out, HKr.out] at he
          subst he
          go_wp2_with fail
          go_ret
          exact ⟨by simp, bthen (bthen (bthen hb05 hbj) hb5) hb6⟩

theorem handshakeLeaves_walk (A : Option Addr) (zs : List Int) (n c : Nat) (bt : Int) (w : World) (hT : Tab w) (hn : n = zs.length) (hc : n ≤ c) (h : Nums w A zs) (hbt : 0 ≤ bt ∧ bt ≤ 255) :
    Calls Tryd.prog 9 #[.slice A n c, .int .u8 bt] w fun e w' => e = .returned (.bool true) ∧ Below w.heap.size w w' := by
  obtain ⟨r, hr⟩ := flow_cons zs
  have hl := flow_length zs
  rw [hr] at hl
  simp only [List.length_cons] at hl
  exact leaves_many A zs n c bt r w hT hn hc h hbt hr (by omega)

end Go.Proofs.YtdnammkfipfdbaaDoor

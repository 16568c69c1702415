/-
  The walk of HandshakeWrong: states and directions that there are not allow nothing; flags of no class are allowed nowhere; lists that do not begin with the opener's SYN are no flows.
-/
import Derived.Test.YtdnammkfipfdbaaDoorTwice
import Derived.Test.YtdnammkfipfdbaaDoorRef
namespace Go.Proofs.YtdnammkfipfdbaaDoor
open Go.RowKit
set_option linter.unusedVariables false

theorem stp_cls (s d f : Int) (hs : 0 ≤ s) (hd : 0 ≤ d) (h : cls f = 0) : stp s d f = 0 := by
  by_cases ho : 8 < s ∨ 1 < d
  · rw [stp, if_pos ho]
  · rw [stp, if_neg ho, h]
    have := tb_zero.2 ⟨s.toNat, by omega⟩ ⟨d.toNat, by omega⟩
    simpa only [Int.toNat_of_nonneg hs, Int.toNat_of_nonneg hd] using this
theorem stp_zero (d f : Int) (hd : 0 ≤ d) : stp 0 d f = 0 := by
  have hr := cls_range f
  by_cases ho : 8 < (0 : Int) ∨ 1 < d
  · rw [stp, if_pos ho]
  · rw [stp, if_neg ho]
    have := tb_zero.1 ⟨(cls f).toNat, by omega⟩ ⟨d.toNat, by omega⟩
    simpa only [Int.toNat_of_nonneg hr.1, Int.toNat_of_nonneg hd] using this
theorem flags_fin : ∀ x : Fin 256, cls (bits .andNot .u8 (x.1 : Int) 22) = 0 ∧ cls (bits .or .u8 (bits .or .u8 (bits .andNot .u8 (x.1 : Int) 4) 2) 1) = 0 ∧
    cls (bits .or .u8 4 (x.1 : Int)) ≠ 1 ∧ cls (bits .andNot .u8 (x.1 : Int) 2) ≠ 1 ∧ cls (bits .or .u8 (bits .or .u8 (x.1 : Int) 2) 1) ≠ 1 := by decide +kernel
theorem flags_no (f : Int) (h : 0 ≤ f ∧ f ≤ 255) : cls (bits .andNot .u8 f 22) = 0 ∧ cls (bits .or .u8 (bits .or .u8 (bits .andNot .u8 f 4) 2) 1) = 0 ∧
    cls (bits .or .u8 4 f) ≠ 1 ∧ cls (bits .andNot .u8 f 2) ≠ 1 ∧ cls (bits .or .u8 (bits .or .u8 f 2) 1) ≠ 1 := by
  have := flags_fin ⟨f.toNat, by omega⟩
  simp only [Int.toNat_of_nonneg h.1] at this
  exact this

/-- The first packet of a new row: its cells, which may be written. -/
theorem row_head {w : World} {base g n cap : Nat} {l : List Pk} {p : Pk} (h : w.ownsRow base 33 2 (.slice (some ⟨g, 0, none⟩) n cap) n (l.map pc).flatten) (hl : ∃ r, l = p :: r) :
    w.cell? ⟨g, 0, none⟩ = some (.int .u8 p.1) ∧ w.cell? ⟨g, 1, none⟩ = some (.int .u8 p.2) ∧ w.frozen? ⟨g, 0, none⟩ = false ∧ w.frozen? ⟨g, 1, none⟩ = false := by
  obtain ⟨r, rfl⟩ := hl
  have h0 := h.cells (g := g) rfl 0 (.int .u8 p.1) rfl
  have h1 := h.cells (g := g) rfl 1 (.int .u8 p.2) rfl
  rw [Go.WideShapes.add_plain] at h0 h1
  rcases h.2 with ⟨hv, _⟩ | ⟨g', cap', cur, hv, _, hb, _⟩
  · cases hv
  · cases hv
    exact ⟨h0, h1, by simp [World.frozen?, hb], by simp [World.frozen?, hb]⟩

/-- The world in the second loop: the first packet may be written, the list of packets is there. -/
structure Box (w wr : World) (g B : Nat) (cs : List Value) : Prop where
  gl : g < wr.heap.size
  gw : w.heap.size ≤ g
  Bl : B < wr.heap.size
  ne : g ≠ B
  c0 : ∃ x, wr.cell? ⟨g, 0, none⟩ = some x
  c1 : ∃ x, wr.cell? ⟨g, 1, none⟩ = some x
  f0 : wr.frozen? ⟨g, 0, none⟩ = false
  f1 : wr.frozen? ⟨g, 1, none⟩ = false
  firsts : ∀ j u, cs[j]? = some u → wr.cell? ⟨B, j, none⟩ = some u
  below : Below w.heap.size w wr
theorem box_set (W : World) (g : Nat) (a b : Value) (o : Obj) (hg : g < W.heap.size) (c0 : ∃ x, W.cell? ⟨g, 0, none⟩ = some x) (c1 : ∃ x, W.cell? ⟨g, 1, none⟩ = some x) :
    (((W.setCell ⟨g, 0, none⟩ a).setCell ⟨g, 1, none⟩ b).alloc o).cell? ⟨g, 0, none⟩ = some a ∧ (((W.setCell ⟨g, 0, none⟩ a).setCell ⟨g, 1, none⟩ b).alloc o).cell? ⟨g, 1, none⟩ = some b := by
  obtain ⟨x0, c0⟩ := c0
  obtain ⟨x1, c1⟩ := c1
  have h1 : (W.setCell ⟨g, 0, none⟩ a).cell? ⟨g, 1, none⟩ = some x1 := (World.cell?_setCell_other _ _ _ _ (by simp)).trans c1
  constructor
  · rw [World.cell?_alloc_lt _ _ _ (by simpa using hg), World.cell?_setCell_other _ _ _ _ (by simp)]
    exact World.cell?_setCell_same _ _ _ c0
  · rw [World.cell?_alloc_lt _ _ _ (by simpa using hg)]
    exact World.cell?_setCell_same _ _ _ h1
theorem Box.step {w wr : World} {g B : Nat} {cs : List Value} (h : Box w wr g B cs) (a b : Value) (o : Obj) : Box w (((wr.setCell ⟨g, 0, none⟩ a).setCell ⟨g, 1, none⟩ b).alloc o) g B cs := by
  have hc := box_set wr g a b o h.gl h.c0 h.c1
  have hgl := h.gl
  have hBl := h.Bl
  refine ⟨by simp; omega, h.gw, by simp; omega, h.ne, ⟨_, hc.1⟩, ⟨_, hc.2⟩, ?_, ?_, fun j u hu => ?_, ?_⟩
  · rw [World.frozen?_alloc_old _ _ _ (by simp; omega)]
    simp [h.f0]
  · rw [World.frozen?_alloc_old _ _ _ (by simp; omega)]
    simp [h.f1]
  · rw [World.cell?_alloc_lt _ _ _ (by simpa using hBl), World.cell?_setCell_other _ _ _ _ (by simp [h.ne]), World.cell?_setCell_other _ _ _ _ (by simp [h.ne])]
    exact h.firsts j u hu
  · exact ((h.below.setCell (p := ⟨g, 0, none⟩) h.gw a).setCell (p := ⟨g, 1, none⟩) h.gw b).alloc (by simp; exact h.below.size) o

theorem box_start (w w3 : World) (g : Nat) (cs : Array Value) (hg : g < w3.heap.size) (hgw : w.heap.size ≤ g) (c0 : ∃ x, w3.cell? ⟨g, 0, none⟩ = some x) (c1 : ∃ x, w3.cell? ⟨g, 1, none⟩ = some x)
    (f0 : w3.frozen? ⟨g, 0, none⟩ = false) (f1 : w3.frozen? ⟨g, 1, none⟩ = false) (hb : Below w.heap.size w w3) : Box w (w3.alloc (.cells cs 33)) g w3.heap.size cs.toList := by
  obtain ⟨x0, c0⟩ := c0
  obtain ⟨x1, c1⟩ := c1
  refine ⟨by simp; omega, hgw, by simp, by omega, ⟨x0, ?_⟩, ⟨x1, ?_⟩, ?_, ?_, fun j u hu => ?_, hb.alloc hb.size _⟩
  · rw [World.cell?_alloc_lt _ _ _ hg]; exact c0
  · rw [World.cell?_alloc_lt _ _ _ hg]; exact c1
  · rw [World.frozen?_alloc_old _ _ _ (by simp; omega)]; exact f0
  · rw [World.frozen?_alloc_old _ _ _ (by simp; omega)]; exact f1
  · have := World.news_of_block (w := w3.alloc (.cells cs 33)) (B := w3.heap.size) (heap_alloc_new _ _) j u hu
    rw [Go.WideShapes.add_plain, Nat.zero_add] at this
    exact this

set_option maxRecDepth 100000 in
set_option maxHeartbeats 2000000 in
theorem handshakeWrong_walk (s d f : Int) (A : Option Addr) (zs : List Int) (n c : Nat) (w : World) (hT : Tab w) (hs : 0 ≤ s ∧ s ≤ 255) (hd : 0 ≤ d ∧ d ≤ 255) (hf : 0 ≤ f ∧ f ≤ 255) (hn : n = zs.length) (hc : n ≤ c) (h : Nums w A zs) :
    Calls Tryd.prog 6 #[.int .u8 s, .int .u8 d, .int .u8 f, .slice A n c] w fun e w' => e = .returned (.bool true) ∧ Below w.heap.size w w' := by
  subst hn
  have HT := Lib.hid hT
  have H := Lib.hid h
  clear hT h
  obtain ⟨M1, hM1⟩ : ∃ M, (if s < 9 then (9 : Int) else s) = M := ⟨_, rfl⟩
  obtain ⟨M2, hM2⟩ : ∃ M, (if d < 2 then (2 : Int) else d) = M := ⟨_, rfl⟩
  obtain ⟨M3, hM3⟩ : ∃ M, (if d < 1 then (1 : Int) else d) = M := ⟨_, rfl⟩
  have b1 : 9 ≤ M1 := by split at hM1 <;> omega
  have b2 : 2 ≤ M2 := by split at hM2 <;> omega
  have b3 : 1 ≤ M3 := by split at hM3 <;> omega
  have hfl := flags_no f hf
  have z1 := stp_zero d f hd.1
  have z2 : stp M1 d f = 0 := by rw [stp, if_pos (by omega)]
  have z3 : stp s M2 f = 0 := by rw [stp, if_pos (by omega)]
  have z4 := stp_cls s d _ hs.1 hd.1 hfl.1
  have z5 := stp_cls s d _ hs.1 hd.1 hfl.2.1
  obtain ⟨f1, hf1⟩ : ∃ x, bits .or .u8 4 f = x := ⟨_, rfl⟩
  obtain ⟨f2, hf2⟩ : ∃ x, bits .andNot .u8 f 2 = x := ⟨_, rfl⟩
  obtain ⟨f3, hf3⟩ : ∃ x, bits .or .u8 (bits .or .u8 f 2) 1 = x := ⟨_, rfl⟩
  rw [hf1, hf2, hf3] at hfl
  have HF := Lib.hid hfl
  clear hfl
  obtain ⟨hs0, hs1⟩ := hs
  obtain ⟨hd0, hd1⟩ := hd
  obtain ⟨hf0, hf1'⟩ := hf
  go_enter Tryd.func6, Tryd.ntmps6
  go_wp2_with fail
  refine (awake_any _ HT.out).mono ?_
  rintro e w1 ⟨rfl, hb1⟩
  have HT1 := Lib.hid (HT.out.below hb1)
  go_wp2_with fail
  refine wp_loop_rounds 6 ?_
  iterate 6 (rw [rounds_succ]; go_wp2_with (first | (go_at_call 15; refine (step_quiet _ _ _ _ ?_ ?_ ?_).mono ?_; omega; omega; (repeat (first | exact HT1.out | refine Tab.drewN ?_ _ | refine Tab.alloc ?_ _)); rintro e w' ⟨rfl, n, rfl⟩)))
  refine (flow_any A zs c _ hc (H.out.below ?_)).mono ?_
  · refine bthen hb1 ?_
    repeat' (first | exact Below.refl _ _ | refine below_drewN ?_ _ | refine Below.alloc ?_ (by simp <;> omega) _)
  rintro e w3 hrow
  obtain ⟨g, cap, rfl, hcap, hgb, hglt, hown, hb3⟩ := hrow
  obtain ⟨hg0, hg1, hgf0, hgf1⟩ := row_head hown (flow_cons zs)
  have hpos := (flow_length zs).1
  have hb13 := bthen ((by repeat' (first | exact Below.refl _ _ | refine below_drewN ?_ _ | refine Below.alloc ?_ (by simp <;> omega) _)) : Below w1.heap.size w1 _) hb3
  have hb03 := bthen hb1 hb13
  have hgw : w.heap.size ≤ g := by
    have := hb1.size
    simp at hgb
    omega
  clear hown hb3 hgb
  generalize (flow zs).length = L at *
  have hL0 : ((L : Int) == 0) = false := by simp; omega
  clear z1 z2 z3 z4 z5
  go_wp2_with fail
  have q18 : (cls 18 == 1) = false := by decide +kernel
  have q1 : (cls f1 == 1) = false := by simpa using HF.out.2.2.1
  have q2 : (cls f2 == 1) = false := by simpa using HF.out.2.2.2.1
  have q3 : (cls f3 == 1) = false := by simpa using HF.out.2.2.2.2
  have qM : (M3 == 0) = false := by simp; omega
  go_loopw [86] (fun i wr => ∃ k : Nat, k ≤ 5 ∧ i = .int .i64 k ∧ Box w wr g w3.heap.size [.int .u8 M3, .int .u8 2, .int .u8 0, .int .u8 18, .int .u8 0, .int .u8 f1, .int .u8 0, .int .u8 f2, .int .u8 0, .int .u8 f3]) (fun i _ => 5 - (intOf i).toNat)
  case atStart => exact ⟨0, by omega, rfl, box_start w w3 g _ hglt hgw ⟨_, hg0⟩ ⟨_, hg1⟩ hgf0 hgf1 hb03⟩
  case round =>
    obtain ⟨k, hk, rfl, hbox⟩ := hrel
    have HB := Lib.hid hbox
    have hgl := hbox.gl
    have hgf0 := hbox.f0
    have hgf1 := hbox.f1
    obtain ⟨x0, hx0⟩ := hbox.c0
    obtain ⟨x1, hx1⟩ := hbox.c1
    clear hbox hg0 hg1
    by_cases hk5 : k < 5
    · have hk' : k = 0 ∨ k = 1 ∨ k = 2 ∨ k = 3 ∨ k = 4 := by omega
      clear hk hk5
      rcases hk' with rfl | rfl | rfl | rfl | rfl
      · have hfa := HB.out.firsts 0 _ rfl
        have hfb := HB.out.firsts 1 _ rfl
        go_wp2_with fail
        refine (run_no g 0 L cap M3 2 _ hpos (box_set wr g _ _ _ hgl HB.out.c0 HB.out.c1).1 (box_set wr g _ _ _ hgl HB.out.c0 HB.out.c1).2 (fun h => by omega)).mono ?_
        rintro e w' ⟨rfl, rfl⟩
        go_wp2_with (go_at_call 18; refine (opens_any _ _).mono ?_; rintro e w' ⟨rfl, rfl⟩)
        go_roundw
        case rel => exact ⟨1, by omega, rfl, HB.out.step _ _ _⟩
        case measure => simp [intOf]
      · have hfa := HB.out.firsts 2 _ rfl
        have hfb := HB.out.firsts 3 _ rfl
        go_wp2_with fail
        refine (run_no g 0 L cap 0 18 _ hpos (box_set wr g _ _ _ hgl HB.out.c0 HB.out.c1).1 (box_set wr g _ _ _ hgl HB.out.c0 HB.out.c1).2 (fun h => by have := h.2; revert this; decide +kernel)).mono ?_
        rintro e w' ⟨rfl, rfl⟩
        go_wp2_with (go_at_call 18; refine (opens_any _ _).mono ?_; rintro e w' ⟨rfl, rfl⟩)
        go_roundw
        case rel => exact ⟨2, by omega, rfl, HB.out.step _ _ _⟩
        case measure => simp [intOf]
      · have hfa := HB.out.firsts 4 _ rfl
        have hfb := HB.out.firsts 5 _ rfl
        go_wp2_with fail
        refine (run_no g 0 L cap 0 f1 _ hpos (box_set wr g _ _ _ hgl HB.out.c0 HB.out.c1).1 (box_set wr g _ _ _ hgl HB.out.c0 HB.out.c1).2 (fun h => HF.out.2.2.1 h.2)).mono ?_
        rintro e w' ⟨rfl, rfl⟩
        go_wp2_with (go_at_call 18; refine (opens_any _ _).mono ?_; rintro e w' ⟨rfl, rfl⟩)
        go_roundw
        case rel => exact ⟨3, by omega, rfl, HB.out.step _ _ _⟩
        case measure => simp [intOf]
      · have hfa := HB.out.firsts 6 _ rfl
        have hfb := HB.out.firsts 7 _ rfl
        go_wp2_with fail
        refine (run_no g 0 L cap 0 f2 _ hpos (box_set wr g _ _ _ hgl HB.out.c0 HB.out.c1).1 (box_set wr g _ _ _ hgl HB.out.c0 HB.out.c1).2 (fun h => HF.out.2.2.2.1 h.2)).mono ?_
        rintro e w' ⟨rfl, rfl⟩
        go_wp2_with (go_at_call 18; refine (opens_any _ _).mono ?_; rintro e w' ⟨rfl, rfl⟩)
        go_roundw
        case rel => exact ⟨4, by omega, rfl, HB.out.step _ _ _⟩
        case measure => simp [intOf]
      · have hfa := HB.out.firsts 8 _ rfl
        have hfb := HB.out.firsts 9 _ rfl
        go_wp2_with fail
        refine (run_no g 0 L cap 0 f3 _ hpos (box_set wr g _ _ _ hgl HB.out.c0 HB.out.c1).1 (box_set wr g _ _ _ hgl HB.out.c0 HB.out.c1).2 (fun h => HF.out.2.2.2.2 h.2)).mono ?_
        rintro e w' ⟨rfl, rfl⟩
        go_wp2_with (go_at_call 18; refine (opens_any _ _).mono ?_; rintro e w' ⟨rfl, rfl⟩)
        go_roundw
        case rel => exact ⟨5, by omega, rfl, HB.out.step _ _ _⟩
        case measure => simp [intOf]
    · obtain rfl : k = 5 := by omega
      go_wp2_with (first | (go_at_call 13; refine (run_nil _ _ _).mono ?_; rintro e w' ⟨rfl, rfl⟩) | (go_at_call 17; refine (completed_any _ _).mono ?_; rintro e w' ⟨rfl, rfl⟩))
      go_ret
      exact ⟨rfl, HB.out.below⟩

end Go.Proofs.YtdnammkfipfdbaaDoor

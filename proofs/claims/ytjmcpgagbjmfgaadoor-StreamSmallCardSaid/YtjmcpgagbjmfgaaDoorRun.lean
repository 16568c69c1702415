/-
  The contract of stream.Run: over a slice that reads as a list of packets it returns what the plain fold gives; nothing that was there is written.
-/
import Derived.Test.YtjmcpgagbjmfgaaDoorTells
import Derived.Test.YtjmcpgagbjmfgaaDoorSeen
namespace Go.Proofs.YtjmcpgagbjmfgaaDoor
open Go.RowKit
set_option linter.unusedVariables false
set_option linter.unusedSimpArgs false

/-- A packet: its direction, its facts, their kind and type. -/
structure Pkt where
  d : Int
  F : List Value
  kind : Int
  typ : Int
def K19 : List (Option IntKind) := [some .u8, some .u32, some .u32, some .u16, some .u16, some .u8, some .u8, some .u8, some .u8, some .u32, some .u32, some .i64, some .i64, some .u8, some .u32, some .u32, some .u16, some .u16, some .u8]
structure PktOk (p : Pkt) : Prop where
  bd : 0 ≤ p.d ∧ p.d ≤ 255
  fa : Fa p.F.toArray p.kind p.typ
  all : All2 K19 p.F
theorem all2_one : ∀ (ks : List (Option IntKind)) (vs : List Value), All2 ks vs → ∀ v ∈ vs, v.oneCell' = true
  | [], vs, h => by rw [all2_nil h]; simp
  | k :: ks, vs, h => by
    obtain ⟨v, r, rfl, hv, hr⟩ := all2_cons h
    intro u hu
    rcases List.mem_cons.1 hu with rfl | hu
    · cases k with
      | none => obtain ⟨x, rfl⟩ := hv; rfl
      | some k => obtain ⟨x, rfl, _⟩ := hv; rfl
    · exact all2_one ks r hr u hu
theorem PktOk.one {p : Pkt} (h : PktOk p) : ∀ v ∈ p.F, v.oneCell' = true := all2_one _ _ h.all
/-- The cells of a packet. -/
def pcs (p : Pkt) : List Value := .int .u8 p.d :: p.F
theorem PktOk.len {p : Pkt} (h : PktOk p) : p.F.length = 19 := by simpa using h.fa.size
theorem PktOk.len20 {p : Pkt} (h : PktOk p) : (pcs p).length = 20 := by simp [pcs, h.len]
theorem PktOk.one20 {p : Pkt} (h : PktOk p) : (pcs p).toArray.all (·.oneCell') = true := by
  refine all_oneCell_toArray fun v hv => ?_
  rcases List.mem_cons.1 hv with rfl | hv
  · rfl
  · exact h.one v hv
theorem pcs_each (l : List Pkt) (h : ∀ p ∈ l, PktOk p) : ∀ cs ∈ l.map pcs, cs.length = 20 := by
  intro cs hcs
  obtain ⟨p, hp, rfl⟩ := List.mem_map.1 hcs
  exact (h p hp).len20
/-- A slice that reads as a list of packets. -/
structure Pkts (w : World) (A : Option Addr) (l : List Pkt) : Prop where
  ok : ∀ p ∈ l, PktOk p
  len : l.length ≤ 1000000
  rd : Rd w A 20 (l.map pcs)
theorem Pkts.below {w w' : World} {A : Option Addr} {l : List Pkt} (h : Pkts w A l) (hb : Below w.heap.size w w') : Pkts w' A l := ⟨h.ok, h.len, h.rd.below hb⟩
theorem Pkts.at_ {w : World} {b off : Nat} {l : List Pkt} (h : Pkts w (some ⟨b, off, none⟩) l) {i : Nat} {p : Pkt} (hi : l[i]? = some p) : w.rangeAt b (off + i * 20) (pcs p) := fun j v hv =>
  h.rd.cell (i := i) (cs := pcs p) (by simp [hi]) hv
theorem range_tail {w : World} {b o : Nat} {d : Int} {F : List Value} (h : w.rangeAt b o (.int .u8 d :: F)) : w.cell? ⟨b, o, none⟩ = some (.int .u8 d) ∧ w.rangeAt b (o + 1) F :=
  ⟨by simpa using h 0 _ rfl, fun j v hv => by have := h (j + 1) v (by simpa using hv); rwa [show o + (j + 1) = o + 1 + j by omega] at this⟩

/-- One step of a run: the flow and the number of allowed packets. -/
abbrev Fl3 := Int × Int × Int
def gS (s : Fl3 × Int) (p : Pkt) : Fl3 × Int := if alw s.1.1 s.1.2.1 s.1.2.2 p.d p.kind p.typ then (stF s.1.1 s.1.2.1 s.1.2.2 p.d p.kind p.typ, s.2 + 1) else s
def runS (l : List Pkt) : Fl3 × Int :=
  match l with
  | [] => ((0, 0, 0), 0)
  | p :: r => if p.d = 0 ∧ opens p.kind p.typ = true then r.foldl gS (opn p.kind p.typ, 1) else ((0, 0, 0), 0)

def FlOk (x : Fl3) : Prop := (0 ≤ x.1 ∧ x.1 ≤ 255) ∧ (0 ≤ x.2.1 ∧ x.2.1 ≤ 255) ∧ (0 ≤ x.2.2 ∧ x.2.2 ≤ 255)
theorem stF_ok {x : Fl3} (h : FlOk x) (d kind typ : Int) : FlOk (stF x.1 x.2.1 x.2.2 d kind typ) := by
  unfold stF
  split
  · refine ⟨h.1, ?_, h.2.2⟩
    dsimp only
    split
    · decide
    · exact h.2.1
  · exact ⟨by decide, by decide, by decide⟩
theorem opn_ok (kind typ : Int) (hk : 0 ≤ kind ∧ kind ≤ 255) (ht : 0 ≤ typ ∧ typ ≤ 255) : FlOk (opn kind typ) := by
  unfold opn
  split
  · refine ⟨hk, by simp, ?_⟩
    dsimp only
    unfold typOf
    split
    · exact ht
    · decide
  · exact ⟨by decide, by decide, by decide⟩
theorem gS_ok (s : Fl3 × Int) (p : Pkt) (h : FlOk s.1) : FlOk (gS s p).1 := by
  unfold gS
  split
  · exact stF_ok h _ _ _
  · exact h
theorem gS_count (s : Fl3 × Int) (p : Pkt) : s.2 ≤ (gS s p).2 ∧ (gS s p).2 ≤ s.2 + 1 := by
  unfold gS
  split
  · exact ⟨Int.le_of_lt (Int.lt_succ _), Int.le_refl _⟩
  · exact ⟨Int.le_refl _, Int.le_of_lt (Int.lt_succ _)⟩
theorem foldS (l : List Pkt) (s : Fl3 × Int) (h : FlOk s.1) : FlOk (l.foldl gS s).1 ∧ s.2 ≤ (l.foldl gS s).2 ∧ (l.foldl gS s).2 ≤ s.2 + l.length := by
  induction l generalizing s with
  | nil => exact ⟨h, by simp⟩
  | cons p r ih =>
    have h1 := gS_count s p
    have h2 := ih (gS s p) (gS_ok s p h)
    simp only [List.foldl_cons, List.length_cons]
    exact ⟨h2.1, by omega, by omega⟩
theorem foldS_snoc (l : List Pkt) (s : Fl3 × Int) (k : Nat) (p : Pkt) (h : l[k]? = some p) : (l.take (k + 1)).foldl gS s = gS ((l.take k).foldl gS s) p := by
  rw [List.take_add_one, h]
  simp

/-- A flow that lies in a block of its own. -/
structure C3 (w : World) (b : Nat) (x : Fl3) : Prop where
  c0 : w.cell? ⟨b, 0, none⟩ = some (.int .u8 x.1)
  c1 : w.cell? ⟨b, 1, none⟩ = some (.int .u8 x.2.1)
  c2 : w.cell? ⟨b, 2, none⟩ = some (.int .u8 x.2.2)
  f0 : w.frozen? ⟨b, 0, none⟩ = false
  f1 : w.frozen? ⟨b, 1, none⟩ = false
  f2 : w.frozen? ⟨b, 2, none⟩ = false
theorem C3.below {w w' : World} {b : Nat} {x : Fl3} (h : C3 w b x) (hb : Below w.heap.size w w') : C3 w' b x :=
  have hl : b < w.heap.size := cell_lt h.c0
  ⟨kc hb h.c0, kc hb h.c1, kc hb h.c2, (hb.frozen (p := ⟨b, 0, none⟩) hl).trans h.f0, (hb.frozen (p := ⟨b, 1, none⟩) hl).trans h.f1, (hb.frozen (p := ⟨b, 2, none⟩) hl).trans h.f2⟩
/-- A flow stored over another one. -/
def set3 (w : World) (b : Nat) (x : Fl3) : World := ((w.setCell ⟨b, 0, none⟩ (.int .u8 x.1)).setCell ⟨b, 1, none⟩ (.int .u8 x.2.1)).setCell ⟨b, 2, none⟩ (.int .u8 x.2.2)
theorem C3.set {w : World} {b : Nat} {x : Fl3} (h : C3 w b x) (y : Fl3) : C3 (set3 w b y) b y := by
  obtain ⟨h0, h1, h2, g0, g1, g2⟩ := h
  unfold set3
  exact ⟨by simp [go_sem, h0, h1, h2], by simp [go_sem, h0, h1, h2], by simp [go_sem, h0, h1, h2], by simp [World.frozen?_setCell, g0], by simp [World.frozen?_setCell, g1], by simp [World.frozen?_setCell, g2]⟩
theorem C3.other {w : World} {b b' : Nat} {x : Fl3} (h : C3 w b x) (hne : b ≠ b') (y : Fl3) : C3 (set3 w b' y) b x := by
  obtain ⟨h0, h1, h2, g0, g1, g2⟩ := h
  have e : ∀ i j (v : Value) (W : World), (W.setCell ⟨b', j, none⟩ v).cell? ⟨b, i, none⟩ = W.cell? ⟨b, i, none⟩ := fun i j v W => World.cell?_setCell_other _ _ _ _ (fun e => by injection e; omega)
  unfold set3
  exact ⟨by rw [e, e, e]; exact h0, by rw [e, e, e]; exact h1, by rw [e, e, e]; exact h2, by simp [World.frozen?_setCell, g0], by simp [World.frozen?_setCell, g1], by simp [World.frozen?_setCell, g2]⟩
theorem below_set3 {B b : Nat} {a w : World} (h : Below B a w) (hle : B ≤ b) (y : Fl3) : Below B a (set3 w b y) :=
  ((h.setCell (p := ⟨b, 0, none⟩) hle _).setCell (p := ⟨b, 1, none⟩) hle _).setCell (p := ⟨b, 2, none⟩) hle _

set_option maxRecDepth 100000 in
set_option maxHeartbeats 4000000 in
theorem run_yes (b off : Nat) (p0 : Pkt) (r : List Pkt) (c : Nat) (w : World) (hnc : r.length + 1 ≤ c) (hc1 : ¬ c = 1) (HA : Hid (Ans w)) (hl : r.length ≤ 1000000) (hlt : b < w.heap.size)
    (HP : Hid (Pkts w (some ⟨b, off, none⟩) (p0 :: r))) (hd0 : Hid (p0.d = 0)) (ho : Hid (opens p0.kind p0.typ = true)) :
    Calls Tryd.prog 19 #[.slice (some ⟨b, off, none⟩) (r.length + 1) c] w fun e w' => e = .returned (.tuple #[flv (r.foldl gS (opn p0.kind p0.typ, 1)).1, .int .i64 (r.foldl gS (opn p0.kind p0.typ, 1)).2]) ∧ Below w.heap.size w w' := by
  have hn0 : ((r.length : Int) + 1 == 0) = false := by simp; omega
  have hp0 := HP.out.ok p0 (by simp)
  have hr0 := HP.out.at_ (i := 0) rfl
  rw [Nat.zero_mul, Nat.add_zero] at hr0
  obtain ⟨q0, Rq⟩ := range_tail hr0
  rw [hd0.out] at q0
  have Hp0 := Lib.hid hp0
  have HI9 := Lib.hid hp0.fa.hi
  obtain ⟨F0, hF0⟩ : ∃ F0, p0.F.toArray = F0 := ⟨_, rfl⟩
  have hRq : w.rangeAt b (off + 1) F0.toList := by rw [← hF0]; simpa using Rq
  have HF0 := Lib.hid hF0
  rw [hF0] at HI9
  have hfa : Hid (Fa F0 p0.kind p0.typ) := by rw [← hF0]; exact hp0.fa
  clear hr0 Rq hp0 hF0
  have hon : FlOk (opn p0.kind p0.typ) := opn_ok _ _ hfa.out.bk hfa.out.bt
  obtain ⟨X, hX⟩ : ∃ X, opn p0.kind p0.typ = X := ⟨_, rfl⟩
  rw [hX] at hon ⊢
  have HX := Lib.hid hX
  clear hX
  go_enter Tryd.func19, Tryd.ntmps19
  go_wp2_with (refine wpList_load_wide 29 _ rfl (by rfl) _ _ rfl F0 _ Tryd.underlying29 rfl HI9.out ?_ ?_; · (repeat (first | with_reducible exact hRq | refine World.rangeAt_alloc ?_ _)))
  refine (open_is F0 p0.kind p0.typ X true _ hfa.out (HA.out.below ((Below.refl _ _).alloc (Nat.le_refl _) _)) HX.out ho.out).mono ?_
  rintro e w1 ⟨rfl, hb⟩
  have b1 : Below w.heap.size w w1 := bthen ((Below.refl _ _).alloc (Nat.le_refl _) _) hb
  have z0 : w1.cell? ⟨w.heap.size, 0, none⟩ = some (.int .u8 0) := (hb.cell (p := ⟨w.heap.size, 0, none⟩) (by simp)).trans (by simp [go_sem])
  have z1 : w1.cell? ⟨w.heap.size, 1, none⟩ = some (.int .u8 0) := (hb.cell (p := ⟨w.heap.size, 1, none⟩) (by simp)).trans (by simp [go_sem])
  have z2 : w1.cell? ⟨w.heap.size, 2, none⟩ = some (.int .u8 0) := (hb.cell (p := ⟨w.heap.size, 2, none⟩) (by simp)).trans (by simp [go_sem])
  have y0 : w1.frozen? ⟨w.heap.size, 0, none⟩ = false := (hb.frozen (p := ⟨w.heap.size, 0, none⟩) (by simp)).trans (by simp [go_sem])
  have y1 : w1.frozen? ⟨w.heap.size, 1, none⟩ = false := (hb.frozen (p := ⟨w.heap.size, 1, none⟩) (by simp)).trans (by simp [go_sem])
  have y2 : w1.frozen? ⟨w.heap.size, 2, none⟩ = false := (hb.frozen (p := ⟨w.heap.size, 2, none⟩) (by simp)).trans (by simp [go_sem])
  obtain ⟨x1, x2, x3⟩ := X
  simp only
  have hws : w.heap.size < w1.heap.size := cell_lt z0
  have R0 : C3 w1 w.heap.size (0, 0, 0) := ⟨z0, z1, z2, y0, y1, y2⟩
  have HR0 := Lib.hid R0
  clear hb hRq q0 z0 z1 z2 y0 y1 y2 R0
  go_wp2_with fail
  obtain ⟨q, hq⟩ : ∃ q, w1.heap.size = q := ⟨_, rfl⟩
  rw [hq]
  generalize hW : World.alloc w1 _ = W
  have hw1W : Below w1.heap.size w1 W := by subst hW; exact (Below.refl _ _).alloc (Nat.le_refl _) _
  have hbW : Below w.heap.size w W := bthen b1 hw1W
  have hq3 : C3 W q (x1, x2, x3) := by subst hW hq; exact ⟨by simp [go_sem], by simp [go_sem], by simp [go_sem], by simp [go_sem], by simp [go_sem], by simp [go_sem]⟩
  have HR1 := Lib.hid (HR0.out.below hw1W)
  have hqw : w.heap.size ≤ q := by omega
  have hqne : w.heap.size ≠ q := by omega
  have HP1 := Lib.hid (HP.out)
  clear hW hw1W HR0 b1 hws hq
  go_loopw [6, 36] (fun n i wr => ∃ k : Nat, k ≤ r.length ∧ i = .int .i64 k ∧ n = .int .i64 ((r.take k).foldl gS ((x1, x2, x3), 1)).2 ∧ Below w.heap.size w wr ∧ C3 wr q ((r.take k).foldl gS ((x1, x2, x3), 1)).1 ∧ C3 wr w.heap.size (0, 0, 0)) (fun _ i _ => r.length - (intOf i).toNat)
  case atStart => exact ⟨0, Nat.zero_le _, rfl, rfl, hbW, hq3, HR1.out⟩
  case round =>
    obtain ⟨k, hk, rfl, rfl, hb, hq, hz⟩ := hrel
    have hst := foldS (r.take k) ((x1, x2, x3), 1) hon
    have hlk : (r.take k).length ≤ k := List.length_take_le _ _
    by_cases hkl : k < r.length
    · obtain ⟨p, hrk⟩ : ∃ p, r[k]? = some p := ⟨_, List.getElem?_eq_getElem hkl⟩
      have hpk := HP.out.ok p (List.mem_cons_of_mem _ (List.mem_of_getElem? hrk))
      have hrp := (HP.out.below hb).at_ (i := k + 1) (p := p) (by simpa using hrk)
      rw [show off + (k + 1) * 20 = off + 20 + k * 20 by omega] at hrp
      have HS := Lib.hid (foldS_snoc r ((x1, x2, x3), 1) k p hrk)
      generalize (r.take k).foldl gS ((x1, x2, x3), 1) = st at *
      obtain ⟨⟨a1, a2, a3⟩, m⟩ := st
      simp only at hst hq ⊢
      obtain ⟨⟨hf1, hf2, hf3⟩, hm1, hm2⟩ := hst
      simp only at hf1 hf2 hf3 hm1 hm2
      have hm3 : m ≤ 1000001 := by omega
      obtain ⟨V, hV⟩ : ∃ V, (pcs p).toArray = V := ⟨_, rfl⟩
      obtain ⟨F, hF⟩ : ∃ F, p.F.toArray = F := ⟨_, rfl⟩
      have hi35 : (Tryd.prog.info? 35).map (·.size) = some V.size := by rw [info35, ← hV]; simp [hpk.len20]
      have hone : V.all (·.oneCell') = true := by rw [← hV]; exact hpk.one20
      have hRV : wr.rangeAt b (off + 20 + k * 20) V.toList := by rw [← hV]; simpa using hrp
      have hsp : ∀ (u : World) (B : Nat), u.rangeAt B 0 V.toList → u.cell? ⟨B, 0, none⟩ = some (.int .u8 p.d) ∧ u.rangeAt B 1 F.toList := fun u B h => by
        rw [← hV] at h
        have := range_tail (d := p.d) (F := p.F) (by simpa [pcs] using h)
        rw [← hF]
        simpa using this
      have hi29 : (Tryd.prog.info? 29).map (·.size) = some F.toList.length := by rw [← hF]; exact hpk.fa.hi
      have hfa : Fa F p.kind p.typ := hF ▸ hpk.fa
      have hV20 : V.size = 20 := by rw [← hV]; simp [hpk.len20]
      have I35 := Lib.hid hi35
      have I35' : Hid ((Tryd.prog.info? 35).map (·.size) = some V.toList.length) := by rw [Array.length_toList]; exact hi35
      have One := Lib.hid hone
      have Sp := Lib.hid hsp
      have I29 := Lib.hid hi29
      have HFA := Lib.hid hfa
      have V20 := Lib.hid hV20
      obtain ⟨hpd0, hpd1⟩ := hpk.bd
      have hkd : decide (k < r.length) = true := by simpa using hkl
      have hbs := hb.size
      have HQ := Lib.hid hq
      have HZ := Lib.hid hz
      clear hi35 hone hsp hi29 hfa hV20 hV hF hrk hrp hpk hq hz hlk
      have c0 := HQ.out.c0
      simp only at c0
      have hqr : q < wr.heap.size := cell_lt c0
      have hzr : w.heap.size < wr.heap.size := cell_lt HZ.out.c0
      clear c0
      obtain ⟨pd, hpd⟩ : ∃ pd, p.d = pd := ⟨_, rfl⟩
      obtain ⟨pk, hpk⟩ : ∃ pk, p.kind = pk := ⟨_, rfl⟩
      obtain ⟨pt, hpt⟩ : ∃ pt, p.typ = pt := ⟨_, rfl⟩
      rw [hpd] at hpd0 hpd1 Sp
      rw [hpk, hpt] at HFA
      have HG : Hid (gS ((a1, a2, a3), m) p = if alw a1 a2 a3 pd pk pt then (stF a1 a2 a3 pd pk pt, m + 1) else ((a1, a2, a3), m)) := by unfold gS; rw [hpd, hpk, hpt]; exact rfl
      rw [HG.out] at HS
      clear hpd hpk hpt HG
      go_wp2_with (first | (refine wpList_load_wide 35 _ rfl (by rfl) _ _ rfl V _ Tryd.underlying35 rfl I35'.out hRV ?_) | (refine wpList_store_wide 35 _ _ rfl rfl wr.heap.size 0 V rfl rfl wr.heap.size wr I35.out One.out ((Below.refl _ _).alloc (Nat.le_refl _) _) (Nat.le_refl _) (there_new _ _ _ _ _ rfl ?_) ?_; (· (rw [V20.out]; rfl)); intro v1 hv1 zz1 r1 _ _ _; have R1 := (Sp.out _ _ r1).2; have D1 := (Sp.out _ _ r1).1; have q0 := (HQ.out.below hv1).c0; have q1 := (HQ.out.below hv1).c1; have q2 := (HQ.out.below hv1).c2; clear zz1 r1; simp only at q0 q1 q2) | (refine wpList_load_wide 29 _ rfl (by rfl) _ _ rfl F _ Tryd.underlying29 rfl I29.out R1 ?_))
      refine (step_is F a1 a2 a3 pd pk pt _ _ _ HFA.out (HA.out.below (bthen hb hv1)) hf1 hf3 hpd0 rfl rfl).mono ?_
      rintro e v2 ⟨rfl, hb2⟩
      have hv2 := bthen hv1 hb2
      have Q2 := HQ.out.below hv2
      have Z2 := HZ.out.below hv2
      have hbv := bthen hb hv2
      have hqv : q < v2.heap.size := cell_lt Q2.c0
      clear hb2 hv1 q0 q1 q2 D1 R1 hRV
      obtain ⟨c0, c1, c2, f0, f1, f2⟩ := Q2
      have Z2' := Lib.hid Z2
      simp only at c0 c1 c2
      clear Z2
      have hfo := stF_ok (x := (a1, a2, a3)) ⟨hf1, hf2, hf3⟩ pd pk pt
      simp only at hfo
      generalize stF a1 a2 a3 pd pk pt = S at *
      obtain ⟨s1, s2, s3⟩ := S
      simp only at hfo HS ⊢
      generalize alw a1 a2 a3 pd pk pt = ab at *
      cases ab
      · rw [if_neg (by simp)] at HS
        go_wp2_with fail
        go_roundw
        case rel => exact ⟨k + 1, by omega, by go_num, by rw [HS.out], hbv.alloc hbv.size _, by rw [HS.out]; exact C3.below (⟨c0, c1, c2, f0, f1, f2⟩ : C3 v2 q (a1, a2, a3)) ((Below.refl _ _).alloc (Nat.le_refl _) _), Z2'.out.below ((Below.refl _ _).alloc (Nat.le_refl _) _)⟩
        case measure => simp [intOf]; omega
      · rw [if_pos rfl] at HS
        have hC := C3.below (⟨c0, c1, c2, f0, f1, f2⟩ : C3 v2 q (a1, a2, a3)) ((Below.refl _ _).alloc (Nat.le_refl _) (.cells #[.int .u8 s1, .int .u8 s2, .int .u8 s3] 23))
        have HC := Lib.hid hC
        clear hC
        go_wp2_with fail
        have hB : Below w.heap.size w (set3 v2 q (s1, s2, s3)) := below_set3 hbv hqw _
        have hA2 : ∀ o, Below (set3 v2 q (s1, s2, s3)).heap.size (set3 v2 q (s1, s2, s3)) ((set3 v2 q (s1, s2, s3)).alloc o) := fun o => (Below.refl _ _).alloc (Nat.le_refl _) o
        go_roundw
        case rel => exact ⟨k + 1, by omega, by go_num, by rw [HS.out], hB.alloc hB.size _, by rw [HS.out]; exact ((⟨c0, c1, c2, f0, f1, f2⟩ : C3 v2 q (a1, a2, a3)).set (s1, s2, s3)).below (hA2 _), (Z2'.out.other hqne (s1, s2, s3)).below (hA2 _)⟩
        case measure => simp [intOf]; omega
    · obtain rfl : k = r.length := by omega
      rw [List.take_length] at hst hq ⊢
      obtain ⟨st, hE⟩ : ∃ st, r.foldl gS ((x1, x2, x3), 1) = st := ⟨_, rfl⟩
      rw [hE] at hst hq ⊢
      have HE := Lib.hid hE
      clear hE
      obtain ⟨⟨a1, a2, a3⟩, m⟩ := st
      obtain ⟨c0, c1, c2, f0, f1, f2⟩ := hq
      obtain ⟨z0, z1, z2, y0, y1, y2⟩ := hz
      simp only at c0 c1 c2 z0 z1 z2 ⊢
      have hkd : decide (r.length < r.length) = false := by simp
      go_wp2_with fail
      refine bodyPost_ret (v := .tuple #[fl a1 a2 a3, .int .i64 m]) ?_ rfl ⟨by rw [HE.out]; rfl, below_set3 hb (Nat.le_refl _) (a1, a2, a3)⟩
      simp [results, Tryd.results19, go_sem, fl, z0, z1, z2]

set_option maxRecDepth 100000 in
set_option maxHeartbeats 4000000 in
theorem run_one (b off : Nat) (p0 : Pkt) (w : World) (HA : Hid (Ans w)) (HP : Hid (Pkts w (some ⟨b, off, none⟩) [p0])) (hd0 : Hid (p0.d = 0)) (ho : Hid (opens p0.kind p0.typ = true)) :
    Calls Tryd.prog 19 #[.slice (some ⟨b, off, none⟩) 1 1] w fun e w' => e = .returned (.tuple #[flv (opn p0.kind p0.typ), .int .i64 1]) ∧ Below w.heap.size w w' := by
  have hp0 := HP.out.ok p0 (by simp)
  have hr0 := HP.out.at_ (i := 0) rfl
  rw [Nat.zero_mul, Nat.add_zero] at hr0
  obtain ⟨q0, Rq⟩ := range_tail hr0
  rw [hd0.out] at q0
  have hlt : b < w.heap.size := cell_lt q0
  have HI9 := Lib.hid hp0.fa.hi
  obtain ⟨F0, hF0⟩ : ∃ F0, p0.F.toArray = F0 := ⟨_, rfl⟩
  have hRq : w.rangeAt b (off + 1) F0.toList := by rw [← hF0]; simpa using Rq
  rw [hF0] at HI9
  have hfa : Hid (Fa F0 p0.kind p0.typ) := by rw [← hF0]; exact hp0.fa
  clear hr0 Rq hp0 hF0
  obtain ⟨X, hX⟩ : ∃ X, opn p0.kind p0.typ = X := ⟨_, rfl⟩
  rw [hX]
  have HX := Lib.hid hX
  clear hX
  go_enter Tryd.func19, Tryd.ntmps19
  go_wp2_with (refine wpList_load_wide 29 _ rfl (by rfl) _ _ rfl F0 _ Tryd.underlying29 rfl HI9.out ?_ ?_; · (repeat (first | with_reducible exact hRq | refine World.rangeAt_alloc ?_ _)))
  refine (open_is F0 p0.kind p0.typ X true _ hfa.out (HA.out.below ((Below.refl _ _).alloc (Nat.le_refl _) _)) HX.out ho.out).mono ?_
  rintro e w1 ⟨rfl, hb⟩
  have b1 : Below w.heap.size w w1 := bthen ((Below.refl _ _).alloc (Nat.le_refl _) _) hb
  have z0 : w1.cell? ⟨w.heap.size, 0, none⟩ = some (.int .u8 0) := (hb.cell (p := ⟨w.heap.size, 0, none⟩) (by simp)).trans (by simp [go_sem])
  have z1 : w1.cell? ⟨w.heap.size, 1, none⟩ = some (.int .u8 0) := (hb.cell (p := ⟨w.heap.size, 1, none⟩) (by simp)).trans (by simp [go_sem])
  have z2 : w1.cell? ⟨w.heap.size, 2, none⟩ = some (.int .u8 0) := (hb.cell (p := ⟨w.heap.size, 2, none⟩) (by simp)).trans (by simp [go_sem])
  have y0 : w1.frozen? ⟨w.heap.size, 0, none⟩ = false := (hb.frozen (p := ⟨w.heap.size, 0, none⟩) (by simp)).trans (by simp [go_sem])
  have y1 : w1.frozen? ⟨w.heap.size, 1, none⟩ = false := (hb.frozen (p := ⟨w.heap.size, 1, none⟩) (by simp)).trans (by simp [go_sem])
  have y2 : w1.frozen? ⟨w.heap.size, 2, none⟩ = false := (hb.frozen (p := ⟨w.heap.size, 2, none⟩) (by simp)).trans (by simp [go_sem])
  have hws : w.heap.size < w1.heap.size := cell_lt z0
  obtain ⟨x1, x2, x3⟩ := X
  simp only
  clear hb hRq q0
  go_wp2_with fail
  refine wp_loop_rounds 1 ?_
  rw [rounds_succ]
  go_wp2_with fail
  have hB : Below w.heap.size w (set3 w1 w.heap.size (x1, x2, x3)) := below_set3 b1 (Nat.le_refl _) _
  refine bodyPost_ret (v := .tuple #[fl x1 x2 x3, .int .i64 1]) ?_ rfl ⟨rfl, hB.alloc hB.size _⟩
  simp [results, Tryd.results19, go_sem, fl, z0, z1, z2, hws, size_setC]

set_option maxRecDepth 100000 in
set_option maxHeartbeats 4000000 in
theorem run_noopen (b off n c : Nat) (p0 : Pkt) (r : List Pkt) (w : World) (hn : 0 < n) (hn1 : n ≤ 9223372036854775807) (HA : Hid (Ans w)) (HP : Hid (Pkts w (some ⟨b, off, none⟩) (p0 :: r))) (hd0 : Hid (p0.d = 0)) (ho : Hid (opens p0.kind p0.typ = false)) :
    Calls Tryd.prog 19 #[.slice (some ⟨b, off, none⟩) n c] w fun e w' => e = .returned (.tuple #[fl 0 0 0, .int .i64 0]) ∧ Below w.heap.size w w' := by
  have hn0 : ((n : Int) == 0) = false := by simp; omega
  have hp0 := HP.out.ok p0 (by simp)
  have hr0 := HP.out.at_ (i := 0) rfl
  rw [Nat.zero_mul, Nat.add_zero] at hr0
  obtain ⟨q0, Rq⟩ := range_tail hr0
  rw [hd0.out] at q0
  have hlt : b < w.heap.size := cell_lt q0
  have HI9 := Lib.hid hp0.fa.hi
  obtain ⟨F0, hF0⟩ : ∃ F0, p0.F.toArray = F0 := ⟨_, rfl⟩
  have hRq : w.rangeAt b (off + 1) F0.toList := by rw [← hF0]; simpa using Rq
  rw [hF0] at HI9
  have hfa : Hid (Fa F0 p0.kind p0.typ) := by rw [← hF0]; exact hp0.fa
  clear hr0 Rq hp0 hF0
  go_enter Tryd.func19, Tryd.ntmps19
  go_wp2_with (refine wpList_load_wide 29 _ rfl (by rfl) _ _ rfl F0 _ Tryd.underlying29 rfl HI9.out ?_ ?_; · (repeat (first | with_reducible exact hRq | refine World.rangeAt_alloc ?_ _)))
  refine (open_is F0 p0.kind p0.typ (0, 0, 0) false _ hfa.out (HA.out.below ((Below.refl _ _).alloc (Nat.le_refl _) _)) (by rw [opn, ho.out]; rfl) ho.out).mono ?_
  rintro e w1 ⟨rfl, hb⟩
  have b1 : Below w.heap.size w w1 := bthen ((Below.refl _ _).alloc (Nat.le_refl _) _) hb
  have z0 : w1.cell? ⟨w.heap.size, 0, none⟩ = some (.int .u8 0) := (hb.cell (p := ⟨w.heap.size, 0, none⟩) (by simp)).trans (by simp [go_sem])
  have z1 : w1.cell? ⟨w.heap.size, 1, none⟩ = some (.int .u8 0) := (hb.cell (p := ⟨w.heap.size, 1, none⟩) (by simp)).trans (by simp [go_sem])
  have z2 : w1.cell? ⟨w.heap.size, 2, none⟩ = some (.int .u8 0) := (hb.cell (p := ⟨w.heap.size, 2, none⟩) (by simp)).trans (by simp [go_sem])
  have y0 : w1.frozen? ⟨w.heap.size, 0, none⟩ = false := (hb.frozen (p := ⟨w.heap.size, 0, none⟩) (by simp)).trans (by simp [go_sem])
  have y1 : w1.frozen? ⟨w.heap.size, 1, none⟩ = false := (hb.frozen (p := ⟨w.heap.size, 1, none⟩) (by simp)).trans (by simp [go_sem])
  have y2 : w1.frozen? ⟨w.heap.size, 2, none⟩ = false := (hb.frozen (p := ⟨w.heap.size, 2, none⟩) (by simp)).trans (by simp [go_sem])
  have hws : w.heap.size < w1.heap.size := cell_lt z0
  clear hb hRq q0
  go_wp2_with fail
  have hB : Below w.heap.size w (set3 w1 w.heap.size (0, 0, 0)) := below_set3 b1 (Nat.le_refl _) _
  refine bodyPost_ret (v := .tuple #[fl 0 0 0, .int .i64 0]) ?_ rfl ⟨rfl, hB.alloc hB.size _⟩
  simp [results, Tryd.results19, go_sem, fl, z0, z1, z2, hws, size_setC]

theorem run_nodir (b off n c : Nat) (d : Int) (w : World) (hn : 0 < n) (q0 : w.cell? ⟨b, off, none⟩ = some (.int .u8 d)) (hd : (d != 0) = true) :
    Calls Tryd.prog 19 #[.slice (some ⟨b, off, none⟩) n c] w fun e w' => e = .returned (.tuple #[fl 0 0 0, .int .i64 0]) ∧ Below w.heap.size w w' := by
  have hn0 : ((n : Int) == 0) = false := by simp; omega
  have hlt : b < w.heap.size := cell_lt q0
  go_enter Tryd.func19, Tryd.ntmps19
  go_wp2_with fail
  exact bodyPost_ret (v := .tuple #[fl 0 0 0, .int .i64 0]) (by simp [results, Tryd.results19, go_sem, fl]) rfl ⟨rfl, (Below.refl _ _).alloc (Nat.le_refl _) _⟩

theorem run_nil (A : Option Addr) (c : Nat) (w : World) :
    Calls Tryd.prog 19 #[.slice A 0 c] w fun e w' => e = .returned (.tuple #[fl 0 0 0, .int .i64 0]) ∧ Below w.heap.size w w' := by
  go_enter Tryd.func19, Tryd.ntmps19
  go_wp2_with fail
  exact bodyPost_ret (v := .tuple #[fl 0 0 0, .int .i64 0]) (by simp [results, Tryd.results19, go_sem, fl]) rfl ⟨rfl, (Below.refl _ _).alloc (Nat.le_refl _) _⟩

/-- stream.Run, whatever slice of packets. -/
theorem run_any (A : Option Addr) (l : List Pkt) (n c : Nat) (w : World) (hn : n = l.length) (hc : n ≤ c) (hA : Ans w) (h : Pkts w A l) :
    Calls Tryd.prog 19 #[.slice A n c] w fun e w' => e = .returned (.tuple #[.agg #[.int .u8 (runS l).1.1, .int .u8 (runS l).1.2.1, .int .u8 (runS l).1.2.2], .int .i64 (runS l).2]) ∧ Below w.heap.size w w' := by
  subst hn
  cases l with
  | nil => exact run_nil A c w
  | cons p r =>
    obtain ⟨b, off, rfl, hlt, _⟩ := h.rd.mem (by simp)
    have hr0 := h.at_ (i := 0) rfl
    rw [Nat.zero_mul, Nat.add_zero] at hr0
    have hl := h.len
    by_cases hd : p.d = 0
    · cases ho : opens p.kind p.typ
      · have e : runS (p :: r) = ((0, 0, 0), 0) := by simp [runS, ho]
        rw [e]
        exact run_noopen b off _ c p r w (by simp) (by simp at hl ⊢; omega) hA h hd ho
      · have e : runS (p :: r) = r.foldl gS (opn p.kind p.typ, 1) := by simp [runS, ho, hd]
        rw [e]
        by_cases hc1 : c = 1
        · have hr : r = [] := List.eq_nil_of_length_eq_zero (by simp at hc; omega)
          subst hr hc1
          exact run_one b off p w hA h hd ho
        · exact run_yes b off p r c w (by simpa using hc) hc1 hA (by simp at hl; omega) hlt h hd ho
    · have e : runS (p :: r) = ((0, 0, 0), 0) := by simp [runS, hd]
      rw [e]
      exact run_nodir b off _ c p.d w (by simp) (range_tail hr0).1 (by simpa using hd)

end Go.Proofs.YtjmcpgagbjmfgaaDoor

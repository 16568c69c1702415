/-
  The walk of StreamAnswers: a flow is answered just if a packet of the reply direction has been allowed, and nothing takes that back.
-/
import Derived.Test.YtjmcpgagbjmfgaaDoorSeen
import Derived.Test.YtjmcpgagbjmfgaaDoorAwake
import Derived.Test.YtjmcpgagbjmfgaaDoorRun
import Derived.Great.BuildSlice
namespace Go.Proofs.YtjmcpgagbjmfgaaDoor
open Go.RowKit
set_option linter.unusedVariables false
set_option linter.unusedSimpArgs false

/-- A word: a packet in small numbers. -/
abbrev W3 := Int × Int × Int
def wcs (x : W3) : List Value := [.int .u8 x.1, .int .u8 x.2.1, .int .u8 x.2.2]
def W3ok (x : W3) : Prop := (0 ≤ x.1 ∧ x.1 ≤ 255) ∧ (0 ≤ x.2.1 ∧ x.2.1 ≤ 255) ∧ (0 ≤ x.2.2 ∧ x.2.2 ≤ 255)
/-- An argument that is a slice of words. -/
structure WordsArg (w : World) (A : Option Addr) (c : Nat) (l : List W3) : Prop where
  ok : ∀ x ∈ l, W3ok x
  max : c ≤ maxLen
  rd : Rd w A 3 (l.map wcs)
theorem words_of {w : World} {A : Option Addr} {css : List (List Value)} {cap : Nat} (h1 : css.length ≤ cap) (h2 : cap ≤ maxLen) (h3 : A = none → css = [] ∧ cap = 0) (hr : Rd w A 3 css) (ha : ∀ cs ∈ css, All2 [some .u8, some .u8, some .u8] cs) : ∃ l : List W3, css.length = l.length ∧ WordsArg w A cap l := by
  have hex : ∀ css : List (List Value), (∀ cs ∈ css, All2 [some .u8, some .u8, some .u8] cs) → ∃ l : List W3, css = l.map wcs ∧ ∀ p ∈ l, W3ok p := by
    intro css
    induction css with
    | nil => intro _; exact ⟨[], rfl, by simp⟩
    | cons c r ih =>
      intro h
      obtain ⟨zs, rfl, hz⟩ := ih fun cs hcs => h cs (by simp [hcs])
      obtain ⟨n0, r0, rfl, w0, h0⟩ := all2_int (h c (by simp))
      obtain ⟨n1, r1, rfl, w1, h1⟩ := all2_int h0
      obtain ⟨n2, r2, rfl, w2, h2⟩ := all2_int h1
      obtain rfl := all2_nil h2
      refine ⟨(n0, n1, n2) :: zs, rfl, fun p hp => ?_⟩
      rcases List.mem_cons.1 hp with rfl | hp
      · exact ⟨bounds_u8 w0, bounds_u8 w1, bounds_u8 w2⟩
      · exact hz p hp
  obtain ⟨l, rfl, hz⟩ := hex css ha
  exact ⟨l, by simp, hz, h2, hr⟩

/-- A word's packet. -/
def pkW (x : W3) : Pkt := ⟨x.1 % 2, sF (kdW x.2.1) x.2.1 (tyW x.2.2), kdW x.2.1, tyW x.2.2⟩
theorem all_sF (K k T : Int) (h : 0 ≤ K ∧ K ≤ 255) (h1 : 0 ≤ k ∧ k ≤ 255) (h2 : 0 ≤ T ∧ T ≤ 255) : All2 K19 (sF K k T) := by
  have z8 : Fits (some .u8) (.int .u8 0) := ⟨0, rfl, by decide⟩
  have z16 : Fits (some .u16) (.int .u16 0) := ⟨0, rfl, by decide⟩
  have z32 : Fits (some .u32) (.int .u32 0) := ⟨0, rfl, by decide⟩
  have z64 : Fits (some .i64) (.int .i64 0) := ⟨0, rfl, by decide⟩
  exact ⟨z8, z32, z32, z16, z16, ⟨K, rfl, WalkArith.wf_u8 (by omega)⟩, ⟨k, rfl, WalkArith.wf_u8 (by omega)⟩, ⟨T, rfl, WalkArith.wf_u8 (by omega)⟩, z8, z32, z32, z64, z64, z8, z32, z32, z16, z16, z8, trivial⟩
theorem pkW_ok {x : W3} (h : W3ok x) : PktOk (pkW x) := by
  obtain ⟨h1, h2, h3⟩ := h
  have K := kdW_range x.2.1 h2.1
  have T := tyW_range x.2.2 h3
  exact ⟨by show 0 ≤ x.1 % 2 ∧ x.1 % 2 ≤ 255; omega, fa_sF _ _ _ (by omega) T, all_sF _ _ _ (by omega) h2 T⟩

/-- One word: the state of the flow (its kind and its type never change) and the number of allowed packets. -/
def gW (K X : Int) (s : Int × Int) (x : W3) : Int × Int := if alw K s.1 X (x.1 % 2) (kdW x.2.1) (tyW x.2.2) then (if x.1 % 2 = 1 then 2 else s.1, s.2 + 1) else s
def swL (K X : Int) (l : List W3) : Int × Int := l.foldl (gW K X) (1, 1)
theorem gW_range (K X : Int) (s : Int × Int) (x : W3) (h : s.1 = 1 ∨ s.1 = 2) : ((gW K X s x).1 = 1 ∨ (gW K X s x).1 = 2) ∧ s.2 ≤ (gW K X s x).2 ∧ (gW K X s x).2 ≤ s.2 + 1 := by
  unfold gW
  split
  · refine ⟨?_, by simp <;> omega, by simp⟩
    dsimp only
    split
    · exact .inr rfl
    · exact h
  · exact ⟨h, Int.le_refl _, by omega⟩
theorem foldW_range (K X : Int) : ∀ (l : List W3) (s : Int × Int), (s.1 = 1 ∨ s.1 = 2) → ((l.foldl (gW K X) s).1 = 1 ∨ (l.foldl (gW K X) s).1 = 2) ∧ s.2 ≤ (l.foldl (gW K X) s).2 ∧ (l.foldl (gW K X) s).2 ≤ s.2 + l.length
  | [], s, h => ⟨h, Int.le_refl _, by simp⟩
  | x :: r, s, h => by
    have h1 := gW_range K X s x h
    have h2 := foldW_range K X r _ h1.1
    simp only [List.foldl_cons, List.length_cons]
    exact ⟨h2.1, by omega, by omega⟩
theorem swL_range (K X : Int) (l : List W3) : ((swL K X l).1 = 1 ∨ (swL K X l).1 = 2) ∧ 1 ≤ (swL K X l).2 ∧ (swL K X l).2 ≤ 1 + l.length := foldW_range K X l (1, 1) (.inl rfl)
theorem one_of {V : Array Value} (h : V.all (·.oneCell') = true) : ∀ u ∈ V.toList, u.oneCell' = true := fun u hu => by
  rw [← Array.all_toList] at h
  exact List.all_eq_true.1 h u hu
theorem swL_snoc (K X : Int) (l : List W3) (k : Nat) (x : W3) (h : l[k]? = some x) : swL K X (l.take (k + 1)) = gW K X (swL K X (l.take k)) x := by
  unfold swL
  rw [List.take_add_one, h]
  simp
theorem fold_pkW (K X : Int) : ∀ (l : List W3) (s : Int × Int), (l.map pkW).foldl gS ((K, s.1, X), s.2) = ((K, (l.foldl (gW K X) s).1, X), (l.foldl (gW K X) s).2)
  | [], s => rfl
  | x :: r, s => by
    simp only [List.map_cons, List.foldl_cons]
    rw [← fold_pkW K X r (gW K X s x)]
    congr 1
    unfold gS gW pkW
    dsimp only
    split
    · rename_i h
      rw [stF, h]
      simp
    · rfl
theorem runW {K T X : Int} (F : List Value) (ho : opens K T = true) (hX : typOf K T = X) (l : List W3) : runS (⟨0, F, K, T⟩ :: l.map pkW) = ((K, (swL K X l).1, X), (swL K X l).2) := by
  unfold runS
  dsimp only
  rw [if_pos ⟨rfl, ho⟩]
  have e : opn K T = (K, 1, X) := by rw [opn, ho, hX]; rfl
  rw [e]
  exact fold_pkW K X l (1, 1)

theorem wpList_buildWide {P : Program} {ops : Array Oper} {rest : List Oper} {o : Oper} {a : Act} {w : World} {Q : Exit → Act → World → Prop} (hg : o.guard = none) (t e : TypeId) (len s : Nat) (parts : Array (Nat × Operand)) (ho : o.op = .buildSlice t len parts) (vs : List (List Value))
    (N : Nat) (hN : w.heap.size = N) (d : Option Tmp) (hd : o.dst = d) (ie : TypeInfo) (z : Value) (hu : P.underlying t = some (.slice e)) (hie : P.info? e = some ie) (hz : ie.zero = some z) (hs : ie.size = s) (hs0 : 0 < s) (hsmall : len * s ≤ 2 ^ 24) (hlen : vs.length = len) (hpos : 0 < len)
    (hparts : (parts.map fun (i, x) => (i, a.eval x)).toList = ((vs.map fun l => Value.agg l.toArray).zipIdx 0).map fun x => (x.2, x.1)) (he : ∀ l ∈ vs, l.length = s)
    (h : wpList P ops Q rest (a.put d (.slice (some ⟨N, 0, none⟩) len len)) (w.alloc (.cells vs.flatten.toArray e))) : wpList P ops Q (o :: rest) a w := by
  subst hN hd hs hlen
  have h0 : 0 < vs.length * ie.size := Nat.mul_pos hpos hs0
  refine wpList_buildSlice hg t e _ parts ho vs.flatten.toArray ie z hu hie hz (by omega) (by omega) ?_ h
  rw [hparts, Great.fill_whole hs0 _ _ (fun v hv => by obtain ⟨l, hl, rfl⟩ := List.mem_map.1 hv; simpa [Value.cells] using he l hl) (by simp)]
  congr 2
  rw [List.flatMap_map]
  simp [Value.cells, List.flatMap_id']
/-- A slice literal of one row. -/
theorem wpList_buildOne {P : Program} {ops : Array Oper} {rest : List Oper} {o : Oper} {a : Act} {w : World} {Q : Exit → Act → World → Prop} (hg : o.guard = none) (t e : TypeId) (s : Nat) (x : Operand) (ho : o.op = .buildSlice t 1 #[(0, x)]) (V : Array Value)
    (N : Nat) (hN : w.heap.size = N) (d : Option Tmp) (hd : o.dst = d) (ie : TypeInfo) (z : Value) (hu : P.underlying t = some (.slice e)) (hie : P.info? e = some ie) (hz : ie.zero = some z) (hs : ie.size = s) (hs0 : 0 < s) (hsmall : s ≤ 2 ^ 24)
    (hx : a.eval x = .agg V) (he : V.size = s)
    (h : wpList P ops Q rest (a.put d (.slice (some ⟨N, 0, none⟩) 1 1)) (w.alloc (.cells V e))) : wpList P ops Q (o :: rest) a w :=
  wpList_buildWide hg t e 1 s #[(0, x)] ho [V.toList] N hN d hd ie z hu hie hz hs hs0 (by omega) rfl (by omega) (by simp [hx]) (by simpa using he) (by simpa using h)
/-- A struct literal that is given one part. -/
theorem wpList_buildPart {P : Program} {ops : Array Oper} {rest : List Oper} {o : Oper} {a : Act} {w : World} {Q : Exit → Act → World → Prop} (hg : o.guard = none) (t : TypeId) (i : Nat) (x : Operand) (ho : o.op = .build t #[(i, x)])
    (d : Option Tmp) (hd : o.dst = d) (v : Value) (hx : a.eval x = v) (cells : Array Value) (hf : P.built t [(i, v)] = some cells)
    (h : wpList P ops Q rest (a.put d (.agg cells)) w) : wpList P ops Q (o :: rest) a w :=
  wpList_buildTo hg t #[(i, x)] ho d hd cells (by simpa [hx] using hf) h
theorem built35 (K k T : Int) : Tryd.prog.built 35 [(1, .agg (sF K k T).toArray)] = some (.int .u8 0 :: sF K k T).toArray := by kernel_rfl
theorem open_w (d : Int) (F : List Value) (W : World) (b : Nat) (h : W.rangeAt b 0 (.int .u8 d :: F)) : W.cell? ⟨b, 0, none⟩ = some (.int .u8 d) ∧ W.rangeAt b 1 F :=
  ⟨h 0 _ rfl, fun j v hv => by have := h (j + 1) v (by simpa using hv); rwa [show 0 + (j + 1) = 1 + j by omega] at this⟩
theorem own_below {w w' : World} {base : Nat} {e : TypeId} {size : Nat} {v : Value} {n : Nat} {xs : List Value} (h : w.ownsRow base e size v n xs) (hb : Below w.heap.size w w') : w'.ownsRow base e size v n xs := by
  refine ⟨h.1, ?_⟩
  rcases h.2 with hn | ⟨g, cap, cur, rfl, hbs, hg, r⟩
  · exact .inl hn
  · exact .inr ⟨g, cap, cur, rfl, hbs, (hb.block g (Array.getElem?_eq_some_iff.1 hg).1).trans hg, r⟩
theorem own_set3 {w : World} {base : Nat} {e : TypeId} {size : Nat} {v : Value} {n : Nat} {xs : List Value} (h : w.ownsRow base e size v n xs) {b : Nat} (hlt : b < base) (y : Fl3) : (set3 w b y).ownsRow base e size v n xs := by
  refine ⟨h.1, ?_⟩
  rcases h.2 with hn | ⟨g, cap, cur, rfl, hbs, hg, r⟩
  · exact .inl hn
  · refine .inr ⟨g, cap, cur, rfl, hbs, ?_, r⟩
    have hne : b ≠ g := by omega
    rw [← hg]
    unfold set3
    simp [World.setCell, hne, Array.getElem?_modify]
theorem rd_one {w : World} {b : Nat} {cs : List Value} {size : Nat} (h : w.rangeAt b 0 cs) (hs : cs.length = size) (hlt : b < w.heap.size) : Rd w (some ⟨b, 0, none⟩) size [cs] :=
  ⟨by simpa using hs, fun _ => ⟨b, 0, rfl, hlt, fun i c hi j v hv => by
    obtain rfl : i = 0 := by
      rcases Nat.eq_zero_or_pos i with h0 | h0
      · exact h0
      · rw [List.getElem?_eq_none (by simp; omega)] at hi
        cases hi
    obtain rfl : cs = c := by simpa using hi
    have := h j v hv
    simpa using this⟩⟩
theorem open_w3 {w : World} {b off : Nat} {l : List W3} (h : Rd w (some ⟨b, off, none⟩) 3 (l.map wcs)) {i : Nat} {x : W3} (hi : l[i]? = some x) : w.cell? ⟨b, off + i * 3, none⟩ = some (.int .u8 x.1) ∧ w.cell? ⟨b, off + i * 3 + 1, none⟩ = some (.int .u8 x.2.1) ∧ w.cell? ⟨b, off + i * 3 + 2, none⟩ = some (.int .u8 x.2.2) :=
  have hc : (l.map wcs)[i]? = some (wcs x) := by simp [hi]
  ⟨h.cell hc (j := 0) rfl, h.cell hc (j := 1) rfl, h.cell hc (j := 2) rfl⟩
theorem info35c : (Tryd.prog.info? 35).map (fun i => (i.zero, i.size, i.bytes)) = some (some (.agg #[.int .u8 0, .int .u8 0, .int .u32 0, .int .u32 0, .int .u16 0, .int .u16 0, .int .u8 0, .int .u8 0, .int .u8 0, .int .u8 0, .int .u32 0, .int .u32 0, .int .i64 0, .int .i64 0, .int .u8 0, .int .u32 0, .int .u32 0, .int .u16 0, .int .u16 0, .int .u8 0]), 20, 80) := by kernel_rfl
/-- What a round finds behind its append. -/
theorem ans_after {u w3 w : World} {row : Option Nat} {q R B0 b1 b2 : Nat} {x3 y3 : Fl3} {vs : List Value} (hgrow : u.grownBy w3 row) (hrow : ∀ k, row = some k → q + 1 ≤ k ∧ k < R) (hbu : Below B0 w u) (hBq : B0 ≤ q) (hq : q < u.heap.size) (hx : C3 u q x3) (h1 : R ≤ b1) (h2 : R ≤ b2) (hr : u.rangeAt b1 0 vs) (hy : C3 u b2 y3) :
    Below B0 w w3 ∧ C3 w3 q x3 ∧ w3.rangeAt b1 0 vs ∧ (w3.cell? ⟨b2, 0, none⟩ = some (.int .u8 y3.1) ∧ w3.cell? ⟨b2, 1, none⟩ = some (.int .u8 y3.2.1) ∧ w3.cell? ⟨b2, 2, none⟩ = some (.int .u8 y3.2.2)) := by
  have hB : Below (q + 1) u w3 := (Below.refl _ _).grown hgrow (by omega) (fun k hk => (hrow k hk).1)
  have hc : ∀ b o v, R ≤ b → u.cell? ⟨b, o, none⟩ = some v → w3.cell? ⟨b, o, none⟩ = some v := fun b o v hb h => hgrow.cell h (fun e => by
    have h1 := (hrow b e.symm).2
    omega)
  refine ⟨hbu.grown hgrow (by omega) (fun k hk => by have := hrow k hk; omega), ⟨?_, ?_, ?_, ?_, ?_, ?_⟩, fun j v hv => hc _ _ _ h1 (hr j v hv), hc _ _ _ h2 hy.c0, hc _ _ _ h2 hy.c1, hc _ _ _ h2 hy.c2⟩
  · exact (hB.cell (p := ⟨q, 0, none⟩) (Nat.lt_succ_self q)).trans hx.c0
  · exact (hB.cell (p := ⟨q, 1, none⟩) (Nat.lt_succ_self q)).trans hx.c1
  · exact (hB.cell (p := ⟨q, 2, none⟩) (Nat.lt_succ_self q)).trans hx.c2
  · exact (hB.frozen (p := ⟨q, 0, none⟩) (Nat.lt_succ_self q)).trans hx.f0
  · exact (hB.frozen (p := ⟨q, 1, none⟩) (Nat.lt_succ_self q)).trans hx.f1
  · exact (hB.frozen (p := ⟨q, 2, none⟩) (Nat.lt_succ_self q)).trans hx.f2
theorem rt_s (k s s' t : Int) (h : s = 1 ∨ s = 2) (h' : s' = 1 ∨ s' = 2) (hr : rt k s t = true) : rt k s' t = true := by
  rw [← hr]
  unfold rt
  rcases h with rfl | rfl <;> rcases h' with rfl | rfl <;> rfl
theorem alw_rt {k s t d kd ty : Int} (h : alw k s t d kd ty = true) : rt k s t = true := by
  unfold alw at h
  simp only [Bool.and_eq_true] at h
  exact h.1
theorem alw_q1 {s t kd ty : Int} (h : alw 3 s t 1 kd ty = true) : isq t = true ∧ kd = 4 ∧ ty = ans t := by
  have hr := alw_rt h
  unfold alw at h
  simp only [Bool.and_eq_true] at h
  have h2 := h.2.2
  simp [allowsQ] at h2
  simp [rt, opens] at hr
  exact ⟨hr.1, h2⟩
theorem flat_snoc (P0 : Pkt) (l : List W3) (j : Nat) (x : W3) (h : l[j]? = some x) : ((P0 :: (l.take (j + 1)).map pkW).map pcs).flatten = ((P0 :: (l.take j).map pkW).map pcs).flatten ++ pcs (pkW x) := by
  rw [List.take_add_one, h]
  simp
theorem kd_at {D : Int} {F : List Value} {kd ty : Int} (h : Fa F.toArray kd ty) : (Value.int .u8 D :: F)[6]? = some (.int .u8 kd) ∧ (Value.int .u8 D :: F)[8]? = some (.int .u8 ty) := by
  have h1 := h.ckind
  have h2 := h.ctype
  simp only [List.getElem?_toArray] at h1 h2
  exact ⟨by simpa using h1, by simpa using h2⟩
theorem mx200 : 200 ≤ maxLen := by decide

set_option maxRecDepth 100000 in
set_option maxHeartbeats 4000000 in
theorem answers_no (d k t : Int) (A : Option Addr) (l : List W3) (n c : Nat) (D K T : Int) (F : List Value) (S Z : Array Value) (w : World) (HA : Hid (Ans w)) (hd : 0 ≤ d ∧ d ≤ 255) (hk : 0 ≤ k ∧ k ≤ 255) (ht : 0 ≤ t ∧ t ≤ 255) (hn : n = l.length) (hc : n ≤ c) (H : Hid (WordsArg w A c l))
    (HS1 : Hid (∀ w, Calls Tryd.prog 12 #[.agg #[.int .u8 d, .int .u8 k, .int .u8 t]] w fun e w' => e = .returned (.agg S) ∧ Below w.heap.size w w')) (HSV : Hid ((Value.int .u8 D :: F).toArray = S)) (HFa : Hid (Fa F.toArray K T)) (H20 : Hid (S.size = 20)) (Ho : Hid (S.all (·.oneCell') = true)) (hK : 0 ≤ K ∧ K ≤ 255) (hT : 0 ≤ T ∧ T ≤ 255)
    (HZ : Hid (Tryd.prog.built 35 [(1, .agg F.toArray)] = some Z)) (HZ1 : Hid (Z = (Value.int .u8 0 :: F).toArray)) (Hall : Hid (All2 K19 F)) (ho : Hid (opens K T = false)) :
    Calls Tryd.prog 9 #[.agg #[.int .u8 d, .int .u8 k, .int .u8 t], .slice A n c] w fun e w' => e = .returned (.bool true) ∧ Below w.heap.size w w' := by
  have HI : Hid ((Tryd.prog.info? 35).map (·.size) = some S.size) := by rw [H20.out]; exact info35
  have HJ := Lib.hid HFa.out.hi
  obtain ⟨i0, hi, hz0, hz1, hz2⟩ := info_parts info35c
  have Hi := Lib.hid hi
  have Hz0 := Lib.hid hz0
  have Hz1 := Lib.hid hz1
  have Hz2 := Lib.hid hz2
  have HZs : Hid (Z.size = 20) := by
    have := HFa.out.size
    show _ = _
    rw [HZ1.out]
    simpa using this
  clear hi hz0 hz1 hz2
  have Hn := Lib.hid hn
  clear hn
  go_enter Tryd.func9, Tryd.ntmps9
  go_wp2_with fail
  refine (awake_any _ (HA.out.below (by (repeat' (first | exact Below.refl _ _ | refine Below.setCell ?_ (by first | omega | (simp; done) | (simp; omega)) _ | refine Below.alloc ?_ (by first | omega | (simp; done) | (simp; omega)) _))))).mono ?_
  rintro e w1 ⟨rfl, hb⟩
  have d1 : Below w.heap.size w w1 := bthen (by (repeat' (first | exact Below.refl _ _ | refine Below.setCell ?_ (by first | omega | (simp; done) | (simp; omega)) _ | refine Below.alloc ?_ (by first | omega | (simp; done) | (simp; omega)) _))) hb
  have p0 : w1.cell? ⟨w.heap.size, 0, none⟩ = some (.int .u8 d) := (hb.cell (p := ⟨w.heap.size, 0, none⟩) (by simp)).trans (by simp [go_sem])
  have p1 : w1.cell? ⟨w.heap.size, 1, none⟩ = some (.int .u8 k) := (hb.cell (p := ⟨w.heap.size, 1, none⟩) (by simp)).trans (by simp [go_sem])
  have p2 : w1.cell? ⟨w.heap.size, 2, none⟩ = some (.int .u8 t) := (hb.cell (p := ⟨w.heap.size, 2, none⟩) (by simp)).trans (by simp [go_sem])
  clear hb
  go_wp2_with fail
  refine (HS1.out _).mono ?_
  rintro e w2 ⟨rfl, hb⟩
  have d2 : Below w.heap.size w w2 := bthen d1 hb
  have k2 := d2.size
  clear hb p0 p1 p2 d1
  go_wp2_with (first | (refine wpList_store_wide 35 _ _ rfl rfl w2.heap.size 0 S rfl rfl w.heap.size w HI.out Ho.out (d2.alloc k2 _) k2 (there_new _ _ _ _ _ rfl ?_) ?_; (· (rw [H20.out]; rfl)); intro v1 e1 z1 r1 j1 j2 j3; clear j1 j2 j3; have R1 := (open_w _ _ _ _ (by rw [← HSV.out] at r1; exact r1)).2; have y1 : w2.heap.size < v1.heap.size := (by rw [z1]; simp); have y2 : w.heap.size ≤ v1.heap.size := e1.size; clear r1 z1) | (refine wpList_load_wide 29 _ rfl (by rfl) _ _ rfl F.toArray _ Tryd.underlying29 rfl HJ.out R1 ?_))
  refine (open_is F.toArray K T (0, 0, 0) false _ HFa.out (HA.out.below e1) (by rw [opn, ho.out]; rfl) ho.out).mono ?_
  rintro e v2 ⟨rfl, hb⟩
  have e2 := bthen e1 hb
  have R2 := range_below hb y1 R1
  have y3 : w2.heap.size < v2.heap.size := Nat.lt_of_lt_of_le y1 hb.size
  have y4 : w.heap.size ≤ v2.heap.size := e2.size
  clear e1 R1 y1 y2 hb d2
  go_wp2_with (first | (refine wpList_load_wide 29 _ rfl (by rfl) _ _ rfl F.toArray _ Tryd.underlying29 rfl HJ.out ?_ ?_; · (repeat (first | with_reducible exact R2 | refine World.rangeAt_alloc ?_ _))) | (refine wpList_buildPart rfl 35 1 (.tmp 36) rfl _ rfl (.agg F.toArray) rfl Z HZ.out ?_) | (refine wpList_buildOne rfl 49 35 20 (.tmp 37) rfl Z _ rfl _ rfl i0 _ Tryd.underlying49 Hi.out Hz0.out Hz1.out (by decide) (by decide) rfl HZs.out ?_))
  refine (run_any (some ⟨v2.heap.size + 1, 0, none⟩) [⟨0, F, K, T⟩] 1 1 _ rfl (Nat.le_refl _) (HA.out.below (by (repeat' (first | with_reducible exact e2 | refine Below.setCell ?_ (by first | omega | (simp; done) | (simp; omega)) _ | refine Below.alloc ?_ (by first | omega | (simp; done) | (simp; omega)) _)))) ⟨?_, by simp, rd_one ?_ ?_ ?_⟩).mono ?_
  · intro p hp
    obtain rfl : p = ⟨0, F, K, T⟩ := by simpa using hp
    exact ⟨by simp, HFa.out, Hall.out⟩
  · have := range_new' (v2.alloc (.cells #[.int .u8 0, .int .u8 0, .int .u8 0] 23)) Z 35 (v2.heap.size + 1) (by simp)
    rw [HZ1.out] at this
    rw [HZ1.out]
    simpa [pcs] using this
  · have := HFa.out.size
    simpa [pcs] using this
  · simp
  rintro e v3 ⟨he, hb⟩
  have hrun : runS [⟨0, F, K, T⟩] = ((0, 0, 0), 0) := by simp [runS, ho.out]
  rw [hrun] at he
  subst he
  have e3 := bthen e2 (bthen (by (repeat' (first | exact Below.refl _ _ | refine Below.setCell ?_ (by first | omega | (simp; done) | (simp; omega)) _ | refine Below.alloc ?_ (by first | omega | (simp; done) | (simp; omega)) _))) hb)
  have c0 : v3.cell? ⟨v2.heap.size, 0, none⟩ = some (.int .u8 0) := (hb.cell (p := ⟨v2.heap.size, 0, none⟩) (by first | (simp; done) | (simp; omega))).trans (by simp [go_sem])
  have c1 : v3.cell? ⟨v2.heap.size, 1, none⟩ = some (.int .u8 0) := (hb.cell (p := ⟨v2.heap.size, 1, none⟩) (by first | (simp; done) | (simp; omega))).trans (by simp [go_sem])
  have c2 : v3.cell? ⟨v2.heap.size, 2, none⟩ = some (.int .u8 0) := (hb.cell (p := ⟨v2.heap.size, 2, none⟩) (by first | (simp; done) | (simp; omega))).trans (by simp [go_sem])
  have zx : v2.heap.size < v3.heap.size := by have := hb.size; simp at this; omega
  clear hb
  go_wp2_with fail
  go_ret
  exact ⟨by first | rfl | simp, e3.alloc e3.size _⟩

set_option maxRecDepth 100000 in
set_option maxHeartbeats 4000000 in
theorem answers_yes (d k t : Int) (A : Option Addr) (l : List W3) (n c : Nat) (D K T : Int) (F : List Value) (S Z : Array Value) (w : World) (HA : Hid (Ans w)) (hd : 0 ≤ d ∧ d ≤ 255) (hk : 0 ≤ k ∧ k ≤ 255) (ht : 0 ≤ t ∧ t ≤ 255) (hn : n = l.length) (hc : n ≤ c) (H : Hid (WordsArg w A c l))
    (HS1 : Hid (∀ w, Calls Tryd.prog 12 #[.agg #[.int .u8 d, .int .u8 k, .int .u8 t]] w fun e w' => e = .returned (.agg S) ∧ Below w.heap.size w w')) (HSV : Hid ((Value.int .u8 D :: F).toArray = S)) (HFa : Hid (Fa F.toArray K T)) (H20 : Hid (S.size = 20)) (Ho : Hid (S.all (·.oneCell') = true)) (hK : 0 ≤ K ∧ K ≤ 255) (hT : 0 ≤ T ∧ T ≤ 255)
    (HZ : Hid (Tryd.prog.built 35 [(1, .agg F.toArray)] = some Z)) (HZ1 : Hid (Z = (Value.int .u8 0 :: F).toArray)) (Hall : Hid (All2 K19 F)) (ho : Hid (opens K T = true)) (X : Int) (hX : Hid (typOf K T = X)) (m : Nat) (hm : (if 100 < (n : Int) then (100 : Int) else n) = m) (hm1 : m ≤ n) (hm2 : m ≤ 100) :
    Calls Tryd.prog 9 #[.agg #[.int .u8 d, .int .u8 k, .int .u8 t], .slice A n c] w fun e w' => e = .returned (.bool true) ∧ Below w.heap.size w w' := by
  have HI : Hid ((Tryd.prog.info? 35).map (·.size) = some S.size) := by rw [H20.out]; exact info35
  have HJ := Lib.hid HFa.out.hi
  obtain ⟨i0, hi, hz0, hz1, hz2⟩ := info_parts info35c
  have Hi := Lib.hid hi
  have Hz0 := Lib.hid hz0
  have Hz1 := Lib.hid hz1
  have Hz2 := Lib.hid hz2
  have HZs : Hid (Z.size = 20) := by
    have := HFa.out.size
    show _ = _
    rw [HZ1.out]
    simpa using this
  clear hi hz0 hz1 hz2
  have Hn := Lib.hid hn
  clear hn
  have hX1 : 0 ≤ X ∧ X ≤ 255 := by rw [← hX.out]; unfold typOf; split <;> omega
  go_enter Tryd.func9, Tryd.ntmps9
  go_wp2_with fail
  refine (awake_any _ (HA.out.below (by (repeat' (first | exact Below.refl _ _ | refine Below.setCell ?_ (by first | omega | (simp; done) | (simp; omega)) _ | refine Below.alloc ?_ (by first | omega | (simp; done) | (simp; omega)) _))))).mono ?_
  rintro e w1 ⟨rfl, hb⟩
  have d1 : Below w.heap.size w w1 := bthen (by (repeat' (first | exact Below.refl _ _ | refine Below.setCell ?_ (by first | omega | (simp; done) | (simp; omega)) _ | refine Below.alloc ?_ (by first | omega | (simp; done) | (simp; omega)) _))) hb
  have p0 : w1.cell? ⟨w.heap.size, 0, none⟩ = some (.int .u8 d) := (hb.cell (p := ⟨w.heap.size, 0, none⟩) (by simp)).trans (by simp [go_sem])
  have p1 : w1.cell? ⟨w.heap.size, 1, none⟩ = some (.int .u8 k) := (hb.cell (p := ⟨w.heap.size, 1, none⟩) (by simp)).trans (by simp [go_sem])
  have p2 : w1.cell? ⟨w.heap.size, 2, none⟩ = some (.int .u8 t) := (hb.cell (p := ⟨w.heap.size, 2, none⟩) (by simp)).trans (by simp [go_sem])
  clear hb
  go_wp2_with fail
  refine (HS1.out _).mono ?_
  rintro e w2 ⟨rfl, hb⟩
  have d2 : Below w.heap.size w w2 := bthen d1 hb
  have k2 := d2.size
  clear hb p0 p1 p2 d1
  go_wp2_with (first | (refine wpList_store_wide 35 _ _ rfl rfl w2.heap.size 0 S rfl rfl w.heap.size w HI.out Ho.out (d2.alloc k2 _) k2 (there_new _ _ _ _ _ rfl ?_) ?_; (· (rw [H20.out]; rfl)); intro v1 e1 z1 r1 j1 j2 j3; clear j1 j2 j3; have R1 := (open_w _ _ _ _ (by rw [← HSV.out] at r1; exact r1)).2; have y1 : w2.heap.size < v1.heap.size := (by rw [z1]; simp); have y2 : w.heap.size ≤ v1.heap.size := e1.size; clear r1 z1) | (refine wpList_load_wide 29 _ rfl (by rfl) _ _ rfl F.toArray _ Tryd.underlying29 rfl HJ.out R1 ?_))
  refine (open_is F.toArray K T (K, 1, X) true _ HFa.out (HA.out.below e1) (by rw [opn, ho.out, ← hX.out]; rfl) ho.out).mono ?_
  rintro e v2 ⟨rfl, hb⟩
  have e2 := bthen e1 hb
  have R2 := range_below hb y1 R1
  have y3 : w2.heap.size < v2.heap.size := Nat.lt_of_lt_of_le y1 hb.size
  have y4 : w.heap.size ≤ v2.heap.size := e2.size
  clear e1 R1 y1 y2 hb d2
  unfold maxLen at *
  go_wp2_with (first | (refine wpList_load_wide 29 _ rfl (by rfl) _ _ rfl F.toArray _ Tryd.underlying29 rfl HJ.out ?_ ?_; · (repeat (first | with_reducible exact R2 | refine World.rangeAt_alloc ?_ _))) | (refine wpList_buildPart rfl 35 1 (.tmp 50) rfl _ rfl (.agg F.toArray) rfl Z HZ.out ?_) | (refine wpList_buildOne rfl 49 35 20 (.tmp 51) rfl Z _ rfl _ rfl i0 _ Tryd.underlying49 Hi.out Hz0.out Hz1.out (by decide) (by decide) rfl HZs.out ?_))
  obtain ⟨q, hq⟩ : ∃ q, v2.heap.size = q := ⟨_, rfl⟩
  rw [hq]
  generalize hW : World.alloc (World.alloc v2 _) _ = W
  have hbW : Below w.heap.size w W := by subst hW; exact (e2.alloc y4 _).alloc (by simp; omega) _
  have hx3 : C3 W q (K, 1, X) := by subst hW hq; exact ⟨by simp [go_sem], by simp [go_sem], by simp [go_sem], by simp [go_sem], by simp [go_sem], by simp [go_sem]⟩
  have hown : W.ownsRow (q + 1) 35 20 (.slice (some ⟨q + 1, 0, none⟩) 1 1) 1 (pcs ⟨0, F, K, T⟩) := by
    have hl := HFa.out.size
    refine ⟨by simpa [pcs] using hl, .inr ⟨q + 1, 1, Z, rfl, Nat.le_refl _, ?_, Nat.le_refl _, by decide, by rw [HZs.out], ?_⟩⟩
    · subst hW hq; exact heap_alloc_last' _ _ _ (by simp)
    · rw [HZ1.out, List.take_of_length_le (by simp at hl ⊢; omega)]; rfl
  have hqw : w.heap.size ≤ q := by omega
  have hmx := mx200
  unfold maxLen at hmx
  clear hW hq e2 R2 y3 y4 k2
  go_loopw [10, 11, 12, 59] (fun v ab nn i wr => ∃ (j : Nat) (av : Value), j ≤ m ∧ av = v ∧ i = .int .i64 j ∧ nn = .int .i64 (swL K X (l.take j)).2 ∧ ab = .bool ((swL K X (l.take j)).1 == 2) ∧ Below w.heap.size w wr ∧ C3 wr q (K, (swL K X (l.take j)).1, X) ∧ wr.ownsRow (q + 1) 35 20 v (j + 1) (((⟨0, F, K, T⟩ :: (l.take j).map pkW).map pcs).flatten)) (fun _ _ _ i _ => m - (intOf i).toNat)
  case atStart => exact ⟨0, _, Nat.zero_le _, rfl, rfl, rfl, rfl, hbW, hx3, by simpa using hown⟩
  case round =>
    obtain ⟨j, av, hj, rfl, rfl, rfl, rfl, hb, hx, hown⟩ := hrel
    have hst := swL_range K X (l.take j)
    have hlt : (l.take j).length ≤ j := List.length_take_le _ _
    by_cases hjl : j < m
    · obtain ⟨x, hlx⟩ : ∃ x, l[j]? = some x := ⟨_, List.getElem?_eq_getElem (by have := Hn.out; omega)⟩
      have HS := Lib.hid (swL_snoc K X l j x hlx)
      have HFL := Lib.hid (flat_snoc ⟨0, F, K, T⟩ l j x hlx)
      have hxo := H.out.ok x (List.mem_of_getElem? hlx)
      obtain ⟨b, off, rfl, _⟩ := H.out.rd.mem (by intro e; have e' := List.map_eq_nil_iff.1 e; rw [e'] at hlx; simp at hlx)
      obtain ⟨g0, g1, g2⟩ := open_w3 (H.out.rd.below hb) hlx
      have hok := pkW_ok hxo
      generalize swL K X (l.take j) = st at *
      obtain ⟨s, cnt⟩ := st
      obtain ⟨d', k', t'⟩ := x
      simp only [Int.natCast_add, Int.natCast_one] at hst hx g0 g1 g2 ⊢
      obtain ⟨hs12, hc1, hc2⟩ := hst
      have hc3 : cnt ≤ 200 := by omega
      obtain ⟨hd', hk', ht'⟩ := hxo
      simp only at hd' hk' ht'
      have HS2 := Lib.hid (fun u => seen_any d' k' t' u hd' hk' ht')
      obtain ⟨dd, hdd⟩ : ∃ dd, d' % 2 = dd := ⟨_, rfl⟩
      have hdd2 : dd = 0 ∨ dd = 1 := by omega
      obtain ⟨pk, hpk⟩ : ∃ pk, kdW k' = pk := ⟨_, rfl⟩
      obtain ⟨pt, hpt⟩ : ∃ pt, tyW t' = pt := ⟨_, rfl⟩
      have hG : gW K X (s, cnt) (d', k', t') = if alw K s X dd pk pt then (if dd = 1 then 2 else s, cnt + 1) else (s, cnt) := by unfold gW; simp only [hdd, hpk, hpt]
      rw [hG] at HS
      have hP : pkW (d', k', t') = ⟨dd, sF pk k' pt, pk, pt⟩ := by unfold pkW; simp only [hdd, hpk, hpt]
      rw [hP] at HFL hok
      rw [hdd, hpk, hpt] at HS2
      have hfa : Fa (sF pk k' pt).toArray pk pt := hok.fa
      have hone := hok.one20
      simp only [pcs] at HFL hone
      generalize sF pk k' pt = F' at *
      clear hG hP hok hdd hpk hpt
      obtain ⟨V, hV⟩ : ∃ V, (Value.int .u8 dd :: F').toArray = V := ⟨_, rfl⟩
      have HFL2 : Hid (((⟨0, F, K, T⟩ :: (l.take (j + 1)).map pkW).map pcs).flatten = ((⟨0, F, K, T⟩ :: (l.take j).map pkW).map pcs).flatten ++ V.toList) := by rw [← hV]; exact HFL
      have hV20 : V.size = 20 := by rw [← hV]; have := hfa.size; simp at this ⊢; exact this
      have I35 : Hid ((Tryd.prog.info? 35).map (·.size) = some V.size) := by rw [hV20]; exact info35
      have I35' : Hid ((Tryd.prog.info? 35).map (·.size) = some V.toList.length) := by rw [Array.length_toList, hV20]; exact info35
      have One : Hid (V.all (·.oneCell') = true) := by rw [← hV]; exact hone
      have I29 := Lib.hid hfa.hi
      have Sp : Hid (∀ (u : World) (B : Nat), u.rangeAt B 0 V.toList → u.cell? ⟨B, 0, none⟩ = some (.int .u8 dd) ∧ u.rangeAt B 1 F'.toArray.toList) := fun u B h => by
        rw [← hV] at h
        simpa using open_w dd F' u B (by simpa using h)
      have Kd : Hid (∀ (u : World) (B : Nat), u.rangeAt B 0 V.toList → u.cell? ⟨B, 6, none⟩ = some (.int .u8 pk) ∧ u.cell? ⟨B, 8, none⟩ = some (.int .u8 pt)) := fun u B h => by
        rw [← hV] at h
        have h1 := kd_at (D := dd) hfa
        exact ⟨by simpa using h 6 _ (by simpa using h1.1), by simpa using h 8 _ (by simpa using h1.2)⟩
      rw [hV] at HS2
      have HFA := Lib.hid hfa
      have HV20 := Lib.hid hV20
      have HOW := Lib.hid hown
      have HX3 := Lib.hid hx
      have hqr : q < wr.heap.size := cell_lt hx.c0
      have hbs := hb.size
      have hrow := hown.lt
      have HROW := Lib.hid hrow
      have hjd : decide ((j : Int) < (m : Int)) = true := by simpa using hjl
      have hj0 : (0 : Int) ≤ (j : Int) := by omega
      have hj1 : (j : Int) < (m : Int) := by omega
      have hj2 : (j : Int) ≤ 200 := by omega
      have Hm := Lib.hid (And.intro hm1 hm2)
      clear HFL hone hfa hV hV20 hown hx hrow hlx hlt
      go_wp2_with fail
      refine (HS2.out _).mono ?_
      rintro e u1 ⟨rfl, hu1⟩
      have w1r : Below wr.heap.size wr u1 := bthen (by (repeat' (first | exact Below.refl _ _ | refine Below.setCell ?_ (by first | omega | (simp; done) | (simp; omega)) _ | refine Below.alloc ?_ (by first | omega | (simp; done) | (simp; omega)) _))) hu1
      have hbu := bthen hb w1r
      have hbus := hbu.size
      have hrus := w1r.size
      clear hu1 g0 g1 g2
      go_wp2_with (first | (refine wpList_store_wide 35 _ _ rfl rfl u1.heap.size 0 V rfl rfl u1.heap.size u1 I35.out One.out ((Below.refl _ _).alloc (Nat.le_refl _) _) (Nat.le_refl _) (there_new _ _ _ _ _ rfl ?_) ?_; (· (rw [HV20.out]; rfl)); intro v5 hv5 zz5 r5 j1 j2 j3; clear j1 j2 j3; have R1 := (Sp.out _ _ r5).2; have D1 := (Sp.out _ _ r5).1; have q0 := (HX3.out.below (bthen w1r hv5)).c0; have q1 := (HX3.out.below (bthen w1r hv5)).c1; have q2 := (HX3.out.below (bthen w1r hv5)).c2; have zz6 : u1.heap.size < v5.heap.size := (by rw [zz5]; simp); clear zz5; simp only at q0 q1 q2) | (refine wpList_load_wide 29 _ rfl (by rfl) _ _ rfl F'.toArray _ Tryd.underlying29 rfl I29.out R1 ?_))
      cases hab : alw K s X dd pk pt
      · as_aux_lemma =>
          have HAB := Lib.hid hab
          clear hab
          rw [HAB.out, if_neg (by simp)] at HS
          refine (step_is F'.toArray K s X dd pk pt (0, 0, 0) false _ HFA.out (HA.out.below (bthen hbu hv5)) hK hX1 (by omega) (by rw [stF, HAB.out]; rfl) HAB.out).mono ?_
          rintro e v6 ⟨rfl, hb6⟩
          have w6 : Below u1.heap.size u1 v6 := bthen hv5 hb6
          have R6 := range_below hb6 zz6 r5
          have X6 := (HX3.out.below (bthen w1r w6))
          have O6 := Lib.hid (own_below HOW.out (bthen w1r w6))
          have h6 : Below w.heap.size w v6 := bthen hbu w6
          have z6 : u1.heap.size < v6.heap.size := Nat.lt_of_lt_of_le zz6 hb6.size
          have z7 : wr.heap.size ≤ v6.heap.size := by omega
          have zq : q < v6.heap.size := by omega
          have HX6 := Lib.hid X6
          clear hb6 hv5 R1 D1 q0 q1 q2 r5 zz6 w6 X6
          go_wp2_with (first | (refine wpList_load_wide 35 _ rfl (by rfl) _ _ rfl V _ Tryd.underlying35 rfl I35'.out ?_ ?_; · (repeat (first | with_reducible exact R6 | refine World.rangeAt_alloc ?_ _))) | (refine wpList_buildOne rfl 49 35 20 (.tmp 75) rfl V (v6.heap.size + 1) (by simp) _ rfl i0 _ Tryd.underlying49 Hi.out Hz0.out Hz1.out (by decide) (by decide) rfl HV20.out ?_) | (at_builtin; refine wpList_append_own _ rfl (.tmp 74) (.tmp 76) 49 rfl (q + 1) 35 i0 _ 20 80 Tryd.underlying49 Hi.out Hz0.out Hz1.out Hz2.out rfl (by decide) av (j + 1) _ rfl (own_below O6.out (by (repeat' (first | exact Below.refl _ _ | refine Below.setCell ?_ (by first | omega | (simp; done) | (simp; omega)) _ | refine Below.alloc ?_ (by first | omega | (simp; done) | (simp; omega)) _)))) ⟨v6.heap.size + 1, 0, none⟩ 1 1 V.toList rfl (by simpa using HV20.out) (fun jj uu hu => by rw [Go.WideShapes.add_plain]; exact range_new' _ V 35 (v6.heap.size + 1) (by simp) jj uu hu) (one_of One.out) (by unfold maxLen; omega) (by omega) (by simp; omega) ?_; intro vv w9 hown9 hgrow hnil9; have LAID := ans_after (b1 := u1.heap.size) (b2 := v6.heap.size) (x3 := (K, s, X)) (y3 := (0, 0, 0)) (vs := V.toList) hgrow HROW.out (bthen h6 (by (repeat' (first | exact Below.refl _ _ | refine Below.setCell ?_ (by first | omega | (simp; done) | (simp; omega)) _ | refine Below.alloc ?_ (by first | omega | (simp; done) | (simp; omega)) _)))) hqw (by simp; omega) (HX6.out.below (by (repeat' (first | exact Below.refl _ _ | refine Below.setCell ?_ (by first | omega | (simp; done) | (simp; omega)) _ | refine Below.alloc ?_ (by first | omega | (simp; done) | (simp; omega)) _)))) hrus z7 (World.rangeAt_alloc (World.rangeAt_alloc R6 _) _) ⟨by simp [go_sem], by simp [go_sem], by simp [go_sem], by simp [go_sem], by simp [go_sem], by simp [go_sem]⟩; obtain ⟨b9, x9, R9, y90, y91, y92⟩ := LAID; have O9 := Lib.hid hown9; have X9 := Lib.hid x9; simp only at y90 y91 y92; clear hgrow hnil9 hown9 x9 R9))
          go_roundw
          case rel => exact ⟨j + 1, _, by omega, rfl, by go_num, by rw [HS.out], by rw [HS.out], b9, by rw [HS.out]; exact X9.out, by rw [HFL2.out]; exact O9.out⟩
          case measure => simp [intOf]; omega
      · rcases hdd2 with rfl | rfl
        · as_aux_lemma =>
            have HAB := Lib.hid hab
            clear hab
            rw [HAB.out, if_pos rfl, if_neg (by decide)] at HS
            refine (step_is F'.toArray K s X 0 pk pt (K, s, X) true _ HFA.out (HA.out.below (bthen hbu hv5)) hK hX1 (by omega) (by rw [stF, HAB.out]; rfl) HAB.out).mono ?_
            rintro e v6 ⟨rfl, hb6⟩
            have w6 : Below u1.heap.size u1 v6 := bthen hv5 hb6
            have R6 := range_below hb6 zz6 r5
            have X6 := (HX3.out.below (bthen w1r w6))
            have O6 := Lib.hid (own_below HOW.out (bthen w1r w6))
            have h6 : Below w.heap.size w v6 := bthen hbu w6
            have z6 : u1.heap.size < v6.heap.size := Nat.lt_of_lt_of_le zz6 hb6.size
            have z7 : wr.heap.size ≤ v6.heap.size := by omega
            have zq : q < v6.heap.size := by omega
            have HX6 := Lib.hid X6
            clear hb6 hv5 R1 D1 q0 q1 q2 r5 zz6 w6 X6
            go_wp2_with (first | (refine wpList_load_wide 35 _ rfl (by rfl) _ _ rfl V _ Tryd.underlying35 rfl I35'.out ?_ ?_; · (repeat (first | with_reducible exact R6 | refine World.rangeAt_alloc ?_ _))) | (refine wpList_buildOne rfl 49 35 20 (.tmp 75) rfl V (v6.heap.size + 1) (by simp) _ rfl i0 _ Tryd.underlying49 Hi.out Hz0.out Hz1.out (by decide) (by decide) rfl HV20.out ?_) | (at_builtin; refine wpList_append_own _ rfl (.tmp 74) (.tmp 76) 49 rfl (q + 1) 35 i0 _ 20 80 Tryd.underlying49 Hi.out Hz0.out Hz1.out Hz2.out rfl (by decide) av (j + 1) _ rfl (own_below O6.out (by (repeat' (first | exact Below.refl _ _ | refine Below.setCell ?_ (by first | omega | (simp; done) | (simp; omega)) _ | refine Below.alloc ?_ (by first | omega | (simp; done) | (simp; omega)) _)))) ⟨v6.heap.size + 1, 0, none⟩ 1 1 V.toList rfl (by simpa using HV20.out) (fun jj uu hu => by rw [Go.WideShapes.add_plain]; exact range_new' _ V 35 (v6.heap.size + 1) (by simp) jj uu hu) (one_of One.out) (by unfold maxLen; omega) (by omega) (by simp; omega) ?_; intro vv w9 hown9 hgrow hnil9; have LAID := ans_after (b1 := u1.heap.size) (b2 := v6.heap.size) (x3 := (K, s, X)) (y3 := (K, s, X)) (vs := V.toList) hgrow HROW.out (bthen h6 (by (repeat' (first | exact Below.refl _ _ | refine Below.setCell ?_ (by first | omega | (simp; done) | (simp; omega)) _ | refine Below.alloc ?_ (by first | omega | (simp; done) | (simp; omega)) _)))) hqw (by simp; omega) (HX6.out.below (by (repeat' (first | exact Below.refl _ _ | refine Below.setCell ?_ (by first | omega | (simp; done) | (simp; omega)) _ | refine Below.alloc ?_ (by first | omega | (simp; done) | (simp; omega)) _)))) hrus z7 (World.rangeAt_alloc (World.rangeAt_alloc R6 _) _) ⟨by simp [go_sem], by simp [go_sem], by simp [go_sem], by simp [go_sem], by simp [go_sem], by simp [go_sem]⟩; obtain ⟨b9, x9, R9, y90, y91, y92⟩ := LAID; have O9 := Lib.hid hown9; have X9 := Lib.hid x9; have q0 := x9.c0; have q1 := x9.c1; have q2 := x9.c2; have D9 := (Sp.out _ _ R9).1; have K9 := (Kd.out _ _ R9).1; have T9 := (Kd.out _ _ R9).2; have zy : v6.heap.size < w9.heap.size := cell_lt y90; simp only at q0 q1 q2 y90 y91 y92; clear hgrow hnil9 hown9 x9 R9))
            refine (right_is K s X true _ hK hX1 (HA.out.below b9) (alw_rt HAB.out)).mono ?_
            rintro e w10 ⟨rfl, hb10⟩
            have b10 := bthen b9 hb10
            have X10 := X9.out.below hb10
            have O10 := Lib.hid (own_below O9.out hb10)
            have y0 := kc hb10 y90
            have y1 := kc hb10 y91
            have y2 := kc hb10 y92
            obtain ⟨c0, c1, c2, f0, f1, f2⟩ := X10
            simp only at c0 c1 c2
            clear hb10 y90 y91 y92 q0 q1 q2 D9 K9 T9 zy b9
            go_wp2_with fail
            go_roundw
            case rel => exact ⟨j + 1, _, by omega, rfl, by go_num, by rw [HS.out], by rw [HS.out]; try rfl, below_set3 b10 hqw (K, s, X), by rw [HS.out]; exact (⟨c0, c1, c2, f0, f1, f2⟩ : C3 w10 q (K, s, X)).set (K, s, X), by rw [HFL2.out]; exact own_set3 O10.out (Nat.lt_succ_self q) (K, s, X)⟩
            case measure => simp [intOf]; omega
        · rcases rt_kind (alw_rt hab) with rfl | rfl
          · as_aux_lemma =>
              have HAB := Lib.hid hab
              clear hab
              rw [HAB.out, if_pos rfl, if_pos rfl] at HS
              refine (step_is F'.toArray 2 s X 1 pk pt (2, 2, X) true _ HFA.out (HA.out.below (bthen hbu hv5)) hK hX1 (by omega) (by rw [stF, HAB.out]; rfl) HAB.out).mono ?_
              rintro e v6 ⟨rfl, hb6⟩
              have w6 : Below u1.heap.size u1 v6 := bthen hv5 hb6
              have R6 := range_below hb6 zz6 r5
              have X6 := (HX3.out.below (bthen w1r w6))
              have O6 := Lib.hid (own_below HOW.out (bthen w1r w6))
              have h6 : Below w.heap.size w v6 := bthen hbu w6
              have z6 : u1.heap.size < v6.heap.size := Nat.lt_of_lt_of_le zz6 hb6.size
              have z7 : wr.heap.size ≤ v6.heap.size := by omega
              have zq : q < v6.heap.size := by omega
              have HX6 := Lib.hid X6
              clear hb6 hv5 R1 D1 q0 q1 q2 r5 zz6 w6 X6
              have hns : decide ((2 : Int) < s) = false := by simp; omega
              obtain ⟨aX, haX⟩ : ∃ a, ans X = a := ⟨_, rfl⟩
              obtain ⟨iX, hiX⟩ : ∃ a, isq X = a := ⟨_, rfl⟩
              have HaX := Lib.hid haX
              have HiX := Lib.hid hiX
              clear haX hiX
              go_wp2_with (first | (refine wpList_load_wide 35 _ rfl (by rfl) _ _ rfl V _ Tryd.underlying35 rfl I35'.out ?_ ?_; · (repeat (first | with_reducible exact R6 | refine World.rangeAt_alloc ?_ _))) | (refine wpList_buildOne rfl 49 35 20 (.tmp 75) rfl V (v6.heap.size + 1) (by simp) _ rfl i0 _ Tryd.underlying49 Hi.out Hz0.out Hz1.out (by decide) (by decide) rfl HV20.out ?_) | (at_builtin; refine wpList_append_own _ rfl (.tmp 74) (.tmp 76) 49 rfl (q + 1) 35 i0 _ 20 80 Tryd.underlying49 Hi.out Hz0.out Hz1.out Hz2.out rfl (by decide) av (j + 1) _ rfl (own_below O6.out (by (repeat' (first | exact Below.refl _ _ | refine Below.setCell ?_ (by first | omega | (simp; done) | (simp; omega)) _ | refine Below.alloc ?_ (by first | omega | (simp; done) | (simp; omega)) _)))) ⟨v6.heap.size + 1, 0, none⟩ 1 1 V.toList rfl (by simpa using HV20.out) (fun jj uu hu => by rw [Go.WideShapes.add_plain]; exact range_new' _ V 35 (v6.heap.size + 1) (by simp) jj uu hu) (one_of One.out) (by unfold maxLen; omega) (by omega) (by simp; omega) ?_; intro vv w9 hown9 hgrow hnil9; have LAID := ans_after (b1 := u1.heap.size) (b2 := v6.heap.size) (x3 := (2, s, X)) (y3 := (2, 2, X)) (vs := V.toList) hgrow HROW.out (bthen h6 (by (repeat' (first | exact Below.refl _ _ | refine Below.setCell ?_ (by first | omega | (simp; done) | (simp; omega)) _ | refine Below.alloc ?_ (by first | omega | (simp; done) | (simp; omega)) _)))) hqw (by simp; omega) (HX6.out.below (by (repeat' (first | exact Below.refl _ _ | refine Below.setCell ?_ (by first | omega | (simp; done) | (simp; omega)) _ | refine Below.alloc ?_ (by first | omega | (simp; done) | (simp; omega)) _)))) hrus z7 (World.rangeAt_alloc (World.rangeAt_alloc R6 _) _) ⟨by simp [go_sem], by simp [go_sem], by simp [go_sem], by simp [go_sem], by simp [go_sem], by simp [go_sem]⟩; obtain ⟨b9, x9, R9, y90, y91, y92⟩ := LAID; have O9 := Lib.hid hown9; have X9 := Lib.hid x9; have q0 := x9.c0; have q1 := x9.c1; have q2 := x9.c2; have D9 := (Sp.out _ _ R9).1; have K9 := (Kd.out _ _ R9).1; have T9 := (Kd.out _ _ R9).2; have zy : v6.heap.size < w9.heap.size := cell_lt y90; simp only at q0 q1 q2 y90 y91 y92; clear hgrow hnil9 hown9 x9 R9))
              refine (answer_is X aX iX _ hX1.1 hX1.2 (HA.out.below b9) HaX.out HiX.out).mono ?_
              rintro e w' ⟨rfl, rfl⟩
              go_wp2_with fail
              refine (right_is 2 2 X true _ (by decide) hX1 (HA.out.below b9) (rt_s _ s 2 _ hs12 (.inr rfl) (alw_rt HAB.out))).mono ?_
              rintro e w10 ⟨rfl, hb10⟩
              have b10 := bthen b9 hb10
              have X10 := X9.out.below hb10
              have O10 := Lib.hid (own_below O9.out hb10)
              have y0 := kc hb10 y90
              have y1 := kc hb10 y91
              have y2 := kc hb10 y92
              obtain ⟨c0, c1, c2, f0, f1, f2⟩ := X10
              simp only at c0 c1 c2
              clear hb10 y90 y91 y92 q0 q1 q2 D9 K9 T9 zy b9
              go_wp2_with fail
              go_roundw
              case rel => exact ⟨j + 1, _, by omega, rfl, by go_num, by rw [HS.out], by rw [HS.out]; try rfl, below_set3 b10 hqw (2, 2, X), by rw [HS.out]; exact (⟨c0, c1, c2, f0, f1, f2⟩ : C3 w10 q (2, s, X)).set (2, 2, X), by rw [HFL2.out]; exact own_set3 O10.out (Nat.lt_succ_self q) (2, 2, X)⟩
              case measure => simp [intOf]; omega
          · as_aux_lemma =>
              obtain ⟨hq1, rfl, ha⟩ := alw_q1 hab
              have HAB := Lib.hid hab
              clear hab
              have HQ1 := Lib.hid hq1
              have HA1 := Lib.hid ha
              clear hq1 ha
              rw [HAB.out, if_pos rfl, if_pos rfl] at HS
              refine (step_is F'.toArray 3 s X 1 4 pt (3, 2, X) true _ HFA.out (HA.out.below (bthen hbu hv5)) hK hX1 (by omega) (by rw [stF, HAB.out]; rfl) HAB.out).mono ?_
              rintro e v6 ⟨rfl, hb6⟩
              have w6 : Below u1.heap.size u1 v6 := bthen hv5 hb6
              have R6 := range_below hb6 zz6 r5
              have X6 := (HX3.out.below (bthen w1r w6))
              have O6 := Lib.hid (own_below HOW.out (bthen w1r w6))
              have h6 : Below w.heap.size w v6 := bthen hbu w6
              have z6 : u1.heap.size < v6.heap.size := Nat.lt_of_lt_of_le zz6 hb6.size
              have z7 : wr.heap.size ≤ v6.heap.size := by omega
              have zq : q < v6.heap.size := by omega
              have HX6 := Lib.hid X6
              clear hb6 hv5 R1 D1 q0 q1 q2 r5 zz6 w6 X6
              have hns : decide ((2 : Int) < s) = false := by simp; omega
              go_wp2_with (first | (refine wpList_load_wide 35 _ rfl (by rfl) _ _ rfl V _ Tryd.underlying35 rfl I35'.out ?_ ?_; · (repeat (first | with_reducible exact R6 | refine World.rangeAt_alloc ?_ _))) | (refine wpList_buildOne rfl 49 35 20 (.tmp 75) rfl V (v6.heap.size + 1) (by simp) _ rfl i0 _ Tryd.underlying49 Hi.out Hz0.out Hz1.out (by decide) (by decide) rfl HV20.out ?_) | (at_builtin; refine wpList_append_own _ rfl (.tmp 74) (.tmp 76) 49 rfl (q + 1) 35 i0 _ 20 80 Tryd.underlying49 Hi.out Hz0.out Hz1.out Hz2.out rfl (by decide) av (j + 1) _ rfl (own_below O6.out (by (repeat' (first | exact Below.refl _ _ | refine Below.setCell ?_ (by first | omega | (simp; done) | (simp; omega)) _ | refine Below.alloc ?_ (by first | omega | (simp; done) | (simp; omega)) _)))) ⟨v6.heap.size + 1, 0, none⟩ 1 1 V.toList rfl (by simpa using HV20.out) (fun jj uu hu => by rw [Go.WideShapes.add_plain]; exact range_new' _ V 35 (v6.heap.size + 1) (by simp) jj uu hu) (one_of One.out) (by unfold maxLen; omega) (by omega) (by simp; omega) ?_; intro vv w9 hown9 hgrow hnil9; have LAID := ans_after (b1 := u1.heap.size) (b2 := v6.heap.size) (x3 := (3, s, X)) (y3 := (3, 2, X)) (vs := V.toList) hgrow HROW.out (bthen h6 (by (repeat' (first | exact Below.refl _ _ | refine Below.setCell ?_ (by first | omega | (simp; done) | (simp; omega)) _ | refine Below.alloc ?_ (by first | omega | (simp; done) | (simp; omega)) _)))) hqw (by simp; omega) (HX6.out.below (by (repeat' (first | exact Below.refl _ _ | refine Below.setCell ?_ (by first | omega | (simp; done) | (simp; omega)) _ | refine Below.alloc ?_ (by first | omega | (simp; done) | (simp; omega)) _)))) hrus z7 (World.rangeAt_alloc (World.rangeAt_alloc R6 _) _) ⟨by simp [go_sem], by simp [go_sem], by simp [go_sem], by simp [go_sem], by simp [go_sem], by simp [go_sem]⟩; obtain ⟨b9, x9, R9, y90, y91, y92⟩ := LAID; have O9 := Lib.hid hown9; have X9 := Lib.hid x9; have q0 := x9.c0; have q1 := x9.c1; have q2 := x9.c2; have D9 := (Sp.out _ _ R9).1; have K9 := (Kd.out _ _ R9).1; have T9 := (Kd.out _ _ R9).2; have zy : v6.heap.size < w9.heap.size := cell_lt y90; simp only at q0 q1 q2 y90 y91 y92; clear hgrow hnil9 hown9 x9 R9))
              refine (answer_is X pt true _ hX1.1 hX1.2 (HA.out.below b9) HA1.out.symm HQ1.out).mono ?_
              rintro e w' ⟨rfl, rfl⟩
              go_wp2_with fail
              refine (right_is 3 2 X true _ (by decide) hX1 (HA.out.below b9) (rt_s _ s 2 _ hs12 (.inr rfl) (alw_rt HAB.out))).mono ?_
              rintro e w10 ⟨rfl, hb10⟩
              have b10 := bthen b9 hb10
              have X10 := X9.out.below hb10
              have O10 := Lib.hid (own_below O9.out hb10)
              have y0 := kc hb10 y90
              have y1 := kc hb10 y91
              have y2 := kc hb10 y92
              obtain ⟨c0, c1, c2, f0, f1, f2⟩ := X10
              simp only at c0 c1 c2
              clear hb10 y90 y91 y92 q0 q1 q2 D9 K9 T9 zy b9
              go_wp2_with fail
              go_roundw
              case rel => exact ⟨j + 1, _, by omega, rfl, by go_num, by rw [HS.out], by rw [HS.out]; try rfl, below_set3 b10 hqw (3, 2, X), by rw [HS.out]; exact (⟨c0, c1, c2, f0, f1, f2⟩ : C3 w10 q (3, s, X)).set (3, 2, X), by rw [HFL2.out]; exact own_set3 O10.out (Nat.lt_succ_self q) (3, 2, X)⟩
              case measure => simp [intOf]; omega
    · obtain rfl : j = m := by omega
      have hlm : (l.take j).length = j := by have := Hn.out; rw [List.length_take]; omega
      have hrun := runW F ho.out hX.out (l.take j)
      have hok : ∀ p ∈ ((⟨0, F, K, T⟩ : Pkt) :: (l.take j).map pkW), PktOk p := by
        intro p hp
        rcases List.mem_cons.1 hp with rfl | hp
        · exact ⟨by simp, HFa.out, Hall.out⟩
        · obtain ⟨x, hx, rfl⟩ := List.mem_map.1 hp
          exact pkW_ok (H.out.ok x (List.mem_of_mem_take hx))
      have hlen : ((⟨0, F, K, T⟩ : Pkt) :: (l.take j).map pkW).length = j + 1 := by rw [List.length_cons, List.length_map, hlm]
      generalize swL K X (l.take j) = st at *
      obtain ⟨s, cnt⟩ := st
      simp only at hst hx hrun ⊢
      rcases hown.2 with ⟨_, h0⟩ | ⟨g, cap, cur, rfl, hbs, hg, hcn, hcm, _, _⟩
      · omega
      have HP : Hid (Pkts wr (some ⟨g, 0, none⟩) (⟨0, F, K, T⟩ :: (l.take j).map pkW)) := ⟨hok, by omega, Rd.of_own hown (pcs_each _ hok) (hown.lt g rfl).2⟩
      have HL := Lib.hid hlen
      have Hrun := Lib.hid hrun
      have hjd : decide ((j : Int) < (j : Int)) = false := by simp
      obtain ⟨c0, c1, c2, f0, f1, f2⟩ := hx
      simp only at c0 c1 c2
      clear hlm hrun hok hown hg hlen
      go_wp2_with fail
      refine (run_any (some ⟨g, 0, none⟩) _ (j + 1) cap wr HL.out.symm hcn (HA.out.below hb) HP.out).mono ?_
      rintro e v3 ⟨he, hb3⟩
      rw [Hrun.out] at he
      subst he
      have x0 := kc hb3 c0
      have x1 := kc hb3 c1
      have x2 := kc hb3 c2
      have zq : q < v3.heap.size := cell_lt x0
      have e3 := bthen hb hb3
      clear c0 c1 c2 f0 f1 f2 hb3
      go_wp2_with fail
      go_ret
      exact ⟨by first | rfl | simp, e3.alloc e3.size _⟩


theorem streamAnswers_walk (d k t : Int) (A : Option Addr) (l : List W3) (n c : Nat) (w : World) (hA : Ans w) (hw : (0 ≤ d ∧ d ≤ 255) ∧ (0 ≤ k ∧ k ≤ 255) ∧ (0 ≤ t ∧ t ≤ 255)) (hn : n = l.length) (hc : n ≤ c) (h : WordsArg w A c l) :
    Calls Tryd.prog 9 #[.agg #[.int .u8 d, .int .u8 k, .int .u8 t], .slice A n c] w fun e w' => e = .returned (.bool true) ∧ Below w.heap.size w w' := by
  obtain ⟨hd, hk, ht⟩ := hw
  have K1 := kdW_range k hk.1
  have T1 := tyW_range t ht
  have A1 := fa_sF (kdW k) k (tyW t) (by omega) T1
  have A2 := all_sF (kdW k) k (tyW t) (by omega) hk T1
  cases ho : opens (kdW k) (tyW t)
  · exact answers_no d k t A l n c _ _ _ _ _ _ w hA hd hk ht hn hc h (show _ from fun w => seen_any d k t w hd hk ht) rfl A1 rfl (show _ = _ by simp [sF, Value.oneCell']) (by omega) T1 (built35 _ _ _) rfl A2 ho
  · exact answers_yes d k t A l n c _ _ _ _ _ _ w hA hd hk ht hn hc h (show _ from fun w => seen_any d k t w hd hk ht) rfl A1 rfl (show _ = _ by simp [sF, Value.oneCell']) (by omega) T1 (built35 _ _ _) rfl A2 ho _ rfl (min n 100) (by split <;> omega) (by omega) (by omega)

end Go.Proofs.YtjmcpgagbjmfgaaDoor

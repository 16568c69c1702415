/-
  The walk of StreamSmall: all small flows, packets and numbers, and lists of up to four packets. Condition: the map of answers is laid.
-/
import Derived.Test.YtjmcpgagbjmfgaaDoorTells
import Derived.Test.YtjmcpgagbjmfgaaDoorSeen
import Derived.Test.YtjmcpgagbjmfgaaDoorRunsB
import Derived.Test.YtjmcpgagbjmfgaaDoorInv
import Derived.Great.BuildSlice
import Derived.Deep.DeepCutAuto
namespace Go.Proofs.YtjmcpgagbjmfgaaDoor
open Go.RowKit
set_option linter.unusedVariables false
set_option linter.unusedSimpArgs false

/-- A slice literal of rows of cells, every place written. -/
theorem wpList_buildWide {P : Program} {ops : Array Oper} {rest : List Oper} {o : Oper} {a : Act} {w : World} {Q : Exit → Act → World → Prop} (hg : o.guard = none) (t e : TypeId) (len s : Nat) (parts : Array (Nat × Operand)) (ho : o.op = .buildSlice t len parts) (vs : List (List Value))
    (N : Nat) (hN : w.heap.size = N) (d : Option Tmp) (hd : o.dst = d) (ie : TypeInfo) (z : Value) (hu : P.underlying t = some (.slice e)) (hie : P.info? e = some ie) (hz : ie.zero = some z) (hs : ie.size = s) (hs0 : 0 < s) (hsmall : len * s ≤ 2 ^ 24) (hlen : vs.length = len) (hpos : 0 < len)
    (hparts : (parts.map fun (i, x) => (i, a.eval x)).toList = ((vs.map fun l => Value.agg l.toArray).zipIdx 0).map fun x => (x.2, x.1)) (he : ∀ l ∈ vs, l.length = s)
    (h : wpList P ops Q rest (a.put d (.slice (some ⟨N, 0, none⟩) len len)) (w.alloc (.cells vs.flatten.toArray e))) : wpList P ops Q (o :: rest) a w := by
  subst hN hd hs hlen
  have h0 : 0 < vs.length * ie.size := Nat.mul_pos hpos hs0
  refine wpList_buildSlice hg t e _ parts ho vs.flatten.toArray ie z hu hie hz (by omega) (by omega) ?_ h
  rw [hparts, Great.fill_whole hs0 _ _ (fun v hv => by obtain ⟨l, hl, rfl⟩ := List.mem_map.1 hv; simpa [Value.cells] using he l hl) (by simp)]
  congr 2
  rw [List.flatMap_map]
  simp [Value.cells, List.flatMap_id']
/-- A struct literal, its value said. -/
theorem wpList_buildSd {P : Program} {ops : Array Oper} {rest : List Oper} {o : Oper} {a : Act} {w : World} {Q : Exit → Act → World → Prop} (hg : o.guard = none) (t : TypeId) (parts : Array (Nat × Operand)) (ho : o.op = .build t parts)
    (vs : List (Nat × Value)) (d : Option Tmp) (hd : o.dst = d) (hp : (parts.map fun (i, x) => (i, a.eval x)).toList = vs) (cells : Array Value) (hf : P.built t vs = some cells)
    (h : wpList P ops Q rest (a.put d (.agg cells)) w) : wpList P ops Q (o :: rest) a w :=
  wpList_buildTo hg t parts ho d hd cells (by rw [hp]; exact hf) h
theorem rd_new (w : World) (g : Nat) (hg : w.heap.size = g) (css : List (List Value)) (he : ∀ cs ∈ css, cs.length = 20) (hmx : css.length ≤ maxLen) : Rd (w.alloc (.cells css.flatten.toArray 35)) (some ⟨g, 0, none⟩) 20 css := by
  subst hg
  have hl := flatten_length he
  refine Rd.of_own (base := w.heap.size) (e := 35) (n := css.length) (cap := css.length) ?_ he (by simp)
  exact ⟨hl, .inr ⟨w.heap.size, css.length, css.flatten.toArray, rfl, Nat.le_refl _, heap_alloc_new _ _, Nat.le_refl _, hmx, by simpa using hl, by rw [← hl]; exact List.take_length⟩⟩
theorem rd_take {w : World} {A : Option Addr} {size : Nat} {css : List (List Value)} (h : Rd w A size css) (k : Nat) : Rd w A size (css.take k) :=
  ⟨fun cs hcs => h.each cs (List.mem_of_mem_take hcs), fun hne => by
    obtain ⟨b', off', e, hlt, hc⟩ := h.mem (fun e => hne (by rw [e]; simp))
    refine ⟨b', off', e, hlt, fun i cs hi j v hv => hc i cs ?_ j v hv⟩
    rw [List.getElem?_take] at hi
    split at hi
    · exact hi
    · cases hi⟩
theorem built29 (K FL T : Int) : Tryd.prog.built 29 [(1, .int .u8 K), (3, .int .u8 T), (2, .int .u8 FL)] = some (sF K FL T).toArray := by rfl
theorem one29 (K FL T : Int) : (sF K FL T).toArray.all (·.oneCell') = true := by simp [sF, Value.oneCell']
/-- The packets out of which lists are made. -/
def qp (d k t : Int) : Pkt := ⟨d, (pkt k t).toList, k, t⟩
def someL : List Pkt := [qp 0 2 9, qp 1 2 9, qp 0 3 13, qp 1 4 14, qp 0 3 8, qp 2 2 9, qp 1 3 13, qp 0 4 14]
theorem all_2_9 : All2 K19 (pkt 2 9).toList := ⟨⟨_, rfl, by decide⟩, ⟨_, rfl, by decide⟩, ⟨_, rfl, by decide⟩, ⟨_, rfl, by decide⟩, ⟨_, rfl, by decide⟩, ⟨_, rfl, by decide⟩, ⟨_, rfl, by decide⟩, ⟨_, rfl, by decide⟩, ⟨_, rfl, by decide⟩, ⟨_, rfl, by decide⟩, ⟨_, rfl, by decide⟩, ⟨_, rfl, by decide⟩, ⟨_, rfl, by decide⟩, ⟨_, rfl, by decide⟩, ⟨_, rfl, by decide⟩, ⟨_, rfl, by decide⟩, ⟨_, rfl, by decide⟩, ⟨_, rfl, by decide⟩, ⟨_, rfl, by decide⟩, trivial⟩
theorem all_3_13 : All2 K19 (pkt 3 13).toList := ⟨⟨_, rfl, by decide⟩, ⟨_, rfl, by decide⟩, ⟨_, rfl, by decide⟩, ⟨_, rfl, by decide⟩, ⟨_, rfl, by decide⟩, ⟨_, rfl, by decide⟩, ⟨_, rfl, by decide⟩, ⟨_, rfl, by decide⟩, ⟨_, rfl, by decide⟩, ⟨_, rfl, by decide⟩, ⟨_, rfl, by decide⟩, ⟨_, rfl, by decide⟩, ⟨_, rfl, by decide⟩, ⟨_, rfl, by decide⟩, ⟨_, rfl, by decide⟩, ⟨_, rfl, by decide⟩, ⟨_, rfl, by decide⟩, ⟨_, rfl, by decide⟩, ⟨_, rfl, by decide⟩, trivial⟩
theorem all_4_14 : All2 K19 (pkt 4 14).toList := ⟨⟨_, rfl, by decide⟩, ⟨_, rfl, by decide⟩, ⟨_, rfl, by decide⟩, ⟨_, rfl, by decide⟩, ⟨_, rfl, by decide⟩, ⟨_, rfl, by decide⟩, ⟨_, rfl, by decide⟩, ⟨_, rfl, by decide⟩, ⟨_, rfl, by decide⟩, ⟨_, rfl, by decide⟩, ⟨_, rfl, by decide⟩, ⟨_, rfl, by decide⟩, ⟨_, rfl, by decide⟩, ⟨_, rfl, by decide⟩, ⟨_, rfl, by decide⟩, ⟨_, rfl, by decide⟩, ⟨_, rfl, by decide⟩, ⟨_, rfl, by decide⟩, ⟨_, rfl, by decide⟩, trivial⟩
theorem all_3_8 : All2 K19 (pkt 3 8).toList := ⟨⟨_, rfl, by decide⟩, ⟨_, rfl, by decide⟩, ⟨_, rfl, by decide⟩, ⟨_, rfl, by decide⟩, ⟨_, rfl, by decide⟩, ⟨_, rfl, by decide⟩, ⟨_, rfl, by decide⟩, ⟨_, rfl, by decide⟩, ⟨_, rfl, by decide⟩, ⟨_, rfl, by decide⟩, ⟨_, rfl, by decide⟩, ⟨_, rfl, by decide⟩, ⟨_, rfl, by decide⟩, ⟨_, rfl, by decide⟩, ⟨_, rfl, by decide⟩, ⟨_, rfl, by decide⟩, ⟨_, rfl, by decide⟩, ⟨_, rfl, by decide⟩, ⟨_, rfl, by decide⟩, trivial⟩
theorem qp_ok (d k t : Int) (hd : 0 ≤ d ∧ d ≤ 255) (hk : 0 ≤ k ∧ k ≤ 255) (ht : 0 ≤ t ∧ t ≤ 255) (ha : All2 K19 (pkt k t).toList) : PktOk (qp d k t) := ⟨hd, fa_pkt k t hk ht, ha⟩
theorem some_ok : ∀ p ∈ someL, PktOk p := by
  unfold someL
  simp only [List.mem_cons, List.not_mem_nil, or_false]
  rintro p (rfl | rfl | rfl | rfl | rfl | rfl | rfl | rfl) <;> exact qp_ok _ _ _ (by decide) (by decide) (by decide) (by first | exact all_2_9 | exact all_3_13 | exact all_4_14 | exact all_3_8)
theorem b29_2_9 : Tryd.prog.built 29 [(1, .int .u8 2), (3, .int .u8 9)] = some (pkt 2 9) := by kernel_rfl
theorem b29_3_13 : Tryd.prog.built 29 [(1, .int .u8 3), (3, .int .u8 13)] = some (pkt 3 13) := by kernel_rfl
theorem b29_4_14 : Tryd.prog.built 29 [(1, .int .u8 4), (3, .int .u8 14)] = some (pkt 4 14) := by kernel_rfl
theorem b29_3_8 : Tryd.prog.built 29 [(1, .int .u8 3), (3, .int .u8 8)] = some (pkt 3 8) := by kernel_rfl
theorem built_0_2_9 : Tryd.prog.built 35 [(1, .agg (pkt 2 9))] = some (pcs (qp 0 2 9)).toArray := by kernel_rfl
theorem built_1_2_9 : Tryd.prog.built 35 [(0, .int .u8 1), (1, .agg (pkt 2 9))] = some (pcs (qp 1 2 9)).toArray := by kernel_rfl
theorem built_0_3_13 : Tryd.prog.built 35 [(1, .agg (pkt 3 13))] = some (pcs (qp 0 3 13)).toArray := by kernel_rfl
theorem built_1_4_14 : Tryd.prog.built 35 [(0, .int .u8 1), (1, .agg (pkt 4 14))] = some (pcs (qp 1 4 14)).toArray := by kernel_rfl
theorem built_0_3_8 : Tryd.prog.built 35 [(1, .agg (pkt 3 8))] = some (pcs (qp 0 3 8)).toArray := by kernel_rfl
theorem built_2_2_9 : Tryd.prog.built 35 [(0, .int .u8 2), (1, .agg (pkt 2 9))] = some (pcs (qp 2 2 9)).toArray := by kernel_rfl
theorem built_1_3_13 : Tryd.prog.built 35 [(0, .int .u8 1), (1, .agg (pkt 3 13))] = some (pcs (qp 1 3 13)).toArray := by kernel_rfl
theorem built_0_4_14 : Tryd.prog.built 35 [(1, .agg (pkt 4 14))] = some (pcs (qp 0 4 14)).toArray := by kernel_rfl
/-- A variable of a packet's facts. -/
structure Kb (W : World) (b : Nat) (F : Array Value) : Prop where
  lt : b < W.heap.size
  r : W.rangeAt b 0 F.toList
theorem Kb.below {W W' : World} {b : Nat} {F : Array Value} (h : Kb W b F) (hb : Below W.heap.size W W') : Kb W' b F := ⟨Nat.lt_of_lt_of_le h.lt hb.size, range_below hb h.lt h.r⟩
theorem pkt_len (k t : Int) : (pkt k t).size = 19 := rfl
theorem rd_lt {w : World} {b o size : Nat} {css : List (List Value)} (h : Rd w (some ⟨b, o, none⟩) size css) (hne : css ≠ []) : b < w.heap.size := by
  obtain ⟨b', o', e, hlt, _⟩ := h.mem hne
  injection e with e
  injection e with e1 e2
  subst e1
  exact hlt
structure Four (W : World) (bL a b c d : Nat) (pa pb pc pd : Pkt) : Prop where
  lt : bL < W.heap.size
  ra : W.rangeAt bL (a * 20) (pcs pa).toArray.toList
  rb : W.rangeAt bL (b * 20) (pcs pb).toArray.toList
  rc : W.rangeAt bL (c * 20) (pcs pc).toArray.toList
  rd : W.rangeAt bL (d * 20) (pcs pd).toArray.toList
  ia : (Tryd.prog.info? 35).map (·.size) = some (pcs pa).toArray.toList.length
  ib : (Tryd.prog.info? 35).map (·.size) = some (pcs pb).toArray.toList.length
  ic : (Tryd.prog.info? 35).map (·.size) = some (pcs pc).toArray.toList.length
  id : (Tryd.prog.info? 35).map (·.size) = some (pcs pd).toArray.toList.length
theorem four_of {W : World} {bL a b c d : Nat} {L : List Pkt} {pa pb pc pd : Pkt} (H : Pkts W (some ⟨bL, 0, none⟩) L) (hlt : bL < W.heap.size) (ha : L[a]? = some pa) (hb : L[b]? = some pb) (hc : L[c]? = some pc) (hd : L[d]? = some pd) : Four W bL a b c d pa pb pc pd := by
  have e := fun (p : Pkt) (h : p ∈ L) => (H.ok p h).len20
  have Ra := H.at_ ha
  have Rb := H.at_ hb
  have Rc := H.at_ hc
  have Rdd := H.at_ hd
  rw [Nat.zero_add] at Ra Rb Rc Rdd
  exact ⟨hlt, Ra, Rb, Rc, Rdd, by rw [info35]; simp [e pa (List.mem_of_getElem? ha)], by rw [info35]; simp [e pb (List.mem_of_getElem? hb)], by rw [info35]; simp [e pc (List.mem_of_getElem? hc)], by rw [info35]; simp [e pd (List.mem_of_getElem? hd)]⟩
/-- What the done operations of a region have left: operation i the value val i, in g i. -/
structure Iv (w1 : World) (val : Nat → Value) (D : Nat → Prop) (g : Nat → Value) (w' : World) : Prop where
  b : Below w1.heap.size w1 w'
  e : ∀ i, D i → g i = val i
theorem Iv.step {w1 w' w'' : World} {val g : Nat → Value} {D : Nat → Prop} (h : Iv w1 val D g w') (i : Nat) (x : Value) (hx : x = val i) (hb : Below w'.heap.size w' w'') : Iv w1 val (fun j => D j ∨ j = i) (fun j => if j = i then x else g j) w'' :=
  ⟨bthen h.b hb, fun j hj => by
    show (if j = i then x else g j) = val j
    by_cases hji : j = i
    · rw [if_pos hji, hx, hji]
    · rw [if_neg hji]
      exact h.e j (hj.resolve_right hji)⟩
theorem Iv.zero (w1 : World) (val g : Nat → Value) : Iv w1 val (fun _ => False) g w1.drew := ⟨(Below.refl _ _).drew, fun _ h => h.elim⟩
def sv18 (bL n aa q b r c d : Nat) (Pa Pb Pc Pd : Array Value) : List Value := [.slice (some ⟨bL, 0, none⟩) 8 8, .int .i64 (n : Int), .int .i64 (aa : Int), .pointer (some ⟨bL, aa * 20, none⟩), .agg Pa, .slice (some ⟨bL, 0, none⟩) 8 8, .int .i64 (n : Int), .int .i64 (q : Int), .int .i64 (b : Int), .pointer (some ⟨bL, b * 20, none⟩), .agg Pb, .slice (some ⟨bL, 0, none⟩) 8 8, .int .i64 (n : Int), .int .i64 (r : Int), .int .i64 (c : Int), .pointer (some ⟨bL, c * 20, none⟩), .agg Pc, .slice (some ⟨bL, 0, none⟩) 8 8, .int .i64 (n : Int), .int .i64 (d : Int), .pointer (some ⟨bL, d * 20, none⟩), .agg Pd]
set_option maxRecDepth 100000 in
set_option maxHeartbeats 8000000 in
theorem streamSmall_walk (w : World) (hA : Ans w) : Calls Tryd.prog 8 #[] w fun e w' => e = .returned (.bool true) ∧ Below w.heap.size w w' := by
  have HA := Lib.hid hA
  clear hA
  obtain ⟨i0, hi, hz0, hz1, hz2⟩ := info_parts info35b
  go_enter Tryd.func8, Tryd.ntmps8
  go_wp2_with fail
  go_loopw [12] (fun i wr => ∃ k : Nat, k ≤ 560 ∧ i = .int .i64 k ∧ Below w.heap.size w wr) (fun i _ => 560 - (intOf i).toNat)
  case atStart => exact ⟨0, by omega, rfl, Below.refl _ _⟩
  case round =>
    obtain ⟨k, hk, rfl, hb⟩ := hrel
    by_cases hlt : k < 560
    · have hkb : decide ((k : Int) < 560) = true := by simp; omega
      obtain ⟨a, hia⟩ : ∃ a, k % 7 = a := ⟨_, rfl⟩
      obtain ⟨q, hiq⟩ : ∃ q, k / 7 = q := ⟨_, rfl⟩
      obtain ⟨b, hib⟩ : ∃ b, q % 4 = b := ⟨_, rfl⟩
      obtain ⟨c, hic⟩ : ∃ c, k / 28 = c := ⟨_, rfl⟩
      have E1 : (k : Int).tmod 7 = (a : Int) := by rw [Int.tmod_eq_emod_of_nonneg (by omega)]; omega
      have E2 : (k : Int).tdiv 7 = (q : Int) := by rw [Int.tdiv_eq_ediv_of_nonneg (by omega)]; omega
      have E3 : (q : Int).tmod 4 = (b : Int) := by rw [Int.tmod_eq_emod_of_nonneg (by omega)]; omega
      have E4 : (k : Int).tdiv 28 = (c : Int) := by rw [Int.tdiv_eq_ediv_of_nonneg (by omega)]; omega
      have X1 : IntKind.i64.wrap (q : Int) = q := IntWalk.i64_in _ (by omega)
      have X2 : IntKind.i64.wrap (c : Int) = c := IntWalk.i64_in _ (by omega)
      have ba : a < 7 := by omega
      have bb : b < 4 := by omega
      have bc : c < 20 := by omega
      go_wp2_with fail
      obtain ⟨P, hP⟩ : ∃ P, wr.heap.size = P := ⟨_, rfl⟩
      rw [hP]
      generalize hW : World.alloc wr _ = wo
      have c0 : wo.cell? ⟨P, 0, none⟩ = some (.int .u8 a) := by subst hW hP; simp [go_sem]
      have c1 : wo.cell? ⟨P, 1, none⟩ = some (.int .u8 b) := by subst hW hP; simp [go_sem]
      have c2 : wo.cell? ⟨P, 2, none⟩ = some (.int .u8 c) := by subst hW hP; simp [go_sem]
      have hbo : Below w.heap.size w wo := by subst hW; exact hb.alloc hb.size _
      clear hW hP hb E1 E2 E3 E4 X1 X2 hia hiq hib hic
      have HC := Lib.hid (And.intro c0 (And.intro c1 c2))
      clear c0 c1 c2
      go_loopw [26] (fun i wr => ∃ j : Nat, j ≤ 140 ∧ i = .int .i64 j ∧ Below wo.heap.size wo wr) (fun i _ => 140 - (intOf i).toNat)
      case atStart => exact ⟨0, by omega, rfl, Below.refl _ _⟩
      case round =>
        obtain ⟨j, hj, rfl, hb⟩ := hrel
        by_cases hjl : j < 140
        · have hjb : decide ((j : Int) < 140) = true := by simp; omega
          obtain ⟨e, hie⟩ : ∃ e, j % 7 = e := ⟨_, rfl⟩
          obtain ⟨g, hig⟩ : ∃ g, j / 7 = g := ⟨_, rfl⟩
          obtain ⟨m, him⟩ : ∃ m, (k + j) % 3 = m := ⟨_, rfl⟩
          obtain ⟨m2, him2⟩ : ∃ m, (k + j + 1) % 3 = m := ⟨_, rfl⟩
          have E1 : (j : Int).tmod 7 = (e : Int) := by rw [Int.tmod_eq_emod_of_nonneg (by omega)]; omega
          have E2 : (j : Int).tdiv 7 = (g : Int) := by rw [Int.tdiv_eq_ediv_of_nonneg (by omega)]; omega
          have E3 : ((k : Int) + (j : Int)).tmod 3 = (m : Int) := by rw [Int.tmod_eq_emod_of_nonneg (by omega)]; omega
          have E4 : ((k : Int) + (j : Int) + 1).tmod 3 = (m2 : Int) := by rw [Int.tmod_eq_emod_of_nonneg (by omega)]; omega
          have X1 : IntKind.i64.wrap (g : Int) = g := IntWalk.i64_in _ (by omega)
          have be : e < 7 := by omega
          have bg : g < 20 := by omega
          have bm : m < 3 := by omega
          have bm2 : m2 < 3 := by omega
          obtain ⟨k0, k1, k2⟩ := HC.out
          have c0 := kc hb k0
          have c1 := kc hb k1
          have c2 := kc hb k2
          have hPr : P < wr.heap.size := cell_lt c0
          have hbw := bthen hbo hb
          clear k0 k1 k2 hie hig him him2
          obtain ⟨kf, hkf⟩ : ∃ x, (k : Int) % 256 = x := ⟨_, rfl⟩
          have hkf' : IntKind.u8.wrap (k : Int) = kf := by unfold IntKind.wrap; simp [IntKind.bits, IntKind.signed]; omega
          have hB := built29 e kf g
          have hI : (Tryd.prog.info? 29).map (·.size) = some (sF e kf g).toArray.size := by rw [info29]; rfl
          have hO := one29 e kf g
          have hFA : Fa (sF e kf g).toArray e g := ⟨rfl, rfl, rfl, by omega, by omega⟩
          have h19 : (sF e kf g).toArray.size = 19 := rfl
          obtain ⟨F, hF⟩ : ∃ F, (sF e kf g).toArray = F := ⟨_, rfl⟩
          rw [hF] at hB hI hO hFA h19
          have HB := Lib.hid hB
          have HI := Lib.hid hI
          have HI' : Hid ((Tryd.prog.info? 29).map (·.size) = some F.toList.length) := by rw [Array.length_toList]; exact hI
          have HO := Lib.hid hO
          have HFA := Lib.hid hFA
          have H19 := Lib.hid h19
          clear hB hI hO hFA h19 hF
          go_upto_region 8 with fail
          go_cut [4] (fun v wx => ∃ p : Nat, v = .pointer (some ⟨p, 0, none⟩) ∧ Below wr.heap.size wr wx ∧ Kb wx p F)
          case first => as_aux_lemma =>
            go_wp2_with (first | (refine wpList_buildSd rfl 29 #[(1, .tmp 31), (3, .tmp 34), (2, .tmp 36)] rfl [(1, .int .u8 e), (3, .int .u8 g), (2, .int .u8 kf)] _ rfl ?_ F HB.out ?_; (· simp; (first | done | rfl | exact ⟨rfl, rfl⟩ | exact ⟨rfl, rfl, rfl⟩))) | (refine wpList_store_wide 29 (.tmp 4) (.tmp 37) rfl rfl wr.heap.size 0 F rfl rfl wr.heap.size wr HI.out HO.out ?_ ?_ ?_ ?_; (· exact (Below.refl _ _).alloc (Nat.le_refl _) _); (· omega); (· rw [H19.out]; exact there_new _ _ _ _ _ rfl rfl); intro Y1 dY zY RY kY tY cY; clear kY tY cY; have zz : wr.heap.size < Y1.heap.size := (by rw [zY]; simp); clear zY))
            go_meet
            exact ⟨_, rfl, dY, zz, RY⟩
          obtain ⟨p, rfl, hv1, KF⟩ := hcut
          obtain ⟨v1, hv1e⟩ : ∃ X, X = wc := ⟨_, rfl⟩
          subst hv1e
          have hb1 := bthen hbw hv1
          replace c0 := kc hv1 c0
          replace c1 := kc hv1 c1
          replace c2 := kc hv1 c2
          have RF := KF.r
          clear hkf hkf' HB HI HO H19
          as_aux_lemma =>
            go_wp2_with (refine wpList_load_wide 29 _ rfl (by rfl) _ _ rfl F _ Tryd.underlying29 rfl HI'.out ?_ ?_; · with_reducible assumption)
            refine (tells_any F a b c m e g j v1 HFA.out (HA.out.below hb1) (by omega) (by omega) (by omega) (by omega)).mono ?_
            rintro ee w1 ⟨rfl, hv2⟩
            have KF2 := KF.below hv2
            have RF := KF2.r
            replace c0 := kc hv2 c0
            replace c1 := kc hv2 c1
            replace c2 := kc hv2 c2
            have hb2 := bthen hb1 hv2
            have hv3 := bthen hv1 hv2
            clear hv1 hv2 hb1 KF
            go_wp2_with (refine wpList_load_wide 29 _ rfl (by rfl) _ _ rfl F _ Tryd.underlying29 rfl HI'.out ?_ ?_; · with_reducible assumption)
            refine (tells_any F a b c m2 e g (255 - j) w1 HFA.out (HA.out.below hb2) (by omega) (by omega) (by omega) (by omega)).mono ?_
            rintro ee w2 ⟨rfl, hv4⟩
            have hb3 := bthen (bthen hb hv3) hv4
            clear c0 c1 c2 RF hv3 hv4 hb2
            go_wp2_with fail
            go_roundw
            case rel => exact ⟨j + 1, by omega, by go_num, hb3⟩
            case measure => simp [intOf]; omega
        · have hjb : decide ((j : Int) < 140) = false := by simp; omega
          go_wp2_with fail
          go_roundw
          case rel => exact ⟨k + 1, by omega, by go_num, bthen hbo hb⟩
          case measure => simp [intOf]; omega
    · have hkb : decide ((k : Int) < 560) = false := by simp; omega
      go_upto_region 13 with fail
      go_cut [5, 6, 7, 8] (fun a5 a6 a7 a8 wx => ∃ p5 p6 p7 p8 : Nat, a5 = .pointer (some ⟨p5, 0, none⟩) ∧ a6 = .pointer (some ⟨p6, 0, none⟩) ∧ a7 = .pointer (some ⟨p7, 0, none⟩) ∧ a8 = .pointer (some ⟨p8, 0, none⟩) ∧ Below wr.heap.size wr wx ∧ Kb wx p5 (pkt 2 9) ∧ Kb wx p6 (pkt 3 13) ∧ Kb wx p7 (pkt 4 14) ∧ Kb wx p8 (pkt 3 8))
      case first => as_aux_lemma =>
        go_wp2_with (first | (refine wpList_buildSd rfl 29 #[(1, .const (.int .u8 2)), (3, .const (.int .u8 9))] rfl [(1, .int .u8 2), (3, .int .u8 9)] _ rfl ?_ (pkt 2 9) b29_2_9 ?_; (· simp; (first | done | rfl | exact ⟨rfl, rfl⟩ | exact ⟨rfl, rfl, rfl⟩)); (try dsimp only [Act.put]); (try simp only [List.setIfInBounds_toArray, List.set_cons_succ, List.set_cons_zero])) | (refine wpList_buildSd rfl 29 #[(1, .const (.int .u8 3)), (3, .const (.int .u8 13))] rfl [(1, .int .u8 3), (3, .int .u8 13)] _ rfl ?_ (pkt 3 13) b29_3_13 ?_; (· simp; (first | done | rfl | exact ⟨rfl, rfl⟩ | exact ⟨rfl, rfl, rfl⟩)); (try dsimp only [Act.put]); (try simp only [List.setIfInBounds_toArray, List.set_cons_succ, List.set_cons_zero])) | (refine wpList_buildSd rfl 29 #[(1, .const (.int .u8 4)), (3, .const (.int .u8 14))] rfl [(1, .int .u8 4), (3, .int .u8 14)] _ rfl ?_ (pkt 4 14) b29_4_14 ?_; (· simp; (first | done | rfl | exact ⟨rfl, rfl⟩ | exact ⟨rfl, rfl, rfl⟩)); (try dsimp only [Act.put]); (try simp only [List.setIfInBounds_toArray, List.set_cons_succ, List.set_cons_zero])) | (refine wpList_buildSd rfl 29 #[(1, .const (.int .u8 3)), (3, .const (.int .u8 8))] rfl [(1, .int .u8 3), (3, .int .u8 8)] _ rfl ?_ (pkt 3 8) b29_3_8 ?_; (· simp; (first | done | rfl | exact ⟨rfl, rfl⟩ | exact ⟨rfl, rfl, rfl⟩)); (try dsimp only [Act.put]); (try simp only [List.setIfInBounds_toArray, List.set_cons_succ, List.set_cons_zero])) | (refine wpList_store_wide 29 (.tmp 5) (.tmp 66) rfl rfl (wr.heap.size) 0 (pkt 2 9) rfl rfl wr.heap.size wr info29 (by decide +kernel) ?_ ?_ ?_ ?_; (· exact ((((Below.refl _ _).alloc (Nat.le_refl _) _).alloc (by simp) _).alloc (by simp; omega) _).alloc (by simp; omega) _); (· omega); (· (repeat (first | (refine there_new _ _ _ _ _ ?_ rfl; first | rfl | (simp; done)) | refine World.there_alloc ?_ _))); intro v1 e1 z1 R5_1 k1 t1 cc; have T6_1 := t1 (wr.heap.size + 1) 0 19 (by (repeat (first | (refine there_new _ _ _ _ _ ?_ rfl; first | rfl | (simp; done)) | refine World.there_alloc ?_ _))); have T7_1 := t1 (wr.heap.size + 1 + 1) 0 19 (by (repeat (first | (refine there_new _ _ _ _ _ ?_ rfl; first | rfl | (simp; done)) | refine World.there_alloc ?_ _))); have T8_1 := t1 (wr.heap.size + 1 + 1 + 1) 0 19 (by (repeat (first | (refine there_new _ _ _ _ _ ?_ rfl; first | rfl | (simp; done)) | refine World.there_alloc ?_ _))); have s1 : v1.heap.size = wr.heap.size + 1 + 1 + 1 + 1 := (by rw [z1]; simp); clear k1 t1 z1 cc; (try dsimp only [Act.put]); (try simp only [List.setIfInBounds_toArray, List.set_cons_succ, List.set_cons_zero])) | (refine wpList_store_wide 29 (.tmp 6) (.tmp 67) rfl rfl (wr.heap.size + 1) 0 (pkt 3 13) rfl rfl wr.heap.size wr info29 (by decide +kernel) ?_ ?_ ?_ ?_; (· with_reducible exact e1); (· omega); (· exact T6_1); intro v2 e2 z2 R6_2 k2 t2 cc; have R5_2 := k2 _ _ _ (by omega) R5_1; have T7_2 := t2 _ _ _ T7_1; have T8_2 := t2 _ _ _ T8_1; have s2 : v2.heap.size = wr.heap.size + 1 + 1 + 1 + 1 := z2.trans s1; clear k2 t2 z2 cc; (try dsimp only [Act.put]); (try simp only [List.setIfInBounds_toArray, List.set_cons_succ, List.set_cons_zero])) | (refine wpList_store_wide 29 (.tmp 7) (.tmp 68) rfl rfl (wr.heap.size + 1 + 1) 0 (pkt 4 14) rfl rfl wr.heap.size wr info29 (by decide +kernel) ?_ ?_ ?_ ?_; (· with_reducible exact e2); (· omega); (· exact T7_2); intro v3 e3 z3 R7_3 k3 t3 cc; have R5_3 := k3 _ _ _ (by omega) R5_2; have R6_3 := k3 _ _ _ (by omega) R6_2; have T8_3 := t3 _ _ _ T8_2; have s3 : v3.heap.size = wr.heap.size + 1 + 1 + 1 + 1 := z3.trans s2; clear k3 t3 z3 cc; (try dsimp only [Act.put]); (try simp only [List.setIfInBounds_toArray, List.set_cons_succ, List.set_cons_zero])) | (refine wpList_store_wide 29 (.tmp 8) (.tmp 69) rfl rfl (wr.heap.size + 1 + 1 + 1) 0 (pkt 3 8) rfl rfl wr.heap.size wr info29 (by decide +kernel) ?_ ?_ ?_ ?_; (· with_reducible exact e3); (· omega); (· exact T8_3); intro v4 e4 z4 R8_4 k4 t4 cc; have R5_4 := k4 _ _ _ (by omega) R5_3; have R6_4 := k4 _ _ _ (by omega) R6_3; have R7_4 := k4 _ _ _ (by omega) R7_3; have s4 : v4.heap.size = wr.heap.size + 1 + 1 + 1 + 1 := z4.trans s3; clear k4 t4 z4 cc; (try dsimp only [Act.put]); (try simp only [List.setIfInBounds_toArray, List.set_cons_succ, List.set_cons_zero])))
        go_meet
        exact ⟨_, _, _, _, rfl, rfl, rfl, rfl, e4, ⟨by omega, R5_4⟩, ⟨by omega, R6_4⟩, ⟨by omega, R7_4⟩, ⟨by omega, R8_4⟩⟩
      obtain ⟨p5, p6, p7, p8, rfl, rfl, rfl, rfl, hd4, K5, K6, K7, K8⟩ := hcut
      obtain ⟨V4, hV4⟩ : ∃ X, X = wc := ⟨_, rfl⟩
      subst hV4
      have hb4 := bthen hb hd4
      clear hb hd4
      have R5 := K5.r
      have R6 := K6.r
      have R7 := K7.r
      have R8 := K8.r
      go_upto_region 14 with fail
      go_cut [9] (fun v wx => ∃ b : Nat, v = .slice (some ⟨b, 0, none⟩) 8 8 ∧ Below V4.heap.size V4 wx ∧ Rd wx (some ⟨b, 0, none⟩) 20 (someL.map pcs))
      case first => as_aux_lemma =>
        go_wp2_with (first | (refine wpList_load_wide 29 (.tmp 5) rfl (by rfl) p5 0 rfl (pkt 2 9) _ Tryd.underlying29 rfl (info_pkt _ _) R5 ?_; (try dsimp only [Act.put]); (try simp only [List.setIfInBounds_toArray, List.set_cons_succ, List.set_cons_zero])) | (refine wpList_load_wide 29 (.tmp 6) rfl (by rfl) p6 0 rfl (pkt 3 13) _ Tryd.underlying29 rfl (info_pkt _ _) R6 ?_; (try dsimp only [Act.put]); (try simp only [List.setIfInBounds_toArray, List.set_cons_succ, List.set_cons_zero])) | (refine wpList_load_wide 29 (.tmp 7) rfl (by rfl) p7 0 rfl (pkt 4 14) _ Tryd.underlying29 rfl (info_pkt _ _) R7 ?_; (try dsimp only [Act.put]); (try simp only [List.setIfInBounds_toArray, List.set_cons_succ, List.set_cons_zero])) | (refine wpList_load_wide 29 (.tmp 8) rfl (by rfl) p8 0 rfl (pkt 3 8) _ Tryd.underlying29 rfl (info_pkt _ _) R8 ?_; (try dsimp only [Act.put]); (try simp only [List.setIfInBounds_toArray, List.set_cons_succ, List.set_cons_zero])) | (refine wpList_buildSd rfl 35 #[(1, .tmp 70)] rfl [(1, .agg (pkt 2 9))] _ rfl ?_ (pcs (qp 0 2 9)).toArray built_0_2_9 ?_; (· simp; (first | done | rfl | exact ⟨rfl, rfl⟩ | exact ⟨rfl, rfl, rfl⟩)); (try dsimp only [Act.put]); (try simp only [List.setIfInBounds_toArray, List.set_cons_succ, List.set_cons_zero])) | (refine wpList_buildSd rfl 35 #[(0, .const (.int .u8 1)), (1, .tmp 72)] rfl [(0, .int .u8 1), (1, .agg (pkt 2 9))] _ rfl ?_ (pcs (qp 1 2 9)).toArray built_1_2_9 ?_; (· simp; (first | done | rfl | exact ⟨rfl, rfl⟩ | exact ⟨rfl, rfl, rfl⟩)); (try dsimp only [Act.put]); (try simp only [List.setIfInBounds_toArray, List.set_cons_succ, List.set_cons_zero])) | (refine wpList_buildSd rfl 35 #[(1, .tmp 74)] rfl [(1, .agg (pkt 3 13))] _ rfl ?_ (pcs (qp 0 3 13)).toArray built_0_3_13 ?_; (· simp; (first | done | rfl | exact ⟨rfl, rfl⟩ | exact ⟨rfl, rfl, rfl⟩)); (try dsimp only [Act.put]); (try simp only [List.setIfInBounds_toArray, List.set_cons_succ, List.set_cons_zero])) | (refine wpList_buildSd rfl 35 #[(0, .const (.int .u8 1)), (1, .tmp 76)] rfl [(0, .int .u8 1), (1, .agg (pkt 4 14))] _ rfl ?_ (pcs (qp 1 4 14)).toArray built_1_4_14 ?_; (· simp; (first | done | rfl | exact ⟨rfl, rfl⟩ | exact ⟨rfl, rfl, rfl⟩)); (try dsimp only [Act.put]); (try simp only [List.setIfInBounds_toArray, List.set_cons_succ, List.set_cons_zero])) | (refine wpList_buildSd rfl 35 #[(1, .tmp 78)] rfl [(1, .agg (pkt 3 8))] _ rfl ?_ (pcs (qp 0 3 8)).toArray built_0_3_8 ?_; (· simp; (first | done | rfl | exact ⟨rfl, rfl⟩ | exact ⟨rfl, rfl, rfl⟩)); (try dsimp only [Act.put]); (try simp only [List.setIfInBounds_toArray, List.set_cons_succ, List.set_cons_zero])) | (refine wpList_buildSd rfl 35 #[(0, .const (.int .u8 2)), (1, .tmp 80)] rfl [(0, .int .u8 2), (1, .agg (pkt 2 9))] _ rfl ?_ (pcs (qp 2 2 9)).toArray built_2_2_9 ?_; (· simp; (first | done | rfl | exact ⟨rfl, rfl⟩ | exact ⟨rfl, rfl, rfl⟩)); (try dsimp only [Act.put]); (try simp only [List.setIfInBounds_toArray, List.set_cons_succ, List.set_cons_zero])) | (refine wpList_buildSd rfl 35 #[(0, .const (.int .u8 1)), (1, .tmp 82)] rfl [(0, .int .u8 1), (1, .agg (pkt 3 13))] _ rfl ?_ (pcs (qp 1 3 13)).toArray built_1_3_13 ?_; (· simp; (first | done | rfl | exact ⟨rfl, rfl⟩ | exact ⟨rfl, rfl, rfl⟩)); (try dsimp only [Act.put]); (try simp only [List.setIfInBounds_toArray, List.set_cons_succ, List.set_cons_zero])) | (refine wpList_buildSd rfl 35 #[(1, .tmp 84)] rfl [(1, .agg (pkt 4 14))] _ rfl ?_ (pcs (qp 0 4 14)).toArray built_0_4_14 ?_; (· simp; (first | done | rfl | exact ⟨rfl, rfl⟩ | exact ⟨rfl, rfl, rfl⟩)); (try dsimp only [Act.put]); (try simp only [List.setIfInBounds_toArray, List.set_cons_succ, List.set_cons_zero])) | (refine wpList_buildWide rfl 49 35 8 20 _ rfl (someL.map pcs) V4.heap.size rfl _ rfl i0 _ Tryd.underlying49 hi hz0 hz1 (by decide) (by decide) (by rfl) (by decide) ?_ (pcs_each someL some_ok) ?_; (· (rw [Array.toList_map]; kernel_rfl))))
        go_meet
        exact ⟨_, rfl, (Below.refl _ _).alloc (Nat.le_refl _) _, rd_new _ _ rfl _ (pcs_each someL some_ok) (by decide)⟩
      obtain ⟨bL, rfl, hd5, hS⟩ := hcut
      obtain ⟨V, hV⟩ : ∃ X, X = wc := ⟨_, rfl⟩
      subst hV
      have hbV := bthen hb4 hd5
      clear hb4 hd5 K5 K6 K7 K8 R5 R6 R7 R8
      have hok := some_ok
      have hlen : someL.length = 8 := rfl
      generalize someL = L at hS hok hlen
      have HS := Lib.hid hS
      have Hok := Lib.hid hok
      clear hS hok
      go_wp2_with fail
      go_loopw [87] (fun i wr => ∃ n : Nat, n ≤ 4096 ∧ i = .int .i64 n ∧ Below V.heap.size V wr) (fun i _ => 4096 - (intOf i).toNat)
      case atStart => exact ⟨0, by omega, rfl, Below.refl _ _⟩
      case round =>
        obtain ⟨n, hn, rfl, hb⟩ := hrel
        by_cases hnl : n < 4096
        · have hnb : decide ((n : Int) < 4096) = true := by simp; omega
          obtain ⟨aa, hia⟩ : ∃ a, n % 8 = a := ⟨_, rfl⟩
          obtain ⟨q, hiq⟩ : ∃ q, n / 8 = q := ⟨_, rfl⟩
          obtain ⟨b, hib⟩ : ∃ b, q % 8 = b := ⟨_, rfl⟩
          obtain ⟨r, hir⟩ : ∃ r, n / 64 = r := ⟨_, rfl⟩
          obtain ⟨c, hic⟩ : ∃ c, r % 8 = c := ⟨_, rfl⟩
          obtain ⟨d, hid'⟩ : ∃ d, n / 512 = d := ⟨_, rfl⟩
          obtain ⟨s, his⟩ : ∃ s, n % 4 = s := ⟨_, rfl⟩
          obtain ⟨pa, ha⟩ : ∃ p, L[aa]? = some p := ⟨_, List.getElem?_eq_getElem (by omega)⟩
          obtain ⟨pb, hb'⟩ : ∃ p, L[b]? = some p := ⟨_, List.getElem?_eq_getElem (by omega)⟩
          obtain ⟨pc, hc'⟩ : ∃ p, L[c]? = some p := ⟨_, List.getElem?_eq_getElem (by omega)⟩
          obtain ⟨pd, hd'⟩ : ∃ p, L[d]? = some p := ⟨_, List.getElem?_eq_getElem (by omega)⟩
          have HQ := Lib.hid (four_of ⟨Hok.out, by omega, HS.out.below hb⟩ (rd_lt (HS.out.below hb) (by intro e; have h := congrArg List.length e; rw [List.length_map, hlen] at h; cases h)) ha hb' hc' hd')
          have hok4 : ∀ p ∈ [pa, pb, pc, pd], PktOk p := by
            intro p hp
            simp only [List.mem_cons, List.not_mem_nil, or_false] at hp
            rcases hp with rfl | rfl | rfl | rfl
            · exact Hok.out _ (List.mem_of_getElem? ha)
            · exact Hok.out _ (List.mem_of_getElem? hb')
            · exact Hok.out _ (List.mem_of_getElem? hc')
            · exact Hok.out _ (List.mem_of_getElem? hd')
          have HO := Lib.hid hok4
          clear ha hb' hc' hd' hok4
          have A0 : (0 : Int) ≤ (aa : Int) := by omega
          have A1 : (aa : Int) < 8 := by omega
          have B0 : (0 : Int) ≤ (b : Int) := by omega
          have B1 : (b : Int) < 8 := by omega
          have C0 : (0 : Int) ≤ (c : Int) := by omega
          have C1 : (c : Int) < 8 := by omega
          have D0 : (0 : Int) ≤ (d : Int) := by omega
          have D1 : (d : Int) < 8 := by omega
          have E6 : (n : Int).tdiv 512 = (d : Int) := by rw [Int.tdiv_eq_ediv_of_nonneg (by omega)]; omega
          have E5 : (r : Int).tmod 8 = (c : Int) := by rw [Int.tmod_eq_emod_of_nonneg (by omega)]; omega
          have E4 : (n : Int).tdiv 64 = (r : Int) := by rw [Int.tdiv_eq_ediv_of_nonneg (by omega)]; omega
          have E3 : (q : Int).tmod 8 = (b : Int) := by rw [Int.tmod_eq_emod_of_nonneg (by omega)]; omega
          have E2 : (n : Int).tdiv 8 = (q : Int) := by rw [Int.tdiv_eq_ediv_of_nonneg (by omega)]; omega
          have E1 : (n : Int).tmod 8 = (aa : Int) := by rw [Int.tmod_eq_emod_of_nonneg (by omega)]; omega
          have X1 : IntKind.i64.wrap (q : Int) = q := IntWalk.i64_in _ (by omega)
          have X2 : IntKind.i64.wrap (r : Int) = r := IntWalk.i64_in _ (by omega)
          have X3 : IntKind.i64.wrap (d : Int) = d := IntWalk.i64_in _ (by omega)
          have hs4 : s ≤ 4 := by omega
          have S0 : (0 : Int) ≤ (s : Int) := by omega
          have S1 : (s : Int) ≤ 4 := by omega
          have E7 : (n : Int).tmod 4 = (s : Int) := by rw [Int.tmod_eq_emod_of_nonneg (by omega)]; omega
          clear hia hiq hib hir hic hid' his
          go_upto_region 18 with fail
          go_cut [11] (fun v wx => ∃ g : Nat, v = .slice (some ⟨g, 0, none⟩) 4 4 ∧ Below wr.heap.size wr wx ∧ Rd wx (some ⟨g, 0, none⟩) 20 ([pa, pb, pc, pd].map pcs))
          case first => as_aux_lemma =>
            refine wp_region_steps 22 [[], [], [1], [0, 2], [3], [], [], [6], [7], [5, 8], [9], [], [], [12], [13], [11, 14], [15], [], [], [18], [17, 19], [20]] (fun D a w' => ∃ g : Nat → Value, a = ⟨#[u0, u1, u2, u3, u4, .pointer (some ⟨p5, 0, none⟩), .pointer (some ⟨p6, 0, none⟩), .pointer (some ⟨p7, 0, none⟩), .pointer (some ⟨p8, 0, none⟩), .slice (some ⟨bL, 0, none⟩) 8 8, .int .i64 ↑n, u11, .int .i64 ↑k, u13, u14, u15, u16, u17, u18, u19, u20, u21, u22, u23, u24, u25, u26, u27, u28, u29, u30, u31, u32, u33, u34, u35, u36, u37, u38, u39, u40, u41, u42, u43, u44, u45, u46, u47, u48, u49, u50, u51, u52, u53, u54, u55, u56, u57, u58, u59, u60, u61, u62, u63, u64, u65, u66, u67, u68, u69, u70, u71, u72, u73, u74, u75, u76, u77, u78, u79, u80, u81, u82, u83, u84, u85, u86, .int .i64 ↑n, .bool true, .int .i64 ↑n, g 0, g 1, g 2, g 3, g 4, g 5, g 6, g 7, g 8, g 9, g 10, g 11, g 12, g 13, g 14, g 15, g 16, g 17, g 18, g 19, g 20, g 21, u112, u113, u114, u115, u116, u117, u118, u119, u120, u121, u122, u123, u124, u125], []⟩ ∧ Iv wr (fun i => (sv18 bL n aa q b r c d (pcs pa).toArray (pcs pb).toArray (pcs pc).toArray (pcs pd).toArray).getD i undef) D g w') (by kernel_rfl) (by kernel_rfl) ⟨fun i => if i = 0 then u90 else if i = 1 then u91 else if i = 2 then u92 else if i = 3 then u93 else if i = 4 then u94 else if i = 5 then u95 else if i = 6 then u96 else if i = 7 then u97 else if i = 8 then u98 else if i = 9 then u99 else if i = 10 then u100 else if i = 11 then u101 else if i = 12 then u102 else if i = 13 then u103 else if i = 14 then u104 else if i = 15 then u105 else if i = 16 then u106 else if i = 17 then u107 else if i = 18 then u108 else if i = 19 then u109 else if i = 20 then u110 else if i = 21 then u111 else undef, rfl, Iv.zero wr _ _⟩ ?_ ?_
            · simp only [List.take_succ_cons, List.take_zero]
              refine ⟨?_, ?_, ?_, ?_, ?_, ?_, ?_, ?_, ?_, ?_, ?_, ?_, ?_, ?_, ?_, ?_, ?_, ?_, ?_, ?_, ?_, ?_, trivial⟩
              · intro D a w' hn hp hI
                obtain ⟨g, rfl, hR⟩ := hI
                clear hn hp
                go_wp2_with fail
                exact ⟨fun ix => if ix = 0 then .slice (some ⟨bL, 0, none⟩) 8 8 else g ix, by rfl, hR.step 0 _ rfl (Below.refl _ _)⟩
              · intro D a w' hn hp hI
                obtain ⟨g, rfl, hR⟩ := hI
                clear hn hp
                go_wp2_with fail
                exact ⟨fun ix => if ix = 1 then .int .i64 (n : Int) else g ix, by rfl, hR.step 1 _ rfl (Below.refl _ _)⟩
              · intro D a w' hn hp hI
                obtain ⟨g, rfl, hR⟩ := hI
                have e1 : g 1 = .int .i64 (n : Int) := hR.e 1 hp.1
                rw [e1]
                clear hn hp
                go_wp2_with fail
                exact ⟨fun ix => if ix = 2 then .int .i64 (aa : Int) else g ix, by simp [e1], hR.step 2 _ rfl (Below.refl _ _)⟩
              · intro D a w' hn hp hI
                obtain ⟨g, rfl, hR⟩ := hI
                have e0 : g 0 = .slice (some ⟨bL, 0, none⟩) 8 8 := hR.e 0 hp.1
                have e2 : g 2 = .int .i64 (aa : Int) := hR.e 2 hp.2.1
                rw [e0, e2]
                clear hn hp
                go_wp2_with fail
                exact ⟨fun ix => if ix = 3 then .pointer (some ⟨bL, aa * 20, none⟩) else g ix, by simp [e0, e2], hR.step 3 _ rfl (Below.refl _ _)⟩
              · intro D a w' hn hp hI
                obtain ⟨g, rfl, hR⟩ := hI
                have e3 : g 3 = .pointer (some ⟨bL, aa * 20, none⟩) := hR.e 3 hp.1
                rw [e3]
                have rr := range_below hR.b HQ.out.lt HQ.out.ra
                clear hn hp
                go_wp2_with (refine wpList_load_wide 35 _ rfl (by rfl) _ _ rfl (pcs pa).toArray _ Tryd.underlying35 rfl HQ.out.ia ?_ ?_; · with_reducible assumption)
                exact ⟨fun ix => if ix = 4 then .agg (pcs pa).toArray else g ix, by simp [e3], hR.step 4 _ rfl (Below.refl _ _)⟩
              · intro D a w' hn hp hI
                obtain ⟨g, rfl, hR⟩ := hI
                clear hn hp
                go_wp2_with fail
                exact ⟨fun ix => if ix = 5 then .slice (some ⟨bL, 0, none⟩) 8 8 else g ix, by rfl, hR.step 5 _ rfl (Below.refl _ _)⟩
              · intro D a w' hn hp hI
                obtain ⟨g, rfl, hR⟩ := hI
                clear hn hp
                go_wp2_with fail
                exact ⟨fun ix => if ix = 6 then .int .i64 (n : Int) else g ix, by rfl, hR.step 6 _ rfl (Below.refl _ _)⟩
              · intro D a w' hn hp hI
                obtain ⟨g, rfl, hR⟩ := hI
                have e6 : g 6 = .int .i64 (n : Int) := hR.e 6 hp.1
                rw [e6]
                clear hn hp
                go_wp2_with fail
                exact ⟨fun ix => if ix = 7 then .int .i64 (q : Int) else g ix, by simp [e6], hR.step 7 _ rfl (Below.refl _ _)⟩
              · intro D a w' hn hp hI
                obtain ⟨g, rfl, hR⟩ := hI
                have e7 : g 7 = .int .i64 (q : Int) := hR.e 7 hp.1
                rw [e7]
                clear hn hp
                go_wp2_with fail
                exact ⟨fun ix => if ix = 8 then .int .i64 (b : Int) else g ix, by simp [e7], hR.step 8 _ rfl (Below.refl _ _)⟩
              · intro D a w' hn hp hI
                obtain ⟨g, rfl, hR⟩ := hI
                have e5 : g 5 = .slice (some ⟨bL, 0, none⟩) 8 8 := hR.e 5 hp.1
                have e8 : g 8 = .int .i64 (b : Int) := hR.e 8 hp.2.1
                rw [e5, e8]
                clear hn hp
                go_wp2_with fail
                exact ⟨fun ix => if ix = 9 then .pointer (some ⟨bL, b * 20, none⟩) else g ix, by simp [e5, e8], hR.step 9 _ rfl (Below.refl _ _)⟩
              · intro D a w' hn hp hI
                obtain ⟨g, rfl, hR⟩ := hI
                have e9 : g 9 = .pointer (some ⟨bL, b * 20, none⟩) := hR.e 9 hp.1
                rw [e9]
                have rr := range_below hR.b HQ.out.lt HQ.out.rb
                clear hn hp
                go_wp2_with (refine wpList_load_wide 35 _ rfl (by rfl) _ _ rfl (pcs pb).toArray _ Tryd.underlying35 rfl HQ.out.ib ?_ ?_; · with_reducible assumption)
                exact ⟨fun ix => if ix = 10 then .agg (pcs pb).toArray else g ix, by simp [e9], hR.step 10 _ rfl (Below.refl _ _)⟩
              · intro D a w' hn hp hI
                obtain ⟨g, rfl, hR⟩ := hI
                clear hn hp
                go_wp2_with fail
                exact ⟨fun ix => if ix = 11 then .slice (some ⟨bL, 0, none⟩) 8 8 else g ix, by rfl, hR.step 11 _ rfl (Below.refl _ _)⟩
              · intro D a w' hn hp hI
                obtain ⟨g, rfl, hR⟩ := hI
                clear hn hp
                go_wp2_with fail
                exact ⟨fun ix => if ix = 12 then .int .i64 (n : Int) else g ix, by rfl, hR.step 12 _ rfl (Below.refl _ _)⟩
              · intro D a w' hn hp hI
                obtain ⟨g, rfl, hR⟩ := hI
                have e12 : g 12 = .int .i64 (n : Int) := hR.e 12 hp.1
                rw [e12]
                clear hn hp
                go_wp2_with fail
                exact ⟨fun ix => if ix = 13 then .int .i64 (r : Int) else g ix, by simp [e12], hR.step 13 _ rfl (Below.refl _ _)⟩
              · intro D a w' hn hp hI
                obtain ⟨g, rfl, hR⟩ := hI
                have e13 : g 13 = .int .i64 (r : Int) := hR.e 13 hp.1
                rw [e13]
                clear hn hp
                go_wp2_with fail
                exact ⟨fun ix => if ix = 14 then .int .i64 (c : Int) else g ix, by simp [e13], hR.step 14 _ rfl (Below.refl _ _)⟩
              · intro D a w' hn hp hI
                obtain ⟨g, rfl, hR⟩ := hI
                have e11 : g 11 = .slice (some ⟨bL, 0, none⟩) 8 8 := hR.e 11 hp.1
                have e14 : g 14 = .int .i64 (c : Int) := hR.e 14 hp.2.1
                rw [e11, e14]
                clear hn hp
                go_wp2_with fail
                exact ⟨fun ix => if ix = 15 then .pointer (some ⟨bL, c * 20, none⟩) else g ix, by simp [e11, e14], hR.step 15 _ rfl (Below.refl _ _)⟩
              · intro D a w' hn hp hI
                obtain ⟨g, rfl, hR⟩ := hI
                have e15 : g 15 = .pointer (some ⟨bL, c * 20, none⟩) := hR.e 15 hp.1
                rw [e15]
                have rr := range_below hR.b HQ.out.lt HQ.out.rc
                clear hn hp
                go_wp2_with (refine wpList_load_wide 35 _ rfl (by rfl) _ _ rfl (pcs pc).toArray _ Tryd.underlying35 rfl HQ.out.ic ?_ ?_; · with_reducible assumption)
                exact ⟨fun ix => if ix = 16 then .agg (pcs pc).toArray else g ix, by simp [e15], hR.step 16 _ rfl (Below.refl _ _)⟩
              · intro D a w' hn hp hI
                obtain ⟨g, rfl, hR⟩ := hI
                clear hn hp
                go_wp2_with fail
                exact ⟨fun ix => if ix = 17 then .slice (some ⟨bL, 0, none⟩) 8 8 else g ix, by rfl, hR.step 17 _ rfl (Below.refl _ _)⟩
              · intro D a w' hn hp hI
                obtain ⟨g, rfl, hR⟩ := hI
                clear hn hp
                go_wp2_with fail
                exact ⟨fun ix => if ix = 18 then .int .i64 (n : Int) else g ix, by rfl, hR.step 18 _ rfl (Below.refl _ _)⟩
              · intro D a w' hn hp hI
                obtain ⟨g, rfl, hR⟩ := hI
                have e18 : g 18 = .int .i64 (n : Int) := hR.e 18 hp.1
                rw [e18]
                clear hn hp
                go_wp2_with fail
                exact ⟨fun ix => if ix = 19 then .int .i64 (d : Int) else g ix, by simp [e18], hR.step 19 _ rfl (Below.refl _ _)⟩
              · intro D a w' hn hp hI
                obtain ⟨g, rfl, hR⟩ := hI
                have e17 : g 17 = .slice (some ⟨bL, 0, none⟩) 8 8 := hR.e 17 hp.1
                have e19 : g 19 = .int .i64 (d : Int) := hR.e 19 hp.2.1
                rw [e17, e19]
                clear hn hp
                go_wp2_with fail
                exact ⟨fun ix => if ix = 20 then .pointer (some ⟨bL, d * 20, none⟩) else g ix, by simp [e17, e19], hR.step 20 _ rfl (Below.refl _ _)⟩
              · intro D a w' hn hp hI
                obtain ⟨g, rfl, hR⟩ := hI
                have e20 : g 20 = .pointer (some ⟨bL, d * 20, none⟩) := hR.e 20 hp.1
                rw [e20]
                have rr := range_below hR.b HQ.out.lt HQ.out.rd
                clear hn hp
                go_wp2_with (refine wpList_load_wide 35 _ rfl (by rfl) _ _ rfl (pcs pd).toArray _ Tryd.underlying35 rfl HQ.out.id ?_ ?_; · with_reducible assumption)
                exact ⟨fun ix => if ix = 21 then .agg (pcs pd).toArray else g ix, by simp [e20], hR.step 21 _ rfl (Below.refl _ _)⟩
            intro D a' w' hD hI
            obtain ⟨g18, rfl, hR⟩ := hI
            have e4 : g18 4 = .agg (pcs pa).toArray := hR.e 4 (hD 4 (by decide))
            have e10 : g18 10 = .agg (pcs pb).toArray := hR.e 10 (hD 10 (by decide))
            have e16 : g18 16 = .agg (pcs pc).toArray := hR.e 16 (hD 16 (by decide))
            have e21 : g18 21 = .agg (pcs pd).toArray := hR.e 21 (hD 21 (by decide))
            rw [e4, e10, e16, e21]
            have dR := hR.b
            have h20 : ∀ l ∈ [pa, pb, pc, pd].map pcs, l.length = 20 := pcs_each _ HO.out
            clear hD hR e4 e10 e16 e21
            simp only [List.drop_succ_cons, List.drop_zero]
            refine wpList_buildWide rfl 49 35 4 20 _ rfl ([pa, pb, pc, pd].map pcs) w'.heap.size rfl _ rfl i0 _ Tryd.underlying49 hi hz0 hz1 (by decide) (by decide) (by rfl) (by decide) (by kernel_rfl) h20 ?_
            generalize hW9 : World.alloc w' _ = W9
            go_wp2_with fail
            go_meet
            exact ⟨_, rfl, hW9 ▸ dR.alloc dR.size _, hW9 ▸ rd_new _ _ rfl _ h20 (by show 4 ≤ maxLen; decide)⟩
          obtain ⟨bq, rfl, hd6, hS4⟩ := hcut
          obtain ⟨X, hX⟩ : ∃ X, X = wc := ⟨_, rfl⟩
          subst hX
          have hb6 := bthen hb hd6
          have HS4 := Lib.hid hS4
          clear hS4 hd6 HQ E1 E2 E3 E4 E5 E6 X1 X2 X3 A0 A1 B0 B1 C0 C1 D0 D1
          as_aux_lemma =>
            go_wp2_with fail
            refine (runs_any (some ⟨bq, 0, none⟩) [pa, pb, pc, pd] 4 4 X (HA.out.below (bthen hbV hb6)) rfl (by omega) (by decide) (fun h => by cases h) HO.out HS4.out).mono ?_
            rintro e Y1 ⟨rfl, hy1⟩
            have hb7 := bthen hb6 hy1
            have HS5 := Lib.hid (HS4.out.below hy1)
            clear hy1 hb6 HS4
            go_wp2_with fail
            refine (runs_any (some ⟨bq, 0, none⟩) ([pa, pb, pc, pd].take s) s 4 Y1 (HA.out.below (bthen hbV hb7)) (by simp; omega) (by omega) (by decide) (fun h => by cases h) (fun p hp => HO.out p (List.mem_of_mem_take hp)) (by rw [List.map_take]; exact rd_take HS5.out s)).mono ?_
            rintro e Y2 ⟨rfl, hy2⟩
            have hb8 := bthen hb7 hy2
            clear hy2 hb7 HS5
            go_wp2_with fail
            go_roundw
            case rel => exact ⟨n + 1, by omega, by go_num, hb8⟩
            case measure => simp [intOf]; omega
        · have hnb : decide ((n : Int) < 4096) = false := by simp; omega
          go_wp2_with fail
          refine (awake_any _ (HA.out.below (bthen hbV hb))).mono ?_
          rintro e V2 ⟨rfl, hv2⟩
          go_wp2_with fail
          go_ret
          exact ⟨rfl, bthen (bthen hbV hb) hv2⟩

end Go.Proofs.YtjmcpgagbjmfgaaDoor

/-
  The contract of packets: the packets of a conversation that begins with two numbers. Condition: the words are those of an argument.
-/
import Derived.Test.YtchephpmkommfaaShP
import Derived.Test.YtchephpmkommfaaHon
import Derived.Great.BuildSlice
namespace Go.Proofs.Ytchephpmkommfaa
open Go.RowKit
set_option linter.unusedVariables false
set_option linter.unusedSimpArgs false

/-- A packet of a conversation. -/
def spk (flags seq ack win len : Int) : Array Value := #[.int .u8 0, .int .u32 0, .int .u32 0, .int .u16 0, .int .u16 0, .int .u8 1, .int .u8 flags, .int .u8 0, .int .u8 0, .int .u32 seq, .int .u32 ack, .int .i64 win, .int .i64 len, .int .u8 0, .int .u32 0, .int .u32 0, .int .u16 0, .int .u16 0, .int .u8 0]
/-- The two next numbers, seen from the side that sends. -/
structure Nx (W : World) (p8 dn en : Nat) (n no : Int) : Prop where
  de : (dn = 0 ∧ en = 1) ∨ (dn = 1 ∧ en = 0)
  n8 : W.cell? ⟨p8, dn, none⟩ = some (.int .u32 n)
  o8 : W.cell? ⟨p8, en, none⟩ = some (.int .u32 no)
  t8 : W.there p8 0 2
  hn : 0 ≤ n ∧ n ≤ 4294967295
  ho : 0 ≤ no ∧ no ≤ 4294967295
theorem Nx.swap {W : World} {p8 dn en : Nat} {n no : Int} (h : Nx W p8 dn en n no) : Nx W p8 en dn no n := ⟨h.de.symm.imp (fun ⟨a, b⟩ => ⟨b, a⟩) (fun ⟨a, b⟩ => ⟨b, a⟩), h.o8, h.n8, h.t8, h.ho, h.hn⟩
theorem Nx.below {W W' : World} {p8 dn en : Nat} {n no : Int} (h : Nx W p8 dn en n no) (hb : Below W.heap.size W W') : Nx W' p8 dn en n no := ⟨h.de, kc hb h.n8, kc hb h.o8, there_below hb (there_lt h.t8) h.t8, h.hn, h.ho⟩
def pv8 (dn en p8 bw : Nat) (n no lw bk bm sq win : Int) : List Value := [.int .u8 (dn : Int), .pointer (some ⟨p8, dn, none⟩), .int .u32 n, .pointer (some ⟨bw, 2, none⟩), .int .i8 bk, .int .i64 bk, .int .u32 bm, .int .u32 sq, .int .u8 (dn : Int), .int .u8 (en : Int), .pointer (some ⟨p8, en, none⟩), .int .u32 no, .pointer (some ⟨bw, 1, none⟩), .int .u16 lw, .int .i64 lw, .pointer (some ⟨bw, 3, none⟩), .int .u16 win, .int .i64 win, .agg (spk 0 sq no win lw), undef]
theorem rput {W : World} {b i : Nat} {T : List Value} (h : W.rangeAt b 0 T) (ht : W.there b 0 T.length) (v : Value) : (W.setCell ⟨b, i, none⟩ v).rangeAt b 0 (T.set i v) := by
  intro j u hu
  rw [Nat.zero_add]
  by_cases hij : i = j
  · subst hij
    have hl : i < T.length := by
      have := (List.getElem?_eq_some_iff.1 hu).1
      simpa using this
    rw [List.getElem?_set_self hl] at hu
    cases hu
    obtain ⟨x, hx⟩ := Option.isSome_iff_exists.1 (ht i hl).1
    rw [Nat.zero_add] at hx
    rw [World.cell?_setCell_same' _ _ _ (by rw [hx]; rfl)]
  · rw [List.getElem?_set_ne hij] at hu
    rw [World.cell?_setCell_other _ _ _ _ (fun e => hij (by injection e))]
    simpa using h j u hu
theorem own_set {w : World} {base : Nat} {e : TypeId} {size : Nat} {v : Value} {n : Nat} {xs : List Value} (h : w.ownsRow base e size v n xs) {b j : Nat} (u : Value) (hne : ∀ k, v.ownBlock = some k → k ≠ b) : (w.setCell ⟨b, j, none⟩ u).ownsRow base e size v n xs := by
  refine ⟨h.1, ?_⟩
  rcases h.2 with hn | ⟨g, cap, cur, rfl, hbs, hg, r⟩
  · exact .inl hn
  · refine .inr ⟨g, cap, cur, rfl, hbs, ?_, r⟩
    have hne' : b ≠ g := fun e => hne g rfl e.symm
    rw [← hg]
    simp [World.setCell, hne', Array.getElem?_modify]
theorem own_below {w w' : World} {base : Nat} {e : TypeId} {size : Nat} {v : Value} {n : Nat} {xs : List Value} (h : w.ownsRow base e size v n xs) (hb : Below w.heap.size w w') : w'.ownsRow base e size v n xs := by
  refine ⟨h.1, ?_⟩
  rcases h.2 with hn | ⟨g, cap, cur, rfl, hbs, hg, r⟩
  · exact .inl hn
  · exact .inr ⟨g, cap, cur, rfl, hbs, (hb.block g (Array.getElem?_eq_some_iff.1 hg).1).trans hg, r⟩
/-- What lies where while a packet is being made. -/
structure Lo (w0 W : World) (p8 bw bf bs dn en ob : Nat) (n no : Int) (word : List Value) (fl sq win lw : Int) (v6 v7 : Value) (j : Nat) (xs ys : List Value) : Prop where
  b : Below w0.heap.size w0 W
  x : Nx W p8 dn en n no
  w : W.rangeAt bw 0 word
  s : W.rangeAt bs 0 [.int .u8 16, .int .u8 2, .int .u8 1]
  f : W.rangeAt bf 0 (spk fl sq no win lw).toList
  t : W.there bf 0 19
  o6 : W.ownsRow ob 5 1 v6 j xs
  o7 : W.ownsRow ob 34 19 v7 j ys
theorem Lo.setf {w0 W : World} {p8 bw bf bs dn en ob : Nat} {n no : Int} {word : List Value} {fl sq win lw : Int} {v6 v7 : Value} {j : Nat} {xs ys : List Value} (h : Lo w0 W p8 bw bf bs dn en ob n no word fl sq win lw v6 v7 j xs ys) (v' : Int) (h0 : w0.heap.size ≤ bf) (h8 : bf ≠ p8) (hw : bf ≠ bw) (hs : bf ≠ bs) (h6 : ∀ k, v6.ownBlock = some k → k ≠ bf) (h7 : ∀ k, v7.ownBlock = some k → k ≠ bf) :
    Lo w0 (W.setCell ⟨bf, 6, none⟩ (.int .u8 v')) p8 bw bf bs dn en ob n no word v' sq win lw v6 v7 j xs ys :=
  ⟨h.b.setCell (p := ⟨bf, 6, none⟩) h0 _, ⟨h.x.de, (World.cell?_setCell_other _ _ _ _ (fun e => h8 (by injection e))).trans h.x.n8, (World.cell?_setCell_other _ _ _ _ (fun e => h8 (by injection e))).trans h.x.o8, World.there_setCells h.x.t8 bf 6 [.int .u8 v'], h.x.hn, h.x.ho⟩,
    World.rangeAt_setCells_apart h.w bf 6 [.int .u8 v'] (.inl hw.symm), World.rangeAt_setCells_apart h.s bf 6 [.int .u8 v'] (.inl hs.symm), rput (i := 6) h.f h.t _, World.there_setCells h.t bf 6 [.int .u8 v'], own_set h.o6 _ h6, own_set h.o7 _ h7⟩
theorem Lo.below {w0 W W' : World} {p8 bw bf bs dn en ob : Nat} {n no : Int} {word : List Value} {fl sq win lw : Int} {v6 v7 : Value} {j : Nat} {xs ys : List Value} (h : Lo w0 W p8 bw bf bs dn en ob n no word fl sq win lw v6 v7 j xs ys) (hb : Below W.heap.size W W') (hw : bw < W.heap.size) (hs : bs < W.heap.size) :
    Lo w0 W' p8 bw bf bs dn en ob n no word fl sq win lw v6 v7 j xs ys := ⟨bthen h.b hb, h.x.below hb, range_below hb hw h.w, range_below hb hs h.s, range_below hb (there_lt h.t) h.f, there_below hb (there_lt h.t) h.t, own_below h.o6 hb, own_below h.o7 hb⟩
def fkk : Nat → Int
  | 0 => 16
  | 1 => 2
  | _ => 1
theorem flag_at (i : Nat) (h : i < 3) : ([.int .u8 16, .int .u8 2, .int .u8 1] : List Value)[i]? = some (.int .u8 (fkk i)) := by
  rcases (by omega : i = 0 ∨ i = 1 ∨ i = 2) with rfl | rfl | rfl <;> rfl
def tst (way : Int) (c : Nat) : Bool := bits .and .u8 (way / 2 ^ (c + 1)) 1 == 1
def flg (way : Int) : Nat → Int
  | 0 => 0
  | c + 1 => if tst way c then bits .or .u8 (flg way c) (fkk c) else flg way c
theorem flg_range (way : Int) : 0 ≤ flg way 3 ∧ flg way 3 ≤ 255 := by
  simp only [flg]
  cases tst way 0 <;> cases tst way 1 <;> cases tst way 2 <;> decide
theorem Lo.setn {w0 W : World} {p8 bw bf bs dn en ob : Nat} {n no : Int} {word : List Value} {fl sq win lw : Int} {v6 v7 : Value} {j : Nat} {xs ys : List Value} (h : Lo w0 W p8 bw bf bs dn en ob n no word fl sq win lw v6 v7 j xs ys) (n' : Int) (hn' : 0 ≤ n' ∧ n' ≤ 4294967295) (h0 : w0.heap.size ≤ p8) (h8 : bf ≠ p8) (hw : p8 ≠ bw) (hs : p8 ≠ bs) (h6 : ∀ k, v6.ownBlock = some k → k ≠ p8) (h7 : ∀ k, v7.ownBlock = some k → k ≠ p8) :
    Lo w0 (W.setCell ⟨p8, dn, none⟩ (.int .u32 n')) p8 bw bf bs dn en ob n' no word fl sq win lw v6 v7 j xs ys :=
  ⟨h.b.setCell (p := ⟨p8, dn, none⟩) h0 _, ⟨h.x.de, World.cell?_setCell_same' _ _ _ (by rw [h.x.n8]; rfl), (World.cell?_setCell_other _ _ _ _ (fun e => (show dn ≠ en by have := h.x.de; omega) (by injection e))).trans h.x.o8, World.there_setCells h.x.t8 p8 dn [.int .u32 n'], hn', h.x.ho⟩,
    World.rangeAt_setCells_apart h.w p8 dn [.int .u32 n'] (.inl hw.symm), World.rangeAt_setCells_apart h.s p8 dn [.int .u32 n'] (.inl hs.symm), World.rangeAt_setCells_apart h.f p8 dn [.int .u32 n'] (.inl h8), World.there_setCells h.t p8 dn [.int .u32 n'], own_set h.o6 _ h6, own_set h.o7 _ h7⟩
theorem spk_one (fl sq no win lw : Int) : ∀ u ∈ (spk fl sq no win lw).toList, u.oneCell' = true := by
  have h : (spk fl sq no win lw).all (·.oneCell') = true := by simp [spk, Value.oneCell']
  intro u hu
  rw [Array.all_eq_true'] at h
  exact h u (by simpa using hu)
theorem fa_spk (fl sq no win lw : Int) (h1 : 0 ≤ fl ∧ fl ≤ 255) (h2 : 0 ≤ sq ∧ sq ≤ 4294967295) (h3 : 0 ≤ no ∧ no ≤ 4294967295) (h4 : 0 ≤ win ∧ win ≤ 65535) (h5 : 0 ≤ lw ∧ lw ≤ 65535) : Fa (spk fl sq no win lw) fl sq no win lw :=
  ⟨rfl, rfl, rfl, rfl, rfl, rfl, by simp [spk, Value.oneCell'], h1, h2, h3, by omega, by omega⟩
def pv16 (dn p8 : Nat) (n no fl sq win lw rm n2 : Int) : List Value := [.int .u8 (dn : Int), .pointer (some ⟨p8, dn, none⟩), .int .u32 n, .agg (spk fl sq no win lw), .int .u32 rm, .int .u32 n2, .pointer (some ⟨p8, dn, none⟩)]
theorem range_lt {W : World} {b : Nat} {v : Value} {l : List Value} (h : W.rangeAt b 0 (v :: l)) : b < W.heap.size := cell_lt (a := ⟨b, 0, none⟩) (by simpa using h 0 v rfl)
def pv17 (dn : Nat) (fl sq no win lw : Int) (u6 u7 : Value) : List Value := [u6, .int .u8 (dn : Int), undef, undef, u7, .agg (spk fl sq no win lw), undef, undef]
theorem wpList_buildWide {P : Program} {ops : Array Oper} {rest : List Oper} {o : Oper} {a : Act} {w : World} {Q : Exit → Act → World → Prop} (hg : o.guard = none) (t e : TypeId) (len s : Nat) (parts : Array (Nat × Operand)) (ho : o.op = .buildSlice t len parts) (vs : List (List Value))
    (N : Nat) (hN : w.heap.size = N) (d : Option Tmp) (hd : o.dst = d) (ie : TypeInfo) (z : Value) (hu : P.underlying t = some (.slice e)) (hie : P.info? e = some ie) (hz : ie.zero = some z) (hs : ie.size = s) (hs0 : 0 < s) (hsmall : len * s ≤ 2 ^ 24) (hlen : vs.length = len) (hpos : 0 < len)
    (hparts : (parts.map fun (i, x) => (i, a.eval x)).toList = ((vs.map fun l => Value.agg l.toArray).zipIdx 0).map fun x => (x.2, x.1)) (he : ∀ l ∈ vs, l.length = s)
    (h : wpList P ops Q rest (a.put d (.slice (some ⟨N, 0, none⟩) len len)) (w.alloc (.cells vs.flatten.toArray e))) : wpList P ops Q (o :: rest) a w := by
  subst hN hd hs hlen
  have h0 : 0 < vs.length * ie.size := Nat.mul_pos hpos hs0
  refine wpList_buildSlice hg t e _ parts ho vs.flatten.toArray ie z hu hie hz (by omega) (by omega) ?_ h
  rw [hparts, Great.fill_whole hs0 _ _ (fun v hv => by obtain ⟨l, hl, rfl⟩ := List.mem_map.1 hv; simpa [Value.cells] using he l hl) (by simp)]
  congr 2
  rw [List.flatMap_map]
  simp [Value.cells, List.flatMap_id']
/-- A slice literal of one row. -/
structure Wd where
  way : Int
  lw : Int
  bk : Int
  win : Int
structure Pk where
  fl : Int
  sq : Int
  ak : Int
  win : Int
  lw : Int
structure Mo where
  ds : List Int
  ps : List Pk
  n0 : Int
  n1 : Int
def Pk.row (p : Pk) : List Value := (spk p.fl p.sq p.ak p.win p.lw).toList
def Mo.step (s : Mo) (x : Wd) : Mo :=
  if bits .and .u8 x.way 1 = 0 then ⟨s.ds ++ [0], s.ps ++ [⟨flg x.way 3, (s.n0 + x.bk % 4294967296) % 4294967296, s.n1, x.win, x.lw⟩], if x.bk = 0 then (s.n0 + room (flg x.way 3) x.lw) % 4294967296 else s.n0, s.n1⟩
  else ⟨s.ds ++ [1], s.ps ++ [⟨flg x.way 3, (s.n1 + x.bk % 4294967296) % 4294967296, s.n0, x.win, x.lw⟩], s.n0, if x.bk = 0 then (s.n1 + room (flg x.way 3) x.lw) % 4294967296 else s.n1⟩
def wd : List Value → Wd
  | [.int _ a, .int _ b, .int _ c, .int _ d] => ⟨a, b, c, d⟩
  | _ => ⟨0, 0, 0, 0⟩
def mo (css : List (List Value)) (f0 f1 : Int) : Mo := (css.map wd).foldl Mo.step ⟨[], [], f0, f1⟩
theorem mo_succ (css : List (List Value)) (f0 f1 : Int) (j : Nat) (cs : List Value) (h : css[j]? = some cs) : mo (css.take (j + 1)) f0 f1 = (mo (css.take j) f0 f1).step (wd cs) := by
  unfold mo
  rw [List.take_add_one, h, List.map_append, List.foldl_append]
  rfl
theorem info5b : (Try.prog.info? 5).map (fun i => (i.zero, i.size, i.bytes)) = some (some (.int .u8 0), 1, 1) := by kernel_rfl
theorem info34b : (Try.prog.info? 34).map (fun i => (i.zero, i.size, i.bytes)) = some (some (.agg #[.int .u8 0, .int .u32 0, .int .u32 0, .int .u16 0, .int .u16 0, .int .u8 0, .int .u8 0, .int .u8 0, .int .u8 0, .int .u32 0, .int .u32 0, .int .i64 0, .int .i64 0, .int .u8 0, .int .u32 0, .int .u32 0, .int .u16 0, .int .u16 0, .int .u8 0]), 19, 72) := by kernel_rfl
theorem range_block {W W' : World} {b : Nat} {l : List Value} (h : W.rangeAt b 0 l) (hb : W'.heap[b]? = W.heap[b]?) : W'.rangeAt b 0 l := fun j v hv => (World.cell?_of_block (a := ⟨b, 0 + j, none⟩) hb).trans (h j v hv)
theorem Nx.block {W W' : World} {p8 dn en : Nat} {n no : Int} (h : Nx W p8 dn en n no) (hb : W'.heap[p8]? = W.heap[p8]?) : Nx W' p8 dn en n no :=
  ⟨h.de, (World.cell?_of_block (a := ⟨p8, dn, none⟩) hb).trans h.n8, (World.cell?_of_block (a := ⟨p8, en, none⟩) hb).trans h.o8, fun i hi => by rw [World.cell?_of_block (a := ⟨p8, 0 + i, none⟩) hb, World.frozen?_of_block (a := ⟨p8, 0 + i, none⟩) hb]; exact h.t8 i hi, h.hn, h.ho⟩
theorem own_block {w w' : World} {base : Nat} {e : TypeId} {size : Nat} {v : Value} {n : Nat} {xs : List Value} (h : w.ownsRow base e size v n xs) (hb : ∀ k, v.ownBlock = some k → w'.heap[k]? = w.heap[k]?) : w'.ownsRow base e size v n xs := by
  refine ⟨h.1, ?_⟩
  rcases h.2 with hn | ⟨g, cap, cur, rfl, hbs, hg, r⟩
  · exact .inl hn
  · exact .inr ⟨g, cap, cur, rfl, hbs, (hb g rfl).trans hg, r⟩
/-- What the appends of a round have left. -/
structure Ap (w0 Z : World) (p8 bf dn en ob j : Nat) (n no : Int) (X : Value) (F : List Value) (u6 u7 : Value) (xs ys : List Value) (val : Nat → Value) (D : Nat → Prop) (g : Nat → Value) (W : World) : Prop where
  b : Below w0.heap.size w0 W
  z : Z.heap.size ≤ W.heap.size
  x : Nx W p8 dn en n no
  f : W.rangeAt bf 0 F
  e : ∀ i, (i ≠ 2 ∧ i ≠ 3 ∧ i ≠ 6 ∧ i ≠ 7) → D i → g i = val i
  s2 : D 2 → ∃ b, g 2 = .slice (some ⟨b, 0, none⟩) 1 1 ∧ Z.heap.size ≤ b ∧ b < W.heap.size ∧ W.rangeAt b 0 [X]
  s6 : D 6 → ∃ b, g 6 = .slice (some ⟨b, 0, none⟩) 1 1 ∧ Z.heap.size ≤ b ∧ b < W.heap.size ∧ W.rangeAt b 0 F
  r3 : ¬ D 3 → W.ownsRow ob 5 1 u6 j xs
  r7 : ¬ D 7 → W.ownsRow ob 34 19 u7 j ys
  d3 : D 3 → ∃ gg cap, g 3 = .slice (some ⟨gg, 0, none⟩) (j + 1) cap ∧ W.ownsRow ob 5 1 (.slice (some ⟨gg, 0, none⟩) (j + 1) cap) (j + 1) (xs ++ [X]) ∧ (u6.ownBlock = some gg ∨ Z.heap.size ≤ gg)
  d7 : D 7 → ∃ gg cap, g 7 = .slice (some ⟨gg, 0, none⟩) (j + 1) cap ∧ W.ownsRow ob 34 19 (.slice (some ⟨gg, 0, none⟩) (j + 1) cap) (j + 1) (ys ++ F) ∧ ∀ k, (g 3).ownBlock = some k → k ≠ gg
  o7 : D 7 → D 3
theorem Ap.zero (w0 Z : World) (p8 bf dn en ob j : Nat) (n no : Int) (X : Value) (F : List Value) (u6 u7 : Value) (xs ys : List Value) (val : Nat → Value) (g : Nat → Value) (b : Below w0.heap.size w0 Z) (x : Nx Z p8 dn en n no) (f : Z.rangeAt bf 0 F) (hf : bf < Z.heap.size) (r3 : Z.ownsRow ob 5 1 u6 j xs) (r7 : Z.ownsRow ob 34 19 u7 j ys) : Ap w0 Z p8 bf dn en ob j n no X F u6 u7 xs ys val (fun _ => False) g Z.drew :=
  have d : Below Z.heap.size Z Z.drew := (Below.refl _ _).drew
  ⟨bthen b d, d.size, x.below d, range_below d hf f, fun _ _ h => h.elim, fun h => h.elim, fun h => h.elim, fun _ => own_below r3 d, fun _ => own_below r7 d, fun h => h.elim, fun h => h.elim, fun h => h.elim⟩
/-- An operation that writes no old block: its value is x. -/
theorem Ap.upd {w0 Z W W' : World} {p8 bf dn en ob j : Nat} {n no : Int} {X : Value} {F : List Value} {u6 u7 : Value} {xs ys : List Value} {val g : Nat → Value} {D : Nat → Prop} (h : Ap w0 Z p8 bf dn en ob j n no X F u6 u7 xs ys val D g W) (hf : bf < Z.heap.size) (i : Nat) (x : Value) (hb : Below W.heap.size W W') (hi : i ≠ 3 ∧ i ≠ 7) (hv : (i ≠ 2 ∧ i ≠ 3 ∧ i ≠ 6 ∧ i ≠ 7) → x = val i)
    (h2 : i = 2 → ∃ b, x = .slice (some ⟨b, 0, none⟩) 1 1 ∧ Z.heap.size ≤ b ∧ b < W'.heap.size ∧ W'.rangeAt b 0 [X]) (h6 : i = 6 → ∃ b, x = .slice (some ⟨b, 0, none⟩) 1 1 ∧ Z.heap.size ≤ b ∧ b < W'.heap.size ∧ W'.rangeAt b 0 F) :
    Ap w0 Z p8 bf dn en ob j n no X F u6 u7 xs ys val (fun j => D j ∨ j = i) (fun j => if j = i then x else g j) W' := by
  have k3 : (if 3 = i then x else g 3) = g 3 := if_neg hi.1.symm
  have k7 : (if 7 = i then x else g 7) = g 7 := if_neg hi.2.symm
  refine ⟨bthen h.b hb, Nat.le_trans h.z hb.size, h.x.below hb, range_below hb (Nat.lt_of_lt_of_le hf h.z) h.f, fun j hn hj => ?_, fun hj => ?_, fun hj => ?_, fun hj => own_below (h.r3 fun hd => hj (.inl hd)) hb, fun hj => own_below (h.r7 fun hd => hj (.inl hd)) hb, fun hj => ?_, fun hj => ?_, fun hj => .inl (h.o7 (hj.resolve_right hi.2.symm))⟩
  · show (if j = i then x else g j) = val j
    by_cases hji : j = i
    · rw [if_pos hji, hv (hji ▸ hn), hji]
    · rw [if_neg hji]
      exact h.e j hn (hj.resolve_right hji)
  · by_cases hji : 2 = i
    · rw [if_pos hji]
      exact h2 hji.symm
    · rw [if_neg hji]
      obtain ⟨b, e, hl0, hl, hr⟩ := h.s2 (hj.resolve_right hji)
      exact ⟨b, e, hl0, Nat.lt_of_lt_of_le hl hb.size, range_below hb hl hr⟩
  · by_cases hji : 6 = i
    · rw [if_pos hji]
      exact h6 hji.symm
    · rw [if_neg hji]
      obtain ⟨b, e, hl0, hl, hr⟩ := h.s6 (hj.resolve_right hji)
      exact ⟨b, e, hl0, Nat.lt_of_lt_of_le hl hb.size, range_below hb hl hr⟩
  · obtain ⟨gg, cap, e, ho, hz⟩ := h.d3 (hj.resolve_right hi.1.symm)
    exact ⟨gg, cap, k3.trans e, own_below ho hb, hz⟩
  · obtain ⟨gg, cap, e, ho, hz⟩ := h.d7 (hj.resolve_right hi.2.symm)
    exact ⟨gg, cap, k7.trans e, own_below ho hb, fun k hk => hz k (k3 ▸ hk)⟩
theorem Ap.app3 {w0 Z W W' : World} {p8 bf dn en ob j : Nat} {n no : Int} {X : Value} {F : List Value} {u6 u7 : Value} {xs ys : List Value} {val g : Nat → Value} {D : Nat → Prop} (h : Ap w0 Z p8 bf dn en ob j n no X F u6 u7 xs ys val D g W) (hp : p8 < Z.heap.size) (hf : bf < Z.heap.size) (q6 : ∀ k, u6.ownBlock = some k → w0.heap.size ≤ k ∧ k < Z.heap.size ∧ k ≠ p8 ∧ k ≠ bf) (q7 : ∀ k, u7.ownBlock = some k → w0.heap.size ≤ k ∧ k < Z.heap.size ∧ k ≠ p8 ∧ k ≠ bf) (q67 : ∀ k, u6.ownBlock = some k → u7.ownBlock ≠ some k) (hn : ¬ D 3) {gg cap : Nat} (ho : W'.ownsRow ob 5 1 (.slice (some ⟨gg, 0, none⟩) (j + 1) cap) (j + 1) (xs ++ [X])) (hg : W.grownBy W' u6.ownBlock) (ha : u6.ownBlock = some gg ∨ gg = W.heap.size) :
    Ap w0 Z p8 bf dn en ob j n no X F u6 u7 xs ys val (fun j => D j ∨ j = 3) (fun i => if i = 3 then .slice (some ⟨gg, 0, none⟩) (j + 1) cap else g i) W' := by
  have hz := h.z
  refine ⟨h.b.grown hg h.b.size (fun k hk => (q6 k hk).1), Nat.le_trans hz hg.size, h.x.block (hg.block p8 (by omega) (fun e => (q6 _ e.symm).2.2.1 rfl)), range_block h.f (hg.block bf (by omega) (fun e => (q6 _ e.symm).2.2.2 rfl)), fun i hi hj => ?_, fun hj => ?_, fun hj => ?_, fun hj => absurd (.inr rfl) hj, fun hj => ?_, fun _ => ⟨gg, cap, if_pos rfl, ho, ha.imp id (fun (e : gg = W.heap.size) => by omega)⟩, fun hj => absurd (h.o7 (hj.resolve_right (by decide))) hn, fun _ => .inr rfl⟩
  · show (if i = 3 then _ else g i) = val i
    rw [if_neg hi.2.1]
    exact h.e i hi (hj.resolve_right hi.2.1)
  · obtain ⟨b, e, hl0, hl, hr⟩ := h.s2 (hj.resolve_right (by decide))
    exact ⟨b, e, hl0, Nat.lt_of_lt_of_le hl hg.size, range_block hr (hg.block b hl (fun e => by have := (q6 b e.symm).2.1; omega))⟩
  · obtain ⟨b, e, hl0, hl, hr⟩ := h.s6 (hj.resolve_right (by decide))
    exact ⟨b, e, hl0, Nat.lt_of_lt_of_le hl hg.size, range_block hr (hg.block b hl (fun e => by have := (q6 b e.symm).2.1; omega))⟩
  · exact own_block (h.r7 (fun hd => hn (h.o7 hd))) (fun k hk => hg.block k (by have := (q7 k hk).2.1; omega) (fun e => q67 k e.symm hk))
theorem Ap.app7 {w0 Z W W' : World} {p8 bf dn en ob j : Nat} {n no : Int} {X : Value} {F : List Value} {u6 u7 : Value} {xs ys : List Value} {val g : Nat → Value} {D : Nat → Prop} (h : Ap w0 Z p8 bf dn en ob j n no X F u6 u7 xs ys val D g W) (hp : p8 < Z.heap.size) (hf : bf < Z.heap.size) (q6 : ∀ k, u6.ownBlock = some k → w0.heap.size ≤ k ∧ k < Z.heap.size ∧ k ≠ p8 ∧ k ≠ bf) (q7 : ∀ k, u7.ownBlock = some k → w0.heap.size ≤ k ∧ k < Z.heap.size ∧ k ≠ p8 ∧ k ≠ bf) (q67 : ∀ k, u6.ownBlock = some k → u7.ownBlock ≠ some k) (hd3 : D 3) {gg cap : Nat} (ho : W'.ownsRow ob 34 19 (.slice (some ⟨gg, 0, none⟩) (j + 1) cap) (j + 1) (ys ++ F)) (hg : W.grownBy W' u7.ownBlock) (ha : u7.ownBlock = some gg ∨ gg = W.heap.size) :
    Ap w0 Z p8 bf dn en ob j n no X F u6 u7 xs ys val (fun j => D j ∨ j = 7) (fun i => if i = 7 then .slice (some ⟨gg, 0, none⟩) (j + 1) cap else g i) W' := by
  have hz := h.z
  obtain ⟨g3, cap3, e3, o3, z3⟩ := h.d3 hd3
  have hl3 := (o3.lt g3 rfl).2
  have hne : ∀ k, u7.ownBlock = some k → g3 ≠ k := fun k hk e => by
    subst e
    rcases z3 with z3 | z3
    · exact q67 _ z3 hk
    · have := (q7 _ hk).2.1
      omega
  refine ⟨h.b.grown hg h.b.size (fun k hk => (q7 k hk).1), Nat.le_trans hz hg.size, h.x.block (hg.block p8 (by omega) (fun e => (q7 _ e.symm).2.2.1 rfl)), range_block h.f (hg.block bf (by omega) (fun e => (q7 _ e.symm).2.2.2 rfl)), fun i hi hj => ?_, fun hj => ?_, fun hj => ?_, fun hj => absurd (.inl hd3) hj, fun hj => absurd (.inr rfl) hj, fun _ => ⟨g3, cap3, e3, own_block o3 (fun k hk => ?_), z3⟩, fun _ => ⟨gg, cap, if_pos rfl, ho, fun k hk => ?_⟩, fun _ => .inl hd3⟩
  · show (if i = 7 then _ else g i) = val i
    rw [if_neg hi.2.2.2]
    exact h.e i hi (hj.resolve_right hi.2.2.2)
  · obtain ⟨b, e, hl0, hl, hr⟩ := h.s2 (hj.resolve_right (by decide))
    exact ⟨b, e, hl0, Nat.lt_of_lt_of_le hl hg.size, range_block hr (hg.block b hl (fun e => by have := (q7 b e.symm).2.1; omega))⟩
  · obtain ⟨b, e, hl0, hl, hr⟩ := h.s6 (hj.resolve_right (by decide))
    exact ⟨b, e, hl0, Nat.lt_of_lt_of_le hl hg.size, range_block hr (hg.block b hl (fun e => by have := (q7 b e.symm).2.1; omega))⟩
  · obtain rfl : g3 = k := by simpa [Value.ownBlock] using hk
    exact hg.block g3 hl3 (fun e => hne _ e.symm rfl)
  · have hk' : (g 3).ownBlock = some k := hk
    rw [e3] at hk'
    obtain rfl : g3 = k := by simpa [Value.ownBlock] using hk'
    rcases ha with ha | ha
    · exact hne _ ha
    · omega
set_option maxRecDepth 100000 in
set_option maxHeartbeats 16000000 in
theorem packets_core (A : Option Addr) (css : List (List Value)) (nw cap m : Nat) (f0 f1 : Int) (w : World) (Hn : Hid (nw = css.length)) (hc : nw ≤ cap) (hmx : cap ≤ maxLen) (hm : (if 100 < (nw : Int) then (100 : Int) else nw) = m) (hm1 : m ≤ nw) (hm2 : m ≤ 100)
    (HRd : Hid (Rd w A 4 css)) (HA : Hid (∀ x ∈ css, All2 [some .u8, some .u16, some .i8, some .u16] x)) (HF0 : Hid (0 ≤ f0 ∧ f0 ≤ 4294967295)) (HF1 : Hid (0 ≤ f1 ∧ f1 ≤ 4294967295)) :
    Calls Try.prog 15 #[.slice A nw cap, .agg #[.int .u32 f0, .int .u32 f1]] w fun e w' => ∃ (v6 v7 : Value) (base : Nat), e = .returned (.tuple #[v6, v7]) ∧ Below w.heap.size w w' ∧ w.heap.size ≤ base ∧ w'.ownsRow base 5 1 v6 m ((mo (css.take m) f0 f1).ds.map (.int .u8)) ∧ w'.ownsRow base 34 19 v7 m ((mo (css.take m) f0 f1).ps.map Pk.row).flatten ∧ (mo (css.take m) f0 f1).ds.length = m ∧ (mo (css.take m) f0 f1).ps.length = m := by
  unfold maxLen at *
  go_enter Try.func15, Try.ntmps15
  go_wp2_with fail
  obtain ⟨W2, hW2⟩ : ∃ W, (w.alloc (.cells #[.int .u32 f0, .int .u32 f1] 43)).alloc (.cells #[.int .u32 f0, .int .u32 f1] 43) = W := ⟨_, rfl⟩
  have b2 : Below w.heap.size w W2 := by rw [← hW2]; exact ((Below.refl _ _).alloc (Nat.le_refl _) _).alloc (by simp) _
  have n0 : W2.cell? ⟨w.heap.size + 1, 0, none⟩ = some (.int .u32 f0) := by rw [← hW2]; simp [go_sem]
  have n1 : W2.cell? ⟨w.heap.size + 1, 1, none⟩ = some (.int .u32 f1) := by rw [← hW2]; simp [go_sem]
  have t2 : W2.there (w.heap.size + 1) 0 2 := by rw [← hW2]; exact there_new _ _ _ _ _ (by simp) rfl
  rw [hW2]
  clear hW2
  obtain ⟨p8, hp8⟩ : ∃ n, w.heap.size + 1 = n := ⟨_, rfl⟩
  rw [hp8] at n0 n1 t2 ⊢
  have hk8 : w.heap.size ≤ p8 := by omega
  clear hp8
  have hx0 : Nx W2 p8 0 1 f0 f1 := ⟨.inl ⟨rfl, rfl⟩, n0, n1, t2, HF0.out, HF1.out⟩
  have hp2 := there_lt t2
  clear n0 n1 t2
  go_loopw [6, 7, 22] (fun v6 v7 i wr => ∃ (j : Nat) (n0 n1 : Int) (ds : List Int) (pl : List Pk) (xs : List Value) (ps : List (List Value)), mo (css.take j) f0 f1 = ⟨ds, pl, n0, n1⟩ ∧ xs = ds.map (.int .u8) ∧ ps = pl.map Pk.row ∧ j ≤ m ∧ i = .int .i64 j ∧ Below w.heap.size w wr ∧ W2.heap.size ≤ wr.heap.size ∧ Nx wr p8 0 1 n0 n1 ∧ xs.length = j ∧ ps.length = j ∧ (∀ k, v6.ownBlock = some k → v7.ownBlock ≠ some k) ∧ wr.ownsRow W2.heap.size 5 1 v6 j xs ∧ wr.ownsRow W2.heap.size 34 19 v7 j ps.flatten) (fun _ _ i _ => m - (intOf i).toNat)
  case atStart => exact ⟨0, f0, f1, [], [], [], [], rfl, rfl, rfl, Nat.zero_le _, rfl, b2, Nat.le_refl _, hx0, rfl, rfl, (fun k hk => by cases hk), ⟨rfl, .inl ⟨rfl, rfl⟩⟩, ⟨rfl, .inl ⟨rfl, rfl⟩⟩⟩
  case round =>
    clear b2 hx0
    obtain ⟨j, n0, n1, ds, pl, xs, ps, hmo, hxs, hps, hj, rfl, hb, hw2, HX0, hxl, hpl, hdis, hown6, hown7⟩ := hrel
    have HO6 := Lib.hid hown6
    have HO7 := Lib.hid hown7
    have HXL := Lib.hid hxl
    have HMO := Lib.hid hmo
    have HXS := Lib.hid hxs
    have HPS := Lib.hid hps
    have HDIS := Lib.hid hdis
    have HPL := Lib.hid hpl
    clear hown6 hown7 hxl hpl hdis hmo hxs hps
    by_cases hjl : j < m
    · obtain ⟨cs, hcs⟩ : ∃ cs, css[j]? = some cs := ⟨_, List.getElem?_eq_getElem (by have := Hn.out; omega)⟩
      obtain ⟨q, off, rfl, hlt, hcell⟩ := (HRd.out.below hb).mem (by rintro rfl; simp at hcs)
      obtain ⟨way, r0, rfl, wa, ha⟩ := all2_int (HA.out cs (List.mem_of_getElem? hcs))
      obtain ⟨lw, r1, rfl, wb, hb1⟩ := all2_int ha
      obtain ⟨bk, r2, rfl, wc', hc1⟩ := all2_int hb1
      obtain ⟨win, r3, rfl, wd, hd1⟩ := all2_int hc1
      obtain rfl := all2_nil hd1
      have HCS := Lib.hid hcs
      have way1 := bounds_u8 wa
      have hlw := bounds_u16 wb
      have hwin := bounds_u16 wd
      have hbk := bounds_i8 wc'
      have z0 := hcell j _ hcs 0 _ rfl
      have z1 := hcell j _ hcs 1 _ rfl
      have z2 := hcell j _ hcs 2 _ rfl
      have z3 := hcell j _ hcs 3 _ rfl
      rw [Nat.add_zero] at z0
      obtain ⟨dn, en, n, no, hsw, hdn, HX⟩ : ∃ (dn en : Nat) (n no : Int), Hid ((dn = 0 ∧ n = n0 ∧ no = n1) ∨ (dn = 1 ∧ n = n1 ∧ no = n0)) ∧ bits .and .u8 way 1 = (dn : Int) ∧ Nx wr p8 dn en n no := by
        rcases and1 way way1 with h | h
        · exact ⟨0, 1, n0, n1, .inl ⟨rfl, rfl, rfl⟩, h, HX0⟩
        · exact ⟨1, 0, n1, n0, .inr ⟨rfl, rfl, rfl⟩, h, HX0.swap⟩
      clear HX0 hcell hcs wa wb wc' wd ha hb1 hc1 hd1 hlt
      have hjm : (j : Int) < (m : Int) := by omega
      have hjd : decide ((j : Int) < (m : Int)) = true := by simpa using hjl
      have hde := HX.de
      have D0 : (0 : Int) ≤ (dn : Int) := by omega
      have D1 : (dn : Int) < 2 := by omega
      have E0 : (0 : Int) ≤ (en : Int) := by omega
      have E1 : (en : Int) < 2 := by omega
      have hds : IntKind.u8.wrap (1 - (dn : Int)) = (en : Int) := by unfold IntKind.wrap; simp [IntKind.bits, IntKind.signed]; omega
      have hds2 : (1 : Int) - (dn : Int) = (en : Int) := by omega
      have hne : dn ≠ en := by omega
      go_upto_region 8 with fail
      obtain ⟨V, hV⟩ : ∃ V, wr.alloc (.cells #[.int .u8 way, .int .u16 lw, .int .i8 bk, .int .u16 win] 46) = V := ⟨_, rfl⟩
      have dV : Below wr.heap.size wr V := by rw [← hV]; exact (Below.refl _ _).alloc (Nat.le_refl _) _
      have RW : V.rangeAt wr.heap.size 0 [.int .u8 way, .int .u16 lw, .int .i8 bk, .int .u16 win] := by rw [← hV]; exact range_new wr _ _
      have HX1 := HX.below dV
      have hpw0 := there_lt HX.t8
      have bV := bthen hb dV
      have zw : wr.heap.size < V.heap.size := by rw [← hV]; simp
      rw [hV]
      obtain ⟨bw, hbw⟩ : ∃ n, wr.heap.size = n := ⟨_, rfl⟩
      rw [hbw] at RW zw hpw0 hw2 ⊢
      clear hV HX hb z0 z1 z2 z3
      have v8 := HX1.n8
      have u8 := HX1.o8
      have rw1 := rc RW (i := 1) rfl
      have rw2 := rc RW (i := 2) rfl
      have rw3 := rc RW (i := 3) rfl
      obtain ⟨bm, hbm⟩ : ∃ x, bk % 4294967296 = x := ⟨_, rfl⟩
      obtain ⟨sq, hsq⟩ : ∃ x, (n + bm) % 4294967296 = x := ⟨_, rfl⟩
      have hbm' : IntKind.u32.wrap bk = bm := by rw [IntKind.wrap_u32']; exact hbm
      have hsq' : IntKind.u32.wrap (n + bm) = sq := by rw [IntKind.wrap_u32']; exact hsq
      refine wp_region_steps 20 [[], [0], [1], [], [3], [4], [5], [2, 6], [], [8], [9], [10], [], [12], [13], [], [15], [16], [7, 11, 14, 17], []] (fun D a w' => ∃ g : Nat → Value, a = ⟨#[.slice (some ⟨q, off, none⟩) nw cap, .agg #[.int .u32 f0, .int .u32 f1], undef, .pointer (some ⟨w.heap.size, 0, none⟩), .slice none 0 0, .slice none 0 0, u6, u7, .pointer (some ⟨p8, 0, none⟩), undef, .pointer (some ⟨bw, 0, none⟩), .int .u8 ↑dn, g 19, u13, u14, .agg #[.int .u32 f0, .int .u32 f1], .slice (some ⟨q, off, none⟩) nw cap, .slice (some ⟨q, off, none⟩) nw cap, .int .i64 ↑nw, .int .i64 ↑m, .slice (some ⟨q, off, none⟩) m cap, .int .i64 ↑m, .int .i64 ↑j, .bool true, .pointer (some ⟨q, off + j * 4, none⟩), .agg #[.int .u8 way, .int .u16 lw, .int .i8 bk, .int .u16 win], .pointer (some ⟨bw, 0, none⟩), .int .u8 way, .int .u8 ↑dn, g 0, g 1, g 2, g 3, g 4, g 5, g 6, g 7, g 8, g 9, g 10, g 11, g 12, g 13, g 14, g 15, g 16, g 17, g 18, u48, u49, u50, u51, u52, u53, u54, u55, u56, u57, u58, u59, u60, u61, u62, u63, u64, u65, u66, u67, u68, u69, u70, u71, u72, u73, u74, u75, u76, u77, u78, u79, u80, u81, u82, u83, u84, u85, u86, undef, undef], []⟩ ∧ Ia V (fun i => (pv8 dn en p8 bw n no lw bk bm sq win).getD i undef) 19 18 D g w') (by kernel_rfl) (by kernel_rfl) ⟨fun i => if i = 0 then u29 else if i = 1 then u30 else if i = 2 then u31 else if i = 3 then u32 else if i = 4 then u33 else if i = 5 then u34 else if i = 6 then u35 else if i = 7 then u36 else if i = 8 then u37 else if i = 9 then u38 else if i = 10 then u39 else if i = 11 then u40 else if i = 12 then u41 else if i = 13 then u42 else if i = 14 then u43 else if i = 15 then u44 else if i = 16 then u45 else if i = 17 then u46 else if i = 18 then u47 else if i = 19 then u12 else undef, rfl, Ia.zero V _ _ 19 18⟩ ?_ ?_
      · simp only [List.take_succ_cons, List.take_zero]
        refine ⟨?_, ?_, ?_, ?_, ?_, ?_, ?_, ?_, ?_, ?_, ?_, ?_, ?_, ?_, ?_, ?_, ?_, ?_, ?_, ?_, trivial⟩
        · intro D a w' hn hp hI
          obtain ⟨g, rfl, hR⟩ := hI
          clear hn hp
          go_wp2_with fail
          exact ⟨fun ix => if ix = 0 then .int .u8 (dn : Int) else g ix, by rfl, hR.upd 0 _ (Below.refl _ _) (fun _ => rfl) (fun h => absurd h (by decide))⟩
        · intro D a w' hn hp hI
          obtain ⟨g, rfl, hR⟩ := hI
          have e0 : g 0 = .int .u8 (dn : Int) := hR.e 0 (by decide) hp.1
          rw [e0]
          clear hn hp
          go_wp2_with fail
          exact ⟨fun ix => if ix = 1 then .pointer (some ⟨p8, dn, none⟩) else g ix, by simp [e0], hR.upd 1 _ (Below.refl _ _) (fun _ => rfl) (fun h => absurd h (by decide))⟩
        · intro D a w' hn hp hI
          obtain ⟨g, rfl, hR⟩ := hI
          have e1 : g 1 = .pointer (some ⟨p8, dn, none⟩) := hR.e 1 (by decide) hp.1
          rw [e1]
          have cc := kc hR.b v8
          clear hn hp
          go_wp2_with fail
          exact ⟨fun ix => if ix = 2 then .int .u32 n else g ix, by simp [e1], hR.upd 2 _ (Below.refl _ _) (fun _ => rfl) (fun h => absurd h (by decide))⟩
        · intro D a w' hn hp hI
          obtain ⟨g, rfl, hR⟩ := hI
          clear hn hp
          go_wp2_with fail
          exact ⟨fun ix => if ix = 3 then .pointer (some ⟨bw, 2, none⟩) else g ix, by rfl, hR.upd 3 _ (Below.refl _ _) (fun _ => rfl) (fun h => absurd h (by decide))⟩
        · intro D a w' hn hp hI
          obtain ⟨g, rfl, hR⟩ := hI
          have e3 : g 3 = .pointer (some ⟨bw, 2, none⟩) := hR.e 3 (by decide) hp.1
          rw [e3]
          have cc := kc hR.b rw2
          clear hn hp
          go_wp2_with fail
          exact ⟨fun ix => if ix = 4 then .int .i8 bk else g ix, by simp [e3], hR.upd 4 _ (Below.refl _ _) (fun _ => rfl) (fun h => absurd h (by decide))⟩
        · intro D a w' hn hp hI
          obtain ⟨g, rfl, hR⟩ := hI
          have e4 : g 4 = .int .i8 bk := hR.e 4 (by decide) hp.1
          rw [e4]
          clear hn hp
          go_wp2_with fail
          exact ⟨fun ix => if ix = 5 then .int .i64 bk else g ix, by simp [e4], hR.upd 5 _ (Below.refl _ _) (fun _ => rfl) (fun h => absurd h (by decide))⟩
        · intro D a w' hn hp hI
          obtain ⟨g, rfl, hR⟩ := hI
          have e5 : g 5 = .int .i64 bk := hR.e 5 (by decide) hp.1
          rw [e5]
          clear hn hp
          go_wp2_with fail
          exact ⟨fun ix => if ix = 6 then .int .u32 bm else g ix, by simp [e5], hR.upd 6 _ (Below.refl _ _) (fun _ => rfl) (fun h => absurd h (by decide))⟩
        · intro D a w' hn hp hI
          obtain ⟨g, rfl, hR⟩ := hI
          have e2 : g 2 = .int .u32 n := hR.e 2 (by decide) hp.1
          have e6 : g 6 = .int .u32 bm := hR.e 6 (by decide) hp.2.1
          rw [e2, e6]
          clear hn hp
          go_wp2_with fail
          exact ⟨fun ix => if ix = 7 then .int .u32 sq else g ix, by simp [e2, e6], hR.upd 7 _ (Below.refl _ _) (fun _ => rfl) (fun h => absurd h (by decide))⟩
        · intro D a w' hn hp hI
          obtain ⟨g, rfl, hR⟩ := hI
          clear hn hp
          go_wp2_with fail
          exact ⟨fun ix => if ix = 8 then .int .u8 (dn : Int) else g ix, by rfl, hR.upd 8 _ (Below.refl _ _) (fun _ => rfl) (fun h => absurd h (by decide))⟩
        · intro D a w' hn hp hI
          obtain ⟨g, rfl, hR⟩ := hI
          have e8 : g 8 = .int .u8 (dn : Int) := hR.e 8 (by decide) hp.1
          rw [e8]
          clear hn hp
          go_wp2_with fail
          exact ⟨fun ix => if ix = 9 then .int .u8 (en : Int) else g ix, by simp [e8], hR.upd 9 _ (Below.refl _ _) (fun _ => rfl) (fun h => absurd h (by decide))⟩
        · intro D a w' hn hp hI
          obtain ⟨g, rfl, hR⟩ := hI
          have e9 : g 9 = .int .u8 (en : Int) := hR.e 9 (by decide) hp.1
          rw [e9]
          clear hn hp
          go_wp2_with fail
          exact ⟨fun ix => if ix = 10 then .pointer (some ⟨p8, en, none⟩) else g ix, by simp [e9], hR.upd 10 _ (Below.refl _ _) (fun _ => rfl) (fun h => absurd h (by decide))⟩
        · intro D a w' hn hp hI
          obtain ⟨g, rfl, hR⟩ := hI
          have e10 : g 10 = .pointer (some ⟨p8, en, none⟩) := hR.e 10 (by decide) hp.1
          rw [e10]
          have cc := kc hR.b u8
          clear hn hp
          go_wp2_with fail
          exact ⟨fun ix => if ix = 11 then .int .u32 no else g ix, by simp [e10], hR.upd 11 _ (Below.refl _ _) (fun _ => rfl) (fun h => absurd h (by decide))⟩
        · intro D a w' hn hp hI
          obtain ⟨g, rfl, hR⟩ := hI
          clear hn hp
          go_wp2_with fail
          exact ⟨fun ix => if ix = 12 then .pointer (some ⟨bw, 1, none⟩) else g ix, by rfl, hR.upd 12 _ (Below.refl _ _) (fun _ => rfl) (fun h => absurd h (by decide))⟩
        · intro D a w' hn hp hI
          obtain ⟨g, rfl, hR⟩ := hI
          have e12 : g 12 = .pointer (some ⟨bw, 1, none⟩) := hR.e 12 (by decide) hp.1
          rw [e12]
          have cc := kc hR.b rw1
          clear hn hp
          go_wp2_with fail
          exact ⟨fun ix => if ix = 13 then .int .u16 lw else g ix, by simp [e12], hR.upd 13 _ (Below.refl _ _) (fun _ => rfl) (fun h => absurd h (by decide))⟩
        · intro D a w' hn hp hI
          obtain ⟨g, rfl, hR⟩ := hI
          have e13 : g 13 = .int .u16 lw := hR.e 13 (by decide) hp.1
          rw [e13]
          clear hn hp
          go_wp2_with fail
          exact ⟨fun ix => if ix = 14 then .int .i64 lw else g ix, by simp [e13], hR.upd 14 _ (Below.refl _ _) (fun _ => rfl) (fun h => absurd h (by decide))⟩
        · intro D a w' hn hp hI
          obtain ⟨g, rfl, hR⟩ := hI
          clear hn hp
          go_wp2_with fail
          exact ⟨fun ix => if ix = 15 then .pointer (some ⟨bw, 3, none⟩) else g ix, by rfl, hR.upd 15 _ (Below.refl _ _) (fun _ => rfl) (fun h => absurd h (by decide))⟩
        · intro D a w' hn hp hI
          obtain ⟨g, rfl, hR⟩ := hI
          have e15 : g 15 = .pointer (some ⟨bw, 3, none⟩) := hR.e 15 (by decide) hp.1
          rw [e15]
          have cc := kc hR.b rw3
          clear hn hp
          go_wp2_with fail
          exact ⟨fun ix => if ix = 16 then .int .u16 win else g ix, by simp [e15], hR.upd 16 _ (Below.refl _ _) (fun _ => rfl) (fun h => absurd h (by decide))⟩
        · intro D a w' hn hp hI
          obtain ⟨g, rfl, hR⟩ := hI
          have e16 : g 16 = .int .u16 win := hR.e 16 (by decide) hp.1
          rw [e16]
          clear hn hp
          go_wp2_with fail
          exact ⟨fun ix => if ix = 17 then .int .i64 win else g ix, by simp [e16], hR.upd 17 _ (Below.refl _ _) (fun _ => rfl) (fun h => absurd h (by decide))⟩
        · intro D a w' hn hp hI
          obtain ⟨g, rfl, hR⟩ := hI
          have e7 : g 7 = .int .u32 sq := hR.e 7 (by decide) hp.1
          have e11 : g 11 = .int .u32 no := hR.e 11 (by decide) hp.2.1
          have e14 : g 14 = .int .i64 lw := hR.e 14 (by decide) hp.2.2.1
          have e17 : g 17 = .int .i64 win := hR.e 17 (by decide) hp.2.2.2.1
          rw [e7, e11, e14, e17]
          clear hn hp
          go_wp2_with fail
          exact ⟨fun ix => if ix = 18 then .agg (spk 0 sq no win lw) else g ix, by simp [e7, e11, e14, e17, spk], hR.upd 18 _ (Below.refl _ _) (fun _ => rfl) (fun h => absurd h (by decide))⟩
        · intro D a w' hn hp hI
          obtain ⟨g, rfl, hR⟩ := hI
          clear hn hp
          go_wp2_with fail
          exact ⟨fun ix => if ix = 19 then .pointer (some ⟨w'.heap.size, 0, none⟩) else g ix, by rfl, hR.upd 19 _ ((Below.refl _ _).alloc (Nat.le_refl _) _) (fun h => absurd rfl h) (fun _ => ⟨_, rfl, hR.b.size, by simp, there_new _ _ _ _ _ rfl rfl⟩)⟩
      intro D a w' hD hI
      obtain ⟨g8, rfl, hR⟩ := hI
      have e18 : g8 18 = .agg (spk 0 sq no win lw) := hR.e 18 (by decide) (hD 18 (by decide))
      obtain ⟨bf, e19, lf0, lf, tf⟩ := hR.m (hD 19 (by decide))
      rw [e18, e19]
      have dR := hR.b
      clear hD hR e18 e19 v8 u8 rw1 rw2 rw3 hbm' hsq'
      simp only [List.drop_succ_cons, List.drop_zero]
      refine wpList_store_wide 34 (.tmp 12) (.tmp 47) rfl rfl bf 0 (spk 0 sq no win lw) rfl rfl V.heap.size V (by rw [info34]; rfl) (by simp [spk, Value.oneCell']) dR lf0 tf ?_
      intro X dX zX RF kX tX cX
      have HX2 := HX1.below dX
      have RW2 := range_below dX zw RW
      have TF := tX _ _ _ tf
      have b3 := bthen bV dX
      have hwV := bV.size
      have zf : bf < X.heap.size := by omega
      have zw2 := Nat.lt_of_lt_of_le zw dX.size
      have hf8 : bf ≠ p8 := by have := there_lt HX1.t8; omega
      have hfw : bf ≠ bw := by omega
      have hfo : V.heap.size ≤ bf := lf0
      clear kX tX cX zX dR lf tf HX1 bV RW lf0
      go_wp2_with fail
      obtain ⟨Y, hY⟩ : ∃ Y, X.alloc (.cells #[.int .u8 16, .int .u8 2, .int .u8 1] 5) = Y := ⟨_, rfl⟩
      have dY : Below X.heap.size X Y := by rw [← hY]; exact (Below.refl _ _).alloc (Nat.le_refl _) _
      have RS : Y.rangeAt X.heap.size 0 [.int .u8 16, .int .u8 2, .int .u8 1] := by rw [← hY]; exact range_new X _ _
      have zs : X.heap.size < Y.heap.size := by rw [← hY]; simp
      rw [hY]
      obtain ⟨bs, hbs⟩ : ∃ n, X.heap.size = n := ⟨_, rfl⟩
      rw [hbs] at RS zs ⊢
      have dall := bthen (bthen dV dX) dY
      have hfb : bf ≠ bs := by omega
      have hk6 : ∀ k, u6.ownBlock = some k → k ≠ bf := fun k hk => by have := (HO6.out.lt k hk).2; have := dV.size; omega
      have hk7 : ∀ k, u7.ownBlock = some k → k ≠ bf := fun k hk => by have := (HO7.out.lt k hk).2; have := dV.size; omega
      have hq6 : ∀ k, u6.ownBlock = some k → k ≠ p8 := fun k hk => by have := (HO6.out.lt k hk).1; omega
      have hq7 : ∀ k, u7.ownBlock = some k → k ≠ p8 := fun k hk => by have := (HO7.out.lt k hk).1; omega
      have hpw : p8 ≠ bw := by omega
      have hps : p8 ≠ bs := by omega
      have h0f : w.heap.size ≤ bf := by have := b3.size; have := dV.size; omega
      have hwb : bw < Y.heap.size := by omega
      have hL : Lo w Y p8 bw bf bs dn en W2.heap.size n no [.int .u8 way, .int .u16 lw, .int .i8 bk, .int .u16 win] 0 sq win lw u6 u7 j xs ps.flatten := ⟨bthen b3 dY, HX2.below dY, range_below dY (by omega) RW2, RS, range_below dY (by omega) RF, there_below dY (by omega) TF, own_below HO6.out dall, own_below HO7.out dall⟩
      clear hY HX2 RW2 RF TF RS dY dX dV b3 zw2 zf dall HO6 HO7
      go_loopw [50] (fun i W => ∃ c : Nat, c ≤ 3 ∧ i = .int .i64 c ∧ Lo w W p8 bw bf bs dn en W2.heap.size n no [.int .u8 way, .int .u16 lw, .int .i8 bk, .int .u16 win] (flg way c) sq win lw u6 u7 j xs ps.flatten) (fun i _ => 3 - (intOf i).toNat)
      case atStart => exact ⟨0, by omega, rfl, hL⟩
      case round =>
        clear hL
        obtain ⟨c, hc3, rfl, hL⟩ := hrel
        by_cases hcl : c < 3
        · have hcd : decide ((c : Int) < 3) = true := by simp; omega
          have hfk2 := flag_at c hcl
          obtain ⟨fk, hfk⟩ : ∃ x, fkk c = x := ⟨_, rfl⟩
          rw [hfk] at hfk2
          obtain ⟨fl, hfl⟩ : ∃ x, flg way c = x := ⟨_, rfl⟩
          rw [hfl] at hL
          obtain ⟨tb, htb⟩ : ∃ x, (bits .and .u8 (way / 2 ^ (c + 1)) 1 == 1) = x := ⟨_, rfl⟩
          have c0 := rc hL.w (i := 0) rfl
          have ck := rc hL.s hfk2
          have cf := rc hL.f (i := 6) rfl
          have ff := by simpa using (hL.t 6 (by decide)).2
          have C0 : (0 : Int) ≤ (c : Int) := by omega
          have C1 : (c : Int) < 3 := by omega
          have HL := Lib.hid hL
          have HT := Lib.hid (show flg way (c + 1) = if tb then bits .or .u8 fl fk else fl by show (if tst way c then _ else _) = _; rw [show tst way c = tb from htb, hfl, hfk])
          clear hL
          cases tb
          · go_wp2_with fail
            all_goals
              go_roundw
              case rel => exact ⟨c + 1, by omega, by go_num, by rw [HT.out]; exact HL.out⟩
              case measure => simp [intOf]; omega
          · go_wp2_with fail
            all_goals
              go_roundw
              case rel => exact ⟨c + 1, by omega, by go_num, by rw [HT.out]; exact HL.out.setf _ h0f hf8 hfw hfb hk6 hk7⟩
              case measure => simp [intOf]; omega
        · obtain rfl : c = 3 := by omega
          rw [show ((3 : Nat) : Int) = 3 from rfl]
          have hcd : decide ((3 : Int) < 3) = false := by decide
          have c2 := rc hL.w (i := 2) rfl
          obtain ⟨fl, hfl⟩ : ∃ x, flg way 3 = x := ⟨_, rfl⟩
          rw [hfl] at hL
          obtain ⟨zb, hzb⟩ : ∃ x, (bk == 0) = x := ⟨_, rfl⟩
          generalize wr = U at *
          go_upto_if 70 with fail
          have hG := fa_spk fl sq no win lw (hfl ▸ flg_range way) (by omega) hL.x.ho hwin hlw
          have HG := Lib.hid hG
          obtain ⟨rm, hrm⟩ : ∃ x, room fl lw = x := ⟨_, rfl⟩
          have HRoom : Hid (∀ W, Calls Try.prog 18 #[.agg (spk fl sq no win lw)] W fun e w' => e = .returned (.int .u32 rm) ∧ Below W.heap.size W w') := fun W => hrm ▸ room_below _ fl sq no win lw hG W
          obtain ⟨n2, hn2⟩ : ∃ x, (n + rm) % 4294967296 = x := ⟨_, rfl⟩
          have hn2' : IntKind.u32.wrap (n + rm) = n2 := by rw [IntKind.wrap_u32']; exact hn2
          have hwU : bw < U.heap.size := range_lt hL.w
          have hsU : bs < U.heap.size := range_lt hL.s
          clear hG
          go_cut [] (fun wx => ∃ n' : Int, (n' = if bk = 0 then n2 else n) ∧ Lo w wx p8 bw bf bs dn en W2.heap.size n' no [.int .u8 way, .int .u16 lw, .int .i8 bk, .int .u16 win] fl sq win lw u6 u7 j xs ps.flatten)
          case first =>
            cases zb
            · have hz : bk ≠ 0 := by intro e; rw [e] at hzb; simp at hzb
              go_wp2_with fail
              go_meet
              exact ⟨n, by rw [if_neg hz], hL⟩
            · have HZ := Lib.hid (show bk = 0 by simpa using hzb)
              clear hzb
              go_wp2_with fail
              have v8 := hL.x.n8
              have hRF := hL.f
              have hfl8 := there_lt hL.t
              refine wp_region_steps 7 [[], [0], [1], [], [3], [2, 4], [0]] (fun D a w' => ∃ g : Nat → Value, a = ⟨#[.slice (some ⟨q, off, none⟩) nw cap, .agg #[.int .u32 f0, .int .u32 f1], undef, .pointer (some ⟨w.heap.size, 0, none⟩), .slice none 0 0, .slice none 0 0, u6, u7, .pointer (some ⟨p8, 0, none⟩), undef, .pointer (some ⟨bw, 0, none⟩), .int .u8 ↑dn, .pointer (some ⟨bf, 0, none⟩), u13, u14, .agg #[.int .u32 f0, .int .u32 f1], .slice (some ⟨q, off, none⟩) nw cap, .slice (some ⟨q, off, none⟩) nw cap, .int .i64 ↑nw, .int .i64 ↑m, .slice (some ⟨q, off, none⟩) m cap, .int .i64 ↑m, .int .i64 ↑j, .bool true, .pointer (some ⟨q, off + j * 4, none⟩), .agg #[.int .u8 way, .int .u16 lw, .int .i8 bk, .int .u16 win], .pointer (some ⟨bw, 0, none⟩), .int .u8 way, .int .u8 ↑dn, g8 0, g8 1, g8 2, g8 3, g8 4, g8 5, g8 6, g8 7, g8 8, g8 9, g8 10, g8 11, g8 12, g8 13, g8 14, g8 15, g8 16, g8 17, .agg (spk 0 sq no win lw), .slice (some ⟨bs, 0, none⟩) 3 3, .int .i64 3, .int .i64 3, .bool false, u52, u53, u54, u55, u56, u57, u58, u59, u60, u61, u62, u63, u64, u65, u66, u67, .pointer (some ⟨bw, 2, none⟩), .int .i8 bk, .bool true, g 0, g 1, g 2, g 3, g 4, g 5, g 6, u78, u79, u80, u81, u82, u83, u84, u85, u86, undef, undef], []⟩ ∧ Iv U (fun i => (pv16 dn p8 n no fl sq win lw rm n2).getD i undef) D g w') (by kernel_rfl) (by kernel_rfl) ⟨fun i => if i = 0 then u71 else if i = 1 then u72 else if i = 2 then u73 else if i = 3 then u74 else if i = 4 then u75 else if i = 5 then u76 else if i = 6 then u77 else undef, rfl, Iv.zero U _ _⟩ ?_ ?_
              · simp only [List.take_succ_cons, List.take_zero]
                refine ⟨?_, ?_, ?_, ?_, ?_, ?_, ?_, trivial⟩
                · intro D a w' hn hp hI
                  obtain ⟨g, rfl, hR⟩ := hI
                  clear hn hp
                  go_wp2_with fail
                  exact ⟨fun ix => if ix = 0 then .int .u8 (dn : Int) else g ix, by rfl, hR.step 0 _ rfl (Below.refl _ _)⟩
                · intro D a w' hn hp hI
                  obtain ⟨g, rfl, hR⟩ := hI
                  have e0 : g 0 = .int .u8 (dn : Int) := hR.e 0 hp.1
                  rw [e0]
                  clear hn hp
                  go_wp2_with fail
                  exact ⟨fun ix => if ix = 1 then .pointer (some ⟨p8, dn, none⟩) else g ix, by simp [e0], hR.step 1 _ rfl (Below.refl _ _)⟩
                · intro D a w' hn hp hI
                  obtain ⟨g, rfl, hR⟩ := hI
                  have e1 : g 1 = .pointer (some ⟨p8, dn, none⟩) := hR.e 1 hp.1
                  rw [e1]
                  have cc := kc hR.b v8
                  clear hn hp
                  go_wp2_with fail
                  exact ⟨fun ix => if ix = 2 then .int .u32 n else g ix, by simp [e1], hR.step 2 _ rfl (Below.refl _ _)⟩
                · intro D a w' hn hp hI
                  obtain ⟨g, rfl, hR⟩ := hI
                  have rr := range_below hR.b hfl8 hRF
                  clear hn hp
                  go_wp2_with (first | (refine wpList_load_wide 34 _ rfl (by rfl) _ _ rfl (spk fl sq no win lw) _ Try.underlying34 rfl HG.out.hi ?_ ?_; · with_reducible assumption))
                  exact ⟨fun ix => if ix = 3 then .agg (spk fl sq no win lw) else g ix, by rfl, hR.step 3 _ rfl (Below.refl _ _)⟩
                · intro D a w' hn hp hI
                  obtain ⟨g, rfl, hR⟩ := hI
                  have e3 : g 3 = .agg (spk fl sq no win lw) := hR.e 3 hp.1
                  rw [e3]
                  clear hn hp
                  go_wp2_with fail
                  refine (HRoom.out _).mono ?_
                  rintro e w'' ⟨rfl, hb9⟩
                  go_wp2_with fail
                  exact ⟨fun ix => if ix = 4 then .int .u32 rm else g ix, by simp [e3], hR.step 4 _ rfl hb9⟩
                · intro D a w' hn hp hI
                  obtain ⟨g, rfl, hR⟩ := hI
                  have e2 : g 2 = .int .u32 n := hR.e 2 hp.1
                  have e4 : g 4 = .int .u32 rm := hR.e 4 hp.2.1
                  rw [e2, e4]
                  clear hn hp
                  go_wp2_with fail
                  exact ⟨fun ix => if ix = 5 then .int .u32 n2 else g ix, by simp [e2, e4], hR.step 5 _ rfl (Below.refl _ _)⟩
                · intro D a w' hn hp hI
                  obtain ⟨g, rfl, hR⟩ := hI
                  have e0 : g 0 = .int .u8 (dn : Int) := hR.e 0 hp.1
                  rw [e0]
                  clear hn hp
                  go_wp2_with fail
                  exact ⟨fun ix => if ix = 6 then .pointer (some ⟨p8, dn, none⟩) else g ix, by simp [e0], hR.step 6 _ rfl (Below.refl _ _)⟩
              intro D a w' hD hI
              obtain ⟨g16, rfl, hR⟩ := hI
              have e5 : g16 5 = .int .u32 n2 := hR.e 5 (hD 5 (by decide))
              have e6 : g16 6 = .pointer (some ⟨p8, dn, none⟩) := hR.e 6 (hD 6 (by decide))
              rw [e5, e6]
              have hL2 := hL.below hR.b hwU hsU
              clear hD hR e5 e6 hL
              simp only [List.drop_succ_cons, List.drop_zero]
              have y8 := hL2.x.n8
              have fy8 : w'.frozen? ⟨p8, dn, none⟩ = false := by simpa using (hL2.x.t8 dn (by omega)).2
              go_wp2_with fail
              go_meet
              exact ⟨n2, by rw [if_pos HZ.out], hL2.setn n2 (by omega) hk8 hf8 hpw hps hq6 hq7⟩
          case rest =>
            obtain ⟨n', hn', hL'⟩ := hcut
            have HN' := Lib.hid hn'
            generalize wc = Z at *
            clear hL hn' hzb
            go_wp2_with fail
            obtain ⟨i5, hi5, hz5, hs5, hy5⟩ := info_parts info5b
            obtain ⟨i34, hi34, hz34, hs34, hy34⟩ := info_parts info34b
            have hfZ : bf < Z.heap.size := there_lt hL'.t
            have hpZ : p8 < Z.heap.size := there_lt hL'.x.t8
            have q6 : ∀ k, u6.ownBlock = some k → w.heap.size ≤ k ∧ k < Z.heap.size ∧ k ≠ p8 ∧ k ≠ bf := fun k hk => ⟨by have := (hL'.o6.lt k hk).1; omega, (hL'.o6.lt k hk).2, hq6 k hk, hk6 k hk⟩
            have q7 : ∀ k, u7.ownBlock = some k → w.heap.size ≤ k ∧ k < Z.heap.size ∧ k ≠ p8 ∧ k ≠ bf := fun k hk => ⟨by have := (hL'.o7.lt k hk).1; omega, (hL'.o7.lt k hk).2, hq7 k hk, hk7 k hk⟩
            have Q6 := Lib.hid q6
            have Q7 := Lib.hid q7
            have hbase : W2.heap.size ≤ Z.heap.size := by omega
            have h5 := Lib.hid (And.intro hi5 (And.intro hz5 (And.intro hs5 hy5)))
            have h34 := Lib.hid (And.intro hi34 (And.intro hz34 (And.intro hs34 hy34)))
            clear q6 q7 hi5 hz5 hs5 hy5 hi34 hz34 hs34 hy34 hk6 hk7 hq6 hq7
            have HL' := Lib.hid hL'
            clear hL'
            refine wp_region_steps 8 [[], [], [1], [0, 2], [], [], [5], [3, 4, 6]] (fun D a w' => ∃ gq : Nat → Value, a = ⟨#[.slice (some ⟨q, off, none⟩) nw cap, .agg #[.int .u32 f0, .int .u32 f1], undef, .pointer (some ⟨w.heap.size, 0, none⟩), .slice none 0 0, .slice none 0 0, u6, u7, .pointer (some ⟨p8, 0, none⟩), undef, .pointer (some ⟨bw, 0, none⟩), .int .u8 ↑dn, .pointer (some ⟨bf, 0, none⟩), u13, u14, .agg #[.int .u32 f0, .int .u32 f1], .slice (some ⟨q, off, none⟩) nw cap, .slice (some ⟨q, off, none⟩) nw cap, .int .i64 ↑nw, .int .i64 ↑m, .slice (some ⟨q, off, none⟩) m cap, .int .i64 ↑m, .int .i64 ↑j, u23, u24, u25, u26, u27, u28, u29, u30, u31, u32, u33, u34, u35, u36, u37, u38, u39, u40, u41, u42, u43, u44, u45, u46, u47, .slice (some ⟨bs, 0, none⟩) 3 3, .int .i64 3, .int .i64 3, u51, u52, u53, u54, u55, u56, u57, u58, u59, u60, u61, u62, u63, u64, u65, u66, u67, u68, u69, u70, u71, u72, u73, u74, u75, u76, u77, gq 0, gq 1, gq 2, gq 3, gq 4, gq 5, gq 6, gq 7, u86, undef, undef], []⟩ ∧ Ap w Z p8 bf dn en W2.heap.size j n' no (.int .u8 (dn : Int)) (spk fl sq no win lw).toList u6 u7 xs ps.flatten (fun i => (pv17 dn fl sq no win lw u6 u7).getD i undef) D gq w') (by kernel_rfl) (by kernel_rfl) ⟨fun i => if i = 0 then u78 else if i = 1 then u79 else if i = 2 then u80 else if i = 3 then u81 else if i = 4 then u82 else if i = 5 then u83 else if i = 6 then u84 else if i = 7 then u85 else undef, rfl, Ap.zero _ _ _ _ _ _ _ _ _ _ _ _ _ _ _ _ _ _ HL'.out.b HL'.out.x HL'.out.f hfZ HL'.out.o6 HL'.out.o7⟩ ?_ ?_
            · simp only [List.take_succ_cons, List.take_zero]
              refine ⟨?_, ?_, ?_, ?_, ?_, ?_, ?_, ?_, trivial⟩
              · intro D a w' hn hp hI
                obtain ⟨gq, rfl, hR⟩ := hI
                clear hn hp
                go_wp2_with fail
                exact ⟨fun ix => if ix = 0 then u6 else gq ix, by rfl, hR.upd hfZ 0 (u6) (Below.refl _ _) (by decide) (fun _ => rfl) (fun h => absurd h (by decide)) (fun h => absurd h (by decide))⟩
              · intro D a w' hn hp hI
                obtain ⟨gq, rfl, hR⟩ := hI
                clear hn hp
                go_wp2_with fail
                exact ⟨fun ix => if ix = 1 then .int .u8 (dn : Int) else gq ix, by rfl, hR.upd hfZ 1 (.int .u8 (dn : Int)) (Below.refl _ _) (by decide) (fun _ => rfl) (fun h => absurd h (by decide)) (fun h => absurd h (by decide))⟩
              · intro D a w' hn hp hI
                obtain ⟨gq, rfl, hR⟩ := hI
                have e1 : gq 1 = .int .u8 (dn : Int) := hR.e 1 (by decide) hp.1
                rw [e1]
                clear hn hp
                go_wp2_with fail
                exact ⟨fun ix => if ix = 2 then .slice (some ⟨w'.heap.size, 0, none⟩) 1 1 else gq ix, by simp [e1], hR.upd hfZ 2 (.slice (some ⟨w'.heap.size, 0, none⟩) 1 1) ((Below.refl _ _).alloc (Nat.le_refl _) _) (by decide) (fun h => absurd rfl h.1) (fun _ => ⟨_, rfl, hR.z, by simp, range_new _ _ _⟩) (fun h => absurd h (by decide))⟩
              · intro D a w' hn hp hI
                obtain ⟨gq, rfl, hR⟩ := hI
                have e0 : gq 0 = u6 := hR.e 0 (by decide) hp.1
                obtain ⟨bb, e2, lb0, lb, rb⟩ := hR.s2 hp.2.1
                rw [e0, e2]
                have hr3 := hR.r3 hn
                have hzz := hR.z
                go_wp2_with (at_builtin; refine wpList_append_lies _ rfl (.tmp 78) (.tmp 80) 41 rfl W2.heap.size 5 i5 _ 1 1 Try.underlying41 h5.out.1 h5.out.2.1 h5.out.2.2.1 h5.out.2.2.2 rfl (by decide) _ j xs rfl hr3 ⟨bb, 0, none⟩ 1 1 [(.int .u8 (dn : Int))] rfl rfl (fun jj uu hu => by rw [Go.WideShapes.add_plain]; exact rb jj uu hu) (by intro u hu; simp at hu; subst hu; rfl) (by decide) (by unfold maxLen; omega) (by omega) (by omega) _ rfl ?_; intro gg cp w9 hown9 hgrow hat9 hlt9)
                exact ⟨fun ix => if ix = 3 then .slice (some ⟨gg, 0, none⟩) (j + 1) cp else gq ix, by simp [e0, e2], hR.app3 hpZ hfZ Q6.out Q7.out HDIS.out hn hown9 hgrow hat9⟩
              · intro D a w' hn hp hI
                obtain ⟨gq, rfl, hR⟩ := hI
                clear hn hp
                go_wp2_with fail
                exact ⟨fun ix => if ix = 4 then u7 else gq ix, by rfl, hR.upd hfZ 4 (u7) (Below.refl _ _) (by decide) (fun _ => rfl) (fun h => absurd h (by decide)) (fun h => absurd h (by decide))⟩
              · intro D a w' hn hp hI
                obtain ⟨gq, rfl, hR⟩ := hI
                have rr := hR.f
                clear hn hp
                go_wp2_with (first | (refine wpList_load_wide 34 _ rfl (by rfl) _ _ rfl (spk fl sq no win lw) _ Try.underlying34 rfl HG.out.hi ?_ ?_; · with_reducible assumption))
                exact ⟨fun ix => if ix = 5 then .agg (spk fl sq no win lw) else gq ix, by rfl, hR.upd hfZ 5 (.agg (spk fl sq no win lw)) (Below.refl _ _) (by decide) (fun _ => rfl) (fun h => absurd h (by decide)) (fun h => absurd h (by decide))⟩
              · intro D a w' hn hp hI
                obtain ⟨gq, rfl, hR⟩ := hI
                have e5 : gq 5 = .agg (spk fl sq no win lw) := hR.e 5 (by decide) hp.1
                rw [e5]
                clear hn hp
                refine wpList_buildWide rfl 36 34 1 19 #[(0, .tmp 83)] rfl [(spk fl sq no win lw).toList] w'.heap.size rfl (some 84) rfl i34 _ Try.underlying36 h34.out.1 h34.out.2.1 h34.out.2.2.1 (by decide) (by decide) rfl (by decide) ?_ ?_ ?_
                · first | kernel_rfl | (rw [Array.toList_map]; kernel_rfl) | (simp [spk]; done)
                · intro l hl
                  simp at hl
                  subst hl
                  rfl
                go_wp2_with fail
                exact ⟨fun ix => if ix = 6 then .slice (some ⟨w'.heap.size, 0, none⟩) 1 1 else gq ix, by simp [e5], hR.upd hfZ 6 (.slice (some ⟨w'.heap.size, 0, none⟩) 1 1) ((Below.refl _ _).alloc (Nat.le_refl _) _) (by decide) (fun h => absurd rfl h.2.2.1) (fun h => absurd h (by decide)) (fun _ => ⟨_, rfl, hR.z, by simp, range_new _ _ _⟩)⟩
              · intro D a w' hn hp hI
                obtain ⟨gq, rfl, hR⟩ := hI
                have e4 : gq 4 = u7 := hR.e 4 (by decide) hp.2.1
                obtain ⟨bb, e6, lb0, lb, rb⟩ := hR.s6 hp.2.2.1
                rw [e4, e6]
                have hr7 := hR.r7 hn
                have hzz := hR.z
                have hd3 := hp.1
                go_wp2_with (at_builtin; (refine wpList_append_lies _ rfl (.tmp 82) (.tmp 84) 36 rfl W2.heap.size 34 i34 _ 19 72 Try.underlying36 h34.out.1 h34.out.2.1 h34.out.2.2.1 h34.out.2.2.2 rfl (by decide) _ j ps.flatten rfl hr7 ⟨bb, 0, none⟩ 1 1 (spk fl sq no win lw).toList rfl rfl (fun jj uu hu => by rw [Go.WideShapes.add_plain]; exact rb jj uu hu) (spk_one fl sq no win lw) (by decide) (by unfold maxLen; omega) (by omega) (by omega) _ rfl ?_); intro gg cp w9 hown9 hgrow hat9 hlt9)
                exact ⟨fun ix => if ix = 7 then .slice (some ⟨gg, 0, none⟩) (j + 1) cp else gq ix, by simp [e4, e6], hR.app7 hpZ hfZ Q6.out Q7.out HDIS.out hd3 hown9 hgrow hat9⟩
            intro D a w' hD hI
            obtain ⟨g17, rfl, hR⟩ := hI
            obtain ⟨k6, cp6, e3, ho6, _⟩ := hR.d3 (hD 3 (by decide))
            obtain ⟨k7, cp7, e7, ho7, hdd⟩ := hR.d7 (hD 7 (by decide))
            rw [e3] at hdd
            rw [e3, e7]
            have hbz := hR.b
            have hzw := hR.z
            have hxz := hR.x
            clear hD hR e3 e7
            simp only [List.drop_succ_cons, List.drop_zero]
            go_wp2_with fail
            have hms := mo_succ css f0 f1 j _ HCS.out
            rw [HMO.out] at hms
            have hwd : wd [.int .u8 way, .int .u16 lw, .int .i8 bk, .int .u16 win] = ⟨way, lw, bk, win⟩ := rfl
            rw [hwd] at hms
            unfold Mo.step at hms
            dsimp only at hms
            rw [hdn, hfl, hrm, hbm] at hms
            have HMS := Lib.hid hms
            have hkk : ∀ k : Nat, (Value.slice (some ⟨k6, 0, none⟩) (j + 1) cp6).ownBlock = some k → (Value.slice (some ⟨k7, 0, none⟩) (j + 1) cp7).ownBlock ≠ some k := fun k hk e => hdd k hk (by simpa [Value.ownBlock] using e.symm)
            have hsz2 : W2.heap.size ≤ w'.heap.size := Nat.le_trans hbase hzw
            clear hms hwd hdd
            go_roundw
            case rel =>
              have hN := HN'.out
              have hde2 := hxz.de
              rcases hsw.out with ⟨h1, h2, h3⟩ | ⟨h1, h2, h3⟩
              · have hms := HMS.out
                rw [h1, if_pos (by decide), ← h2, ← h3, hsq, hn2, ← hN] at hms
                refine ⟨j + 1, n', no, ds ++ [0], pl ++ [⟨fl, sq, no, win, lw⟩], xs ++ [.int .u8 (dn : Int)], ps ++ [(spk fl sq no win lw).toList], hms, ?_, ?_, by omega, by go_num, hbz, hsz2, ?_, ?_, ?_, hkk, ho6, ?_⟩
                · rw [HXS.out, h1]; simp
                · rw [HPS.out]; simp [Pk.row]
                · have h4 : en = 1 := by omega
                  rw [h1, h4] at hxz
                  exact hxz
                · have := HXL.out; simp [this]
                · have := HPL.out; simp [this]
                · rw [List.flatten_append, List.flatten_singleton]; exact ho7
              · have hms := HMS.out
                rw [h1, if_neg (by decide), ← h2, ← h3, hsq, hn2, ← hN] at hms
                refine ⟨j + 1, no, n', ds ++ [1], pl ++ [⟨fl, sq, no, win, lw⟩], xs ++ [.int .u8 (dn : Int)], ps ++ [(spk fl sq no win lw).toList], hms, ?_, ?_, by omega, by go_num, hbz, hsz2, ?_, ?_, ?_, hkk, ho6, ?_⟩
                · rw [HXS.out, h1]; simp
                · rw [HPS.out]; simp [Pk.row]
                · have h4 : en = 0 := by omega
                  have h5 := hxz.swap
                  rw [h1, h4] at h5
                  exact h5
                · have := HXL.out; simp [this]
                · have := HPL.out; simp [this]
                · rw [List.flatten_append, List.flatten_singleton]; exact ho7
            case measure => simp [intOf]; omega
    · obtain rfl : j = m := by omega
      have hjd : decide ((j : Int) < (j : Int)) = false := by simp
      go_wp2_with fail
      go_ret2
      refine ⟨u6, u7, W2.heap.size, rfl, hb, by omega, ?_, ?_, ?_, ?_⟩
      · rw [HMO.out, ← HXS.out]; exact HO6.out
      · rw [HMO.out]; show wr.ownsRow _ _ _ _ _ (pl.map Pk.row).flatten; rw [← HPS.out]; exact HO7.out
      · rw [HMO.out]; have h := HXL.out; rw [HXS.out, List.length_map] at h; exact h
      · rw [HMO.out]; have h := HPL.out; rw [HPS.out, List.length_map] at h; exact h

end Go.Proofs.Ytchephpmkommfaa

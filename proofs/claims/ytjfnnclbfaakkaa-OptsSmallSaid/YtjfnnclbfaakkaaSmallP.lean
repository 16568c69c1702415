/-
  Parts of OptsSmall's walk. Conditions: those of the theorems.
-/
import Derived.Test.YtjfnnclbfaakkaaTells
import Derived.Test.YtjfnnclbfaakkaaReads
import Derived.Test.YtjfnnclbfaakkaaWrites
import Derived.Test.YtjfnnclbfaakkaaPart
namespace Go.Proofs.Ytjfnnclbfaakkaa
open Go.RowKit
set_option linter.unusedVariables false
set_option linter.unusedSimpArgs false

theorem by_blk_s {w : World} {b : Nat} {F : Array Value} {t : TypeId} {d : List Int} (h : w.heap[b]? = some (.cells F t (0, 0))) (hF : F.toList = d.map (Value.int .u8)) (hr : ∀ x ∈ d, 0 ≤ x ∧ x ≤ 255) : By w (some ⟨b, 0, none⟩) d :=
  ⟨hr, fun _ => ⟨b, 0, rfl, blk_lt h, fun i x hi => by rw [Nat.zero_add, blk_cell h i, ← Array.getElem?_toList, hF, List.getElem?_map, hi]; rfl⟩⟩
theorem made_rep_s (m : Nat) : madeCells (Value.int .u8 0).cells (m * 1) = (List.replicate m (Value.int .u8 0)).toArray := by
  apply Array.ext
  · simp [madeCells]
  · intro i h1 h2
    simp [madeCells, Value.cells, Nat.mod_one]
theorem info5s : ∃ i, Try.prog.info? 5 = some i ∧ i.zero = some (.int .u8 0) ∧ i.size = 1 ∧ i.bytes = 1 := info_parts info5b
theorem mk_bytes_s (k : IntKind) (x : Int) (m : Nat) (h : x = m) (hm : m ≤ 2 ^ 40) (w : World) : (Instr.makeSlice 22 (.int k x) (.int k x)).run Try.prog w = .ok (.slice (some ⟨w.heap.size, 0, none⟩) m m) (w.alloc (.cells (List.replicate m (Value.int .u8 0)).toArray 5)) := by
  obtain ⟨i0, hi, hz0, hz1, hz2⟩ := info5s
  subst h
  have hr := run_make (P := Try.prog) w 22 5 i0 (.int .u8 0) Try.underlying22 hi hz0 k k (m : Int) (m : Int) (by omega) (Int.le_refl _) (by rw [hz2]; omega) (by omega)
  rw [hz1, Int.toNat_natCast, made_rep_s] at hr
  exact hr
theorem rep_by {W : World} {q m : Nat} (h : W.heap[q]? = some (.cells (List.replicate m (Value.int .u8 0)).toArray 5 (0, 0))) : By W (some ⟨q, 0, none⟩) (List.replicate m 0) :=
  by_blk_s h (by simp) fun x hx => by
    have := (List.mem_replicate.1 hx).2
    omega
/-- Options that lie in one block. -/
theorem ops_blk {W : World} {b n : Nat} {F : Array Value} {css : List (List Value)} {l : List Op1} (h : W.heap[b]? = some (.cells F 36 (0, 0))) (hF : F.toList = css.flatten) (ho : OpVs W css l) (hn : l.length = n) (h20 : n ≤ 2 ^ 20) : Ops W (some ⟨b, 0, none⟩) l := by
  have hfl : css.flatten.length = n * 2 := by rw [flatten_length ho.each, ho.length, hn]
  have hrow : W.ownsRow b 36 2 (.slice (some ⟨b, 0, none⟩) n n) n css.flatten := ⟨hfl, .inr ⟨b, n, F, rfl, Nat.le_refl _, h, Nat.le_refl _, lt_maxLen' (by omega), by rw [← Array.length_toList, hF, hfl], by rw [hF, ← hfl, List.take_length]⟩⟩
  obtain ⟨A, c, e, _, _, hO⟩ := Ops.of_own hrow ho hn.symm
  injection e with e1
  rw [e1]
  exact hO
theorem opv_s {W : World} {k : Int} {d : List Int} {A : Option Addr} {n c : Nat} (hk : 0 ≤ k ∧ k ≤ 255) (hn : d.length = n) (hd : By W A d) (hc : n ≤ c) (h20 : c ≤ 2 ^ 20) (hA : A = none → c = 0) : OpV W [.int .u8 k, .slice A n c] (k, d) := by
  subst hn
  exact ⟨hk, A, c, rfl, hc, lt_maxLen' (by omega), hd, hA⟩
theorem opv_nil {W : World} {k : Int} (hk : 0 ≤ k ∧ k ≤ 255) : OpV W [.int .u8 k, .slice none 0 0] (k, []) := ⟨hk, none, 0, rfl, Nat.le_refl _, by decide, By.nil _ _, fun _ => rfl⟩
theorem reads_s (bs : List Int) (n : Nat) (A : Option Addr) (c : Nat) (w : World) (hn : bs.length = n) (hd : By w A bs) (hcap : n ≤ c) (hmax : c ≤ maxLen) (hnil : A = none → c = 0) :
    Calls Try.prog 13 #[.slice A n c] w fun e w' => e = .returned (.bool true) ∧ Below w.heap.size w w' := by
  subst hn
  exact reads_any bs A c w hd hcap hmax hnil
theorem tells_s (k : Int) (d : List Int) (n : Nat) (A : Option Addr) (c : Nat) (ad : Int) (w : World) (hn : d.length = n) (hk : 0 ≤ k ∧ k ≤ 255) (hd : By w A d) (hcap : n ≤ c) (hmax : c ≤ maxLen) (hnil : A = none → c = 0) (ha : 0 ≤ ad ∧ ad < 2 ^ 32) :
    Calls Try.prog 20 #[.agg #[.int .u8 k, .slice A n c], .int .u32 ad] w fun e w' => e = .returned (.bool true) ∧ Below w.heap.size w w' := by
  subst hn
  exact tells_any k d A c ad w hk hd hcap hmax hnil ha
theorem writes_s (l : List Op1) (n : Nat) (A : Option Addr) (c : Nat) (kind : Int) (w : World) (hn : l.length = n) (hl : Ops w A l) :
    Calls Try.prog 24 #[.slice A n c, .int .u8 kind] w fun e w' => e = .returned (.bool true) ∧ Below w.heap.size w w' := by
  subst hn
  exact writes_any l A c kind w hl
theorem shl_or_fin : ∀ p : Fin 48, ∀ n : Fin 41, 0 ≤ bits .or .u32 ((p.val : Int) * 16777216) (n.val : Int) ∧ bits .or .u32 ((p.val : Int) * 16777216) (n.val : Int) < 4294967296 := by decide +kernel
theorem shl_or (p n : Nat) (hp : p < 48) (hn : n ≤ 40) : 0 ≤ bits .or .u32 ((p : Int) * 16777216) n ∧ bits .or .u32 ((p : Int) * 16777216) n < 2 ^ 32 := shl_or_fin ⟨p, hp⟩ ⟨n, by omega⟩
theorem reads_own {W : World} {S m : Nat} {v : Value} {xs : List Value} (bs : List Int) (h : W.ownsRow S 5 1 v m xs) (hx : xs = bs.map (Value.int .u8)) (hm : m = bs.length) (hr : ∀ x ∈ bs, 0 ≤ x ∧ x ≤ 255) :
    Calls Try.prog 13 #[v] W fun e w' => e = .returned (.bool true) ∧ Below W.heap.size W w' := by
  subst hx hm
  obtain ⟨A, c, rfl, h1, h2, h3, h4⟩ := By.of_own2 h hr
  exact reads_any bs A c W h3 h1 h2 h4
theorem one_bytes (d : List Int) : ∀ u ∈ d.map (Value.int .u8), u.oneCell' = true := by
  intro u hu
  obtain ⟨x, _, rfl⟩ := List.mem_map.1 hu
  rfl
/-- An append that is guarded. -/
theorem wpList_append_g {w : World} {ops : Array Oper} {rest : List Oper} {o : Oper} {a : Act} {Q : Exit → Act → World → Prop} (hw : Region.wanted o (yielded ops a.tmps) = true) (s x : Operand)
    (ho : o.op = .call { callee := .builtin .append, args := #[s, x], argTypes := #[22, 22] }) (base : Nat) (v : Value) (n : Nat) (xs : List Value) (hs : a.eval s = v) (hown : w.ownsRow base 5 1 v n xs)
    (ad : Addr) (m c : Nat) (news : List Value) (hx : a.eval x = .slice (some ad) m c) (hl : news.length = m) (hnews : ∀ j u, news[j]? = some u → w.cell? (ad.add j) = some u) (h1 : ∀ u ∈ news, u.oneCell' = true)
    (h63 : n + m ≤ 2 ^ 20) (hbase : base ≤ w.heap.size)
    (h : ∀ v' w', w'.ownsRow base 5 1 v' (n + m) (xs ++ news) → w.grownBy w' v.ownBlock → wpList Try.prog ops Q rest (a.put o.dst v') w') : wpList Try.prog ops Q (o :: rest) a w := by
  obtain ⟨i0, hi, hz0, hz1, hz2⟩ := info5s
  exact wpList_step fun K hK => by
    rw [if_pos hw]
    exact wp_append_own w s x 22 ho base 5 i0 (.int .u8 0) 1 1 Try.underlying22 hi hz0 hz1 hz2 rfl (by decide) v n xs hs hown ad m c news hx (by omega) hnews h1 (lt_maxLen' (by omega)) (by omega) hbase fun v' w' h2 h3 _ => hK _ _ (h v' w' h2 h3)
/-- An option whose data is being filled. -/
structure DtS (X0 : World) (g0 b5 n : Nat) (kd : Int) (W : World) : Prop where
  ex : ∃ d : List Int, d.length = n ∧ (∀ x ∈ d, 0 ≤ x ∧ x ≤ 255) ∧ W.heap[g0]? = some (.cells (d.map (Value.int .u8)).toArray 5 (0, 0))
  obj : W.heap[b5]? = some (.cells #[.int .u8 kd, .slice (some ⟨g0, 0, none⟩) n n] 36 (0, 0))
  low : X0.heap.size ≤ g0
  b : Below X0.heap.size X0 W
theorem DtS.mk' {X0 w : World} {g0 b5 n : Nat} {kd : Int} (hb : Below X0.heap.size X0 w) (hg : w.heap.size = g0) (h5 : w.heap.size + 1 = b5) : DtS X0 g0 b5 n kd ((w.alloc (.cells (Array.replicate n (.int .u8 0)) 5)).alloc (.cells #[.int .u8 kd, .slice (some ⟨g0, 0, none⟩) n n] 36)) := by
  subst hg h5
  have hb1 : Below w.heap.size w (w.alloc (.cells (Array.replicate n (.int .u8 0)) 5)) := (Below.refl _ _).alloc (Nat.le_refl _) _
  have h1 := heap_alloc_last w (.cells (Array.replicate n (.int .u8 0)) 5)
  have hb2 : Below (w.alloc (.cells (Array.replicate n (.int .u8 0)) 5)).heap.size (w.alloc (.cells (Array.replicate n (.int .u8 0)) 5)) ((w.alloc (.cells (Array.replicate n (.int .u8 0)) 5)).alloc (.cells #[.int .u8 kd, .slice (some ⟨w.heap.size, 0, none⟩) n n] 36)) := (Below.refl _ _).alloc (Nat.le_refl _) _
  have h2 := heap_alloc_last (w.alloc (.cells (Array.replicate n (.int .u8 0)) 5)) (.cells #[.int .u8 kd, .slice (some ⟨w.heap.size, 0, none⟩) n n] 36)
  have hs : (w.alloc (.cells (Array.replicate n (.int .u8 0)) 5)).heap.size = w.heap.size + 1 := by simp
  rw [hs] at h2
  refine ⟨⟨List.replicate n 0, by simp, fun x hx => ?_, ?_⟩, h2, hb.size, (hb.trans (hb1.mono hb.size)).trans (hb2.mono (Nat.le_trans hb.size (by rw [hs]; omega)))⟩
  · have := (List.mem_replicate.1 hx).2
    omega
  · rw [blk_below hb2 h1]
    simp
theorem DtS.set {X0 W : World} {g0 b5 n j : Nat} {kd v : Int} (h : DtS X0 g0 b5 n kd W) (hj : j < n) (hv : 0 ≤ v ∧ v ≤ 255) : DtS X0 g0 b5 n kd (W.setCell ⟨g0, j, none⟩ (.int .u8 v)) := by
  obtain ⟨d, h1, h2, h3⟩ := h.ex
  have hne : b5 ≠ g0 := blk_ne (by decide) h.obj h3
  refine ⟨⟨d.set j v, by simpa using h1, fun x hx => ?_, ?_⟩, (Below.heap_setCell W ⟨g0, j, none⟩ _ b5 (by show b5 ≠ g0; exact hne)).trans h.obj, h.low, h.b.setCell (p := ⟨g0, j, none⟩) h.low _⟩
  · rcases List.mem_or_eq_of_mem_set hx with hx | rfl
    · exact h2 x hx
    · exact hv
  · have := blk_set h3 j (.int .u8 v)
    rw [this]
    congr 2
    apply Array.ext'
    simp
theorem DtS.cell {X0 W : World} {g0 b5 n j : Nat} {kd : Int} (h : DtS X0 g0 b5 n kd W) (hj : j < n) : (∃ v, W.cell? ⟨g0, j, none⟩ = some (.int .u8 v)) ∧ W.frozen? ⟨g0, j, none⟩ = false := by
  obtain ⟨d, h1, h2, h3⟩ := h.ex
  refine ⟨⟨d[j]'(by omega), ?_⟩, blk_free h3 j⟩
  rw [blk_cell h3 j]
  simp [h1, hj]
/-- What region 15's operations leave. -/
def PS15 (kd : Int) (d : List Int) (r3 : Nat) (vals : List Value) : Nat → Value → World → Prop
  | 18, v, W => ∃ q, v = .slice (some ⟨q, 0, none⟩) r3 r3 ∧ W.heap[q]? = some (.cells (List.replicate r3 (Value.int .u8 0)).toArray 5 (0, 0))
  | 19, v, W => ∃ q, v = .agg #[.int .u8 9, .slice (some ⟨q, 0, none⟩) r3 r3] ∧ W.heap[q]? = some (.cells (List.replicate r3 (Value.int .u8 0)).toArray 5 (0, 0))
  | 20, v, W => ∃ b, v = .slice (some ⟨b, 0, none⟩) 3 3 ∧ Ops W (some ⟨b, 0, none⟩) [(1, []), (kd, d), (9, List.replicate r3 0)]
  | i, v, _ => v = vals.getD i undef
theorem PS15.below {kd : Int} {d : List Int} {r3 : Nat} {vals : List Value} (i : Nat) (v : Value) (X Y : World) (h : PS15 kd d r3 vals i v X) (hb : Below X.heap.size X Y) : PS15 kd d r3 vals i v Y := by
  by_cases h1 : i = 18
  · subst h1
    obtain ⟨q, e, h2⟩ := h
    exact ⟨q, e, blk_below hb h2⟩
  by_cases h1 : i = 19
  · subst h1
    obtain ⟨q, e, h2⟩ := h
    exact ⟨q, e, blk_below hb h2⟩
  by_cases h1 : i = 20
  · subst h1
    obtain ⟨q, e, h2⟩ := h
    exact ⟨q, e, h2.below hb⟩
  unfold PS15 at h ⊢
  split at h <;> first | contradiction | exact h
set_option maxRecDepth 100000 in
set_option maxHeartbeats 8000000 in
theorem r15_any (C : Code) (hC : findC (isReg 15) (Try.f12.body.getD .skip) = some C) (Q : Exit → Act → World → Prop) {X : World} {b5 g0 n p : Nat} {kd : Int} {d : List Int} {x0 x1 x6 x7 x8 x9 x10 x11 x12 x13 x14 x15 x16 x17 x18 x19 x20 x21 x22 x23 x24 x25 x26 x27 x28 x29 x30 x31 x32 x33 x34 x35 x36 x37 x38 x39 x40 x41 x42 x43 x44 x45 x46 x47 x48 x49 x50 x51 x52 x53 x54 x55 x56 x57 x58 x59 x60 x61 x62 x63 x64 x65 x66 x67 x68 x69 x70 x71 x72 x73 x74 x75 x76 x77 x78 x79 x80 x81 x82 x83 x84 x85 x86 x87 x88 x89 x90 x91 x92 x93 x94 x95 x96 x97 x98 x99 x100 x101 x102 x103 x104 x105 x106 x107 x108 x109 x110 x111 x112 x113 x114 x115 x116 x117 x118 x119 x120 x121 x122 x123 x124 x125 x126 x127 x128 x129 x130 x131 x132 x133 x134 x135 x136 x137 x138 x139 x140 x141 x142 x143 x144 x145 x146 x147 x148 x149 x150 x151 x152 x153 x154 x155 x156 x157 x158 x159 x160 x161 x162 x163 x164 x165 x166 x167 x168 x169 x170 x171 x172 x173 x174 x175 x176 x177 x178 x179 x180 x181 x182 x183 x184 x185 x186 x187 x188 x189 x190 x191 x192 x193 x194 x195 x196 x197 x198 x199 x200 x201 x202 x203 x204 x205 x206 x207 x208 x209 x210 x211 x212 x213 x214 x215 x216 x217 x218 x219 x220 x221 x222 x223 x224 x225 x226 x227 x228 x229 x230 x231 x232 x233 x234 x235 x236 x237 x238 x239 x240 x241 x242 x243 : Value}
    (h5 : X.heap[b5]? = some (.cells #[.int .u8 kd, .slice (some ⟨g0, 0, none⟩) n n] 36 (0, 0))) (hd : By X (some ⟨g0, 0, none⟩) d) (hn : d.length = n) (h40 : n ≤ 40) (hp : p < 48) (hk : 0 ≤ kd ∧ kd ≤ 255)
    (hh : ∀ (y56 y57 y58 y59 y60 y61 y62 y63 y64 y65 y66 y67 y68 y69 y70 y71 y72 y73 y74 y75 y76 y77 y78 y79 y80 : Value) (w' : World), Below X.heap.size X w' → Q .normal ⟨#[x0, x1, .int .u8 kd, .int .i64 n, .int .i64 p, .pointer (some ⟨b5, 0, none⟩), x6, x7, x8, x9, x10, x11, x12, x13, x14, x15, x16, x17, x18, x19, x20, x21, x22, x23, x24, x25, x26, x27, x28, x29, x30, x31, x32, x33, x34, x35, x36, x37, x38, x39, x40, x41, x42, x43, x44, x45, x46, x47, x48, x49, x50, x51, x52, x53, x54, x55, y56, y57, y58, y59, y60, y61, y62, y63, y64, y65, y66, y67, y68, y69, y70, y71, y72, y73, y74, y75, y76, y77, y78, y79, y80, .bool false, x82, x83, x84, x85, x86, x87, x88, x89, x90, x91, x92, x93, x94, x95, x96, x97, x98, x99, x100, x101, x102, x103, x104, x105, x106, x107, x108, x109, x110, x111, x112, x113, x114, x115, x116, x117, x118, x119, x120, x121, x122, x123, x124, x125, x126, x127, x128, x129, x130, x131, x132, x133, x134, x135, x136, x137, x138, x139, x140, x141, x142, x143, x144, x145, x146, x147, x148, x149, x150, x151, x152, x153, x154, x155, x156, x157, x158, x159, x160, x161, x162, x163, x164, x165, x166, x167, x168, x169, x170, x171, x172, x173, x174, x175, x176, x177, x178, x179, x180, x181, x182, x183, x184, x185, x186, x187, x188, x189, x190, x191, x192, x193, x194, x195, x196, x197, x198, x199, x200, x201, x202, x203, x204, x205, x206, x207, x208, x209, x210, x211, x212, x213, x214, x215, x216, x217, x218, x219, x220, x221, x222, x223, x224, x225, x226, x227, x228, x229, x230, x231, x232, x233, x234, x235, x236, x237, x238, x239, x240, x241, x242, x243], []⟩ w') : C.wp Try.prog Q ⟨#[x0, x1, .int .u8 kd, .int .i64 n, .int .i64 p, .pointer (some ⟨b5, 0, none⟩), x6, x7, x8, x9, x10, x11, x12, x13, x14, x15, x16, x17, x18, x19, x20, x21, x22, x23, x24, x25, x26, x27, x28, x29, x30, x31, x32, x33, x34, x35, x36, x37, x38, x39, x40, x41, x42, x43, x44, x45, x46, x47, x48, x49, x50, x51, x52, x53, x54, x55, x56, x57, x58, x59, x60, x61, x62, x63, x64, x65, x66, x67, x68, x69, x70, x71, x72, x73, x74, x75, x76, x77, x78, x79, x80, x81, x82, x83, x84, x85, x86, x87, x88, x89, x90, x91, x92, x93, x94, x95, x96, x97, x98, x99, x100, x101, x102, x103, x104, x105, x106, x107, x108, x109, x110, x111, x112, x113, x114, x115, x116, x117, x118, x119, x120, x121, x122, x123, x124, x125, x126, x127, x128, x129, x130, x131, x132, x133, x134, x135, x136, x137, x138, x139, x140, x141, x142, x143, x144, x145, x146, x147, x148, x149, x150, x151, x152, x153, x154, x155, x156, x157, x158, x159, x160, x161, x162, x163, x164, x165, x166, x167, x168, x169, x170, x171, x172, x173, x174, x175, x176, x177, x178, x179, x180, x181, x182, x183, x184, x185, x186, x187, x188, x189, x190, x191, x192, x193, x194, x195, x196, x197, x198, x199, x200, x201, x202, x203, x204, x205, x206, x207, x208, x209, x210, x211, x212, x213, x214, x215, x216, x217, x218, x219, x220, x221, x222, x223, x224, x225, x226, x227, x228, x229, x230, x231, x232, x233, x234, x235, x236, x237, x238, x239, x240, x241, x242, x243], []⟩ X := by
  cases hC
  let QQ : Exit → Act → World → Prop := bodyPost Try.prog Try.f12 (fun _ _ => True)
  dsimp only
  have HH := Lib.hid hh
  have HN := Lib.hid hn
  have HD := Lib.hid hd
  have o0 := blk_cell h5 0
  have o1 := blk_cell h5 1
  simp at o0 o1
  have l5 := blk_lt h5
  clear hh hn hd h5
  obtain ⟨r8, hr8⟩ : ∃ r : Nat, (p : Int).tmod 8 = r := ⟨p % 8, by rw [Int.tmod_eq_emod_of_nonneg (by omega)]; omega⟩
  obtain ⟨r3, hr3⟩ : ∃ r : Nat, (p : Int).tmod 3 = r := ⟨p % 3, by rw [Int.tmod_eq_emod_of_nonneg (by omega)]; omega⟩
  have hr3b : r3 < 3 := by rw [Int.tmod_eq_emod_of_nonneg (by omega)] at hr3; omega
  have HT8 := Lib.hid hr8
  have HT3 := Lib.hid hr3
  clear hr8 hr3
  by_cases h8 : r8 = 5
  · have t1 : decide ((r8 : Int) = 5) = true := by simp; omega
    have t1' : ((r8 : Int) == 5) = true := by simp; omega
    clear h8
    refine wp_region_steps 25 [[], [], [1], [2], [], [4], [3, 5], [0, 6], [7], [8], [9], [9, 10], [9, 11], [9, 12], [13], [13], [13], [13, 16], [13, 17], [13, 18], [13, 14, 15, 19], [13], [13, 20, 21], [13, 22], [9, 13, 23]] (fun D a w' => ∃ gv : Nat → Value, a = ⟨#[x0, x1, .int .u8 kd, .int .i64 n, .int .i64 p, .pointer (some ⟨b5, 0, none⟩), x6, x7, x8, x9, x10, x11, x12, x13, x14, x15, x16, x17, x18, x19, x20, x21, x22, x23, x24, x25, x26, x27, x28, x29, x30, x31, x32, x33, x34, x35, x36, x37, x38, x39, x40, x41, x42, x43, x44, x45, x46, x47, x48, x49, x50, x51, x52, x53, x54, x55, gv 0, gv 1, gv 2, gv 3, gv 4, gv 5, gv 6, gv 7, gv 8, gv 9, gv 10, gv 11, gv 12, gv 13, gv 14, gv 15, gv 16, gv 17, gv 18, gv 19, gv 20, gv 21, gv 22, gv 23, gv 24, x81, x82, x83, x84, x85, x86, x87, x88, x89, x90, x91, x92, x93, x94, x95, x96, x97, x98, x99, x100, x101, x102, x103, x104, x105, x106, x107, x108, x109, x110, x111, x112, x113, x114, x115, x116, x117, x118, x119, x120, x121, x122, x123, x124, x125, x126, x127, x128, x129, x130, x131, x132, x133, x134, x135, x136, x137, x138, x139, x140, x141, x142, x143, x144, x145, x146, x147, x148, x149, x150, x151, x152, x153, x154, x155, x156, x157, x158, x159, x160, x161, x162, x163, x164, x165, x166, x167, x168, x169, x170, x171, x172, x173, x174, x175, x176, x177, x178, x179, x180, x181, x182, x183, x184, x185, x186, x187, x188, x189, x190, x191, x192, x193, x194, x195, x196, x197, x198, x199, x200, x201, x202, x203, x204, x205, x206, x207, x208, x209, x210, x211, x212, x213, x214, x215, x216, x217, x218, x219, x220, x221, x222, x223, x224, x225, x226, x227, x228, x229, x230, x231, x232, x233, x234, x235, x236, x237, x238, x239, x240, x241, x242, x243], []⟩ ∧ Iq X (PS15 kd d r3 ([.agg #[.int .u8 kd, .slice (some ⟨g0, 0, none⟩) n n], .int .i64 p, .int .u32 p, .int .u32 ((p : Int) * 16777216), .int .i64 n, .int .u32 n, .int .u32 (bits .or .u32 ((p : Int) * 16777216) n), .bool true, .bool false, .bool false, .int .i64 p, .int .i64 r8, .bool true, .bool true, .agg #[.int .u8 1, .slice none 0 0], .agg #[.int .u8 kd, .slice (some ⟨g0, 0, none⟩) n n], .int .i64 p, .int .i64 r3, undef, undef, undef, .int .u8 kd, .bool true, .bool false, .bool false] : List Value)) D gv w') (by kernel_rfl) (by kernel_rfl) ⟨fun i => if i = 0 then x56 else if i = 1 then x57 else if i = 2 then x58 else if i = 3 then x59 else if i = 4 then x60 else if i = 5 then x61 else if i = 6 then x62 else if i = 7 then x63 else if i = 8 then x64 else if i = 9 then x65 else if i = 10 then x66 else if i = 11 then x67 else if i = 12 then x68 else if i = 13 then x69 else if i = 14 then x70 else if i = 15 then x71 else if i = 16 then x72 else if i = 17 then x73 else if i = 18 then x74 else if i = 19 then x75 else if i = 20 then x76 else if i = 21 then x77 else if i = 22 then x78 else if i = 23 then x79 else if i = 24 then x80 else undef, rfl, Iq.zero _ _ _⟩ ?_ ?_
    · simp only [List.take_succ_cons, List.take_zero]
      refine ⟨?_, ?_, ?_, ?_, ?_, ?_, ?_, ?_, ?_, ?_, ?_, ?_, ?_, ?_, ?_, ?_, ?_, ?_, ?_, ?_, ?_, ?_, ?_, ?_, ?_, trivial⟩
      · intro D a w' hn hp hI
        obtain ⟨gv, rfl, hR⟩ := hI
        have ca := kc hR.b o0
        have cb := kc hR.b o1
        clear hn hp
        go_wp2_with fail
        exact ⟨fun ix => if ix = 0 then .agg #[.int .u8 kd, .slice (some ⟨g0, 0, none⟩) n n] else gv ix, by rfl, hR.upd PS15.below 0 _ (Below.refl _ _) rfl⟩
      · intro D a w' hn hp hI
        obtain ⟨gv, rfl, hR⟩ := hI
        clear hn hp
        go_wp2_with fail
        exact ⟨fun ix => if ix = 1 then .int .i64 p else gv ix, by rfl, hR.upd PS15.below 1 _ (Below.refl _ _) rfl⟩
      · intro D a w' hn hp hI
        obtain ⟨gv, rfl, hR⟩ := hI
        have e1 : gv 1 = .int .i64 p := hR.e 1 hp.1
        rw [e1]
        have hc : (p : Int) % 4294967296 = p := by omega
        clear hn hp
        go_wp2_with fail
        exact ⟨fun ix => if ix = 2 then .int .u32 p else gv ix, by simp [e1], hR.upd PS15.below 2 _ (Below.refl _ _) rfl⟩
      · intro D a w' hn hp hI
        obtain ⟨gv, rfl, hR⟩ := hI
        have e2 : gv 2 = .int .u32 p := hR.e 2 hp.1
        rw [e2]
        have hc : ((p : Int) * 16777216) % 4294967296 = (p : Int) * 16777216 := by omega
        have hc2 : (16777216 * (p : Int)) % 4294967296 = (p : Int) * 16777216 := by omega
        clear hn hp
        go_wp2_with fail
        exact ⟨fun ix => if ix = 3 then .int .u32 ((p : Int) * 16777216) else gv ix, by simp [e2], hR.upd PS15.below 3 _ (Below.refl _ _) rfl⟩
      · intro D a w' hn hp hI
        obtain ⟨gv, rfl, hR⟩ := hI
        clear hn hp
        go_wp2_with fail
        exact ⟨fun ix => if ix = 4 then .int .i64 n else gv ix, by rfl, hR.upd PS15.below 4 _ (Below.refl _ _) rfl⟩
      · intro D a w' hn hp hI
        obtain ⟨gv, rfl, hR⟩ := hI
        have e4 : gv 4 = .int .i64 n := hR.e 4 hp.1
        rw [e4]
        have hc : (n : Int) % 4294967296 = n := by omega
        clear hn hp
        go_wp2_with fail
        exact ⟨fun ix => if ix = 5 then .int .u32 n else gv ix, by simp [e4], hR.upd PS15.below 5 _ (Below.refl _ _) rfl⟩
      · intro D a w' hn hp hI
        obtain ⟨gv, rfl, hR⟩ := hI
        have e3 : gv 3 = .int .u32 ((p : Int) * 16777216) := hR.e 3 hp.1
        rw [e3]
        have e5 : gv 5 = .int .u32 n := hR.e 5 hp.2.1
        rw [e5]
        clear hn hp
        go_wp2_with fail
        exact ⟨fun ix => if ix = 6 then .int .u32 (bits .or .u32 ((p : Int) * 16777216) n) else gv ix, by simp [e3, e5], hR.upd PS15.below 6 _ (Below.refl _ _) rfl⟩
      · intro D a w' hn hp hI
        obtain ⟨gv, rfl, hR⟩ := hI
        have e0 : gv 0 = .agg #[.int .u8 kd, .slice (some ⟨g0, 0, none⟩) n n] := hR.e 0 hp.1
        rw [e0]
        have e6 : gv 6 = .int .u32 (bits .or .u32 ((p : Int) * 16777216) n) := hR.e 6 hp.2.1
        rw [e6]
        have HB2 := Lib.hid hR.b
        clear hn hp
        go_wp2_with fail
        refine (tells_s kd d n (some ⟨g0, 0, none⟩) n (bits .or .u32 ((p : Int) * 16777216) n) _ HN.out hk (HD.out.below HB2.out) (Nat.le_refl _) (lt_maxLen' (by omega)) (fun h => by cases h) (shl_or p n hp h40)).mono ?_
        rintro e Y ⟨rfl, hby⟩
        go_wp2_with fail
        exact ⟨fun ix => if ix = 7 then .bool true else gv ix, by simp [e0, e6], hR.upd PS15.below 7 _ hby rfl⟩
      · intro D a w' hn hp hI
        obtain ⟨gv, rfl, hR⟩ := hI
        have e7 : gv 7 = .bool true := hR.e 7 hp.1
        rw [e7]
        clear hn hp
        go_wp2_with fail
        exact ⟨fun ix => if ix = 8 then .bool false else gv ix, by simp [e7], hR.upd PS15.below 8 _ (Below.refl _ _) rfl⟩
      · intro D a w' hn hp hI
        obtain ⟨gv, rfl, hR⟩ := hI
        have e8 : gv 8 = .bool false := hR.e 8 hp.1
        rw [e8]
        clear hn hp
        go_wp2_with fail
        exact ⟨fun ix => if ix = 9 then .bool false else gv ix, by simp [e8], hR.upd PS15.below 9 _ (Below.refl _ _) rfl⟩
      · intro D a w' hn hp hI
        obtain ⟨gv, rfl, hR⟩ := hI
        have e9 : gv 9 = .bool false := hR.e 9 hp.1
        rw [e9]
        clear hn hp
        go_wp2_with fail
        exact ⟨fun ix => if ix = 10 then .int .i64 p else gv ix, by simp [e9], hR.upd PS15.below 10 _ (Below.refl _ _) rfl⟩
      · intro D a w' hn hp hI
        obtain ⟨gv, rfl, hR⟩ := hI
        have e9 : gv 9 = .bool false := hR.e 9 hp.1
        rw [e9]
        have e10 : gv 10 = .int .i64 p := hR.e 10 hp.2.1
        rw [e10]
        have ht8 := HT8.out
        clear hn hp
        go_wp2_with fail
        exact ⟨fun ix => if ix = 11 then .int .i64 r8 else gv ix, by simp [e9, e10], hR.upd PS15.below 11 _ (Below.refl _ _) rfl⟩
      · intro D a w' hn hp hI
        obtain ⟨gv, rfl, hR⟩ := hI
        have e9 : gv 9 = .bool false := hR.e 9 hp.1
        rw [e9]
        have e11 : gv 11 = .int .i64 r8 := hR.e 11 hp.2.1
        rw [e11]
        clear hn hp
        go_wp2_with fail
        exact ⟨fun ix => if ix = 12 then .bool true else gv ix, by simp [e9, e11], hR.upd PS15.below 12 _ (Below.refl _ _) rfl⟩
      · intro D a w' hn hp hI
        obtain ⟨gv, rfl, hR⟩ := hI
        have e9 : gv 9 = .bool false := hR.e 9 hp.1
        rw [e9]
        have e12 : gv 12 = .bool true := hR.e 12 hp.2.1
        rw [e12]
        clear hn hp
        go_wp2_with fail
        exact ⟨fun ix => if ix = 13 then .bool true else gv ix, by simp [e9, e12], hR.upd PS15.below 13 _ (Below.refl _ _) rfl⟩
      · intro D a w' hn hp hI
        obtain ⟨gv, rfl, hR⟩ := hI
        have e13 : gv 13 = .bool true := hR.e 13 hp.1
        rw [e13]
        clear hn hp
        go_wp2_with fail
        exact ⟨fun ix => if ix = 14 then .agg #[.int .u8 1, .slice none 0 0] else gv ix, by simp [e13], hR.upd PS15.below 14 _ (Below.refl _ _) rfl⟩
      · intro D a w' hn hp hI
        obtain ⟨gv, rfl, hR⟩ := hI
        have e13 : gv 13 = .bool true := hR.e 13 hp.1
        rw [e13]
        have ca := kc hR.b o0
        have cb := kc hR.b o1
        clear hn hp
        go_wp2_with fail
        exact ⟨fun ix => if ix = 15 then .agg #[.int .u8 kd, .slice (some ⟨g0, 0, none⟩) n n] else gv ix, by simp [e13], hR.upd PS15.below 15 _ (Below.refl _ _) rfl⟩
      · intro D a w' hn hp hI
        obtain ⟨gv, rfl, hR⟩ := hI
        have e13 : gv 13 = .bool true := hR.e 13 hp.1
        rw [e13]
        clear hn hp
        go_wp2_with fail
        exact ⟨fun ix => if ix = 16 then .int .i64 p else gv ix, by simp [e13], hR.upd PS15.below 16 _ (Below.refl _ _) rfl⟩
      · intro D a w' hn hp hI
        obtain ⟨gv, rfl, hR⟩ := hI
        have e13 : gv 13 = .bool true := hR.e 13 hp.1
        rw [e13]
        have e16 : gv 16 = .int .i64 p := hR.e 16 hp.2.1
        rw [e16]
        have ht3 := HT3.out
        clear hn hp
        go_wp2_with fail
        exact ⟨fun ix => if ix = 17 then .int .i64 r3 else gv ix, by simp [e13, e16], hR.upd PS15.below 17 _ (Below.refl _ _) rfl⟩
      · intro D a w' hn hp hI
        obtain ⟨gv, rfl, hR⟩ := hI
        have e13 : gv 13 = .bool true := hR.e 13 hp.1
        rw [e13]
        have e17 : gv 17 = .int .i64 r3 := hR.e 17 hp.2.1
        rw [e17]
        have hmk := mk_bytes_s .i64 r3 r3 rfl (by omega) w'
        clear hn hp
        go_wp2_with fail
        exact ⟨fun ix => if ix = 18 then .slice (some ⟨w'.heap.size, 0, none⟩) r3 r3 else gv ix, by simp [e13, e17], hR.upd PS15.below 18 _ ((Below.refl _ _).alloc (Nat.le_refl _) _) ⟨_, rfl, heap_alloc_last _ _⟩⟩
      · intro D a w' hn hp hI
        obtain ⟨gv, rfl, hR⟩ := hI
        have e13 : gv 13 = .bool true := hR.e 13 hp.1
        rw [e13]
        obtain ⟨q, e18, hq⟩ : ∃ q, gv 18 = .slice (some ⟨q, 0, none⟩) r3 r3 ∧ w'.heap[q]? = some (.cells (List.replicate r3 (Value.int .u8 0)).toArray 5 (0, 0)) := hR.e 18 hp.2.1
        rw [e18]
        clear hn hp
        go_wp2_with fail
        exact ⟨fun ix => if ix = 19 then .agg #[.int .u8 9, .slice (some ⟨q, 0, none⟩) r3 r3] else gv ix, by simp [e13, e18], hR.upd PS15.below 19 _ (Below.refl _ _) ⟨_, rfl, hq⟩⟩
      · intro D a w' hn hp hI
        obtain ⟨gv, rfl, hR⟩ := hI
        have e13 : gv 13 = .bool true := hR.e 13 hp.1
        rw [e13]
        have e14 : gv 14 = .agg #[.int .u8 1, .slice none 0 0] := hR.e 14 hp.2.1
        rw [e14]
        have e15 : gv 15 = .agg #[.int .u8 kd, .slice (some ⟨g0, 0, none⟩) n n] := hR.e 15 hp.2.2.1
        rw [e15]
        obtain ⟨q, e19, hq⟩ : ∃ q, gv 19 = .agg #[.int .u8 9, .slice (some ⟨q, 0, none⟩) r3 r3] ∧ w'.heap[q]? = some (.cells (List.replicate r3 (Value.int .u8 0)).toArray 5 (0, 0)) := hR.e 19 hp.2.2.2.1
        rw [e19]
        have HB2 := Lib.hid hR.b
        clear hn hp
        go_wp2_with fail
        exact ⟨fun ix => if ix = 20 then .slice (some ⟨w'.heap.size, 0, none⟩) 3 3 else gv ix, by simp [e13, e14, e15, e19], hR.upd PS15.below 20 _ ((Below.refl _ _).alloc (Nat.le_refl _) _) ⟨_, rfl, ops_blk (n := 3) (css := [[.int .u8 1, .slice none 0 0], [.int .u8 kd, .slice (some ⟨g0, 0, none⟩) n n], [.int .u8 9, .slice (some ⟨q, 0, none⟩) r3 r3]]) (heap_alloc_last _ _) rfl (.cons (opv_nil (by decide)) (.cons (opv_s hk HN.out ((HD.out.below HB2.out).alloc _) (Nat.le_refl _) (by omega) (fun h => by cases h)) (.cons (opv_s (by decide) (by simp) ((rep_by hq).alloc _) (Nat.le_refl _) (by omega) (fun h => by cases h)) .nil))) rfl (by decide)⟩⟩
      · intro D a w' hn hp hI
        obtain ⟨gv, rfl, hR⟩ := hI
        have e13 : gv 13 = .bool true := hR.e 13 hp.1
        rw [e13]
        clear hn hp
        go_wp2_with fail
        exact ⟨fun ix => if ix = 21 then .int .u8 kd else gv ix, by simp [e13], hR.upd PS15.below 21 _ (Below.refl _ _) rfl⟩
      · intro D a w' hn hp hI
        obtain ⟨gv, rfl, hR⟩ := hI
        have e13 : gv 13 = .bool true := hR.e 13 hp.1
        rw [e13]
        obtain ⟨b, e20, hops⟩ : ∃ b, gv 20 = .slice (some ⟨b, 0, none⟩) 3 3 ∧ Ops w' (some ⟨b, 0, none⟩) [(1, []), (kd, d), (9, List.replicate r3 0)] := hR.e 20 hp.2.1
        rw [e20]
        have e21 : gv 21 = .int .u8 kd := hR.e 21 hp.2.2.1
        rw [e21]
        clear hn hp
        go_wp2_with fail
        refine (writes_s [(1, []), (kd, d), (9, List.replicate r3 0)] 3 (some ⟨b, 0, none⟩) 3 kd _ rfl hops).mono ?_
        rintro e Y ⟨rfl, hby⟩
        go_wp2_with fail
        exact ⟨fun ix => if ix = 22 then .bool true else gv ix, by simp [e13, e20, e21], hR.upd PS15.below 22 _ hby rfl⟩
      · intro D a w' hn hp hI
        obtain ⟨gv, rfl, hR⟩ := hI
        have e13 : gv 13 = .bool true := hR.e 13 hp.1
        rw [e13]
        have e22 : gv 22 = .bool true := hR.e 22 hp.2.1
        rw [e22]
        clear hn hp
        go_wp2_with fail
        exact ⟨fun ix => if ix = 23 then .bool false else gv ix, by simp [e13, e22], hR.upd PS15.below 23 _ (Below.refl _ _) rfl⟩
      · intro D a w' hn hp hI
        obtain ⟨gv, rfl, hR⟩ := hI
        have e9 : gv 9 = .bool false := hR.e 9 hp.1
        rw [e9]
        have e13 : gv 13 = .bool true := hR.e 13 hp.2.1
        rw [e13]
        have e23 : gv 23 = .bool false := hR.e 23 hp.2.2.1
        rw [e23]
        clear hn hp
        go_wp2_with fail
        exact ⟨fun ix => if ix = 24 then .bool false else gv ix, by simp [e9, e13, e23], hR.upd PS15.below 24 _ (Below.refl _ _) rfl⟩
    intro D a w' hD hI
    obtain ⟨gv, rfl, hR⟩ := hI
    have e9 : gv 9 = .bool false := hR.e 9 (hD 9 (by decide))
    have e24 : gv 24 = .bool false := hR.e 24 (hD 24 (by decide))
    rw [e9, e24]
    have hb := hR.b
    simp only [List.drop_succ_cons, List.drop_zero]
    clear hD hR e9 e24
    go_wp2_with fail
    exact HH.out _ _ _ _ _ _ _ _ _ _ _ _ _ _ _ _ _ _ _ _ _ _ _ _ _ _ hb
  · have t1 : decide ((r8 : Int) = 5) = false := by simp; omega
    have t1' : ((r8 : Int) == 5) = false := by simp; omega
    refine wp_region_steps 25 [[], [], [1], [2], [], [4], [3, 5], [0, 6], [7], [8], [9], [9, 10], [9, 11], [9, 12], [13], [13], [13], [13], [13], [13], [13], [13], [13], [13], [9, 13]] (fun D a w' => ∃ gv : Nat → Value, a = ⟨#[x0, x1, .int .u8 kd, .int .i64 n, .int .i64 p, .pointer (some ⟨b5, 0, none⟩), x6, x7, x8, x9, x10, x11, x12, x13, x14, x15, x16, x17, x18, x19, x20, x21, x22, x23, x24, x25, x26, x27, x28, x29, x30, x31, x32, x33, x34, x35, x36, x37, x38, x39, x40, x41, x42, x43, x44, x45, x46, x47, x48, x49, x50, x51, x52, x53, x54, x55, gv 0, gv 1, gv 2, gv 3, gv 4, gv 5, gv 6, gv 7, gv 8, gv 9, gv 10, gv 11, gv 12, gv 13, gv 14, gv 15, gv 16, gv 17, gv 18, gv 19, gv 20, gv 21, gv 22, gv 23, gv 24, x81, x82, x83, x84, x85, x86, x87, x88, x89, x90, x91, x92, x93, x94, x95, x96, x97, x98, x99, x100, x101, x102, x103, x104, x105, x106, x107, x108, x109, x110, x111, x112, x113, x114, x115, x116, x117, x118, x119, x120, x121, x122, x123, x124, x125, x126, x127, x128, x129, x130, x131, x132, x133, x134, x135, x136, x137, x138, x139, x140, x141, x142, x143, x144, x145, x146, x147, x148, x149, x150, x151, x152, x153, x154, x155, x156, x157, x158, x159, x160, x161, x162, x163, x164, x165, x166, x167, x168, x169, x170, x171, x172, x173, x174, x175, x176, x177, x178, x179, x180, x181, x182, x183, x184, x185, x186, x187, x188, x189, x190, x191, x192, x193, x194, x195, x196, x197, x198, x199, x200, x201, x202, x203, x204, x205, x206, x207, x208, x209, x210, x211, x212, x213, x214, x215, x216, x217, x218, x219, x220, x221, x222, x223, x224, x225, x226, x227, x228, x229, x230, x231, x232, x233, x234, x235, x236, x237, x238, x239, x240, x241, x242, x243], []⟩ ∧ Iq X (PW ([.agg #[.int .u8 kd, .slice (some ⟨g0, 0, none⟩) n n], .int .i64 p, .int .u32 p, .int .u32 ((p : Int) * 16777216), .int .i64 n, .int .u32 n, .int .u32 (bits .or .u32 ((p : Int) * 16777216) n), .bool true, .bool false, .bool false, .int .i64 p, .int .i64 r8, .bool false, .bool false, undef, undef, undef, undef, undef, undef, undef, undef, undef, undef, .bool false] : List Value)) D gv w') (by kernel_rfl) (by kernel_rfl) ⟨fun i => if i = 0 then x56 else if i = 1 then x57 else if i = 2 then x58 else if i = 3 then x59 else if i = 4 then x60 else if i = 5 then x61 else if i = 6 then x62 else if i = 7 then x63 else if i = 8 then x64 else if i = 9 then x65 else if i = 10 then x66 else if i = 11 then x67 else if i = 12 then x68 else if i = 13 then x69 else if i = 14 then x70 else if i = 15 then x71 else if i = 16 then x72 else if i = 17 then x73 else if i = 18 then x74 else if i = 19 then x75 else if i = 20 then x76 else if i = 21 then x77 else if i = 22 then x78 else if i = 23 then x79 else if i = 24 then x80 else undef, rfl, Iq.zero _ _ _⟩ ?_ ?_
    · simp only [List.take_succ_cons, List.take_zero]
      refine ⟨?_, ?_, ?_, ?_, ?_, ?_, ?_, ?_, ?_, ?_, ?_, ?_, ?_, ?_, ?_, ?_, ?_, ?_, ?_, ?_, ?_, ?_, ?_, ?_, ?_, trivial⟩
      · intro D a w' hn hp hI
        obtain ⟨gv, rfl, hR⟩ := hI
        have ca := kc hR.b o0
        have cb := kc hR.b o1
        clear hn hp
        go_wp2_with fail
        exact ⟨fun ix => if ix = 0 then .agg #[.int .u8 kd, .slice (some ⟨g0, 0, none⟩) n n] else gv ix, by rfl, hR.upd PW.below 0 _ (Below.refl _ _) rfl⟩
      · intro D a w' hn hp hI
        obtain ⟨gv, rfl, hR⟩ := hI
        clear hn hp
        go_wp2_with fail
        exact ⟨fun ix => if ix = 1 then .int .i64 p else gv ix, by rfl, hR.upd PW.below 1 _ (Below.refl _ _) rfl⟩
      · intro D a w' hn hp hI
        obtain ⟨gv, rfl, hR⟩ := hI
        have e1 : gv 1 = .int .i64 p := hR.e 1 hp.1
        rw [e1]
        have hc : (p : Int) % 4294967296 = p := by omega
        clear hn hp
        go_wp2_with fail
        exact ⟨fun ix => if ix = 2 then .int .u32 p else gv ix, by simp [e1], hR.upd PW.below 2 _ (Below.refl _ _) rfl⟩
      · intro D a w' hn hp hI
        obtain ⟨gv, rfl, hR⟩ := hI
        have e2 : gv 2 = .int .u32 p := hR.e 2 hp.1
        rw [e2]
        have hc : ((p : Int) * 16777216) % 4294967296 = (p : Int) * 16777216 := by omega
        have hc2 : (16777216 * (p : Int)) % 4294967296 = (p : Int) * 16777216 := by omega
        clear hn hp
        go_wp2_with fail
        exact ⟨fun ix => if ix = 3 then .int .u32 ((p : Int) * 16777216) else gv ix, by simp [e2], hR.upd PW.below 3 _ (Below.refl _ _) rfl⟩
      · intro D a w' hn hp hI
        obtain ⟨gv, rfl, hR⟩ := hI
        clear hn hp
        go_wp2_with fail
        exact ⟨fun ix => if ix = 4 then .int .i64 n else gv ix, by rfl, hR.upd PW.below 4 _ (Below.refl _ _) rfl⟩
      · intro D a w' hn hp hI
        obtain ⟨gv, rfl, hR⟩ := hI
        have e4 : gv 4 = .int .i64 n := hR.e 4 hp.1
        rw [e4]
        have hc : (n : Int) % 4294967296 = n := by omega
        clear hn hp
        go_wp2_with fail
        exact ⟨fun ix => if ix = 5 then .int .u32 n else gv ix, by simp [e4], hR.upd PW.below 5 _ (Below.refl _ _) rfl⟩
      · intro D a w' hn hp hI
        obtain ⟨gv, rfl, hR⟩ := hI
        have e3 : gv 3 = .int .u32 ((p : Int) * 16777216) := hR.e 3 hp.1
        rw [e3]
        have e5 : gv 5 = .int .u32 n := hR.e 5 hp.2.1
        rw [e5]
        clear hn hp
        go_wp2_with fail
        exact ⟨fun ix => if ix = 6 then .int .u32 (bits .or .u32 ((p : Int) * 16777216) n) else gv ix, by simp [e3, e5], hR.upd PW.below 6 _ (Below.refl _ _) rfl⟩
      · intro D a w' hn hp hI
        obtain ⟨gv, rfl, hR⟩ := hI
        have e0 : gv 0 = .agg #[.int .u8 kd, .slice (some ⟨g0, 0, none⟩) n n] := hR.e 0 hp.1
        rw [e0]
        have e6 : gv 6 = .int .u32 (bits .or .u32 ((p : Int) * 16777216) n) := hR.e 6 hp.2.1
        rw [e6]
        have HB2 := Lib.hid hR.b
        clear hn hp
        go_wp2_with fail
        refine (tells_s kd d n (some ⟨g0, 0, none⟩) n (bits .or .u32 ((p : Int) * 16777216) n) _ HN.out hk (HD.out.below HB2.out) (Nat.le_refl _) (lt_maxLen' (by omega)) (fun h => by cases h) (shl_or p n hp h40)).mono ?_
        rintro e Y ⟨rfl, hby⟩
        go_wp2_with fail
        exact ⟨fun ix => if ix = 7 then .bool true else gv ix, by simp [e0, e6], hR.upd PW.below 7 _ hby rfl⟩
      · intro D a w' hn hp hI
        obtain ⟨gv, rfl, hR⟩ := hI
        have e7 : gv 7 = .bool true := hR.e 7 hp.1
        rw [e7]
        clear hn hp
        go_wp2_with fail
        exact ⟨fun ix => if ix = 8 then .bool false else gv ix, by simp [e7], hR.upd PW.below 8 _ (Below.refl _ _) rfl⟩
      · intro D a w' hn hp hI
        obtain ⟨gv, rfl, hR⟩ := hI
        have e8 : gv 8 = .bool false := hR.e 8 hp.1
        rw [e8]
        clear hn hp
        go_wp2_with fail
        exact ⟨fun ix => if ix = 9 then .bool false else gv ix, by simp [e8], hR.upd PW.below 9 _ (Below.refl _ _) rfl⟩
      · intro D a w' hn hp hI
        obtain ⟨gv, rfl, hR⟩ := hI
        have e9 : gv 9 = .bool false := hR.e 9 hp.1
        rw [e9]
        clear hn hp
        go_wp2_with fail
        exact ⟨fun ix => if ix = 10 then .int .i64 p else gv ix, by simp [e9], hR.upd PW.below 10 _ (Below.refl _ _) rfl⟩
      · intro D a w' hn hp hI
        obtain ⟨gv, rfl, hR⟩ := hI
        have e9 : gv 9 = .bool false := hR.e 9 hp.1
        rw [e9]
        have e10 : gv 10 = .int .i64 p := hR.e 10 hp.2.1
        rw [e10]
        have ht8 := HT8.out
        clear hn hp
        go_wp2_with fail
        exact ⟨fun ix => if ix = 11 then .int .i64 r8 else gv ix, by simp [e9, e10], hR.upd PW.below 11 _ (Below.refl _ _) rfl⟩
      · intro D a w' hn hp hI
        obtain ⟨gv, rfl, hR⟩ := hI
        have e9 : gv 9 = .bool false := hR.e 9 hp.1
        rw [e9]
        have e11 : gv 11 = .int .i64 r8 := hR.e 11 hp.2.1
        rw [e11]
        clear hn hp
        go_wp2_with fail
        exact ⟨fun ix => if ix = 12 then .bool false else gv ix, by simp [e9, e11], hR.upd PW.below 12 _ (Below.refl _ _) rfl⟩
      · intro D a w' hn hp hI
        obtain ⟨gv, rfl, hR⟩ := hI
        have e9 : gv 9 = .bool false := hR.e 9 hp.1
        rw [e9]
        have e12 : gv 12 = .bool false := hR.e 12 hp.2.1
        rw [e12]
        clear hn hp
        go_wp2_with fail
        exact ⟨fun ix => if ix = 13 then .bool false else gv ix, by simp [e9, e12], hR.upd PW.below 13 _ (Below.refl _ _) rfl⟩
      · intro D a w' hn hp hI
        obtain ⟨gv, rfl, hR⟩ := hI
        have e13 : gv 13 = .bool false := hR.e 13 hp.1
        rw [e13]
        clear hn hp
        go_wp2_with fail
        exact ⟨fun ix => if ix = 14 then undef else gv ix, by simp [e13], hR.upd PW.below 14 _ (Below.refl _ _) rfl⟩
      · intro D a w' hn hp hI
        obtain ⟨gv, rfl, hR⟩ := hI
        have e13 : gv 13 = .bool false := hR.e 13 hp.1
        rw [e13]
        clear hn hp
        go_wp2_with fail
        exact ⟨fun ix => if ix = 15 then undef else gv ix, by simp [e13], hR.upd PW.below 15 _ (Below.refl _ _) rfl⟩
      · intro D a w' hn hp hI
        obtain ⟨gv, rfl, hR⟩ := hI
        have e13 : gv 13 = .bool false := hR.e 13 hp.1
        rw [e13]
        clear hn hp
        go_wp2_with fail
        exact ⟨fun ix => if ix = 16 then undef else gv ix, by simp [e13], hR.upd PW.below 16 _ (Below.refl _ _) rfl⟩
      · intro D a w' hn hp hI
        obtain ⟨gv, rfl, hR⟩ := hI
        have e13 : gv 13 = .bool false := hR.e 13 hp.1
        rw [e13]
        clear hn hp
        go_wp2_with fail
        exact ⟨fun ix => if ix = 17 then undef else gv ix, by simp [e13], hR.upd PW.below 17 _ (Below.refl _ _) rfl⟩
      · intro D a w' hn hp hI
        obtain ⟨gv, rfl, hR⟩ := hI
        have e13 : gv 13 = .bool false := hR.e 13 hp.1
        rw [e13]
        clear hn hp
        go_wp2_with fail
        exact ⟨fun ix => if ix = 18 then undef else gv ix, by simp [e13], hR.upd PW.below 18 _ (Below.refl _ _) rfl⟩
      · intro D a w' hn hp hI
        obtain ⟨gv, rfl, hR⟩ := hI
        have e13 : gv 13 = .bool false := hR.e 13 hp.1
        rw [e13]
        clear hn hp
        go_wp2_with fail
        exact ⟨fun ix => if ix = 19 then undef else gv ix, by simp [e13], hR.upd PW.below 19 _ (Below.refl _ _) rfl⟩
      · intro D a w' hn hp hI
        obtain ⟨gv, rfl, hR⟩ := hI
        have e13 : gv 13 = .bool false := hR.e 13 hp.1
        rw [e13]
        clear hn hp
        go_wp2_with fail
        exact ⟨fun ix => if ix = 20 then undef else gv ix, by simp [e13], hR.upd PW.below 20 _ (Below.refl _ _) rfl⟩
      · intro D a w' hn hp hI
        obtain ⟨gv, rfl, hR⟩ := hI
        have e13 : gv 13 = .bool false := hR.e 13 hp.1
        rw [e13]
        clear hn hp
        go_wp2_with fail
        exact ⟨fun ix => if ix = 21 then undef else gv ix, by simp [e13], hR.upd PW.below 21 _ (Below.refl _ _) rfl⟩
      · intro D a w' hn hp hI
        obtain ⟨gv, rfl, hR⟩ := hI
        have e13 : gv 13 = .bool false := hR.e 13 hp.1
        rw [e13]
        clear hn hp
        go_wp2_with fail
        exact ⟨fun ix => if ix = 22 then undef else gv ix, by simp [e13], hR.upd PW.below 22 _ (Below.refl _ _) rfl⟩
      · intro D a w' hn hp hI
        obtain ⟨gv, rfl, hR⟩ := hI
        have e13 : gv 13 = .bool false := hR.e 13 hp.1
        rw [e13]
        clear hn hp
        go_wp2_with fail
        exact ⟨fun ix => if ix = 23 then undef else gv ix, by simp [e13], hR.upd PW.below 23 _ (Below.refl _ _) rfl⟩
      · intro D a w' hn hp hI
        obtain ⟨gv, rfl, hR⟩ := hI
        have e9 : gv 9 = .bool false := hR.e 9 hp.1
        rw [e9]
        have e13 : gv 13 = .bool false := hR.e 13 hp.2.1
        rw [e13]
        clear hn hp
        go_wp2_with fail
        exact ⟨fun ix => if ix = 24 then .bool false else gv ix, by simp [e9, e13], hR.upd PW.below 24 _ (Below.refl _ _) rfl⟩
    intro D a w' hD hI
    obtain ⟨gv, rfl, hR⟩ := hI
    have e9 : gv 9 = .bool false := hR.e 9 (hD 9 (by decide))
    have e24 : gv 24 = .bool false := hR.e 24 (hD 24 (by decide))
    rw [e9, e24]
    have hb := hR.b
    simp only [List.drop_succ_cons, List.drop_zero]
    clear hD hR e9 e24
    go_wp2_with fail
    exact HH.out _ _ _ _ _ _ _ _ _ _ _ _ _ _ _ _ _ _ _ _ _ _ _ _ _ _ hb
theorem by_at {W : World} {b : Nat} {d : List Int} (h : By W (some ⟨b, 0, none⟩) d) {q : Nat} (hq : q < d.length) : ∃ u, W.cell? ⟨b, q, none⟩ = some (.int .u8 u) ∧ 0 ≤ u ∧ u ≤ 255 :=
  ⟨d.getD q 0, by simpa using h.cell (getD_some hq), h.getD q⟩
/-- What region 24's operations leave. -/
def PS24 (d : List Int) (vals : List Value) : Nat → Value → World → Prop
  | 22, v, W => ∃ b, v = .slice (some ⟨b, 0, none⟩) 4 4 ∧ By W (some ⟨b, 0, none⟩) d
  | i, v, _ => v = vals.getD i undef
theorem PS24.below {d : List Int} {vals : List Value} (i : Nat) (v : Value) (X Y : World) (h : PS24 d vals i v X) (hb : Below X.heap.size X Y) : PS24 d vals i v Y := by
  by_cases h1 : i = 22
  · subst h1
    obtain ⟨q, e, h2⟩ := h
    exact ⟨q, e, h2.below hb⟩
  unfold PS24 at h ⊢
  split at h <;> first | contradiction | exact h
set_option maxRecDepth 100000 in
set_option maxHeartbeats 8000000 in
theorem r24_any (C : Code) (hC : findC (isReg 24) (Try.f12.body.getD .skip) = some C) (Q : Exit → Act → World → Prop) {X : World} {b6 i : Nat} {d6 : List Int} {x0 x1 x2 x3 x4 x5 x8 x9 x10 x11 x12 x13 x14 x15 x16 x17 x18 x19 x20 x21 x22 x23 x24 x25 x26 x27 x28 x29 x30 x31 x32 x33 x34 x35 x36 x37 x38 x39 x40 x41 x42 x43 x44 x45 x46 x47 x48 x49 x50 x51 x52 x53 x54 x55 x56 x57 x58 x59 x60 x61 x62 x63 x64 x65 x66 x67 x68 x69 x70 x71 x72 x73 x74 x75 x76 x77 x78 x79 x80 x81 x82 x83 x84 x85 x86 x87 x88 x89 x90 x91 x92 x93 x94 x95 x96 x97 x98 x99 x100 x101 x102 x103 x104 x105 x106 x107 x108 x109 x110 x111 x112 x113 x114 x115 x116 x117 x118 x119 x120 x121 x122 x123 x124 x125 x126 x127 x128 x129 x130 x131 x132 x133 x134 x135 x136 x137 x138 x139 x140 x141 x142 x143 x144 x145 x146 x147 x148 x149 x150 x151 x152 x153 x154 x155 x156 x157 x158 x159 x160 x161 x162 x163 x164 x165 x166 x167 x168 x169 x170 x171 x172 x173 x174 x175 x176 x177 x178 x179 x180 x181 x182 x183 x184 x185 x186 x187 x188 x189 x190 x191 x192 x193 x194 x195 x196 x197 x198 x199 x200 x201 x202 x203 x204 x205 x206 x207 x208 x209 x210 x211 x212 x213 x214 x215 x216 x217 x218 x219 x220 x221 x222 x223 x224 x225 x226 x227 x228 x229 x230 x231 x232 x233 x234 x235 x236 x237 x238 x239 x240 x241 x242 x243 : Value}
    (h6 : By X (some ⟨b6, 0, none⟩) d6) (h68 : d6.length = 8) (hi : i < 4096)
    (hh : ∀ (y107 y108 y109 y110 y111 y112 y113 y114 y115 y116 y117 y118 y119 y120 y121 y122 y123 y124 y125 y126 y127 y128 y129 : Value) (b : Nat) (d : List Int) (w' : World), d.length = 4 → By w' (some ⟨b, 0, none⟩) d → Below X.heap.size X w' → Q .normal ⟨#[x0, x1, x2, x3, x4, x5, .slice (some ⟨b6, 0, none⟩) 8 8, .int .i64 i, .slice (some ⟨b, 0, none⟩) 4 4, x9, x10, x11, x12, x13, x14, x15, x16, x17, x18, x19, x20, x21, x22, x23, x24, x25, x26, x27, x28, x29, x30, x31, x32, x33, x34, x35, x36, x37, x38, x39, x40, x41, x42, x43, x44, x45, x46, x47, x48, x49, x50, x51, x52, x53, x54, x55, x56, x57, x58, x59, x60, x61, x62, x63, x64, x65, x66, x67, x68, x69, x70, x71, x72, x73, x74, x75, x76, x77, x78, x79, x80, x81, x82, x83, x84, x85, x86, x87, x88, x89, x90, x91, x92, x93, x94, x95, x96, x97, x98, x99, x100, x101, x102, x103, x104, x105, x106, y107, y108, y109, y110, y111, y112, y113, y114, y115, y116, y117, y118, y119, y120, y121, y122, y123, y124, y125, y126, y127, y128, y129, x130, x131, x132, x133, x134, x135, x136, x137, x138, x139, x140, x141, x142, x143, x144, x145, x146, x147, x148, x149, x150, x151, x152, x153, x154, x155, x156, x157, x158, x159, x160, x161, x162, x163, x164, x165, x166, x167, x168, x169, x170, x171, x172, x173, x174, x175, x176, x177, x178, x179, x180, x181, x182, x183, x184, x185, x186, x187, x188, x189, x190, x191, x192, x193, x194, x195, x196, x197, x198, x199, x200, x201, x202, x203, x204, x205, x206, x207, x208, x209, x210, x211, x212, x213, x214, x215, x216, x217, x218, x219, x220, x221, x222, x223, x224, x225, x226, x227, x228, x229, x230, x231, x232, x233, x234, x235, x236, x237, x238, x239, x240, x241, x242, x243], []⟩ w') : C.wp Try.prog Q ⟨#[x0, x1, x2, x3, x4, x5, .slice (some ⟨b6, 0, none⟩) 8 8, .int .i64 i, x8, x9, x10, x11, x12, x13, x14, x15, x16, x17, x18, x19, x20, x21, x22, x23, x24, x25, x26, x27, x28, x29, x30, x31, x32, x33, x34, x35, x36, x37, x38, x39, x40, x41, x42, x43, x44, x45, x46, x47, x48, x49, x50, x51, x52, x53, x54, x55, x56, x57, x58, x59, x60, x61, x62, x63, x64, x65, x66, x67, x68, x69, x70, x71, x72, x73, x74, x75, x76, x77, x78, x79, x80, x81, x82, x83, x84, x85, x86, x87, x88, x89, x90, x91, x92, x93, x94, x95, x96, x97, x98, x99, x100, x101, x102, x103, x104, x105, x106, x107, x108, x109, x110, x111, x112, x113, x114, x115, x116, x117, x118, x119, x120, x121, x122, x123, x124, x125, x126, x127, x128, x129, x130, x131, x132, x133, x134, x135, x136, x137, x138, x139, x140, x141, x142, x143, x144, x145, x146, x147, x148, x149, x150, x151, x152, x153, x154, x155, x156, x157, x158, x159, x160, x161, x162, x163, x164, x165, x166, x167, x168, x169, x170, x171, x172, x173, x174, x175, x176, x177, x178, x179, x180, x181, x182, x183, x184, x185, x186, x187, x188, x189, x190, x191, x192, x193, x194, x195, x196, x197, x198, x199, x200, x201, x202, x203, x204, x205, x206, x207, x208, x209, x210, x211, x212, x213, x214, x215, x216, x217, x218, x219, x220, x221, x222, x223, x224, x225, x226, x227, x228, x229, x230, x231, x232, x233, x234, x235, x236, x237, x238, x239, x240, x241, x242, x243], []⟩ X := by
  cases hC
  let QQ : Exit → Act → World → Prop := bodyPost Try.prog Try.f12 (fun _ _ => True)
  dsimp only
  have HH := Lib.hid hh
  obtain ⟨q1, e1⟩ : ∃ r : Nat, (i : Int).tmod 8 = r := ⟨i % 8, by rw [Int.tmod_eq_emod_of_nonneg (by omega)]; omega⟩
  obtain ⟨a8, e2⟩ : ∃ r : Nat, (i : Int).tdiv 8 = r := ⟨i / 8, by rw [Int.tdiv_eq_ediv_of_nonneg (by omega)]; omega⟩
  obtain ⟨q2, e3⟩ : ∃ r : Nat, (a8 : Int).tmod 8 = r := ⟨a8 % 8, by rw [Int.tmod_eq_emod_of_nonneg (by omega)]; omega⟩
  obtain ⟨a64, e4⟩ : ∃ r : Nat, (i : Int).tdiv 64 = r := ⟨i / 64, by rw [Int.tdiv_eq_ediv_of_nonneg (by omega)]; omega⟩
  obtain ⟨q3, e5⟩ : ∃ r : Nat, (a64 : Int).tmod 8 = r := ⟨a64 % 8, by rw [Int.tmod_eq_emod_of_nonneg (by omega)]; omega⟩
  obtain ⟨q4, e6⟩ : ∃ r : Nat, (i : Int).tdiv 512 = r := ⟨i / 512, by rw [Int.tdiv_eq_ediv_of_nonneg (by omega)]; omega⟩
  have ba8 : a8 < 512 := by rw [Int.tdiv_eq_ediv_of_nonneg (by omega)] at e2; omega
  have ba64 : a64 < 64 := by rw [Int.tdiv_eq_ediv_of_nonneg (by omega)] at e4; omega
  have b1 : q1 < 8 := by rw [Int.tmod_eq_emod_of_nonneg (by omega)] at e1; omega
  have b2 : q2 < 8 := by rw [Int.tmod_eq_emod_of_nonneg (by omega)] at e3; omega
  have b3 : q3 < 8 := by rw [Int.tmod_eq_emod_of_nonneg (by omega)] at e5; omega
  have b4 : q4 < 8 := by rw [Int.tdiv_eq_ediv_of_nonneg (by omega)] at e6; omega
  obtain ⟨u1, c1, g1⟩ := by_at h6 (by rw [h68]; exact b1)
  obtain ⟨u2, c2, g2⟩ := by_at h6 (by rw [h68]; exact b2)
  obtain ⟨u3, c3, g3⟩ := by_at h6 (by rw [h68]; exact b3)
  obtain ⟨u4, c4, g4⟩ := by_at h6 (by rw [h68]; exact b4)
  have b1' : (q1 : Int) < 8 := by omega
  have b2' : (q2 : Int) < 8 := by omega
  have b3' : (q3 : Int) < 8 := by omega
  have b4' : (q4 : Int) < 8 := by omega
  have E1 := Lib.hid e1
  have E2 := Lib.hid e2
  have E3 := Lib.hid e3
  have E4 := Lib.hid e4
  have E5 := Lib.hid e5
  have E6 := Lib.hid e6
  have l6 := cell_lt c1
  replace l6 : b6 < X.heap.size := l6
  clear hh h6 h68 e1 e2 e3 e4 e5 e6
  refine wp_region_steps 23 [[], [], [1], [0, 2], [3], [], [], [6], [7], [5, 8], [9], [], [], [12], [13], [11, 14], [15], [], [], [18], [17, 19], [20], [4, 10, 16, 21]] (fun D a w' => ∃ gv : Nat → Value, a = ⟨#[x0, x1, x2, x3, x4, x5, .slice (some ⟨b6, 0, none⟩) 8 8, .int .i64 i, x8, x9, x10, x11, x12, x13, x14, x15, x16, x17, x18, x19, x20, x21, x22, x23, x24, x25, x26, x27, x28, x29, x30, x31, x32, x33, x34, x35, x36, x37, x38, x39, x40, x41, x42, x43, x44, x45, x46, x47, x48, x49, x50, x51, x52, x53, x54, x55, x56, x57, x58, x59, x60, x61, x62, x63, x64, x65, x66, x67, x68, x69, x70, x71, x72, x73, x74, x75, x76, x77, x78, x79, x80, x81, x82, x83, x84, x85, x86, x87, x88, x89, x90, x91, x92, x93, x94, x95, x96, x97, x98, x99, x100, x101, x102, x103, x104, x105, x106, gv 0, gv 1, gv 2, gv 3, gv 4, gv 5, gv 6, gv 7, gv 8, gv 9, gv 10, gv 11, gv 12, gv 13, gv 14, gv 15, gv 16, gv 17, gv 18, gv 19, gv 20, gv 21, gv 22, x130, x131, x132, x133, x134, x135, x136, x137, x138, x139, x140, x141, x142, x143, x144, x145, x146, x147, x148, x149, x150, x151, x152, x153, x154, x155, x156, x157, x158, x159, x160, x161, x162, x163, x164, x165, x166, x167, x168, x169, x170, x171, x172, x173, x174, x175, x176, x177, x178, x179, x180, x181, x182, x183, x184, x185, x186, x187, x188, x189, x190, x191, x192, x193, x194, x195, x196, x197, x198, x199, x200, x201, x202, x203, x204, x205, x206, x207, x208, x209, x210, x211, x212, x213, x214, x215, x216, x217, x218, x219, x220, x221, x222, x223, x224, x225, x226, x227, x228, x229, x230, x231, x232, x233, x234, x235, x236, x237, x238, x239, x240, x241, x242, x243], []⟩ ∧ Iq X (PS24 [u1, u2, u3, u4] ([.slice (some ⟨b6, 0, none⟩) 8 8, .int .i64 i, .int .i64 q1, .pointer (some ⟨b6, q1, none⟩), .int .u8 u1, .slice (some ⟨b6, 0, none⟩) 8 8, .int .i64 i, .int .i64 a8, .int .i64 q2, .pointer (some ⟨b6, q2, none⟩), .int .u8 u2, .slice (some ⟨b6, 0, none⟩) 8 8, .int .i64 i, .int .i64 a64, .int .i64 q3, .pointer (some ⟨b6, q3, none⟩), .int .u8 u3, .slice (some ⟨b6, 0, none⟩) 8 8, .int .i64 i, .int .i64 q4, .pointer (some ⟨b6, q4, none⟩), .int .u8 u4, undef] : List Value)) D gv w') (by kernel_rfl) (by kernel_rfl) ⟨fun i => if i = 0 then x107 else if i = 1 then x108 else if i = 2 then x109 else if i = 3 then x110 else if i = 4 then x111 else if i = 5 then x112 else if i = 6 then x113 else if i = 7 then x114 else if i = 8 then x115 else if i = 9 then x116 else if i = 10 then x117 else if i = 11 then x118 else if i = 12 then x119 else if i = 13 then x120 else if i = 14 then x121 else if i = 15 then x122 else if i = 16 then x123 else if i = 17 then x124 else if i = 18 then x125 else if i = 19 then x126 else if i = 20 then x127 else if i = 21 then x128 else if i = 22 then x129 else undef, rfl, Iq.zero _ _ _⟩ ?_ ?_
  · simp only [List.take_succ_cons, List.take_zero]
    refine ⟨?_, ?_, ?_, ?_, ?_, ?_, ?_, ?_, ?_, ?_, ?_, ?_, ?_, ?_, ?_, ?_, ?_, ?_, ?_, ?_, ?_, ?_, ?_, trivial⟩
    · intro D a w' hn hp hI
      obtain ⟨gv, rfl, hR⟩ := hI
      clear hn hp
      go_wp2_with fail
      exact ⟨fun ix => if ix = 0 then .slice (some ⟨b6, 0, none⟩) 8 8 else gv ix, by rfl, hR.upd PS24.below 0 _ (Below.refl _ _) rfl⟩
    · intro D a w' hn hp hI
      obtain ⟨gv, rfl, hR⟩ := hI
      clear hn hp
      go_wp2_with fail
      exact ⟨fun ix => if ix = 1 then .int .i64 i else gv ix, by rfl, hR.upd PS24.below 1 _ (Below.refl _ _) rfl⟩
    · intro D a w' hn hp hI
      obtain ⟨gv, rfl, hR⟩ := hI
      have e1 : gv 1 = .int .i64 i := hR.e 1 hp.1
      rw [e1]
      have ee := E1.out
      clear hn hp
      go_wp2_with fail
      exact ⟨fun ix => if ix = 2 then .int .i64 q1 else gv ix, by simp [e1], hR.upd PS24.below 2 _ (Below.refl _ _) rfl⟩
    · intro D a w' hn hp hI
      obtain ⟨gv, rfl, hR⟩ := hI
      have e0 : gv 0 = .slice (some ⟨b6, 0, none⟩) 8 8 := hR.e 0 hp.1
      rw [e0]
      have e2 : gv 2 = .int .i64 q1 := hR.e 2 hp.2.1
      rw [e2]
      have l6' := Nat.lt_of_lt_of_le l6 hR.b.size
      clear hn hp
      go_wp2_with fail
      exact ⟨fun ix => if ix = 3 then .pointer (some ⟨b6, q1, none⟩) else gv ix, by simp [e0, e2], hR.upd PS24.below 3 _ (Below.refl _ _) rfl⟩
    · intro D a w' hn hp hI
      obtain ⟨gv, rfl, hR⟩ := hI
      have e3 : gv 3 = .pointer (some ⟨b6, q1, none⟩) := hR.e 3 hp.1
      rw [e3]
      have cc := kc hR.b c1
      clear hn hp
      go_wp2_with fail
      exact ⟨fun ix => if ix = 4 then .int .u8 u1 else gv ix, by simp [e3], hR.upd PS24.below 4 _ (Below.refl _ _) rfl⟩
    · intro D a w' hn hp hI
      obtain ⟨gv, rfl, hR⟩ := hI
      clear hn hp
      go_wp2_with fail
      exact ⟨fun ix => if ix = 5 then .slice (some ⟨b6, 0, none⟩) 8 8 else gv ix, by rfl, hR.upd PS24.below 5 _ (Below.refl _ _) rfl⟩
    · intro D a w' hn hp hI
      obtain ⟨gv, rfl, hR⟩ := hI
      clear hn hp
      go_wp2_with fail
      exact ⟨fun ix => if ix = 6 then .int .i64 i else gv ix, by rfl, hR.upd PS24.below 6 _ (Below.refl _ _) rfl⟩
    · intro D a w' hn hp hI
      obtain ⟨gv, rfl, hR⟩ := hI
      have e6 : gv 6 = .int .i64 i := hR.e 6 hp.1
      rw [e6]
      have ee := E2.out
      clear hn hp
      go_wp2_with fail
      exact ⟨fun ix => if ix = 7 then .int .i64 a8 else gv ix, by simp [e6], hR.upd PS24.below 7 _ (Below.refl _ _) rfl⟩
    · intro D a w' hn hp hI
      obtain ⟨gv, rfl, hR⟩ := hI
      have e7 : gv 7 = .int .i64 a8 := hR.e 7 hp.1
      rw [e7]
      have ee := E3.out
      clear hn hp
      go_wp2_with fail
      exact ⟨fun ix => if ix = 8 then .int .i64 q2 else gv ix, by simp [e7], hR.upd PS24.below 8 _ (Below.refl _ _) rfl⟩
    · intro D a w' hn hp hI
      obtain ⟨gv, rfl, hR⟩ := hI
      have e5 : gv 5 = .slice (some ⟨b6, 0, none⟩) 8 8 := hR.e 5 hp.1
      rw [e5]
      have e8 : gv 8 = .int .i64 q2 := hR.e 8 hp.2.1
      rw [e8]
      have l6' := Nat.lt_of_lt_of_le l6 hR.b.size
      clear hn hp
      go_wp2_with fail
      exact ⟨fun ix => if ix = 9 then .pointer (some ⟨b6, q2, none⟩) else gv ix, by simp [e5, e8], hR.upd PS24.below 9 _ (Below.refl _ _) rfl⟩
    · intro D a w' hn hp hI
      obtain ⟨gv, rfl, hR⟩ := hI
      have e9 : gv 9 = .pointer (some ⟨b6, q2, none⟩) := hR.e 9 hp.1
      rw [e9]
      have cc := kc hR.b c2
      clear hn hp
      go_wp2_with fail
      exact ⟨fun ix => if ix = 10 then .int .u8 u2 else gv ix, by simp [e9], hR.upd PS24.below 10 _ (Below.refl _ _) rfl⟩
    · intro D a w' hn hp hI
      obtain ⟨gv, rfl, hR⟩ := hI
      clear hn hp
      go_wp2_with fail
      exact ⟨fun ix => if ix = 11 then .slice (some ⟨b6, 0, none⟩) 8 8 else gv ix, by rfl, hR.upd PS24.below 11 _ (Below.refl _ _) rfl⟩
    · intro D a w' hn hp hI
      obtain ⟨gv, rfl, hR⟩ := hI
      clear hn hp
      go_wp2_with fail
      exact ⟨fun ix => if ix = 12 then .int .i64 i else gv ix, by rfl, hR.upd PS24.below 12 _ (Below.refl _ _) rfl⟩
    · intro D a w' hn hp hI
      obtain ⟨gv, rfl, hR⟩ := hI
      have e12 : gv 12 = .int .i64 i := hR.e 12 hp.1
      rw [e12]
      have ee := E4.out
      clear hn hp
      go_wp2_with fail
      exact ⟨fun ix => if ix = 13 then .int .i64 a64 else gv ix, by simp [e12], hR.upd PS24.below 13 _ (Below.refl _ _) rfl⟩
    · intro D a w' hn hp hI
      obtain ⟨gv, rfl, hR⟩ := hI
      have e13 : gv 13 = .int .i64 a64 := hR.e 13 hp.1
      rw [e13]
      have ee := E5.out
      clear hn hp
      go_wp2_with fail
      exact ⟨fun ix => if ix = 14 then .int .i64 q3 else gv ix, by simp [e13], hR.upd PS24.below 14 _ (Below.refl _ _) rfl⟩
    · intro D a w' hn hp hI
      obtain ⟨gv, rfl, hR⟩ := hI
      have e11 : gv 11 = .slice (some ⟨b6, 0, none⟩) 8 8 := hR.e 11 hp.1
      rw [e11]
      have e14 : gv 14 = .int .i64 q3 := hR.e 14 hp.2.1
      rw [e14]
      have l6' := Nat.lt_of_lt_of_le l6 hR.b.size
      clear hn hp
      go_wp2_with fail
      exact ⟨fun ix => if ix = 15 then .pointer (some ⟨b6, q3, none⟩) else gv ix, by simp [e11, e14], hR.upd PS24.below 15 _ (Below.refl _ _) rfl⟩
    · intro D a w' hn hp hI
      obtain ⟨gv, rfl, hR⟩ := hI
      have e15 : gv 15 = .pointer (some ⟨b6, q3, none⟩) := hR.e 15 hp.1
      rw [e15]
      have cc := kc hR.b c3
      clear hn hp
      go_wp2_with fail
      exact ⟨fun ix => if ix = 16 then .int .u8 u3 else gv ix, by simp [e15], hR.upd PS24.below 16 _ (Below.refl _ _) rfl⟩
    · intro D a w' hn hp hI
      obtain ⟨gv, rfl, hR⟩ := hI
      clear hn hp
      go_wp2_with fail
      exact ⟨fun ix => if ix = 17 then .slice (some ⟨b6, 0, none⟩) 8 8 else gv ix, by rfl, hR.upd PS24.below 17 _ (Below.refl _ _) rfl⟩
    · intro D a w' hn hp hI
      obtain ⟨gv, rfl, hR⟩ := hI
      clear hn hp
      go_wp2_with fail
      exact ⟨fun ix => if ix = 18 then .int .i64 i else gv ix, by rfl, hR.upd PS24.below 18 _ (Below.refl _ _) rfl⟩
    · intro D a w' hn hp hI
      obtain ⟨gv, rfl, hR⟩ := hI
      have e18 : gv 18 = .int .i64 i := hR.e 18 hp.1
      rw [e18]
      have ee := E6.out
      clear hn hp
      go_wp2_with fail
      exact ⟨fun ix => if ix = 19 then .int .i64 q4 else gv ix, by simp [e18], hR.upd PS24.below 19 _ (Below.refl _ _) rfl⟩
    · intro D a w' hn hp hI
      obtain ⟨gv, rfl, hR⟩ := hI
      have e17 : gv 17 = .slice (some ⟨b6, 0, none⟩) 8 8 := hR.e 17 hp.1
      rw [e17]
      have e19 : gv 19 = .int .i64 q4 := hR.e 19 hp.2.1
      rw [e19]
      have l6' := Nat.lt_of_lt_of_le l6 hR.b.size
      clear hn hp
      go_wp2_with fail
      exact ⟨fun ix => if ix = 20 then .pointer (some ⟨b6, q4, none⟩) else gv ix, by simp [e17, e19], hR.upd PS24.below 20 _ (Below.refl _ _) rfl⟩
    · intro D a w' hn hp hI
      obtain ⟨gv, rfl, hR⟩ := hI
      have e20 : gv 20 = .pointer (some ⟨b6, q4, none⟩) := hR.e 20 hp.1
      rw [e20]
      have cc := kc hR.b c4
      clear hn hp
      go_wp2_with fail
      exact ⟨fun ix => if ix = 21 then .int .u8 u4 else gv ix, by simp [e20], hR.upd PS24.below 21 _ (Below.refl _ _) rfl⟩
    · intro D a w' hn hp hI
      obtain ⟨gv, rfl, hR⟩ := hI
      have e4 : gv 4 = .int .u8 u1 := hR.e 4 hp.1
      rw [e4]
      have e10 : gv 10 = .int .u8 u2 := hR.e 10 hp.2.1
      rw [e10]
      have e16 : gv 16 = .int .u8 u3 := hR.e 16 hp.2.2.1
      rw [e16]
      have e21 : gv 21 = .int .u8 u4 := hR.e 21 hp.2.2.2.1
      rw [e21]
      clear hn hp
      go_wp2_with fail
      exact ⟨fun ix => if ix = 22 then .slice (some ⟨w'.heap.size, 0, none⟩) 4 4 else gv ix, by simp [e4, e10, e16, e21], hR.upd PS24.below 22 _ ((Below.refl _ _).alloc (Nat.le_refl _) _) ⟨_, rfl, by_blk_s (heap_alloc_last _ _) rfl (by intro x hx; simp at hx; omega)⟩⟩
  intro D a w' hD hI
  obtain ⟨gv, rfl, hR⟩ := hI
  obtain ⟨b, e22, hby⟩ : ∃ b, gv 22 = .slice (some ⟨b, 0, none⟩) 4 4 ∧ By w' (some ⟨b, 0, none⟩) [u1, u2, u3, u4] := hR.e 22 (hD 22 (by decide))
  rw [e22]
  have hb := hR.b
  simp only [List.drop_succ_cons, List.drop_zero]
  clear hD hR e22
  go_wp2_with fail
  exact HH.out _ _ _ _ _ _ _ _ _ _ _ _ _ _ _ _ _ _ _ _ _ _ _ b _ _ rfl hby hb
/-- What region 32's operations leave. -/
def PS32 (n : Nat) (d : List Int) (vals : List Value) : Nat → Value → World → Prop
  | 5, v, W => ∃ q, v = .slice (some ⟨q, 0, none⟩) n n ∧ By W (some ⟨q, 0, none⟩) (List.replicate n 0)
  | 13, v, W => ∃ b, v = .slice (some ⟨b, 0, none⟩) 1 1 ∧ Ops W (some ⟨b, 0, none⟩) [(200, d.drop 2)]
  | 25, v, W => ∃ b, v = .slice (some ⟨b, 0, none⟩) 3 3 ∧ Ops W (some ⟨b, 0, none⟩) [(200, d.drop 20), (201, d.drop 22), (1, [])]
  | i, v, _ => v = vals.getD i undef
theorem PS32.below {n : Nat} {d : List Int} {vals : List Value} (i : Nat) (v : Value) (X Y : World) (h : PS32 n d vals i v X) (hb : Below X.heap.size X Y) : PS32 n d vals i v Y := by
  by_cases h1 : i = 5
  · subst h1
    obtain ⟨q, e, h2⟩ := h
    exact ⟨q, e, h2.below hb⟩
  by_cases h1 : i = 13
  · subst h1
    obtain ⟨q, e, h2⟩ := h
    exact ⟨q, e, h2.below hb⟩
  by_cases h1 : i = 25
  · subst h1
    obtain ⟨q, e, h2⟩ := h
    exact ⟨q, e, h2.below hb⟩
  unfold PS32 at h ⊢
  split at h <;> first | contradiction | exact h
set_option maxRecDepth 100000 in
set_option maxHeartbeats 8000000 in
theorem r32_any (C : Code) (hC : findC (isReg 32) (Try.f12.body.getD .skip) = some C) (Q : Exit → Act → World → Prop) {X : World} {b10 n : Nat} {d : List Int} {x0 x1 x2 x3 x4 x5 x6 x7 x8 x11 x12 x13 x14 x15 x16 x17 x18 x19 x20 x21 x22 x23 x24 x25 x26 x27 x28 x29 x30 x31 x32 x33 x34 x35 x36 x37 x38 x39 x40 x41 x42 x43 x44 x45 x46 x47 x48 x49 x50 x51 x52 x53 x54 x55 x56 x57 x58 x59 x60 x61 x62 x63 x64 x65 x66 x67 x68 x69 x70 x71 x72 x73 x74 x75 x76 x77 x78 x79 x80 x81 x82 x83 x84 x85 x86 x87 x88 x89 x90 x91 x92 x93 x94 x95 x96 x97 x98 x99 x100 x101 x102 x103 x104 x105 x106 x107 x108 x109 x110 x111 x112 x113 x114 x115 x116 x117 x118 x119 x120 x121 x122 x123 x124 x125 x126 x127 x128 x129 x130 x131 x132 x133 x134 x135 x136 x137 x138 x139 x140 x141 x142 x143 x144 x145 x146 x147 x148 x149 x150 x151 x152 x153 x154 x155 x156 x157 x158 x159 x160 x161 x162 x163 x164 x165 x166 x167 x168 x169 x170 x171 x172 x173 x174 x175 x176 x177 x178 x179 x180 x181 x182 x183 x184 x185 x186 x187 x188 x189 x190 x191 x192 x193 x194 x195 x196 x197 x198 x199 x200 x201 x202 x203 x204 x205 x206 x207 x208 x209 x210 x211 x212 x213 x214 x215 x216 x217 x218 x219 x220 x221 x222 x223 x224 x225 x226 x227 x228 x229 x230 x231 x232 x233 x234 x235 x236 x237 x238 x239 x240 x241 x242 x243 : Value}
    (hd : By X (some ⟨b10, 0, none⟩) d) (hn : d.length = n) (h36 : 36 ≤ n) (h44 : n < 44)
    (hh : ∀ (y154 y155 y156 y157 y158 y159 y160 y161 y162 y163 y164 y165 y166 y167 y168 y169 y170 y171 y172 y173 y174 y175 y176 y177 y178 y179 y180 y181 : Value) (w' : World), Below X.heap.size X w' → Q .normal ⟨#[x0, x1, x2, x3, x4, x5, x6, x7, x8, .int .i64 n, .slice (some ⟨b10, 0, none⟩) n n, x11, x12, x13, x14, x15, x16, x17, x18, x19, x20, x21, x22, x23, x24, x25, x26, x27, x28, x29, x30, x31, x32, x33, x34, x35, x36, x37, x38, x39, x40, x41, x42, x43, x44, x45, x46, x47, x48, x49, x50, x51, x52, x53, x54, x55, x56, x57, x58, x59, x60, x61, x62, x63, x64, x65, x66, x67, x68, x69, x70, x71, x72, x73, x74, x75, x76, x77, x78, x79, x80, x81, x82, x83, x84, x85, x86, x87, x88, x89, x90, x91, x92, x93, x94, x95, x96, x97, x98, x99, x100, x101, x102, x103, x104, x105, x106, x107, x108, x109, x110, x111, x112, x113, x114, x115, x116, x117, x118, x119, x120, x121, x122, x123, x124, x125, x126, x127, x128, x129, x130, x131, x132, x133, x134, x135, x136, x137, x138, x139, x140, x141, x142, x143, x144, x145, x146, x147, x148, x149, x150, x151, x152, x153, y154, y155, y156, y157, y158, y159, y160, y161, y162, y163, y164, y165, y166, y167, y168, y169, y170, y171, y172, y173, y174, y175, y176, y177, y178, y179, y180, y181, .bool false, x183, x184, x185, x186, x187, x188, x189, x190, x191, x192, x193, x194, x195, x196, x197, x198, x199, x200, x201, x202, x203, x204, x205, x206, x207, x208, x209, x210, x211, x212, x213, x214, x215, x216, x217, x218, x219, x220, x221, x222, x223, x224, x225, x226, x227, x228, x229, x230, x231, x232, x233, x234, x235, x236, x237, x238, x239, x240, x241, x242, x243], []⟩ w') : C.wp Try.prog Q ⟨#[x0, x1, x2, x3, x4, x5, x6, x7, x8, .int .i64 n, .slice (some ⟨b10, 0, none⟩) n n, x11, x12, x13, x14, x15, x16, x17, x18, x19, x20, x21, x22, x23, x24, x25, x26, x27, x28, x29, x30, x31, x32, x33, x34, x35, x36, x37, x38, x39, x40, x41, x42, x43, x44, x45, x46, x47, x48, x49, x50, x51, x52, x53, x54, x55, x56, x57, x58, x59, x60, x61, x62, x63, x64, x65, x66, x67, x68, x69, x70, x71, x72, x73, x74, x75, x76, x77, x78, x79, x80, x81, x82, x83, x84, x85, x86, x87, x88, x89, x90, x91, x92, x93, x94, x95, x96, x97, x98, x99, x100, x101, x102, x103, x104, x105, x106, x107, x108, x109, x110, x111, x112, x113, x114, x115, x116, x117, x118, x119, x120, x121, x122, x123, x124, x125, x126, x127, x128, x129, x130, x131, x132, x133, x134, x135, x136, x137, x138, x139, x140, x141, x142, x143, x144, x145, x146, x147, x148, x149, x150, x151, x152, x153, x154, x155, x156, x157, x158, x159, x160, x161, x162, x163, x164, x165, x166, x167, x168, x169, x170, x171, x172, x173, x174, x175, x176, x177, x178, x179, x180, x181, x182, x183, x184, x185, x186, x187, x188, x189, x190, x191, x192, x193, x194, x195, x196, x197, x198, x199, x200, x201, x202, x203, x204, x205, x206, x207, x208, x209, x210, x211, x212, x213, x214, x215, x216, x217, x218, x219, x220, x221, x222, x223, x224, x225, x226, x227, x228, x229, x230, x231, x232, x233, x234, x235, x236, x237, x238, x239, x240, x241, x242, x243], []⟩ X := by
  cases hC
  let QQ : Exit → Act → World → Prop := bodyPost Try.prog Try.f12 (fun _ _ => True)
  dsimp only
  have HH := Lib.hid hh
  have HN := Lib.hid hn
  have HD := Lib.hid hd
  have hmx : n ≤ maxLen := lt_maxLen' (by omega)
  have hd2 : By X (some ⟨b10, 2, none⟩) (d.drop 2) := by simpa using hd.drop 2
  have hd20 : By X (some ⟨b10, 20, none⟩) (d.drop 20) := by simpa using hd.drop 20
  have hd22 : By X (some ⟨b10, 22, none⟩) (d.drop 22) := by simpa using hd.drop 22
  have HD2 := Lib.hid hd2
  have HD20 := Lib.hid hd20
  have HD22 := Lib.hid hd22
  have l10 : b10 < X.heap.size := by
    obtain ⟨b, o, e, hlt, _⟩ := hd.pos (by omega)
    injection e with e
    injection e with e _
    rw [e]
    exact hlt
  have i2 : ((2 : Int) ≤ n) := by omega
  have i20 : ((20 : Int) ≤ n) := by omega
  have i22 : ((22 : Int) ≤ n) := by omega
  have n2 : 2 ≤ n := by omega
  have n20 : 20 ≤ n := by omega
  have n22 : 22 ≤ n := by omega
  clear hh hn hd hd2 hd20 hd22
  refine wp_region_steps 28 [[], [0], [1], [2], [3], [3, 4], [3, 5], [3, 6], [3, 7], [8], [9], [9, 10], [9, 11], [9, 12], [9, 13], [9, 14], [9, 15], [16], [17], [17, 18], [17, 19], [17], [17, 21], [17, 22], [17], [17, 20, 23, 24], [17, 25], [17, 26]] (fun D a w' => ∃ gv : Nat → Value, a = ⟨#[x0, x1, x2, x3, x4, x5, x6, x7, x8, .int .i64 n, .slice (some ⟨b10, 0, none⟩) n n, x11, x12, x13, x14, x15, x16, x17, x18, x19, x20, x21, x22, x23, x24, x25, x26, x27, x28, x29, x30, x31, x32, x33, x34, x35, x36, x37, x38, x39, x40, x41, x42, x43, x44, x45, x46, x47, x48, x49, x50, x51, x52, x53, x54, x55, x56, x57, x58, x59, x60, x61, x62, x63, x64, x65, x66, x67, x68, x69, x70, x71, x72, x73, x74, x75, x76, x77, x78, x79, x80, x81, x82, x83, x84, x85, x86, x87, x88, x89, x90, x91, x92, x93, x94, x95, x96, x97, x98, x99, x100, x101, x102, x103, x104, x105, x106, x107, x108, x109, x110, x111, x112, x113, x114, x115, x116, x117, x118, x119, x120, x121, x122, x123, x124, x125, x126, x127, x128, x129, x130, x131, x132, x133, x134, x135, x136, x137, x138, x139, x140, x141, x142, x143, x144, x145, x146, x147, x148, x149, x150, x151, x152, x153, gv 0, gv 1, gv 2, gv 3, gv 4, gv 5, gv 6, gv 7, gv 8, gv 9, gv 10, gv 11, gv 12, gv 13, gv 14, gv 15, gv 16, gv 17, gv 18, gv 19, gv 20, gv 21, gv 22, gv 23, gv 24, gv 25, gv 26, gv 27, x182, x183, x184, x185, x186, x187, x188, x189, x190, x191, x192, x193, x194, x195, x196, x197, x198, x199, x200, x201, x202, x203, x204, x205, x206, x207, x208, x209, x210, x211, x212, x213, x214, x215, x216, x217, x218, x219, x220, x221, x222, x223, x224, x225, x226, x227, x228, x229, x230, x231, x232, x233, x234, x235, x236, x237, x238, x239, x240, x241, x242, x243], []⟩ ∧ Iq X (PS32 n d ([.slice (some ⟨b10, 0, none⟩) n n, .bool true, .bool false, .bool false, .int .i64 n, undef, .bool true, .bool false, .bool false, .bool false, .slice (some ⟨b10, 0, none⟩) n n, .slice (some ⟨b10, 2, none⟩) (n - 2) (n - 2), .agg #[.int .u8 200, .slice (some ⟨b10, 2, none⟩) (n - 2) (n - 2)], undef, .bool true, .bool false, .bool false, .bool false, .slice (some ⟨b10, 0, none⟩) n n, .slice (some ⟨b10, 20, none⟩) (n - 20) (n - 20), .agg #[.int .u8 200, .slice (some ⟨b10, 20, none⟩) (n - 20) (n - 20)], .slice (some ⟨b10, 0, none⟩) n n, .slice (some ⟨b10, 22, none⟩) (n - 22) (n - 22), .agg #[.int .u8 201, .slice (some ⟨b10, 22, none⟩) (n - 22) (n - 22)], .agg #[.int .u8 1, .slice none 0 0], undef, .bool true, .bool false] : List Value)) D gv w') (by kernel_rfl) (by kernel_rfl) ⟨fun i => if i = 0 then x154 else if i = 1 then x155 else if i = 2 then x156 else if i = 3 then x157 else if i = 4 then x158 else if i = 5 then x159 else if i = 6 then x160 else if i = 7 then x161 else if i = 8 then x162 else if i = 9 then x163 else if i = 10 then x164 else if i = 11 then x165 else if i = 12 then x166 else if i = 13 then x167 else if i = 14 then x168 else if i = 15 then x169 else if i = 16 then x170 else if i = 17 then x171 else if i = 18 then x172 else if i = 19 then x173 else if i = 20 then x174 else if i = 21 then x175 else if i = 22 then x176 else if i = 23 then x177 else if i = 24 then x178 else if i = 25 then x179 else if i = 26 then x180 else if i = 27 then x181 else undef, rfl, Iq.zero _ _ _⟩ ?_ ?_
  · simp only [List.take_succ_cons, List.take_zero]
    refine ⟨?_, ?_, ?_, ?_, ?_, ?_, ?_, ?_, ?_, ?_, ?_, ?_, ?_, ?_, ?_, ?_, ?_, ?_, ?_, ?_, ?_, ?_, ?_, ?_, ?_, ?_, ?_, ?_, trivial⟩
    · intro D a w' hn hp hI
      obtain ⟨gv, rfl, hR⟩ := hI
      clear hn hp
      go_wp2_with fail
      exact ⟨fun ix => if ix = 0 then .slice (some ⟨b10, 0, none⟩) n n else gv ix, by rfl, hR.upd PS32.below 0 _ (Below.refl _ _) rfl⟩
    · intro D a w' hn hp hI
      obtain ⟨gv, rfl, hR⟩ := hI
      have e0 : gv 0 = .slice (some ⟨b10, 0, none⟩) n n := hR.e 0 hp.1
      rw [e0]
      have HB2 := Lib.hid hR.b
      clear hn hp
      go_wp2_with fail
      refine (reads_s d n (some ⟨b10, 0, none⟩) n _ HN.out (HD.out.below HB2.out) (Nat.le_refl _) hmx (fun h => by cases h)).mono ?_
      rintro e Y ⟨rfl, hby⟩
      go_wp2_with fail
      exact ⟨fun ix => if ix = 1 then .bool true else gv ix, by simp [e0], hR.upd PS32.below 1 _ hby rfl⟩
    · intro D a w' hn hp hI
      obtain ⟨gv, rfl, hR⟩ := hI
      have e1 : gv 1 = .bool true := hR.e 1 hp.1
      rw [e1]
      clear hn hp
      go_wp2_with fail
      exact ⟨fun ix => if ix = 2 then .bool false else gv ix, by simp [e1], hR.upd PS32.below 2 _ (Below.refl _ _) rfl⟩
    · intro D a w' hn hp hI
      obtain ⟨gv, rfl, hR⟩ := hI
      have e2 : gv 2 = .bool false := hR.e 2 hp.1
      rw [e2]
      clear hn hp
      go_wp2_with fail
      exact ⟨fun ix => if ix = 3 then .bool false else gv ix, by simp [e2], hR.upd PS32.below 3 _ (Below.refl _ _) rfl⟩
    · intro D a w' hn hp hI
      obtain ⟨gv, rfl, hR⟩ := hI
      have e3 : gv 3 = .bool false := hR.e 3 hp.1
      rw [e3]
      clear hn hp
      go_wp2_with fail
      exact ⟨fun ix => if ix = 4 then .int .i64 n else gv ix, by simp [e3], hR.upd PS32.below 4 _ (Below.refl _ _) rfl⟩
    · intro D a w' hn hp hI
      obtain ⟨gv, rfl, hR⟩ := hI
      have e3 : gv 3 = .bool false := hR.e 3 hp.1
      rw [e3]
      have e4 : gv 4 = .int .i64 n := hR.e 4 hp.2.1
      rw [e4]
      have hmk := mk_bytes_s .i64 n n rfl (by omega) w'
      clear hn hp
      go_wp2_with fail
      exact ⟨fun ix => if ix = 5 then .slice (some ⟨w'.heap.size, 0, none⟩) n n else gv ix, by simp [e3, e4], hR.upd PS32.below 5 _ ((Below.refl _ _).alloc (Nat.le_refl _) _) ⟨_, rfl, rep_by (heap_alloc_last _ _)⟩⟩
    · intro D a w' hn hp hI
      obtain ⟨gv, rfl, hR⟩ := hI
      have e3 : gv 3 = .bool false := hR.e 3 hp.1
      rw [e3]
      obtain ⟨q, e5, hq⟩ : ∃ q, gv 5 = .slice (some ⟨q, 0, none⟩) n n ∧ By w' (some ⟨q, 0, none⟩) (List.replicate n 0) := hR.e 5 hp.2.1
      rw [e5]
      clear hn hp
      go_wp2_with fail
      refine (reads_s (List.replicate n 0) n (some ⟨q, 0, none⟩) n _ (by simp) hq (Nat.le_refl _) hmx (fun h => by cases h)).mono ?_
      rintro e Y ⟨rfl, hby⟩
      go_wp2_with fail
      exact ⟨fun ix => if ix = 6 then .bool true else gv ix, by simp [e3, e5], hR.upd PS32.below 6 _ hby rfl⟩
    · intro D a w' hn hp hI
      obtain ⟨gv, rfl, hR⟩ := hI
      have e3 : gv 3 = .bool false := hR.e 3 hp.1
      rw [e3]
      have e6 : gv 6 = .bool true := hR.e 6 hp.2.1
      rw [e6]
      clear hn hp
      go_wp2_with fail
      exact ⟨fun ix => if ix = 7 then .bool false else gv ix, by simp [e3, e6], hR.upd PS32.below 7 _ (Below.refl _ _) rfl⟩
    · intro D a w' hn hp hI
      obtain ⟨gv, rfl, hR⟩ := hI
      have e3 : gv 3 = .bool false := hR.e 3 hp.1
      rw [e3]
      have e7 : gv 7 = .bool false := hR.e 7 hp.2.1
      rw [e7]
      clear hn hp
      go_wp2_with fail
      exact ⟨fun ix => if ix = 8 then .bool false else gv ix, by simp [e3, e7], hR.upd PS32.below 8 _ (Below.refl _ _) rfl⟩
    · intro D a w' hn hp hI
      obtain ⟨gv, rfl, hR⟩ := hI
      have e8 : gv 8 = .bool false := hR.e 8 hp.1
      rw [e8]
      clear hn hp
      go_wp2_with fail
      exact ⟨fun ix => if ix = 9 then .bool false else gv ix, by simp [e8], hR.upd PS32.below 9 _ (Below.refl _ _) rfl⟩
    · intro D a w' hn hp hI
      obtain ⟨gv, rfl, hR⟩ := hI
      have e9 : gv 9 = .bool false := hR.e 9 hp.1
      rw [e9]
      clear hn hp
      go_wp2_with fail
      exact ⟨fun ix => if ix = 10 then .slice (some ⟨b10, 0, none⟩) n n else gv ix, by simp [e9], hR.upd PS32.below 10 _ (Below.refl _ _) rfl⟩
    · intro D a w' hn hp hI
      obtain ⟨gv, rfl, hR⟩ := hI
      have e9 : gv 9 = .bool false := hR.e 9 hp.1
      rw [e9]
      have e10 : gv 10 = .slice (some ⟨b10, 0, none⟩) n n := hR.e 10 hp.2.1
      rw [e10]
      have l10' := Nat.lt_of_lt_of_le l10 hR.b.size
      clear hn hp
      go_wp2_with fail
      exact ⟨fun ix => if ix = 11 then .slice (some ⟨b10, 2, none⟩) (n - 2) (n - 2) else gv ix, by simp [e9, e10], hR.upd PS32.below 11 _ (Below.refl _ _) rfl⟩
    · intro D a w' hn hp hI
      obtain ⟨gv, rfl, hR⟩ := hI
      have e9 : gv 9 = .bool false := hR.e 9 hp.1
      rw [e9]
      have e11 : gv 11 = .slice (some ⟨b10, 2, none⟩) (n - 2) (n - 2) := hR.e 11 hp.2.1
      rw [e11]
      clear hn hp
      go_wp2_with fail
      exact ⟨fun ix => if ix = 12 then .agg #[.int .u8 200, .slice (some ⟨b10, 2, none⟩) (n - 2) (n - 2)] else gv ix, by simp [e9, e11], hR.upd PS32.below 12 _ (Below.refl _ _) rfl⟩
    · intro D a w' hn hp hI
      obtain ⟨gv, rfl, hR⟩ := hI
      have e9 : gv 9 = .bool false := hR.e 9 hp.1
      rw [e9]
      have e12 : gv 12 = .agg #[.int .u8 200, .slice (some ⟨b10, 2, none⟩) (n - 2) (n - 2)] := hR.e 12 hp.2.1
      rw [e12]
      have HB2 := Lib.hid hR.b
      clear hn hp
      go_wp2_with fail
      exact ⟨fun ix => if ix = 13 then .slice (some ⟨w'.heap.size, 0, none⟩) 1 1 else gv ix, by simp [e9, e12], hR.upd PS32.below 13 _ ((Below.refl _ _).alloc (Nat.le_refl _) _) ⟨_, rfl, ops_blk (n := 1) (css := [[.int .u8 200, .slice (some ⟨b10, 2, none⟩) (n - 2) (n - 2)]]) (heap_alloc_last _ _) rfl (.cons (opv_s (by decide) (by rw [List.length_drop, HN.out]) ((HD2.out.below HB2.out).alloc _) (Nat.le_refl _) (by omega) (fun h => by cases h)) .nil) rfl (by decide)⟩⟩
    · intro D a w' hn hp hI
      obtain ⟨gv, rfl, hR⟩ := hI
      have e9 : gv 9 = .bool false := hR.e 9 hp.1
      rw [e9]
      obtain ⟨b, e13, hops⟩ : ∃ b, gv 13 = .slice (some ⟨b, 0, none⟩) 1 1 ∧ Ops w' (some ⟨b, 0, none⟩) [(200, d.drop 2)] := hR.e 13 hp.2.1
      rw [e13]
      clear hn hp
      go_wp2_with fail
      refine (writes_s [(200, d.drop 2)] 1 (some ⟨b, 0, none⟩) 1 200 _ rfl hops).mono ?_
      rintro e Y ⟨rfl, hby⟩
      go_wp2_with fail
      exact ⟨fun ix => if ix = 14 then .bool true else gv ix, by simp [e9, e13], hR.upd PS32.below 14 _ hby rfl⟩
    · intro D a w' hn hp hI
      obtain ⟨gv, rfl, hR⟩ := hI
      have e9 : gv 9 = .bool false := hR.e 9 hp.1
      rw [e9]
      have e14 : gv 14 = .bool true := hR.e 14 hp.2.1
      rw [e14]
      clear hn hp
      go_wp2_with fail
      exact ⟨fun ix => if ix = 15 then .bool false else gv ix, by simp [e9, e14], hR.upd PS32.below 15 _ (Below.refl _ _) rfl⟩
    · intro D a w' hn hp hI
      obtain ⟨gv, rfl, hR⟩ := hI
      have e9 : gv 9 = .bool false := hR.e 9 hp.1
      rw [e9]
      have e15 : gv 15 = .bool false := hR.e 15 hp.2.1
      rw [e15]
      clear hn hp
      go_wp2_with fail
      exact ⟨fun ix => if ix = 16 then .bool false else gv ix, by simp [e9, e15], hR.upd PS32.below 16 _ (Below.refl _ _) rfl⟩
    · intro D a w' hn hp hI
      obtain ⟨gv, rfl, hR⟩ := hI
      have e16 : gv 16 = .bool false := hR.e 16 hp.1
      rw [e16]
      clear hn hp
      go_wp2_with fail
      exact ⟨fun ix => if ix = 17 then .bool false else gv ix, by simp [e16], hR.upd PS32.below 17 _ (Below.refl _ _) rfl⟩
    · intro D a w' hn hp hI
      obtain ⟨gv, rfl, hR⟩ := hI
      have e17 : gv 17 = .bool false := hR.e 17 hp.1
      rw [e17]
      clear hn hp
      go_wp2_with fail
      exact ⟨fun ix => if ix = 18 then .slice (some ⟨b10, 0, none⟩) n n else gv ix, by simp [e17], hR.upd PS32.below 18 _ (Below.refl _ _) rfl⟩
    · intro D a w' hn hp hI
      obtain ⟨gv, rfl, hR⟩ := hI
      have e17 : gv 17 = .bool false := hR.e 17 hp.1
      rw [e17]
      have e18 : gv 18 = .slice (some ⟨b10, 0, none⟩) n n := hR.e 18 hp.2.1
      rw [e18]
      have l10' := Nat.lt_of_lt_of_le l10 hR.b.size
      clear hn hp
      go_wp2_with fail
      exact ⟨fun ix => if ix = 19 then .slice (some ⟨b10, 20, none⟩) (n - 20) (n - 20) else gv ix, by simp [e17, e18], hR.upd PS32.below 19 _ (Below.refl _ _) rfl⟩
    · intro D a w' hn hp hI
      obtain ⟨gv, rfl, hR⟩ := hI
      have e17 : gv 17 = .bool false := hR.e 17 hp.1
      rw [e17]
      have e19 : gv 19 = .slice (some ⟨b10, 20, none⟩) (n - 20) (n - 20) := hR.e 19 hp.2.1
      rw [e19]
      clear hn hp
      go_wp2_with fail
      exact ⟨fun ix => if ix = 20 then .agg #[.int .u8 200, .slice (some ⟨b10, 20, none⟩) (n - 20) (n - 20)] else gv ix, by simp [e17, e19], hR.upd PS32.below 20 _ (Below.refl _ _) rfl⟩
    · intro D a w' hn hp hI
      obtain ⟨gv, rfl, hR⟩ := hI
      have e17 : gv 17 = .bool false := hR.e 17 hp.1
      rw [e17]
      clear hn hp
      go_wp2_with fail
      exact ⟨fun ix => if ix = 21 then .slice (some ⟨b10, 0, none⟩) n n else gv ix, by simp [e17], hR.upd PS32.below 21 _ (Below.refl _ _) rfl⟩
    · intro D a w' hn hp hI
      obtain ⟨gv, rfl, hR⟩ := hI
      have e17 : gv 17 = .bool false := hR.e 17 hp.1
      rw [e17]
      have e21 : gv 21 = .slice (some ⟨b10, 0, none⟩) n n := hR.e 21 hp.2.1
      rw [e21]
      have l10' := Nat.lt_of_lt_of_le l10 hR.b.size
      clear hn hp
      go_wp2_with fail
      exact ⟨fun ix => if ix = 22 then .slice (some ⟨b10, 22, none⟩) (n - 22) (n - 22) else gv ix, by simp [e17, e21], hR.upd PS32.below 22 _ (Below.refl _ _) rfl⟩
    · intro D a w' hn hp hI
      obtain ⟨gv, rfl, hR⟩ := hI
      have e17 : gv 17 = .bool false := hR.e 17 hp.1
      rw [e17]
      have e22 : gv 22 = .slice (some ⟨b10, 22, none⟩) (n - 22) (n - 22) := hR.e 22 hp.2.1
      rw [e22]
      clear hn hp
      go_wp2_with fail
      exact ⟨fun ix => if ix = 23 then .agg #[.int .u8 201, .slice (some ⟨b10, 22, none⟩) (n - 22) (n - 22)] else gv ix, by simp [e17, e22], hR.upd PS32.below 23 _ (Below.refl _ _) rfl⟩
    · intro D a w' hn hp hI
      obtain ⟨gv, rfl, hR⟩ := hI
      have e17 : gv 17 = .bool false := hR.e 17 hp.1
      rw [e17]
      clear hn hp
      go_wp2_with fail
      exact ⟨fun ix => if ix = 24 then .agg #[.int .u8 1, .slice none 0 0] else gv ix, by simp [e17], hR.upd PS32.below 24 _ (Below.refl _ _) rfl⟩
    · intro D a w' hn hp hI
      obtain ⟨gv, rfl, hR⟩ := hI
      have e17 : gv 17 = .bool false := hR.e 17 hp.1
      rw [e17]
      have e20 : gv 20 = .agg #[.int .u8 200, .slice (some ⟨b10, 20, none⟩) (n - 20) (n - 20)] := hR.e 20 hp.2.1
      rw [e20]
      have e23 : gv 23 = .agg #[.int .u8 201, .slice (some ⟨b10, 22, none⟩) (n - 22) (n - 22)] := hR.e 23 hp.2.2.1
      rw [e23]
      have e24 : gv 24 = .agg #[.int .u8 1, .slice none 0 0] := hR.e 24 hp.2.2.2.1
      rw [e24]
      have HB2 := Lib.hid hR.b
      clear hn hp
      go_wp2_with fail
      exact ⟨fun ix => if ix = 25 then .slice (some ⟨w'.heap.size, 0, none⟩) 3 3 else gv ix, by simp [e17, e20, e23, e24], hR.upd PS32.below 25 _ ((Below.refl _ _).alloc (Nat.le_refl _) _) ⟨_, rfl, ops_blk (n := 3) (css := [[.int .u8 200, .slice (some ⟨b10, 20, none⟩) (n - 20) (n - 20)], [.int .u8 201, .slice (some ⟨b10, 22, none⟩) (n - 22) (n - 22)], [.int .u8 1, .slice none 0 0]]) (heap_alloc_last _ _) rfl (.cons (opv_s (by decide) (by rw [List.length_drop, HN.out]) ((HD20.out.below HB2.out).alloc _) (Nat.le_refl _) (by omega) (fun h => by cases h)) (.cons (opv_s (by decide) (by rw [List.length_drop, HN.out]) ((HD22.out.below HB2.out).alloc _) (Nat.le_refl _) (by omega) (fun h => by cases h)) (.cons (opv_nil (by decide)) .nil))) rfl (by decide)⟩⟩
    · intro D a w' hn hp hI
      obtain ⟨gv, rfl, hR⟩ := hI
      have e17 : gv 17 = .bool false := hR.e 17 hp.1
      rw [e17]
      obtain ⟨b, e25, hops⟩ : ∃ b, gv 25 = .slice (some ⟨b, 0, none⟩) 3 3 ∧ Ops w' (some ⟨b, 0, none⟩) [(200, d.drop 20), (201, d.drop 22), (1, [])] := hR.e 25 hp.2.1
      rw [e25]
      clear hn hp
      go_wp2_with fail
      refine (writes_s [(200, d.drop 20), (201, d.drop 22), (1, [])] 3 (some ⟨b, 0, none⟩) 3 1 _ rfl hops).mono ?_
      rintro e Y ⟨rfl, hby⟩
      go_wp2_with fail
      exact ⟨fun ix => if ix = 26 then .bool true else gv ix, by simp [e17, e25], hR.upd PS32.below 26 _ hby rfl⟩
    · intro D a w' hn hp hI
      obtain ⟨gv, rfl, hR⟩ := hI
      have e17 : gv 17 = .bool false := hR.e 17 hp.1
      rw [e17]
      have e26 : gv 26 = .bool true := hR.e 26 hp.2.1
      rw [e26]
      clear hn hp
      go_wp2_with fail
      exact ⟨fun ix => if ix = 27 then .bool false else gv ix, by simp [e17, e26], hR.upd PS32.below 27 _ (Below.refl _ _) rfl⟩
  intro D a w' hD hI
  obtain ⟨gv, rfl, hR⟩ := hI
  have e17 : gv 17 = .bool false := hR.e 17 (hD 17 (by decide))
  have e27 : gv 27 = .bool false := hR.e 27 (hD 27 (by decide))
  rw [e17, e27]
  have hb := hR.b
  simp only [List.drop_succ_cons, List.drop_zero]
  clear hD hR e17 e27
  go_wp2_with fail
  exact HH.out _ _ _ _ _ _ _ _ _ _ _ _ _ _ _ _ _ _ _ _ _ _ _ _ _ _ _ _ _ hb

end Go.Proofs.Ytjfnnclbfaakkaa

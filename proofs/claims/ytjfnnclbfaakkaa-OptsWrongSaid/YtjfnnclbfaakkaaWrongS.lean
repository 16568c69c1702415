/-
  The switch of OptsWrong. Conditions: those of the theorems.
-/
import Derived.Test.YtjfnnclbfaakkaaRecL
import Derived.Test.YtjfnnclbfaakkaaPart
namespace Go.Proofs.Ytjfnnclbfaakkaa
open Go.RowKit
set_option linter.unusedVariables false
set_option linter.unusedSimpArgs false

theorem Below.of_grown0 {w w' : World} (h : w.grownBy w' none) : Below w.heap.size w w' := (Below.refl _ _).grown h (Nat.le_refl _) (fun k hk => by cases hk)
theorem an_bits : ∀ n : Fin 256, bits .andNot .u8 (n.val : Int) 3 = ((n.val / 4 * 4 : Nat) : Int) := by decide +kernel
theorem or1_bits : ∀ n : Fin 64, bits .or .u8 ((n.val * 4 : Nat) : Int) 1 = ((n.val * 4 + 1 : Nat) : Int) := by decide +kernel
theorem and_bits : ∀ n : Fin 256, bits .and .u8 (n.val : Int) 124 = ((n.val % 128 / 4 * 4 : Nat) : Int) := by decide +kernel
theorem or4_bits : ∀ n : Fin 16, bits .or .u8 ((n.val * 16 : Nat) : Int) 4 = ((n.val * 16 + 4 : Nat) : Int) := by decide +kernel
theorem an_eq {x : Int} (h0 : 0 ≤ x) (h1 : x ≤ 255) : bits .andNot .u8 x 3 = x / 4 * 4 := by
  obtain ⟨n, rfl⟩ := Int.eq_ofNat_of_zero_le h0
  have := an_bits ⟨n, by omega⟩
  simp only at this
  rw [this]
  omega
theorem or1_eq {x : Int} (h0 : 0 ≤ x) (h1 : x ≤ 255) : bits .or .u8 (x / 4 * 4) 1 = x / 4 * 4 + 1 := by
  obtain ⟨n, rfl⟩ := Int.eq_ofNat_of_zero_le h0
  have := or1_bits ⟨n / 4, by omega⟩
  simp only at this
  rw [show ((n : Int) / 4 * 4) = ((n / 4 * 4 : Nat) : Int) by omega, this]
  omega
theorem and_eq {x : Int} (h0 : 0 ≤ x) (h1 : x ≤ 255) : bits .and .u8 x 124 = x % 128 / 4 * 4 := by
  obtain ⟨n, rfl⟩ := Int.eq_ofNat_of_zero_le h0
  have := and_bits ⟨n, by omega⟩
  simp only at this
  rw [this]
  omega
theorem or4_eq {x : Int} (h0 : 0 ≤ x) (h1 : x ≤ 15) : bits .or .u8 (x * 16) 4 = x * 16 + 4 := by
  obtain ⟨n, rfl⟩ := Int.eq_ofNat_of_zero_le h0
  have := or4_bits ⟨n, by omega⟩
  simp only at this
  rw [show ((n : Int) * 16) = ((n * 16 : Nat) : Int) by omega, this]
  omega
/-- What the switch leaves: an option that is not right. -/
structure SwI (X : World) (b9 : Nat) (k8 : Int) (kd : Int) (d : List Int) (A : Option Addr) (c : Nat) (W : World) : Prop where
  obj : W.heap[b9]? = some (.cells #[.int .u8 kd, .slice A d.length c] 36 (0, 0))
  bys : By W A d
  cap : d.length ≤ c
  max : c ≤ maxLen
  nil : A = none → c = 0
  wrong : rightS (kd, d) = false
  kind : 0 ≤ kd ∧ kd ≤ 255
  len : d.length ≤ 300
  two : 1 < k8 → k8 ≠ 6 → 2 ≤ kd
  ptr : 1 < k8 → ∃ b, A = some ⟨b, 0, none⟩
  keep : Keep (fun b => b ≠ b9) X W
theorem SwI.mk' {X : World} {b9 : Nat} {k8 kd u : Int} {v : Value} {d : List Int} {F : Array Value} {n : Nat} (h9 : X.heap[b9]? = some (.cells #[.int .u8 u, v] 36 (0, 0))) (hF : F.toList = d.map (Value.int .u8)) (hr : ∀ x ∈ d, 0 ≤ x ∧ x ≤ 255) (hw : rightS (kd, d) = false) (hk : 0 ≤ kd ∧ kd ≤ 255) (hl : d.length ≤ 300) (h2 : 1 < k8 → k8 ≠ 6 → 2 ≤ kd)
    {W0 : World} (h0 : Keep (fun b => b ≠ b9) X W0) (h9' : W0.heap[b9]? = some (.cells #[.int .u8 u, v] 36 (0, 0))) {g : Nat} (hg : W0.heap.size = g) (hn : n = d.length) : SwI X b9 k8 kd d (some ⟨g, 0, none⟩) d.length (((W0.setCell ⟨b9, 0, none⟩ (.int .u8 kd)).setCell ⟨b9, 1, none⟩ (.slice (some ⟨g, 0, none⟩) n n)).alloc (.cells F 5)) := by
  subst hn hg
  have hs1 := blk_set h9' 0 (.int .u8 kd)
  have hs2 := blk_set hs1 1 (.slice (some ⟨W0.heap.size, 0, none⟩) d.length d.length)
  have hsz : ((W0.setCell ⟨b9, 0, none⟩ (.int .u8 kd)).setCell ⟨b9, 1, none⟩ (.slice (some ⟨W0.heap.size, 0, none⟩) d.length d.length)).heap.size = W0.heap.size := by simp
  have hal := heap_alloc_last ((W0.setCell ⟨b9, 0, none⟩ (.int .u8 kd)).setCell ⟨b9, 1, none⟩ (.slice (some ⟨W0.heap.size, 0, none⟩) d.length d.length)) (.cells F 5)
  rw [hsz] at hal
  refine ⟨?_, by_blk hal hF hr, Nat.le_refl _, lt_maxLen' (by omega), by simp, hw, hk, hl, h2, fun _ => ⟨_, rfl⟩, ?_⟩
  · rw [Below.heap_alloc _ _ _ (by rw [hsz]; exact blk_lt h9')]
    simpa using hs2
  · exact ((h0.setCell (by simp) _ _).setCell (by simp) _ _).alloc _
theorem SwI.mk2 {X : World} {b9 : Nat} {k8 kd u : Int} {v : Value} {d : List Int} {F : Array Value} {n : Nat} (h9 : X.heap[b9]? = some (.cells #[.int .u8 u, v] 36 (0, 0))) (hF : F.toList = d.map (Value.int .u8)) (hr : ∀ x ∈ d, 0 ≤ x ∧ x ≤ 255) (hw : rightS (kd, d) = false) (hk : 0 ≤ kd ∧ kd ≤ 255) (hl : d.length ≤ 300) (h2 : 1 < k8 → k8 ≠ 6 → 2 ≤ kd)
    {ob : Obj} {g : Nat} (hg : X.heap.size + 1 = g) (hn : n = d.length) : SwI X b9 k8 kd d (some ⟨g, 0, none⟩) d.length ((((X.setCell ⟨b9, 0, none⟩ (.int .u8 kd)).setCell ⟨b9, 1, none⟩ (.slice (some ⟨g, 0, none⟩) n n)).alloc ob).alloc (.cells F 5)) := by
  subst hn hg
  have hs1 := blk_set h9 0 (.int .u8 kd)
  have hs2 := blk_set hs1 1 (.slice (some ⟨X.heap.size + 1, 0, none⟩) d.length d.length)
  have hsz : (((X.setCell ⟨b9, 0, none⟩ (.int .u8 kd)).setCell ⟨b9, 1, none⟩ (.slice (some ⟨X.heap.size + 1, 0, none⟩) d.length d.length)).alloc ob).heap.size = X.heap.size + 1 := by simp
  have hal := heap_alloc_last (((X.setCell ⟨b9, 0, none⟩ (.int .u8 kd)).setCell ⟨b9, 1, none⟩ (.slice (some ⟨X.heap.size + 1, 0, none⟩) d.length d.length)).alloc ob) (.cells F 5)
  rw [hsz] at hal
  have hlt := blk_lt h9
  refine ⟨?_, by_blk hal hF hr, Nat.le_refl _, lt_maxLen' (by omega), by simp, hw, hk, hl, h2, fun _ => ⟨_, rfl⟩, ?_⟩
  · rw [Below.heap_alloc _ _ _ (by rw [hsz]; omega), Below.heap_alloc _ _ _ (by simp; omega)]
    simpa using hs2
  · exact ((((Keep.refl _ _).setCell (by simp) _ _).setCell (by simp) _ _).alloc _).alloc _
theorem made_rep (m : Nat) : madeCells (Value.int .u8 0).cells (m * 1) = (List.replicate m (Value.int .u8 0)).toArray := by
  apply Array.ext
  · simp [madeCells]
  · intro i h1 h2
    simp [madeCells, Value.cells, Nat.mod_one]
theorem mk_bytes (k : IntKind) (x : Int) (m : Nat) (h : x = m) (hm : m ≤ 2 ^ 40) (w : World) : (Instr.makeSlice 22 (.int k x) (.int k x)).run Try.prog w = .ok (.slice (some ⟨w.heap.size, 0, none⟩) m m) (w.alloc (.cells (List.replicate m (Value.int .u8 0)).toArray 5)) := by
  obtain ⟨i0, hi, hz0, hz1, hz2⟩ := info5
  subst h
  have hr := run_make (P := Try.prog) w 22 5 i0 (.int .u8 0) Try.underlying22 hi hz0 k k (m : Int) (m : Int) (by omega) (Int.le_refl _) (by rw [hz2]; omega) (by omega)
  rw [hz1, Int.toNat_natCast, made_rep] at hr
  exact hr
theorem wr3 {n : Int} (h0 : 0 ≤ n) : rightS (7, [n / 4 * 4 + 1 + n % 3, 0, 0, 0, 0]) = false := by
  have : ((n / 4 * 4 + 1 + n % 3) % 4 == 0) = false := by simp; omega
  unfold rightS shp adr
  simp [this]
  try omega
theorem wr4 {n : Int} (h0 : 0 ≤ n) : rightS (137, [12 + n % 128 / 4 * 4, 0, 0, 0, 0]) = false := by
  unfold rightS shp adr
  simp
  omega
theorem wr5 {z : Int} (h0 : 4 ≤ z % 16) : rightS (68, [5, z]) = false := by
  have : ssz z = 0 := by
    unfold ssz
    rw [if_neg (by omega), if_neg (by omega)]
  unfold rightS shp stm
  simp [this]
theorem wr2 {m : Nat} (h : m ≠ 2) : rightS (148, List.replicate m 0) = false := by
  unfold rightS shp
  simp
  omega
theorem wr6 {m : Nat} (h : 38 < m) : rightS (200, List.replicate m 0) = false := by
  unfold rightS shp
  simp
  omega
theorem wr7 {m : Nat} (h : m % 4 ≠ 1) : rightS (131, List.replicate m 0) = false := by
  unfold rightS shp adr
  simp [h]
theorem wr1 (n : Int) : rightS (1, [n]) = false := rfl
theorem rep_rng (m : Nat) : ∀ x ∈ List.replicate m (0 : Int), 0 ≤ x ∧ x ≤ 255 := fun x hx => by
  have := (List.mem_replicate.1 hx).2
  omega
set_option maxRecDepth 100000 in
set_option maxHeartbeats 8000000 in
theorem sw_any (C : Code) (hC : findC (isBlock 0) (Try.f9.body.getD .skip) = some C) (Q : Exit → Act → World → Prop) {X : World} {b9 : Nat} {nn k8 : Int} {x0 x1 x3 x4 x5 x6 x7 x8 x10 x11 x12 x13 x14 x15 x16 x17 x18 x19 x20 x21 x22 x23 x24 x25 x26 x27 x28 x29 x30 x31 x32 x33 x34 x35 x36 x37 x38 x39 x40 x41 x42 x43 x44 x46 x47 x48 x49 x50 x51 x52 x53 x54 x55 x56 x57 x58 x59 x60 x61 x62 x63 x64 x65 x66 x67 x68 x69 x70 x71 x72 x73 x74 x75 x76 x77 x78 x79 x80 x81 x82 x83 x84 x85 x86 x87 x88 x89 x90 x91 x92 x93 x94 x95 x96 x97 x98 x99 x100 x101 x102 x103 x104 x105 x106 x107 x108 x109 x110 x111 x112 x113 x114 x115 x116 x117 x118 x119 x120 x121 x122 x123 x124 x125 x126 x127 x128 x129 x130 x131 x132 x133 x134 x135 x136 x137 x138 x139 x140 x141 x142 x143 x144 x145 x146 x147 x148 x149 x150 x151 x152 x153 x154 x155 x156 x157 x158 x159 x160 x161 x162 x163 x164 x165 x166 x167 x168 x169 x170 x171 x172 x173 x174 x175 x176 x177 x178 x179 x180 x181 x182 x183 x184 x185 x186 x187 x188 x189 x190 x191 x192 x193 x194 x195 x196 x197 x198 x199 x200 x201 x202 x203 x204 x205 x206 x207 x208 x209 x210 x211 x212 x213 x214 x215 x216 x217 x218 x219 x220 x221 x222 x223 x224 x225 x226 x227 x228 x229 x230 : Value}
    (h9 : X.heap[b9]? = some (.cells #[.int .u8 0, .slice none 0 0] 36 (0, 0))) (h0 : 0 ≤ nn) (h1 : nn ≤ 255) (hk0 : 0 ≤ k8) (hk1 : k8 ≤ 7)
    (hh : ∀ (y46 y47 y48 y49 y50 y51 y52 y53 y54 y55 y56 y57 y58 y59 y60 y61 y62 y63 y64 y65 y66 y67 y68 y69 y70 y71 y72 y73 y74 y75 y76 y77 y78 y79 y80 y81 y82 y83 y84 y85 y86 y87 y88 y89 y90 y91 y92 y93 y94 y95 y96 y97 y98 y99 y100 y101 : Value) (kd : Int) (d : List Int) (A : Option Addr) (c : Nat) (w' : World), SwI X b9 k8 kd d A c w' → Q .normal ⟨#[x0, x1, .int .u8 nn, x3, x4, x5, x6, x7, x8, .pointer (some ⟨b9, 0, none⟩), x10, x11, x12, x13, x14, x15, x16, x17, x18, x19, x20, x21, x22, x23, x24, x25, x26, x27, x28, x29, x30, x31, x32, x33, x34, x35, x36, x37, x38, x39, x40, x41, x42, x43, x44, .int .u8 k8, y46, y47, y48, y49, y50, y51, y52, y53, y54, y55, y56, y57, y58, y59, y60, y61, y62, y63, y64, y65, y66, y67, y68, y69, y70, y71, y72, y73, y74, y75, y76, y77, y78, y79, y80, y81, y82, y83, y84, y85, y86, y87, y88, y89, y90, y91, y92, y93, y94, y95, y96, y97, y98, y99, y100, y101, x102, x103, x104, x105, x106, x107, x108, x109, x110, x111, x112, x113, x114, x115, x116, x117, x118, x119, x120, x121, x122, x123, x124, x125, x126, x127, x128, x129, x130, x131, x132, x133, x134, x135, x136, x137, x138, x139, x140, x141, x142, x143, x144, x145, x146, x147, x148, x149, x150, x151, x152, x153, x154, x155, x156, x157, x158, x159, x160, x161, x162, x163, x164, x165, x166, x167, x168, x169, x170, x171, x172, x173, x174, x175, x176, x177, x178, x179, x180, x181, x182, x183, x184, x185, x186, x187, x188, x189, x190, x191, x192, x193, x194, x195, x196, x197, x198, x199, x200, x201, x202, x203, x204, x205, x206, x207, x208, x209, x210, x211, x212, x213, x214, x215, x216, x217, x218, x219, x220, x221, x222, x223, x224, x225, x226, x227, x228, x229, x230], []⟩ w') : C.wp Try.prog Q ⟨#[x0, x1, .int .u8 nn, x3, x4, x5, x6, x7, x8, .pointer (some ⟨b9, 0, none⟩), x10, x11, x12, x13, x14, x15, x16, x17, x18, x19, x20, x21, x22, x23, x24, x25, x26, x27, x28, x29, x30, x31, x32, x33, x34, x35, x36, x37, x38, x39, x40, x41, x42, x43, x44, .int .u8 k8, x46, x47, x48, x49, x50, x51, x52, x53, x54, x55, x56, x57, x58, x59, x60, x61, x62, x63, x64, x65, x66, x67, x68, x69, x70, x71, x72, x73, x74, x75, x76, x77, x78, x79, x80, x81, x82, x83, x84, x85, x86, x87, x88, x89, x90, x91, x92, x93, x94, x95, x96, x97, x98, x99, x100, x101, x102, x103, x104, x105, x106, x107, x108, x109, x110, x111, x112, x113, x114, x115, x116, x117, x118, x119, x120, x121, x122, x123, x124, x125, x126, x127, x128, x129, x130, x131, x132, x133, x134, x135, x136, x137, x138, x139, x140, x141, x142, x143, x144, x145, x146, x147, x148, x149, x150, x151, x152, x153, x154, x155, x156, x157, x158, x159, x160, x161, x162, x163, x164, x165, x166, x167, x168, x169, x170, x171, x172, x173, x174, x175, x176, x177, x178, x179, x180, x181, x182, x183, x184, x185, x186, x187, x188, x189, x190, x191, x192, x193, x194, x195, x196, x197, x198, x199, x200, x201, x202, x203, x204, x205, x206, x207, x208, x209, x210, x211, x212, x213, x214, x215, x216, x217, x218, x219, x220, x221, x222, x223, x224, x225, x226, x227, x228, x229, x230], []⟩ X := by
  cases hC
  let QQ : Exit → Act → World → Prop := bodyPost Try.prog Try.f9 (fun _ _ => True)
  dsimp only
  have HH := Lib.hid hh
  have H9 := Lib.hid h9
  have f0 := blk_free h9 0
  have f1 := blk_free h9 1
  have k0 := blk_cell h9 0
  have k1 := blk_cell h9 1
  simp at k0 k1
  have hl9 := blk_lt h9
  clear hh h9
  rcases (by omega : k8 = 0 ∨ k8 = 1 ∨ k8 = 2 ∨ k8 = 3 ∨ k8 = 4 ∨ k8 = 5 ∨ k8 = 6 ∨ k8 = 7) with h0' | h1' | h2' | h3' | h4' | h5' | h6' | h7'
  · subst h0'
    go_wp2_with fail
    exact HH.out _ _ _ _ _ _ _ _ _ _ _ _ _ _ _ _ _ _ _ _ _ _ _ _ _ _ _ _ _ _ _ _ _ _ _ _ _ _ _ _ _ _ _ _ _ _ _ _ _ _ _ _ _ _ _ _ 0 [] none 0 _ ⟨H9.out, By.nil _ _, Nat.le_refl _, Nat.zero_le _, fun _ => rfl, rfl, by decide, by decide, by omega, fun h => absurd h (by decide), Keep.refl _ _⟩
  · subst h1'
    go_wp2_with fail
    exact HH.out _ _ _ _ _ _ _ _ _ _ _ _ _ _ _ _ _ _ _ _ _ _ _ _ _ _ _ _ _ _ _ _ _ _ _ _ _ _ _ _ _ _ _ _ _ _ _ _ _ _ _ _ _ _ _ _ 1 [nn] _ _ _ (SwI.mk' H9.out rfl (by intro x hx; simp at hx; omega) (wr1 nn) (by decide) (by first | decide | (simp; done) | (simp; omega)) (by omega) (Keep.refl _ _) H9.out rfl (by simp))
  · subst h2'
    have hs := Int.tmod_eq_emod_of_nonneg (b := 3) h0
    rcases (by omega : nn % 3 = 0 ∨ nn % 3 = 1 ∨ nn % 3 = 2) with hj | hj | hj
    · have ht : nn.tmod 3 = 0 := by rw [hs]; exact hj
      have hmk := mk_bytes .i64 0 0 rfl (by decide)
      clear hs hj
      go_wp2_with fail
      exact HH.out _ _ _ _ _ _ _ _ _ _ _ _ _ _ _ _ _ _ _ _ _ _ _ _ _ _ _ _ _ _ _ _ _ _ _ _ _ _ _ _ _ _ _ _ _ _ _ _ _ _ _ _ _ _ _ _ 148 (List.replicate 0 0) _ _ _ (SwI.mk2 H9.out rfl (rep_rng 0) (wr2 (by decide)) (by decide) (by first | decide | (simp; done) | (simp; omega)) (by omega) rfl (by simp))
    · have ht : nn.tmod 3 = 1 := by rw [hs]; exact hj
      have hmk := mk_bytes .i64 1 1 rfl (by decide)
      clear hs hj
      go_wp2_with fail
      exact HH.out _ _ _ _ _ _ _ _ _ _ _ _ _ _ _ _ _ _ _ _ _ _ _ _ _ _ _ _ _ _ _ _ _ _ _ _ _ _ _ _ _ _ _ _ _ _ _ _ _ _ _ _ _ _ _ _ 148 (List.replicate 1 0) _ _ _ (SwI.mk2 H9.out rfl (rep_rng 1) (wr2 (by decide)) (by decide) (by first | decide | (simp; done) | (simp; omega)) (by omega) rfl (by simp))
    · have ht : nn.tmod 3 = 2 := by rw [hs]; exact hj
      have hmk := mk_bytes .i64 3 3 rfl (by decide)
      clear hs hj
      go_wp2_with fail
      exact HH.out _ _ _ _ _ _ _ _ _ _ _ _ _ _ _ _ _ _ _ _ _ _ _ _ _ _ _ _ _ _ _ _ _ _ _ _ _ _ _ _ _ _ _ _ _ _ _ _ _ _ _ _ _ _ _ _ 148 (List.replicate 3 0) _ _ _ (SwI.mk2 H9.out rfl (rep_rng 3) (wr2 (by decide)) (by decide) (by first | decide | (simp; done) | (simp; omega)) (by omega) rfl (by simp))
  · subst h3'
    have e1 := an_eq h0 h1
    have e2 := or1_eq h0 h1
    have e4 : (nn / 4 * 4 + 1 + nn % 3) % 256 = nn / 4 * 4 + 1 + nn % 3 := by omega
    have E : Hid ((bits BinOp.or IntKind.u8 (bits BinOp.andNot IntKind.u8 nn 3) 1 + nn % 3) % 256 = nn / 4 * 4 + 1 + nn % 3) := by show _ = _; rw [e1, e2, e4]
    clear e1 e2 e4
    go_wp2_with fail
    rw [E.out]
    exact HH.out _ _ _ _ _ _ _ _ _ _ _ _ _ _ _ _ _ _ _ _ _ _ _ _ _ _ _ _ _ _ _ _ _ _ _ _ _ _ _ _ _ _ _ _ _ _ _ _ _ _ _ _ _ _ _ _ 7 [nn / 4 * 4 + 1 + nn % 3, 0, 0, 0, 0] _ _ _ (SwI.mk' H9.out rfl (by intro x hx; simp at hx; omega) (wr3 h0) (by decide) (by first | decide | (simp; done) | (simp; omega)) (by omega) (Keep.refl _ _) H9.out rfl (by simp))
  · subst h4'
    have e1 := and_eq h0 h1
    have E : Hid ((12 + bits BinOp.and IntKind.u8 nn 124) % 256 = 12 + nn % 128 / 4 * 4) := by show _ = _; rw [e1]; omega
    clear e1
    go_wp2_with fail
    rw [E.out]
    exact HH.out _ _ _ _ _ _ _ _ _ _ _ _ _ _ _ _ _ _ _ _ _ _ _ _ _ _ _ _ _ _ _ _ _ _ _ _ _ _ _ _ _ _ _ _ _ _ _ _ _ _ _ _ _ _ _ _ 137 [12 + nn % 128 / 4 * 4, 0, 0, 0, 0] _ _ _ (SwI.mk' H9.out rfl (by intro x hx; simp at hx; omega) (wr4 h0) (by decide) (by first | decide | (simp; done) | (simp; omega)) (by omega) (Keep.refl _ _) H9.out rfl (by simp))
  · subst h5'
    obtain ⟨z, hz⟩ : ∃ z, (bits BinOp.or IntKind.u8 (16 * nn % 256) 4 + nn % 12) % 256 = z := ⟨_, rfl⟩
    have e1 := or4_eq (x := nn % 16) (by omega) (by omega)
    have hz2 : 0 ≤ z ∧ z ≤ 255 ∧ 4 ≤ z % 16 := by
      rw [← hz, show 16 * nn % 256 = nn % 16 * 16 by omega, e1]
      obtain ⟨a, ha⟩ : ∃ a, nn % 16 = a := ⟨_, rfl⟩
      obtain ⟨b, hb⟩ : ∃ b, nn % 12 = b := ⟨_, rfl⟩
      have ha2 : 0 ≤ a ∧ a ≤ 15 := by omega
      have hb2 : 0 ≤ b ∧ b ≤ 11 := by omega
      rw [ha, hb]
      clear hz e1 ha hb
      omega
    have E := Lib.hid hz
    clear e1 hz
    go_wp2_with fail
    rw [E.out]
    exact HH.out _ _ _ _ _ _ _ _ _ _ _ _ _ _ _ _ _ _ _ _ _ _ _ _ _ _ _ _ _ _ _ _ _ _ _ _ _ _ _ _ _ _ _ _ _ _ _ _ _ _ _ _ _ _ _ _ 68 [5, z] _ _ _ (SwI.mk' H9.out rfl (by intro x hx; simp at hx; omega) (wr5 hz2.2.2) (by decide) (by first | decide | (simp; done) | (simp; omega)) (by omega) (Keep.refl _ _) H9.out rfl (by simp))
  · subst h6'
    obtain ⟨m, hm⟩ : ∃ m : Nat, 39 + nn = m := ⟨(39 + nn).toNat, by omega⟩
    have hmk := mk_bytes .i64 (39 + nn) m hm (by omega)
    have hml : m ≤ 300 ∧ 38 < m := by omega
    clear hm
    go_wp2_with fail
    exact HH.out _ _ _ _ _ _ _ _ _ _ _ _ _ _ _ _ _ _ _ _ _ _ _ _ _ _ _ _ _ _ _ _ _ _ _ _ _ _ _ _ _ _ _ _ _ _ _ _ _ _ _ _ _ _ _ _ 200 (List.replicate m 0) _ _ _ (SwI.mk' H9.out (by simp) (rep_rng m) (wr6 hml.2) (by decide) (by first | decide | (simp; done) | (simp; omega)) (by omega) (Keep.refl _ _) H9.out rfl (by simp))
  · subst h7'
    obtain ⟨m, hm⟩ : ∃ m : Nat, 2 + nn % 3 = m := ⟨(2 + nn % 3).toNat, by omega⟩
    have hmk := mk_bytes .i64 (2 + nn % 3) m hm (by omega)
    have hml : m ≤ 300 ∧ m % 4 ≠ 1 := by omega
    clear hm
    go_wp2_with fail
    exact HH.out _ _ _ _ _ _ _ _ _ _ _ _ _ _ _ _ _ _ _ _ _ _ _ _ _ _ _ _ _ _ _ _ _ _ _ _ _ _ _ _ _ _ _ _ _ _ _ _ _ _ _ _ _ _ _ _ 131 (List.replicate m 0) _ _ _ (SwI.mk' H9.out (by simp) (rep_rng m) (wr7 hml.2) (by decide) (by first | decide | (simp; done) | (simp; omega)) (by omega) (Keep.refl _ _) H9.out rfl (by simp))

end Go.Proofs.Ytjfnnclbfaakkaa

/-
  Region 36 of OptsWrong. Conditions: those of the theorems.
-/
import Derived.Test.YtjfnnclbfaakkaaWrongA
import Derived.Test.YtjfnnclbfaakkaaAwake
import Derived.Deep.DeepCutAuto
namespace Go.Proofs.Ytjfnnclbfaakkaa
open Go.RowKit
set_option linter.unusedVariables false
set_option linter.unusedSimpArgs false

/-- What region 36 leaves. -/
def PC (m : Nat) (vals : List Value) : Nat → Value → World → Prop
  | 4, v, W => ∃ b, v = .slice (some ⟨b, 0, none⟩) m m ∧ W.heap[b]? = some (.cells (List.replicate m (Value.int .u8 0)).toArray 5 (0, 0))
  | 5, v, W => ∃ b, v = .agg #[.int .u8 200, .slice (some ⟨b, 0, none⟩) m m] ∧ W.heap[b]? = some (.cells (List.replicate m (Value.int .u8 0)).toArray 5 (0, 0))
  | 6, v, W => ∃ b, v = .slice (some ⟨b, 0, none⟩) 2 2 ∧ Ops W (some ⟨b, 0, none⟩) [(131, [4]), (200, List.replicate m 0)]
  | 7, v, _ => ∃ A c, v = .tuple #[.slice A 0 c, .int .i64 3]
  | 8, v, _ => ∃ A c, v = .tuple #[.slice A 0 c, .int .i64 3]
  | 9, v, _ => ∃ A c, v = .slice A 0 c
  | 11, v, _ => ∃ A c, v = .slice A 0 c
  | i, v, _ => v = vals.getD i undef
theorem PC.below {m : Nat} {vals : List Value} (i : Nat) (v : Value) (X Y : World) (h : PC m vals i v X) (hb : Below X.heap.size X Y) : PC m vals i v Y := by
  by_cases h0 : i = 4
  · subst h0
    obtain ⟨b, e, h⟩ := h
    exact ⟨b, e, blk_below hb h⟩
  · by_cases h2 : i = 5
    · subst h2
      obtain ⟨b, e, h⟩ := h
      exact ⟨b, e, blk_below hb h⟩
    · by_cases h6 : i = 6
      · subst h6
        obtain ⟨b, e, h⟩ := h
        exact ⟨b, e, h.below hb⟩
      · unfold PC at h ⊢
        split at h <;> first | contradiction | exact h
theorem wr36 {m : Nat} (h : m = 36 ∨ m = 37 ∨ m = 38) : writeS [(131, [4]), (200, List.replicate m 0)] = (3, []) := by
  rcases h with rfl | rfl | rfl <;> decide +kernel
theorem two_ops {w : World} {b4 b8 m : Nat} (h4 : w.heap[b4]? = some (.cells #[.int .u8 4] 5 (0, 0))) (h8 : w.heap[b8]? = some (.cells (List.replicate m (Value.int .u8 0)).toArray 5 (0, 0))) (hm : m ≤ 2 ^ 20) :
    Ops (w.alloc (.cells #[.int .u8 131, .slice (some ⟨b4, 0, none⟩) 1 1, .int .u8 200, .slice (some ⟨b8, 0, none⟩) m m] 36)) (some ⟨w.heap.size, 0, none⟩) [(131, [4]), (200, List.replicate m 0)] := by
  have hb : Below w.heap.size w (w.alloc (.cells #[.int .u8 131, .slice (some ⟨b4, 0, none⟩) 1 1, .int .u8 200, .slice (some ⟨b8, 0, none⟩) m m] 36)) := (Below.refl _ _).alloc (Nat.le_refl _) _
  refine Ops.blk (css := [[.int .u8 131, .slice (some ⟨b4, 0, none⟩) 1 1], [.int .u8 200, .slice (some ⟨b8, 0, none⟩) m m]]) (heap_alloc_last _ _) (.cons ⟨by decide, some ⟨b4, 0, none⟩, 1, rfl, by simp, lt_maxLen' (by decide), By.below (by_blk h4 rfl (by decide)) hb, by simp⟩ (.cons ⟨(by show (0 : Int) ≤ 200 ∧ (200 : Int) ≤ 255; decide), some ⟨b8, 0, none⟩, m, by simp, by simp, lt_maxLen' (by omega), By.below (by_blk h8 (by simp) (rep_rng m)) hb, by simp⟩ .nil))
set_option maxRecDepth 100000 in
set_option maxHeartbeats 8000000 in
theorem reg36_any (C : Code) (hC : findC (isReg 36) (Try.f9.body.getD .skip) = some C) (Q : Exit → Act → World → Prop) {X : World} {b25 b4 : Nat} {nn : Int} {x0 x1 x3 x4 x5 x6 x7 x8 x9 x10 x11 x12 x13 x14 x15 x16 x17 x18 x19 x20 x21 x22 x23 x24 x26 x27 x28 x29 x30 x31 x32 x33 x34 x35 x36 x37 x38 x39 x40 x41 x42 x43 x44 x45 x46 x47 x48 x49 x50 x51 x52 x53 x54 x55 x56 x57 x58 x59 x60 x61 x62 x63 x64 x65 x66 x67 x68 x69 x70 x71 x72 x73 x74 x75 x76 x77 x78 x79 x80 x81 x82 x83 x84 x85 x86 x87 x88 x89 x90 x91 x92 x93 x94 x95 x96 x97 x98 x99 x100 x101 x102 x103 x104 x105 x106 x107 x108 x109 x110 x111 x112 x113 x114 x115 x116 x117 x118 x119 x120 x121 x122 x123 x124 x125 x126 x127 x128 x129 x130 x131 x132 x133 x134 x135 x136 x137 x138 x139 x140 x141 x142 x143 x144 x145 x146 x147 x148 x149 x150 x151 x152 x153 x154 x155 x156 x157 x158 x159 x160 x161 x162 x163 x164 x165 x166 x167 x168 x169 x170 x171 x172 x173 x174 x175 x176 x177 x178 x179 x180 x181 x182 x183 x184 x185 x186 x187 x188 x189 x190 x191 x192 x193 x194 x195 x196 x197 x198 x199 x200 x201 x202 x203 x204 x205 x206 x207 x208 x209 x210 x211 x212 x213 x214 x215 x216 x217 x218 x219 x220 x221 x222 x223 x224 x225 x226 x227 x228 x229 x230 : Value}
    (h25 : X.heap[b25]? = some (.cells #[.int .u8 131, .slice (some ⟨b4, 0, none⟩) 1 1] 36 (0, 0))) (h4 : X.heap[b4]? = some (.cells #[.int .u8 4] 5 (0, 0))) (h0 : 0 ≤ nn) (h1 : nn ≤ 255)
    (hh : ∀ (y202 y203 y204 y205 y206 y207 y208 y209 y210 y211 y212 : Value) (A28 : Option Addr) (c28 : Nat) (w' : World), Below X.heap.size X w' → Q .normal ⟨#[x0, x1, .int .u8 nn, x3, x4, x5, x6, x7, x8, x9, x10, x11, x12, x13, x14, x15, x16, x17, x18, x19, x20, x21, x22, x23, x24, .pointer (some ⟨b25, 0, none⟩), x26, x27, .slice A28 0 c28, .int .i64 3, x30, x31, x32, x33, x34, x35, x36, x37, x38, x39, x40, x41, x42, x43, x44, x45, x46, x47, x48, x49, x50, x51, x52, x53, x54, x55, x56, x57, x58, x59, x60, x61, x62, x63, x64, x65, x66, x67, x68, x69, x70, x71, x72, x73, x74, x75, x76, x77, x78, x79, x80, x81, x82, x83, x84, x85, x86, x87, x88, x89, x90, x91, x92, x93, x94, x95, x96, x97, x98, x99, x100, x101, x102, x103, x104, x105, x106, x107, x108, x109, x110, x111, x112, x113, x114, x115, x116, x117, x118, x119, x120, x121, x122, x123, x124, x125, x126, x127, x128, x129, x130, x131, x132, x133, x134, x135, x136, x137, x138, x139, x140, x141, x142, x143, x144, x145, x146, x147, x148, x149, x150, x151, x152, x153, x154, x155, x156, x157, x158, x159, x160, x161, x162, x163, x164, x165, x166, x167, x168, x169, x170, x171, x172, x173, x174, x175, x176, x177, x178, x179, x180, x181, x182, x183, x184, x185, x186, x187, x188, x189, x190, x191, x192, x193, x194, x195, x196, x197, x198, x199, x200, x201, y202, y203, y204, y205, y206, y207, y208, y209, y210, y211, y212, x213, x214, x215, x216, x217, x218, x219, x220, x221, x222, x223, x224, x225, x226, x227, x228, x229, x230], []⟩ w') : C.wp Try.prog Q ⟨#[x0, x1, .int .u8 nn, x3, x4, x5, x6, x7, x8, x9, x10, x11, x12, x13, x14, x15, x16, x17, x18, x19, x20, x21, x22, x23, x24, .pointer (some ⟨b25, 0, none⟩), x26, x27, x28, x29, x30, x31, x32, x33, x34, x35, x36, x37, x38, x39, x40, x41, x42, x43, x44, x45, x46, x47, x48, x49, x50, x51, x52, x53, x54, x55, x56, x57, x58, x59, x60, x61, x62, x63, x64, x65, x66, x67, x68, x69, x70, x71, x72, x73, x74, x75, x76, x77, x78, x79, x80, x81, x82, x83, x84, x85, x86, x87, x88, x89, x90, x91, x92, x93, x94, x95, x96, x97, x98, x99, x100, x101, x102, x103, x104, x105, x106, x107, x108, x109, x110, x111, x112, x113, x114, x115, x116, x117, x118, x119, x120, x121, x122, x123, x124, x125, x126, x127, x128, x129, x130, x131, x132, x133, x134, x135, x136, x137, x138, x139, x140, x141, x142, x143, x144, x145, x146, x147, x148, x149, x150, x151, x152, x153, x154, x155, x156, x157, x158, x159, x160, x161, x162, x163, x164, x165, x166, x167, x168, x169, x170, x171, x172, x173, x174, x175, x176, x177, x178, x179, x180, x181, x182, x183, x184, x185, x186, x187, x188, x189, x190, x191, x192, x193, x194, x195, x196, x197, x198, x199, x200, x201, x202, x203, x204, x205, x206, x207, x208, x209, x210, x211, x212, x213, x214, x215, x216, x217, x218, x219, x220, x221, x222, x223, x224, x225, x226, x227, x228, x229, x230], []⟩ X := by
  cases hC
  let QQ : Exit → Act → World → Prop := bodyPost Try.prog Try.f9 (fun _ _ => True)
  dsimp only
  obtain ⟨q, hq⟩ : ∃ q, nn % 3 = q := ⟨_, rfl⟩
  have hq3 : 0 ≤ q ∧ q ≤ 2 := by omega
  have hqm : nn.tmod 3 = q := by rw [Int.tmod_eq_emod_of_nonneg h0]; exact hq
  have hqw : IntKind.u8.wrap q = q := IntWalk.u8_in _ (by omega)
  have hqx : IntKind.u8.wrap (36 + q) = 36 + q := IntWalk.u8_in _ (by omega)
  obtain ⟨m, hm⟩ : ∃ m : Nat, 36 + q = m := ⟨(36 + q).toNat, by omega⟩
  have hm3 : m = 36 ∨ m = 37 ∨ m = 38 := by omega
  have HW := Lib.hid (wr36 hm3)
  have hmk := mk_bytes .u8 (36 + q) m hm (by omega)
  have H4 := Lib.hid h4
  have HH := Lib.hid hh
  have k0 := blk_cell h25 0
  have k1 := blk_cell h25 1
  simp at k0 k1
  have hl9 := blk_lt h25
  clear hh h25 h4 hm hq
  refine wp_region_steps 12 [[], [], [1], [2], [3], [4], [0, 5], [6], [7], [8], [8], [9]] (fun D a w' => ∃ g : Nat → Value, a = ⟨#[x0, x1, .int .u8 nn, x3, x4, x5, x6, x7, x8, x9, x10, x11, x12, x13, x14, x15, x16, x17, x18, x19, x20, x21, x22, x23, x24, .pointer (some ⟨b25, 0, none⟩), x26, x27, g 11, x29, x30, x31, x32, x33, x34, x35, x36, x37, x38, x39, x40, x41, x42, x43, x44, x45, x46, x47, x48, x49, x50, x51, x52, x53, x54, x55, x56, x57, x58, x59, x60, x61, x62, x63, x64, x65, x66, x67, x68, x69, x70, x71, x72, x73, x74, x75, x76, x77, x78, x79, x80, x81, x82, x83, x84, x85, x86, x87, x88, x89, x90, x91, x92, x93, x94, x95, x96, x97, x98, x99, x100, x101, x102, x103, x104, x105, x106, x107, x108, x109, x110, x111, x112, x113, x114, x115, x116, x117, x118, x119, x120, x121, x122, x123, x124, x125, x126, x127, x128, x129, x130, x131, x132, x133, x134, x135, x136, x137, x138, x139, x140, x141, x142, x143, x144, x145, x146, x147, x148, x149, x150, x151, x152, x153, x154, x155, x156, x157, x158, x159, x160, x161, x162, x163, x164, x165, x166, x167, x168, x169, x170, x171, x172, x173, x174, x175, x176, x177, x178, x179, x180, x181, x182, x183, x184, x185, x186, x187, x188, x189, x190, x191, x192, x193, x194, x195, x196, x197, x198, x199, x200, x201, g 8, g 0, g 1, g 2, g 3, g 4, g 5, g 6, g 7, g 9, g 10, x213, x214, x215, x216, x217, x218, x219, x220, x221, x222, x223, x224, x225, x226, x227, x228, x229, x230], []⟩ ∧ Iq X (PC m ([.agg #[.int .u8 131, .slice (some ⟨b4, 0, none⟩) 1 1], .int .u8 nn, .int .u8 q, .int .u8 (36 + q), undef, undef, undef, undef, undef, undef, .int .i64 3, undef] : List Value)) D g w') (by kernel_rfl) (by kernel_rfl) ⟨fun i => if i = 0 then x203 else if i = 1 then x204 else if i = 2 then x205 else if i = 3 then x206 else if i = 4 then x207 else if i = 5 then x208 else if i = 6 then x209 else if i = 7 then x210 else if i = 8 then x202 else if i = 9 then x211 else if i = 10 then x212 else if i = 11 then x28 else undef, rfl, Iq.zero _ _ _⟩ ?_ ?_
  · simp only [List.take_succ_cons, List.take_zero]
    refine ⟨?_, ?_, ?_, ?_, ?_, ?_, ?_, ?_, ?_, ?_, ?_, ?_, trivial⟩
    · intro D a w' hn hp hI
      obtain ⟨g, rfl, hR⟩ := hI
      have cc0 := kc hR.b k0
      have cc1 := kc hR.b k1
      clear hn hp
      go_wp2_with fail
      exact ⟨fun ix => if ix = 0 then .agg #[.int .u8 131, .slice (some ⟨b4, 0, none⟩) 1 1] else g ix, by rfl, hR.upd PC.below 0 _ (Below.refl _ _) rfl⟩
    · intro D a w' hn hp hI
      obtain ⟨g, rfl, hR⟩ := hI
      clear hn hp
      go_wp2_with fail
      exact ⟨fun ix => if ix = 1 then .int .u8 nn else g ix, by rfl, hR.upd PC.below 1 _ (Below.refl _ _) rfl⟩
    · intro D a w' hn hp hI
      obtain ⟨g, rfl, hR⟩ := hI
      have e1 : g 1 = .int .u8 nn := hR.e 1 hp.1
      rw [e1]
      clear hn hp
      go_wp2_with fail
      exact ⟨fun ix => if ix = 2 then .int .u8 q else g ix, by simp [e1], hR.upd PC.below 2 _ (Below.refl _ _) rfl⟩
    · intro D a w' hn hp hI
      obtain ⟨g, rfl, hR⟩ := hI
      have e2 : g 2 = .int .u8 q := hR.e 2 hp.1
      rw [e2]
      clear hn hp
      go_wp2_with fail
      exact ⟨fun ix => if ix = 3 then .int .u8 (36 + q) else g ix, by simp [e2], hR.upd PC.below 3 _ (Below.refl _ _) rfl⟩
    · intro D a w' hn hp hI
      obtain ⟨g, rfl, hR⟩ := hI
      have e3 : g 3 = .int .u8 (36 + q) := hR.e 3 hp.1
      rw [e3]
      clear hn hp
      go_wp2_with fail
      exact ⟨fun ix => if ix = 4 then .slice (some ⟨w'.heap.size, 0, none⟩) m m else g ix, by simp [e3], hR.upd PC.below 4 _ ((Below.refl _ _).alloc (Nat.le_refl _) _) ⟨_, rfl, heap_alloc_last _ _⟩⟩
    · intro D a w' hn hp hI
      obtain ⟨g, rfl, hR⟩ := hI
      obtain ⟨b7, e4, hb7⟩ : ∃ b, g 4 = .slice (some ⟨b, 0, none⟩) m m ∧ w'.heap[b]? = some (.cells (List.replicate m (Value.int .u8 0)).toArray 5 (0, 0)) := hR.e 4 hp.1
      rw [e4]
      clear hn hp
      go_wp2_with fail
      exact ⟨fun ix => if ix = 5 then .agg #[.int .u8 200, .slice (some ⟨b7, 0, none⟩) m m] else g ix, by simp [e4], hR.upd PC.below 5 _ (Below.refl _ _) ⟨_, rfl, hb7⟩⟩
    · intro D a w' hn hp hI
      obtain ⟨g, rfl, hR⟩ := hI
      have e0 : g 0 = .agg #[.int .u8 131, .slice (some ⟨b4, 0, none⟩) 1 1] := hR.e 0 hp.1
      rw [e0]
      obtain ⟨b8, e5, hb8⟩ : ∃ b, g 5 = .agg #[.int .u8 200, .slice (some ⟨b, 0, none⟩) m m] ∧ w'.heap[b]? = some (.cells (List.replicate m (Value.int .u8 0)).toArray 5 (0, 0)) := hR.e 5 hp.2.1
      rw [e5]
      have h4 := blk_below hR.b H4.out
      clear hn hp
      go_wp2_with fail
      have hops : Ops (w'.alloc (.cells #[.int .u8 131, .slice (some ⟨b4, 0, none⟩) 1 1, .int .u8 200, .slice (some ⟨b8, 0, none⟩) m m] 36)) (some ⟨w'.heap.size, 0, none⟩) [(131, [4]), (200, List.replicate m 0)] := two_ops h4 hb8 (by omega)
      exact ⟨fun ix => if ix = 6 then .slice (some ⟨w'.heap.size, 0, none⟩) 2 2 else g ix, by simp [e0, e5], hR.upd PC.below 6 _ ((Below.refl _ _).alloc (Nat.le_refl _) _) ⟨_, rfl, hops⟩⟩
    · intro D a w' hn hp hI
      obtain ⟨g, rfl, hR⟩ := hI
      obtain ⟨b9, e6, hops⟩ : ∃ b, g 6 = .slice (some ⟨b, 0, none⟩) 2 2 ∧ Ops w' (some ⟨b, 0, none⟩) [(131, [4]), (200, List.replicate m 0)] := hR.e 6 hp.1
      rw [e6]
      clear hn hp
      go_wp2_with fail
      refine (write_m [(131, [4]), (200, List.replicate m 0)] 2 (some ⟨b9, 0, none⟩) 2 w' rfl hops (by decide) (by intro o ho; simp at ho; rcases ho with rfl | rfl <;> simp; omega) HW.out).mono ?_
      rintro e Y ⟨A12, c12, rfl, _, hby⟩
      clear hops
      go_wp2_with fail
      exact ⟨fun ix => if ix = 7 then .tuple #[.slice A12 0 c12, .int .i64 3] else g ix, by simp [e6], hR.upd PC.below 7 _ hby ⟨_, _, rfl⟩⟩
    · intro D a w' hn hp hI
      obtain ⟨g, rfl, hR⟩ := hI
      obtain ⟨A12, c12, e7⟩ : ∃ A c, g 7 = .tuple #[.slice A 0 c, .int .i64 3] := hR.e 7 hp.1
      rw [e7]
      clear hn hp
      go_wp2_with fail
      exact ⟨fun ix => if ix = 8 then .tuple #[.slice A12 0 c12, .int .i64 3] else g ix, by simp [e7], hR.upd PC.below 8 _ (Below.refl _ _) ⟨_, _, rfl⟩⟩
    · intro D a w' hn hp hI
      obtain ⟨g, rfl, hR⟩ := hI
      obtain ⟨A12, c12, e8⟩ : ∃ A c, g 8 = .tuple #[.slice A 0 c, .int .i64 3] := hR.e 8 hp.1
      rw [e8]
      clear hn hp
      go_wp2_with fail
      exact ⟨fun ix => if ix = 9 then .slice A12 0 c12 else g ix, by simp [e8], hR.upd PC.below 9 _ (Below.refl _ _) ⟨_, _, rfl⟩⟩
    · intro D a w' hn hp hI
      obtain ⟨g, rfl, hR⟩ := hI
      obtain ⟨A12, c12, e8⟩ : ∃ A c, g 8 = .tuple #[.slice A 0 c, .int .i64 3] := hR.e 8 hp.1
      rw [e8]
      clear hn hp
      go_wp2_with fail
      exact ⟨fun ix => if ix = 10 then .int .i64 3 else g ix, by simp [e8], hR.upd PC.below 10 _ (Below.refl _ _) rfl⟩
    · intro D a w' hn hp hI
      obtain ⟨g, rfl, hR⟩ := hI
      obtain ⟨A12, c12, e9⟩ : ∃ A c, g 9 = .slice A 0 c := hR.e 9 hp.1
      rw [e9]
      clear hn hp
      go_wp2_with fail
      exact ⟨fun ix => if ix = 11 then .slice A12 0 c12 else g ix, by simp [e9], hR.upd PC.below 11 _ (Below.refl _ _) ⟨_, _, rfl⟩⟩
  intro D a w' hD2 hI2
  obtain ⟨g36, rfl, hR⟩ := hI2
  have e10 : g36 10 = .int .i64 3 := hR.e 10 (hD2 10 (by decide))
  obtain ⟨A12, c12, e11⟩ : ∃ A c, g36 11 = .slice A 0 c := hR.e 11 (hD2 11 (by decide))
  rw [e10, e11]
  have HB2 := Lib.hid hR.b
  simp only [List.drop_succ_cons, List.drop_zero]
  clear hD2 hR e10 e11
  go_wp2_with fail
  exact HH.out _ _ _ _ _ _ _ _ _ _ _ _ _ _ HB2.out

end Go.Proofs.Ytjfnnclbfaakkaa

/-
  Region 30 of OptsWrong. Conditions: those of the theorems.
-/
import Derived.Test.YtjfnnclbfaakkaaWrongS
import Derived.Test.YtjfnnclbfaakkaaBack
import Derived.Deep.DeepCutAuto
import Derived.ArgAppend
namespace Go.Proofs.Ytjfnnclbfaakkaa
open Go.RowKit
set_option linter.unusedVariables false
set_option linter.unusedSimpArgs false

theorem own_some {w : World} {base n : Nat} {e : TypeId} {size : Nat} {v : Value} {xs : List Value} (hn : 0 < n) (h : w.ownsRow base e size v n xs) : ∃ g cap, v = .slice (some ⟨g, 0, none⟩) n cap := by
  rcases own_cases h with ⟨_, h0, _⟩ | ⟨g, cap, e, _⟩
  · omega
  · exact ⟨g, cap, e⟩
/-- What region 30 leaves. -/
def PB (base n : Nat) (xs : List Value) (kd ln : Int) (vals : List Value) : Nat → Value → World → Prop
  | 11, v, W => ∃ b, v = .slice (some ⟨b, 0, none⟩) 2 2 ∧ W.heap[b]? = some (.cells #[.int .u8 kd, .int .u8 ln] 5 (0, 0))
  | 12, v, W => W.ownsRow base 5 1 v n xs
  | i, v, _ => v = vals.getD i undef
theorem PB.below {base n : Nat} {xs : List Value} {kd ln : Int} {vals : List Value} (i : Nat) (v : Value) (X Y : World) (h : PB base n xs kd ln vals i v X) (hb : Below X.heap.size X Y) : PB base n xs kd ln vals i v Y := by
  by_cases h0 : i = 11
  · subst h0
    obtain ⟨b, e, h⟩ := h
    exact ⟨b, e, blk_below hb h⟩
  · by_cases h2 : i = 12
    · subst h2
      exact own_below h hb
    · unfold PB at h ⊢
      split at h <;> first | contradiction | exact h
set_option maxRecDepth 100000 in
set_option maxHeartbeats 8000000 in
theorem reg30_any (C : Code) (hC : findC (isReg 30) (Try.f9.body.getD .skip) = some C) (Q : Exit → Act → World → Prop) {X : World} {b9 : Nat} {kd : Int} {d : List Int} {bd c9 ld : Nat} {al : List Op1} {ob : List Int} {A20 : Option Addr} {lo c20 nb : Nat} {x0 x1 x2 x3 x4 x5 x6 x7 x10 x11 x12 x13 x14 x15 x16 x17 x18 x19 x21 x22 x23 x24 x25 x26 x27 x28 x29 x30 x31 x32 x33 x34 x35 x36 x37 x38 x39 x40 x41 x42 x43 x44 x45 x46 x47 x48 x49 x50 x51 x52 x53 x54 x55 x56 x57 x58 x59 x60 x61 x62 x63 x64 x65 x66 x67 x68 x69 x70 x71 x72 x73 x74 x75 x76 x77 x78 x79 x80 x81 x82 x83 x84 x85 x86 x87 x88 x89 x90 x91 x92 x93 x94 x95 x96 x97 x98 x99 x100 x101 x102 x103 x104 x105 x106 x107 x108 x109 x110 x111 x112 x113 x114 x115 x116 x117 x118 x119 x120 x121 x122 x123 x124 x125 x126 x127 x128 x129 x130 x131 x132 x133 x134 x135 x136 x137 x138 x139 x140 x141 x142 x143 x144 x145 x146 x147 x148 x149 x150 x151 x152 x153 x154 x155 x156 x157 x158 x159 x160 x161 x162 x163 x164 x165 x166 x167 x168 x169 x170 x171 x172 x173 x174 x175 x176 x177 x178 x179 x180 x181 x182 x183 x184 x185 x186 x187 x188 x189 x190 x191 x192 x193 x194 x195 x196 x197 x198 x199 x200 x201 x202 x203 x204 x205 x206 x207 x208 x209 x210 x211 x212 x213 x214 x215 x216 x217 x218 x219 x220 x221 x222 x223 x224 x225 x226 x227 x228 x229 x230 : Value}
    (h9 : X.heap[b9]? = some (.cells #[.int .u8 kd, .slice (some ⟨bd, 0, none⟩) ld c9] 36 (0, 0))) (hd : By X (some ⟨bd, 0, none⟩) d) (hld : d.length = ld) (hk : 0 ≤ kd ∧ kd ≤ 255) (hk1 : kd ≠ 1) (hob : By X A20 ob) (hlo : ob.length = lo) (hfl : (flat al).length = nb) (htk : ob.take nb = flat al) (hn1 : nb ≤ lo) (hlc : lo ≤ c20) (h40 : nb + 2 + ld ≤ 40) (hno : A20 = none → c20 = 0)
    (hh : ∀ (y163 y164 y165 y166 y167 y168 y169 y170 y171 y172 y173 y174 y175 y176 y177 y178 : Value) (g cp : Nat) (w' : World), By w' (some ⟨g, 0, none⟩) (flat al ++ bytesO (kd, d)) → nb + 2 + ld ≤ cp → cp ≤ maxLen → Below X.heap.size X w' → Q .normal ⟨#[x0, x1, x2, x3, x4, x5, x6, x7, .int .i64 (nb : Int), .pointer (some ⟨b9, 0, none⟩), x10, x11, x12, x13, x14, x15, x16, x17, x18, x19, .slice A20 lo c20, x21, .slice (some ⟨g, 0, none⟩) (nb + 2 + ld) cp, x23, x24, x25, x26, x27, x28, x29, x30, x31, x32, x33, x34, x35, x36, x37, x38, x39, x40, x41, x42, x43, x44, x45, x46, x47, x48, x49, x50, x51, x52, x53, x54, x55, x56, x57, x58, x59, x60, x61, x62, x63, x64, x65, x66, x67, x68, x69, x70, x71, x72, x73, x74, x75, x76, x77, x78, x79, x80, x81, x82, x83, x84, x85, x86, x87, x88, x89, x90, x91, x92, x93, x94, x95, x96, x97, x98, x99, x100, x101, x102, x103, x104, x105, x106, x107, x108, x109, x110, x111, x112, x113, x114, x115, x116, x117, x118, x119, x120, x121, x122, x123, x124, x125, x126, x127, x128, x129, x130, x131, x132, x133, x134, x135, x136, x137, x138, x139, x140, x141, x142, x143, x144, x145, x146, x147, x148, x149, x150, x151, x152, x153, x154, x155, x156, x157, x158, x159, x160, x161, x162, y163, y164, y165, y166, y167, y168, y169, y170, y171, y172, y173, y174, y175, y176, y177, y178, x179, x180, x181, x182, x183, x184, x185, x186, x187, x188, x189, x190, x191, x192, x193, x194, x195, x196, x197, x198, x199, x200, x201, x202, x203, x204, x205, x206, x207, x208, x209, x210, x211, x212, x213, x214, x215, x216, x217, x218, x219, x220, x221, x222, x223, x224, x225, x226, x227, x228, x229, x230], []⟩ w') : C.wp Try.prog Q ⟨#[x0, x1, x2, x3, x4, x5, x6, x7, .int .i64 (nb : Int), .pointer (some ⟨b9, 0, none⟩), x10, x11, x12, x13, x14, x15, x16, x17, x18, x19, .slice A20 lo c20, x21, x22, x23, x24, x25, x26, x27, x28, x29, x30, x31, x32, x33, x34, x35, x36, x37, x38, x39, x40, x41, x42, x43, x44, x45, x46, x47, x48, x49, x50, x51, x52, x53, x54, x55, x56, x57, x58, x59, x60, x61, x62, x63, x64, x65, x66, x67, x68, x69, x70, x71, x72, x73, x74, x75, x76, x77, x78, x79, x80, x81, x82, x83, x84, x85, x86, x87, x88, x89, x90, x91, x92, x93, x94, x95, x96, x97, x98, x99, x100, x101, x102, x103, x104, x105, x106, x107, x108, x109, x110, x111, x112, x113, x114, x115, x116, x117, x118, x119, x120, x121, x122, x123, x124, x125, x126, x127, x128, x129, x130, x131, x132, x133, x134, x135, x136, x137, x138, x139, x140, x141, x142, x143, x144, x145, x146, x147, x148, x149, x150, x151, x152, x153, x154, x155, x156, x157, x158, x159, x160, x161, x162, x163, x164, x165, x166, x167, x168, x169, x170, x171, x172, x173, x174, x175, x176, x177, x178, x179, x180, x181, x182, x183, x184, x185, x186, x187, x188, x189, x190, x191, x192, x193, x194, x195, x196, x197, x198, x199, x200, x201, x202, x203, x204, x205, x206, x207, x208, x209, x210, x211, x212, x213, x214, x215, x216, x217, x218, x219, x220, x221, x222, x223, x224, x225, x226, x227, x228, x229, x230], []⟩ X := by
  cases hC
  let QQ : Exit → Act → World → Prop := bodyPost Try.prog Try.f9 (fun _ _ => True)
  dsimp only
  have HNO : Hid (A20 = none → nb = 0 ∧ nb = 0) := fun h => by have := hno h; omega
  have HFL := Lib.hid hfl
  have hby := hob.take nb
  rw [htk] at hby
  have hbr := hby.rng
  have OLD : Hid (∀ w' : World, Below X.heap.size X w' → ∀ b, A20 = some b → ∀ j u, ((flat al).map (Value.int .u8))[j]? = some u → w'.cell? (b.add j) = some u) := fun w' hb b hA j u hu => by
    obtain ⟨b', o', e, _⟩ := (hby.below hb).mem (by rintro h; rw [h] at hu; simp at hu)
    have hby' := hby.below hb
    rw [hA] at e
    cases e
    rw [hA] at hby'
    exact hby'.news j u hu
  have HD := Lib.hid hd
  have HLD := Lib.hid hld
  have HBR := Lib.hid hbr
  have HH := Lib.hid hh
  have k0 := blk_cell h9 0
  have k1 := blk_cell h9 1
  simp at k0 k1
  have hl9 := blk_lt h9
  have hw1 : IntKind.i64.wrap (2 + (ld : Int)) = 2 + (ld : Int) := IntWalk.i64_in _ (by omega)
  have hw2 : IntKind.u8.wrap (2 + (ld : Int)) = 2 + (ld : Int) := IntWalk.u8_in _ (by omega)
  have hn0 : (0 : Int) ≤ nb := by omega
  have hnc : (nb : Int) ≤ c20 := by omega
  clear hby hbr hd hld hob hfl htk hh h9 hno
  refine wp_region_steps 15 [[], [], [], [0, 1, 2], [], [4], [], [6], [7], [8], [9], [5, 10], [3, 11], [], [13]] (fun D a w' => ∃ g : Nat → Value, a = ⟨#[x0, x1, x2, x3, x4, x5, x6, x7, .int .i64 (nb : Int), .pointer (some ⟨b9, 0, none⟩), x10, x11, x12, x13, x14, x15, x16, x17, x18, x19, .slice A20 lo c20, x21, x22, x23, x24, x25, x26, x27, x28, x29, x30, x31, x32, x33, x34, x35, x36, x37, x38, x39, x40, x41, x42, x43, x44, x45, x46, x47, x48, x49, x50, x51, x52, x53, x54, x55, x56, x57, x58, x59, x60, x61, x62, x63, x64, x65, x66, x67, x68, x69, x70, x71, x72, x73, x74, x75, x76, x77, x78, x79, x80, x81, x82, x83, x84, x85, x86, x87, x88, x89, x90, x91, x92, x93, x94, x95, x96, x97, x98, x99, x100, x101, x102, x103, x104, x105, x106, x107, x108, x109, x110, x111, x112, x113, x114, x115, x116, x117, x118, x119, x120, x121, x122, x123, x124, x125, x126, x127, x128, x129, x130, x131, x132, x133, x134, x135, x136, x137, x138, x139, x140, x141, x142, x143, x144, x145, x146, x147, x148, x149, x150, x151, x152, x153, x154, x155, x156, x157, x158, x159, x160, x161, x162, g 0, g 1, g 2, g 3, g 4, g 5, g 6, g 7, g 8, g 9, g 10, g 11, g 12, g 13, g 14, x178, x179, x180, x181, x182, x183, x184, x185, x186, x187, x188, x189, x190, x191, x192, x193, x194, x195, x196, x197, x198, x199, x200, x201, x202, x203, x204, x205, x206, x207, x208, x209, x210, x211, x212, x213, x214, x215, x216, x217, x218, x219, x220, x221, x222, x223, x224, x225, x226, x227, x228, x229, x230], []⟩ ∧ Iq X (PB X.heap.size (nb + 2) ((flat al).map (Value.int .u8) ++ [.int .u8 kd, .int .u8 (2 + (ld : Int))]) kd (2 + (ld : Int)) ([.slice A20 lo c20, .int .i64 (nb : Int), .int .i64 (nb : Int), .slice A20 nb nb, .pointer (some ⟨b9, 0, none⟩), .int .u8 kd, .pointer (some ⟨b9, 1, none⟩), .slice (some ⟨bd, 0, none⟩) ld c9, .int .i64 (ld : Int), .int .i64 (2 + (ld : Int)), .int .u8 (2 + (ld : Int)), undef, undef, .pointer (some ⟨b9, 1, none⟩), .slice (some ⟨bd, 0, none⟩) ld c9] : List Value)) D g w') (by kernel_rfl) (by kernel_rfl) ⟨fun i => if i = 0 then x163 else if i = 1 then x164 else if i = 2 then x165 else if i = 3 then x166 else if i = 4 then x167 else if i = 5 then x168 else if i = 6 then x169 else if i = 7 then x170 else if i = 8 then x171 else if i = 9 then x172 else if i = 10 then x173 else if i = 11 then x174 else if i = 12 then x175 else if i = 13 then x176 else if i = 14 then x177 else undef, rfl, Iq.zero _ _ _⟩ ?_ ?_
  · simp only [List.take_succ_cons, List.take_zero]
    refine ⟨?_, ?_, ?_, ?_, ?_, ?_, ?_, ?_, ?_, ?_, ?_, ?_, ?_, ?_, ?_, trivial⟩
    · intro D a w' hn hp hI
      obtain ⟨g, rfl, hR⟩ := hI
      clear hn hp
      go_wp2_with fail
      exact ⟨fun ix => if ix = 0 then .slice A20 lo c20 else g ix, by rfl, hR.upd PB.below 0 _ (Below.refl _ _) rfl⟩
    · intro D a w' hn hp hI
      obtain ⟨g, rfl, hR⟩ := hI
      clear hn hp
      go_wp2_with fail
      exact ⟨fun ix => if ix = 1 then .int .i64 (nb : Int) else g ix, by rfl, hR.upd PB.below 1 _ (Below.refl _ _) rfl⟩
    · intro D a w' hn hp hI
      obtain ⟨g, rfl, hR⟩ := hI
      clear hn hp
      go_wp2_with fail
      exact ⟨fun ix => if ix = 2 then .int .i64 (nb : Int) else g ix, by rfl, hR.upd PB.below 2 _ (Below.refl _ _) rfl⟩
    · intro D a w' hn hp hI
      obtain ⟨g, rfl, hR⟩ := hI
      have e0 : g 0 = .slice A20 lo c20 := hR.e 0 hp.1
      rw [e0]
      have e1 : g 1 = .int .i64 (nb : Int) := hR.e 1 hp.2.1
      rw [e1]
      have e2 : g 2 = .int .i64 (nb : Int) := hR.e 2 hp.2.2.1
      rw [e2]
      clear hn hp
      go_wp2_with fail
      exact ⟨fun ix => if ix = 3 then .slice A20 nb nb else g ix, by simp [e0, e1, e2], hR.upd PB.below 3 _ (Below.refl _ _) rfl⟩
    · intro D a w' hn hp hI
      obtain ⟨g, rfl, hR⟩ := hI
      clear hn hp
      go_wp2_with fail
      exact ⟨fun ix => if ix = 4 then .pointer (some ⟨b9, 0, none⟩) else g ix, by rfl, hR.upd PB.below 4 _ (Below.refl _ _) rfl⟩
    · intro D a w' hn hp hI
      obtain ⟨g, rfl, hR⟩ := hI
      have e4 : g 4 = .pointer (some ⟨b9, 0, none⟩) := hR.e 4 hp.1
      rw [e4]
      have cc := kc hR.b k0
      clear hn hp
      go_wp2_with fail
      exact ⟨fun ix => if ix = 5 then .int .u8 kd else g ix, by simp [e4], hR.upd PB.below 5 _ (Below.refl _ _) rfl⟩
    · intro D a w' hn hp hI
      obtain ⟨g, rfl, hR⟩ := hI
      clear hn hp
      go_wp2_with fail
      exact ⟨fun ix => if ix = 6 then .pointer (some ⟨b9, 1, none⟩) else g ix, by rfl, hR.upd PB.below 6 _ (Below.refl _ _) rfl⟩
    · intro D a w' hn hp hI
      obtain ⟨g, rfl, hR⟩ := hI
      have e6 : g 6 = .pointer (some ⟨b9, 1, none⟩) := hR.e 6 hp.1
      rw [e6]
      have cc := kc hR.b k1
      clear hn hp
      go_wp2_with fail
      exact ⟨fun ix => if ix = 7 then .slice (some ⟨bd, 0, none⟩) ld c9 else g ix, by simp [e6], hR.upd PB.below 7 _ (Below.refl _ _) rfl⟩
    · intro D a w' hn hp hI
      obtain ⟨g, rfl, hR⟩ := hI
      have e7 : g 7 = .slice (some ⟨bd, 0, none⟩) ld c9 := hR.e 7 hp.1
      rw [e7]
      clear hn hp
      go_wp2_with fail
      exact ⟨fun ix => if ix = 8 then .int .i64 (ld : Int) else g ix, by simp [e7], hR.upd PB.below 8 _ (Below.refl _ _) rfl⟩
    · intro D a w' hn hp hI
      obtain ⟨g, rfl, hR⟩ := hI
      have e8 : g 8 = .int .i64 (ld : Int) := hR.e 8 hp.1
      rw [e8]
      clear hn hp
      go_wp2_with fail
      exact ⟨fun ix => if ix = 9 then .int .i64 (2 + (ld : Int)) else g ix, by simp [e8], hR.upd PB.below 9 _ (Below.refl _ _) rfl⟩
    · intro D a w' hn hp hI
      obtain ⟨g, rfl, hR⟩ := hI
      have e9 : g 9 = .int .i64 (2 + (ld : Int)) := hR.e 9 hp.1
      rw [e9]
      clear hn hp
      go_wp2_with fail
      exact ⟨fun ix => if ix = 10 then .int .u8 (2 + (ld : Int)) else g ix, by simp [e9], hR.upd PB.below 10 _ (Below.refl _ _) rfl⟩
    · intro D a w' hn hp hI
      obtain ⟨g, rfl, hR⟩ := hI
      have e5 : g 5 = .int .u8 kd := hR.e 5 hp.1
      rw [e5]
      have e10 : g 10 = .int .u8 (2 + (ld : Int)) := hR.e 10 hp.2.1
      rw [e10]
      clear hn hp
      go_wp2_with fail
      exact ⟨fun ix => if ix = 11 then .slice (some ⟨w'.heap.size, 0, none⟩) 2 2 else g ix, by simp [e5, e10], hR.upd PB.below 11 _ ((Below.refl _ _).alloc (Nat.le_refl _) _) ⟨_, rfl, heap_alloc_last _ _⟩⟩
    · intro D a w' hn hp hI
      obtain ⟨g, rfl, hR⟩ := hI
      have e3 : g 3 = .slice A20 nb nb := hR.e 3 hp.1
      rw [e3]
      obtain ⟨bb, e11, hbb⟩ : ∃ b, g 11 = .slice (some ⟨b, 0, none⟩) 2 2 ∧ w'.heap[b]? = some (.cells #[.int .u8 kd, .int .u8 (2 + (ld : Int))] 5 (0, 0)) := hR.e 11 hp.2.1
      rw [e11]
      have hOL := OLD.out w' hR.b
      have HB2 := Lib.hid hR.b
      obtain ⟨i0, hi, hz0, hz1, hz2⟩ := info_parts info5b
      clear hn hp
      go_wp2_with (at_builtin; refine wpList_append_grows _ rfl _ _ 22 rfl 5 i0 (.int .u8 0) 1 1 Try.underlying22 hi hz0 hz1 hz2 rfl (by decide) A20 nb nb ((flat al).map (Value.int .u8)) rfl HNO.out (by simp [HFL.out]) hOL ⟨bb, 0, none⟩ 2 2 [.int .u8 kd, .int .u8 (2 + (ld : Int))] rfl rfl (World.news_of_block hbb) (by simp [Value.oneCell']) (by omega) (lt_maxLen' (by omega)) (by omega) ?_; intro v5 w5 hr5 hb5; (try dsimp only [Act.put]); (try simp only [List.setIfInBounds_toArray, List.set_cons_succ, List.set_cons_zero]))
      exact ⟨fun ix => if ix = 12 then v5 else g ix, by simp [e3, e11], hR.upd PB.below 12 _ (Below.of_grown0 hb5) (own_base hr5 HB2.out.size)⟩
    · intro D a w' hn hp hI
      obtain ⟨g, rfl, hR⟩ := hI
      clear hn hp
      go_wp2_with fail
      exact ⟨fun ix => if ix = 13 then .pointer (some ⟨b9, 1, none⟩) else g ix, by rfl, hR.upd PB.below 13 _ (Below.refl _ _) rfl⟩
    · intro D a w' hn hp hI
      obtain ⟨g, rfl, hR⟩ := hI
      have e13 : g 13 = .pointer (some ⟨b9, 1, none⟩) := hR.e 13 hp.1
      rw [e13]
      have cc := kc hR.b k1
      clear hn hp
      go_wp2_with fail
      exact ⟨fun ix => if ix = 14 then .slice (some ⟨bd, 0, none⟩) ld c9 else g ix, by simp [e13], hR.upd PB.below 14 _ (Below.refl _ _) rfl⟩
  intro D a w' hD2 hI2
  obtain ⟨g30, rfl, hR⟩ := hI2
  have r2 : w'.ownsRow X.heap.size 5 1 (g30 12) (nb + 2) ((flat al).map (Value.int .u8) ++ [.int .u8 kd, .int .u8 (2 + (ld : Int))]) := hR.e 12 (hD2 12 (by decide))
  have e14 : g30 14 = .slice (some ⟨bd, 0, none⟩) ld c9 := hR.e 14 (hD2 14 (by decide))
  rw [e14]
  have HB2 := Lib.hid hR.b
  have hnews : ∀ j u, (d.map (Value.int .u8))[j]? = some u → w'.cell? ((⟨bd, 0, none⟩ : Addr).add j) = some u := (HD.out.below hR.b).news
  obtain ⟨i0, hi, hz0, hz1, hz2⟩ := info_parts info5b
  simp only [List.drop_succ_cons, List.drop_zero]
  have hone : ∀ u ∈ d.map (Value.int .u8), u.oneCell' = true := by simp [Value.oneCell']
  have HONE := Lib.hid hone
  have HNEW := Lib.hid hnews
  clear hD2 hR e14 hnews hone
  go_wp2_with (at_builtin; refine wpList_append_own _ rfl _ _ 22 rfl X.heap.size 5 i0 (.int .u8 0) 1 1 Try.underlying22 hi hz0 hz1 hz2 rfl (by decide) _ _ _ rfl r2 ⟨bd, 0, none⟩ ld c9 (d.map (Value.int .u8)) rfl (by simp [HLD.out]) HNEW.out HONE.out (lt_maxLen' (by omega)) (by omega) HB2.out.size ?_; intro v8 w8 hown8 hgrow8 hnil8; (try dsimp only [Act.put]); (try simp only [List.setIfInBounds_toArray, List.set_cons_succ, List.set_cons_zero]); obtain ⟨g8, cap8, rfl⟩ := own_some (by omega) hown8; have H8 := Lib.hid hown8; have HG8 := Lib.hid hgrow8; clear hown8 hgrow8 hnil8)
  have hg : w'.grownBy w8 (g30 12).ownBlock := HG8.out
  have hB8 : Below X.heap.size X w8 := HB2.out.grown hg HB2.out.size fun k e => (r2.lt k e).1
  have hrow : w8.ownsRow X.heap.size 5 1 (.slice (some ⟨g8, 0, none⟩) (nb + 2 + ld) cap8) (flat al ++ bytesO (kd, d)).length ((flat al ++ bytesO (kd, d)).map (Value.int .u8)) := by
    have e1 : (flat al ++ bytesO (kd, d)).length = nb + 2 + ld := by
      unfold bytesO
      rw [List.length_append, if_neg hk1, HFL.out]
      simp only [List.length_cons, HLD.out]
      omega
    have e2 : (flat al ++ bytesO (kd, d)).map (Value.int .u8) = ((flat al).map (Value.int .u8) ++ [.int .u8 kd, .int .u8 (2 + (ld : Int))]) ++ d.map (Value.int .u8) := by
      unfold bytesO
      rw [if_neg hk1]
      simp only [List.map_append, List.map_cons, HLD.out]
      rw [Int.add_comm (ld : Int) 2]
      simp
    rw [e1, e2]
    exact H8.out
  obtain ⟨A', c', e10, h10, h11, h12⟩ := By.of_own' hrow (by
    intro x hx
    rcases List.mem_append.1 hx with hx | hx
    · exact HBR.out x hx
    · exact bytesO_rng hk HD.out.rng (by rw [HLD.out]; omega) x hx)
  have e11 : A' = some ⟨g8, 0, none⟩ ∧ c' = cap8 := by injection e10 with e1 _ e2; exact ⟨e1.symm, e2.symm⟩
  obtain ⟨rfl, rfl⟩ := e11
  have hl : nb + 2 + ld ≤ c' := by injection e10 with _ e1; omega
  go_wp2_with fail
  exact HH.out _ _ _ _ _ _ _ _ _ _ _ _ _ _ _ _ _ _ _ h12 hl h11 hB8

end Go.Proofs.Ytjfnnclbfaakkaa

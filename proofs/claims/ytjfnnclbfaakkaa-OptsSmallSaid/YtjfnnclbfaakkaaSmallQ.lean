/-
  A part of OptsSmall's walk: region 45. Conditions: those of the theorem.
-/
import Derived.Test.YtjfnnclbfaakkaaSmallP
namespace Go.Proofs.Ytjfnnclbfaakkaa
open Go.RowKit
set_option linter.unusedVariables false
set_option linter.unusedSimpArgs false

theorem row3_s {W : World} {S : Nat} {e : TypeId} {a b c : Value} (h : W.heap[S]? = some (.cells #[a, b, c] e (0, 0))) : W.ownsRow S e 1 (.slice (some ⟨S, 0, none⟩) 3 3) 3 [a, b, c] :=
  ⟨rfl, .inr ⟨S, 3, _, rfl, Nat.le_refl _, h, Nat.le_refl _, by decide, rfl, rfl⟩⟩
set_option maxRecDepth 100000 in
set_option maxHeartbeats 8000000 in
theorem r45_any (C : Code) (hC : findC (isReg 45) (Try.f12.body.getD .skip) = some C) (Q : Exit → Act → World → Prop) {X : World} {ka kb : Int} {g15 g16 m1 m2 : Nat} {d1 d2 : List Int} {x0 x1 x2 x3 x4 x5 x6 x7 x8 x9 x10 x11 x13 x17 x18 x19 x20 x21 x22 x23 x24 x25 x26 x27 x28 x29 x30 x31 x32 x33 x34 x35 x36 x37 x38 x39 x40 x41 x42 x43 x44 x45 x46 x47 x48 x49 x50 x51 x52 x53 x54 x55 x56 x57 x58 x59 x60 x61 x62 x63 x64 x65 x66 x67 x68 x69 x70 x71 x72 x73 x74 x75 x76 x77 x78 x79 x80 x81 x82 x83 x84 x85 x86 x87 x88 x89 x90 x91 x92 x93 x94 x95 x96 x97 x98 x99 x100 x101 x102 x103 x104 x105 x106 x107 x108 x109 x110 x111 x112 x113 x114 x115 x116 x117 x118 x119 x120 x121 x122 x123 x124 x125 x126 x127 x128 x129 x130 x131 x132 x133 x134 x135 x136 x137 x138 x139 x140 x141 x142 x143 x144 x145 x146 x147 x148 x149 x150 x151 x152 x153 x154 x155 x156 x157 x158 x159 x160 x161 x162 x163 x164 x165 x166 x167 x168 x169 x170 x171 x172 x173 x174 x175 x176 x177 x178 x179 x180 x181 x182 x183 x184 x185 x186 x187 x188 x189 x190 x191 x192 x193 x194 x195 x196 x197 x198 x199 x200 x201 x202 x203 x204 x205 x206 x207 x208 x209 x210 x211 x212 x213 x214 x215 x216 x217 x218 x219 x220 x221 x222 x223 x224 x225 x226 x227 x228 x229 x230 x231 x232 x233 x234 x235 x236 x237 x238 x239 x240 x241 x242 x243 : Value}
    (hka : 0 ≤ ka ∧ ka ≤ 255) (hkb : 0 ≤ kb ∧ kb ≤ 255) (hd1 : By X (some ⟨g15, 0, none⟩) d1) (hn1 : d1.length = m1) (hm1 : m1 ≤ 2) (hd2 : By X (some ⟨g16, 0, none⟩) d2) (hn2 : d2.length = m2) (hm2 : m2 ≤ 2)
    (hh : ∀ (y203 y204 y205 y206 y207 y208 y209 y210 y211 y212 y213 y214 y215 y216 y217 y218 y219 y220 y221 y222 y223 y224 y225 y226 y227 y228 y229 y230 y231 y232 y233 : Value) (w' : World), Below X.heap.size X w' → Q .normal ⟨#[x0, x1, x2, x3, x4, x5, x6, x7, x8, x9, x10, x11, .int .u8 ka, x13, .int .u8 kb, .slice (some ⟨g15, 0, none⟩) m1 m1, .slice (some ⟨g16, 0, none⟩) m2 m2, x17, x18, x19, x20, x21, x22, x23, x24, x25, x26, x27, x28, x29, x30, x31, x32, x33, x34, x35, x36, x37, x38, x39, x40, x41, x42, x43, x44, x45, x46, x47, x48, x49, x50, x51, x52, x53, x54, x55, x56, x57, x58, x59, x60, x61, x62, x63, x64, x65, x66, x67, x68, x69, x70, x71, x72, x73, x74, x75, x76, x77, x78, x79, x80, x81, x82, x83, x84, x85, x86, x87, x88, x89, x90, x91, x92, x93, x94, x95, x96, x97, x98, x99, x100, x101, x102, x103, x104, x105, x106, x107, x108, x109, x110, x111, x112, x113, x114, x115, x116, x117, x118, x119, x120, x121, x122, x123, x124, x125, x126, x127, x128, x129, x130, x131, x132, x133, x134, x135, x136, x137, x138, x139, x140, x141, x142, x143, x144, x145, x146, x147, x148, x149, x150, x151, x152, x153, x154, x155, x156, x157, x158, x159, x160, x161, x162, x163, x164, x165, x166, x167, x168, x169, x170, x171, x172, x173, x174, x175, x176, x177, x178, x179, x180, x181, x182, x183, x184, x185, x186, x187, x188, x189, x190, x191, x192, x193, x194, x195, x196, x197, x198, x199, x200, x201, x202, y203, y204, y205, y206, y207, y208, y209, y210, y211, y212, y213, y214, y215, y216, y217, y218, y219, y220, y221, y222, y223, y224, y225, y226, y227, y228, y229, y230, y231, y232, y233, .bool false, x235, x236, x237, x238, x239, x240, x241, x242, x243], []⟩ w') : C.wp Try.prog Q ⟨#[x0, x1, x2, x3, x4, x5, x6, x7, x8, x9, x10, x11, .int .u8 ka, x13, .int .u8 kb, .slice (some ⟨g15, 0, none⟩) m1 m1, .slice (some ⟨g16, 0, none⟩) m2 m2, x17, x18, x19, x20, x21, x22, x23, x24, x25, x26, x27, x28, x29, x30, x31, x32, x33, x34, x35, x36, x37, x38, x39, x40, x41, x42, x43, x44, x45, x46, x47, x48, x49, x50, x51, x52, x53, x54, x55, x56, x57, x58, x59, x60, x61, x62, x63, x64, x65, x66, x67, x68, x69, x70, x71, x72, x73, x74, x75, x76, x77, x78, x79, x80, x81, x82, x83, x84, x85, x86, x87, x88, x89, x90, x91, x92, x93, x94, x95, x96, x97, x98, x99, x100, x101, x102, x103, x104, x105, x106, x107, x108, x109, x110, x111, x112, x113, x114, x115, x116, x117, x118, x119, x120, x121, x122, x123, x124, x125, x126, x127, x128, x129, x130, x131, x132, x133, x134, x135, x136, x137, x138, x139, x140, x141, x142, x143, x144, x145, x146, x147, x148, x149, x150, x151, x152, x153, x154, x155, x156, x157, x158, x159, x160, x161, x162, x163, x164, x165, x166, x167, x168, x169, x170, x171, x172, x173, x174, x175, x176, x177, x178, x179, x180, x181, x182, x183, x184, x185, x186, x187, x188, x189, x190, x191, x192, x193, x194, x195, x196, x197, x198, x199, x200, x201, x202, x203, x204, x205, x206, x207, x208, x209, x210, x211, x212, x213, x214, x215, x216, x217, x218, x219, x220, x221, x222, x223, x224, x225, x226, x227, x228, x229, x230, x231, x232, x233, x234, x235, x236, x237, x238, x239, x240, x241, x242, x243], []⟩ X := by
  cases hC
  let QQ : Exit → Act → World → Prop := bodyPost Try.prog Try.f12 (fun _ _ => True)
  dsimp only
  have HH := Lib.hid hh
  have HN1 := Lib.hid hn1
  have HN2 := Lib.hid hn2
  have HD10 := Lib.hid hd1
  have HD20 := Lib.hid hd2
  obtain ⟨X1, hX1⟩ : ∃ Y, X.alloc (Obj.cells #[Value.int IntKind.u8 ka, .slice (some ⟨g15, 0, none⟩) m1 m1, Value.int IntKind.u8 1, Value.slice none 0 0, Value.int IntKind.u8 kb, .slice (some ⟨g16, 0, none⟩) m2 m2] 36) = Y := ⟨_, rfl⟩
  have hal := heap_alloc_last X (Obj.cells #[Value.int IntKind.u8 ka, .slice (some ⟨g15, 0, none⟩) m1 m1, Value.int IntKind.u8 1, Value.slice none 0 0, Value.int IntKind.u8 kb, .slice (some ⟨g16, 0, none⟩) m2 m2] 36)
  have hb1 : Below X.heap.size X X1 := by rw [← hX1]; exact (Below.refl _ _).alloc (Nat.le_refl _) _
  rw [hX1] at hal
  have hops := ops_blk (n := 3) (css := [[.int .u8 ka, .slice (some ⟨g15, 0, none⟩) m1 m1], [.int .u8 1, .slice none 0 0], [.int .u8 kb, .slice (some ⟨g16, 0, none⟩) m2 m2]]) (l := [(ka, d1), (1, []), (kb, d2)]) hal rfl (.cons (opv_s hka hn1 (hd1.below hb1) (Nat.le_refl _) (by omega) (fun h => by cases h)) (.cons (opv_nil (by decide)) (.cons (opv_s hkb hn2 (hd2.below hb1) (Nat.le_refl _) (by omega) (fun h => by cases h)) .nil))) rfl (by decide)
  have HX1 := Lib.hid hX1
  have HB1 := Lib.hid hb1
  have HO := Lib.hid hops
  have HD1 := Lib.hid (hd1.below hb1)
  have HD2 := Lib.hid (hd2.below hb1)
  have q1 : ((m1 : Int) + 2) % 256 = (m1 : Int) + 2 := by omega
  have q2 : ((m2 : Int) + 2) % 256 = (m2 : Int) + 2 := by omega
  clear hh hn1 hn2 hX1 hal hb1 hops hd1 hd2
  go_wp2_with fail
  rw [HX1.out]
  refine (writes_s [(ka, d1), (1, []), (kb, d2)] 3 (some ⟨X.heap.size, 0, none⟩) 3 kb _ rfl HO.out).mono ?_
  rintro e X2 ⟨rfl, hb⟩
  have HB2 := Lib.hid (HB1.out.trans (hb.mono HB1.out.size))
  have hy1 := HD1.out.below hb
  have hy2 := HD2.out.below hb
  clear hb
  obtain ⟨X3, hX3⟩ : ∃ Y, X2.alloc (Obj.cells #[Value.int IntKind.u8 ka, Value.int IntKind.u8 (m1 + 2)] 5) = Y := ⟨_, rfl⟩
  have hal := heap_alloc_last X2 (Obj.cells #[Value.int IntKind.u8 ka, Value.int IntKind.u8 (m1 + 2)] 5)
  have hb3 : Below X2.heap.size X2 X3 := by rw [← hX3]; exact (Below.refl _ _).alloc (Nat.le_refl _) _
  obtain ⟨S1, hS1⟩ : ∃ S, X2.heap.size = S := ⟨_, rfl⟩
  rw [hX3, hS1] at hal
  have HROW1 := Lib.hid (row2_w hal)
  have HX3 := Lib.hid hX3
  have HS1 := Lib.hid hS1
  have HB3 := Lib.hid (HB2.out.trans (hb3.mono HB2.out.size))
  have HY13 := Lib.hid (hy1.below hb3)
  have HY23 := Lib.hid (hy2.below hb3)
  have HZ1 : Hid (S1 ≤ X3.heap.size) := by show _ ≤ _; rw [← hS1]; exact hb3.size
  have HZ0 : Hid (X.heap.size ≤ S1) := by show _ ≤ _; rw [← hS1]; exact HB2.out.size
  have HL1 : Hid ((d1.map (Value.int .u8)).length = m1) := by show _ = _; simp [HN1.out]
  have HL2 : Hid ((d2.map (Value.int .u8)).length = m2) := by show _ = _; simp [HN2.out]
  clear hal hX3 hS1 hb3 hy1 hy2
  go_wp2_with (at_builtin; first
    | ((try rw [HX3.out]); (try rw [HS1.out]); refine wpList_append_g rfl _ _ rfl S1 _ 2 [.int .u8 ka, .int .u8 (m1 + 2)] rfl HROW1.out ⟨g15, 0, none⟩ m1 m1 (d1.map (Value.int .u8)) rfl HL1.out HY13.out.news (one_bytes d1) (by omega) HZ1.out ?_; intro v1 w1 hown1 hgrow1; (try dsimp only [Act.put]); (try simp only [List.setIfInBounds_toArray, List.set_cons_succ, List.set_cons_zero]); obtain ⟨g1, cap1, rfl⟩ := ownsRow_succ (show w1.ownsRow S1 5 1 v1 (1 + m1 + 1) _ by rw [show 1 + m1 + 1 = 2 + m1 by omega]; exact hown1); have HR1 := Lib.hid hown1; have HG1 := Lib.hid hgrow1; clear hown1 hgrow1)
    | (have HBw : Below X.heap.size X w1 := HB3.out.grown HG1.out HB3.out.size fun k e => by have := (HROW1.out.lt k e).1; have := HZ0.out; omega
       have hlt1 : g1 < w1.heap.size := (HR1.out.lt g1 rfl).2
       obtain ⟨X5, hX5⟩ : ∃ Y, w1.alloc (Obj.cells #[Value.int IntKind.u8 1, Value.int IntKind.u8 kb, Value.int IntKind.u8 (m2 + 2)] 5) = Y := ⟨_, rfl⟩
       have hal2 := heap_alloc_last w1 (Obj.cells #[Value.int IntKind.u8 1, Value.int IntKind.u8 kb, Value.int IntKind.u8 (m2 + 2)] 5)
       have hb5 : Below w1.heap.size w1 X5 := by rw [← hX5]; exact (Below.refl _ _).alloc (Nat.le_refl _) _
       obtain ⟨S2, hS2⟩ : ∃ S, w1.heap.size = S := ⟨_, rfl⟩
       rw [hX5, hS2] at hal2
       rw [hX5, hS2]
       have hrow2 := row3_s hal2
       have hz2 : S2 ≤ X5.heap.size := by rw [← hS2]; exact hb5.size
       have hz20 : X.heap.size ≤ S2 := by rw [← hS2]; exact HBw.size
       refine wpList_append_g rfl _ _ rfl S2 _ 3 [.int .u8 1, .int .u8 kb, .int .u8 (m2 + 2)] rfl hrow2 ⟨g16, 0, none⟩ m2 m2 (d2.map (Value.int .u8)) rfl HL2.out ((HD20.out.below HBw).below hb5).news (one_bytes d2) (by omega) hz2 ?_
       intro v2 w2 hown2 hgrow2
       (try dsimp only [Act.put])
       (try simp only [List.setIfInBounds_toArray, List.set_cons_succ, List.set_cons_zero])
       obtain ⟨g2, cap2, rfl⟩ := ownsRow_succ (show w2.ownsRow S2 5 1 v2 (2 + m2 + 1) _ by rw [show 2 + m2 + 1 = 3 + m2 by omega]; exact hown2)
       have HR2 : Hid (w2.ownsRow S2 5 1 (.slice (some ⟨g2, 0, none⟩) (2 + m2 + 1) cap2) (3 + m2) ((1 :: kb :: ((m2 : Int) + 2) :: d2).map (Value.int .u8))) := hown2
       have HR12 := Lib.hid (own_of_block (own_below HR1.out hb5) fun b _ e hlt => hgrow2.block b hlt fun e2 => by
         have h3 := (Option.some.inj e : g1 = b)
         have h4 := (Option.some.inj e2 : b = S2)
         omega)
       have HBw2 := Lib.hid ((HBw.trans (hb5.mono HBw.size)).grown hgrow2 (Nat.le_trans hz20 hz2) fun k e => by have := (hrow2.lt k e).1; omega)
       have HZ12 : Hid (S1 ≤ w2.heap.size) := by have h3 := (HR12.out.lt g1 rfl); show S1 ≤ _; omega
       clear hal2 hX5 hS2 hrow2 hz2 hz20 hb5 hown2 hgrow2 HBw hlt1)
    | (have hl2 : ((1 :: kb :: ((m2 : Int) + 2) :: d2).map (Value.int .u8)).length = 2 + m2 + 1 := by simp [HN2.out]; omega
       have hr12 := HR12.out
       refine wpList_append_g rfl _ _ rfl S1 _ (2 + m1) _ rfl hr12 ⟨g2, 0, none⟩ (2 + m2 + 1) cap2 ((1 :: kb :: ((m2 : Int) + 2) :: d2).map (Value.int .u8)) rfl hl2 (HR2.out.cells rfl) (one_bytes _) (by omega) HZ12.out ?_
       intro v3 w3 hown3 hgrow3
       (try dsimp only [Act.put])
       (try simp only [List.setIfInBounds_toArray, List.set_cons_succ, List.set_cons_zero])
       have HO3 := Lib.hid hown3
       have HBw3 := Lib.hid (HBw2.out.grown hgrow3 HBw2.out.size fun k e => by have := (hr12.lt k e).1; have := HZ0.out; omega)
       clear hown3 hgrow3 hl2 hr12))
  refine (reads_own (ka :: ((m1 : Int) + 2) :: (d1 ++ 1 :: kb :: ((m2 : Int) + 2) :: d2)) HO3.out (by simp) (by simp [HN1.out, HN2.out]; omega) (fun x hx => ?_)).mono ?_
  · simp at hx
    rcases hx with rfl | rfl | hx | rfl | rfl | rfl | hx
    · exact hka
    · omega
    · exact HD10.out.rng x hx
    · decide
    · exact hkb
    · omega
    · exact HD20.out.rng x hx
  rintro e Z ⟨rfl, hb⟩
  have HBZ := Lib.hid (HBw3.out.trans (hb.mono HBw3.out.size))
  clear hb
  go_wp2_with fail
  exact HH.out _ _ _ _ _ _ _ _ _ _ _ _ _ _ _ _ _ _ _ _ _ _ _ _ _ _ _ _ _ _ _ _ HBZ.out

end Go.Proofs.Ytjfnnclbfaakkaa

/-
  Region 20 of OptsWrong. Conditions: those of the theorems.
-/
import Derived.Test.YtjfnnclbfaakkaaWrongS
import Derived.Test.YtjfnnclbfaakkaaInv
import Derived.Deep.DeepCutAuto
namespace Go.Proofs.Ytjfnnclbfaakkaa
open Go.RowKit
set_option linter.unusedVariables false
set_option linter.unusedSimpArgs false

/-- What is appended to an empty literal. -/
theorem wpList_append0 {w : World} {ops : Array Oper} {rest : List Oper} {o : Oper} {a : Act} {Q : Exit → Act → World → Prop} (hg : o.guard = none) (s x : Operand) (hop : o.op = Op.call { callee := Callee.builtin Builtin.append, args := #[s, x], argTypes := #[26, 26] })
    (base b0 : Nat) (hb : base ≤ b0) (h0 : w.heap[b0]? = some (.cells #[] 36 (0, 0))) (A : Option Addr) (n c : Nat) (css : List (List Value)) (hs : a.eval s = .slice (some ⟨b0, 0, none⟩) 0 0) (hx : a.eval x = .slice A n c) (hA : A = none → n = 0 ∧ c = 0) (hrd : Rd w A 2 css) (hn : css.length = n) (h1 : ∀ u ∈ css.flatten, u.oneCell' = true) (hle : n ≤ 2 ^ 20)
    (hK : ∀ v' w', w'.ownsRow base 36 2 v' n css.flatten → Below w.heap.size w w' → wpList Try.prog ops Q rest (a.put o.dst v') w') : wpList Try.prog ops Q (o :: rest) a w := by
  obtain ⟨i0, hi, hz0, hz1, hz2⟩ := info_parts info36
  have hlt := blk_lt h0
  have hfl : css.flatten.length = n * 2 := by rw [flatten_length hrd.each, hn]
  by_cases hn0 : n = 0
  · subst hn0
    have hcs : css = [] := List.eq_nil_of_length_eq_zero hn
    subst hcs
    have hrow : w.ownsRow base 36 2 (.slice (some ⟨b0, 0, none⟩) 0 0) 0 [] := ⟨by simp, .inr ⟨b0, 0, #[], rfl, hb, h0, Nat.le_refl _, Nat.zero_le _, rfl, rfl⟩⟩
    refine wpList_append_fits_any w hg s x 26 hop base 36 i0 2 Try.underlying26 hi hz1 b0 0 0 [] hs hrow A 0 c [] hx rfl hA (fun ad _ j u hj => by simp at hj) (by simp) (Nat.le_refl _) fun w' hr hgr => ?_
    refine hK _ _ hr ?_
    refine ⟨hgr.os, hgr.tape, hgr.output, hgr.size, fun k hk => ?_⟩
    by_cases hkb : k = b0
    · subst hkb
      obtain ⟨_, (⟨e, _⟩ | ⟨g, cap, cur, e, _, h2, _, _, h5, _⟩)⟩ := hr
      · cases e
      · cases e
        have : cur = #[] := by
          apply Array.eq_empty_of_size_eq_zero
          rw [h5]
        rw [h2, h0, this]
    · exact hgr.block k hk (by simpa using hkb)
  · obtain ⟨ad, rfl⟩ : ∃ ad, A = some ad := by
      cases A with
      | none => exact absurd (hA rfl).1 hn0
      | some ad => exact ⟨ad, rfl⟩
    obtain ⟨b, o', e, _, _⟩ := hrd.mem (by rintro rfl; exact hn0 hn.symm)
    cases e
    refine wpList_append_grows w hg s x 26 hop 36 i0 (.agg #[.int .u8 0, .slice none 0 0]) 2 32 Try.underlying26 hi hz0 hz1 hz2 rfl (by decide) (some ⟨b0, 0, none⟩) 0 0 [] hs (fun h => by cases h) rfl (fun b _ j u hj => by simp at hj) ⟨b, o', none⟩ n c css.flatten hx hfl (hrd.news (by decide)) h1 (by omega) (lt_maxLen' (by omega)) (by omega) fun v' w' hr hgr => ?_
    rw [Nat.zero_add, List.nil_append] at hr
    exact hK _ _ (own_base hr (by omega)) (Below.of_grown0 hgr)
theorem opvs_one {w : World} {css : List (List Value)} {l : List Op1} (h : OpVs w css l) : ∀ u ∈ css.flatten, u.oneCell' = true := by
  induction h with
  | nil => simp
  | cons h1 _ ih =>
    intro u hu
    rw [List.flatten_cons, List.mem_append] at hu
    rcases hu with hu | hu
    · obtain ⟨A, c, rfl, _⟩ := h1.mem
      simp at hu
      rcases hu with rfl | rfl <;> rfl
    · exact ih u hu
theorem write_m (l : List Op1) (m : Nat) (A : Option Addr) (c : Nat) (w : World) (hm : l.length = m) (hl : Ops w A l) (hn : m ≤ 2 ^ 40) (hlb : ∀ o ∈ l, o.2.length ≤ 2 ^ 40) {e : Int} {bs : List Int} (hw : writeS l = (e, bs)) :
    Calls Try.prog 16 #[.slice A m c] w fun r w' => ∃ A' c', r = .returned (.tuple #[.slice A' bs.length c', .int .i64 e]) ∧ w'.ownsRow w.heap.size 5 1 (.slice A' bs.length c') bs.length (bs.map (Value.int .u8)) ∧ Below w.heap.size w w' := by
  subst hm
  refine (write_any l A c w hl hn hlb).mono ?_
  rintro r w' ⟨v, rfl, hrow, hb⟩
  rw [hw] at hrow ⊢
  obtain ⟨A', c', rfl⟩ := own_form hrow
  exact ⟨A', c', rfl, hrow, hb⟩
theorem app_ops {W : World} {base g n c : Nat} {al : List Op1} {css : List (List Value)} {o : Op1} {cs : List Value} (hn : al.length = n) (h : W.ownsRow base 36 2 (.slice (some ⟨g, 0, none⟩) (n + 1) c) (n + 1) (css.flatten ++ cs)) (ho : OpVs W css al) (h1 : OpV W cs o) : Ops W (some ⟨g, 0, none⟩) (al ++ [o]) := by
  obtain ⟨A10, c10, e10, _, _, hops⟩ := Ops.of_own (n := n + 1) (l := al ++ [o]) (css := css ++ [cs]) (by rw [List.flatten_append]; simpa using h) (ho.push h1) (by rw [List.length_append, hn]; rfl)
  injection e10 with e1
  rw [e1]
  exact hops
/-- What the done operations of a region have left, of which operation c turns an elder block: behind it the values of those before it are forgotten. -/
structure Ic (c : Nat) (L : List Nat) (w1 : World) (P : Nat → Value → World → Prop) (D : Nat → Prop) (g : Nat → Value) (w' : World) : Prop where
  b : Below w1.heap.size w1 w'
  e : ∀ i, D i → (D c → c ≤ i) → P i (g i) w'
  o : ∀ i, D i → c < i → D c
  l : D c → ∀ i ∈ L, D i
theorem Ic.zero (c : Nat) (L : List Nat) (w1 : World) (P : Nat → Value → World → Prop) (g : Nat → Value) : Ic c L w1 P (fun _ => False) g w1.drew := ⟨(Below.refl _ _).drew, fun _ h => h.elim, fun _ h => h.elim, fun h => h.elim⟩
theorem Ic.upd {c : Nat} {L : List Nat} {w1 w' w'' : World} {P : Nat → Value → World → Prop} {g : Nat → Value} {D : Nat → Prop} (hP : ∀ i v X Y, P i v X → Below X.heap.size X Y → P i v Y) (h : Ic c L w1 P D g w') (i : Nat) (hic : i ≠ c) (hc : c < i → D c) (x : Value) (hb : Below w'.heap.size w' w'') (hx : P i x w'') : Ic c L w1 P (fun j => D j ∨ j = i) (fun j => if j = i then x else g j) w'' := by
  have hcc : (D c ∨ c = i) → D c := fun h => h.resolve_right fun e => hic e.symm
  refine ⟨bthen h.b hb, fun j hj hjc => ?_, fun j hj hlt => ?_, fun hd j hj => .inl (h.l (hcc hd) j hj)⟩
  · show P j (if j = i then x else g j) w''
    by_cases hji : j = i
    · rw [if_pos hji, hji]
      exact hx
    · rw [if_neg hji]
      exact hP _ _ _ _ (h.e j (hj.resolve_right hji) fun hd => hjc (.inl hd)) hb
  · rcases hj with hj | rfl
    · exact .inl (h.o j hj hlt)
    · exact .inl (hc hlt)
theorem Ic.turn {c : Nat} {L : List Nat} {w1 w' w'' : World} {P : Nat → Value → World → Prop} {g : Nat → Value} {D : Nat → Prop} (h : Ic c L w1 P D g w') (hn : ¬ D c) (hL : ∀ i ∈ L, D i) (x : Value) (hb : Below w1.heap.size w1 w'') (hx : P c x w'') : Ic c L w1 P (fun j => D j ∨ j = c) (fun j => if j = c then x else g j) w'' := by
  refine ⟨hb, fun j hj hjc => ?_, fun j hj hlt => .inr rfl, fun _ j hj => .inl (hL j hj)⟩
  show P j (if j = c then x else g j) w''
  by_cases hji : j = c
  · rw [if_pos hji, hji]
    exact hx
  · rcases hj with hj | hj
    · have h1 := hjc (.inr rfl)
      exact absurd (h.o j hj (by omega)) hn
    · exact absurd hj hji
/-- What region 20 leaves. -/
def PA (base n7 : Nat) (css : List (List Value)) (kd : Int) (v9 : Value) (l : List Op1) (vals : List Value) : Nat → Value → World → Prop
  | 0, v, W => ∃ b, v = .slice (some ⟨b, 0, none⟩) 0 0 ∧ base ≤ b ∧ W.heap[b]? = some (.cells #[] 36 (0, 0))
  | 2, v, W => W.ownsRow base 36 2 v n7 css.flatten
  | 4, v, W => ∃ b, v = .slice (some ⟨b, 0, none⟩) 1 1 ∧ W.heap[b]? = some (.cells #[.int .u8 kd, v9] 36 (0, 0))
  | 5, v, W => ∃ b c, v = .slice (some ⟨b, 0, none⟩) (n7 + 1) c ∧ Ops W (some ⟨b, 0, none⟩) l
  | 6, v, _ => ∃ A c, v = .tuple #[.slice A 0 c, .int .i64 2]
  | 7, v, _ => ∃ A c, v = .tuple #[.slice A 0 c, .int .i64 2]
  | 8, v, _ => ∃ A c, v = .slice A 0 c
  | 10, v, _ => ∃ A c, v = .slice A 0 c
  | i, v, _ => v = vals.getD i undef
theorem PA.below {base n7 : Nat} {css : List (List Value)} {kd : Int} {v9 : Value} {l : List Op1} {vals : List Value} (i : Nat) (v : Value) (X Y : World) (h : PA base n7 css kd v9 l vals i v X) (hb : Below X.heap.size X Y) : PA base n7 css kd v9 l vals i v Y := by
  by_cases h0 : i = 0
  · subst h0
    obtain ⟨b, e, h1, h⟩ := h
    exact ⟨b, e, h1, blk_below hb h⟩
  · by_cases h2 : i = 2
    · subst h2
      exact own_below h hb
    · by_cases h4 : i = 4
      · subst h4
        obtain ⟨b, e, h⟩ := h
        exact ⟨b, e, blk_below hb h⟩
      · by_cases h5 : i = 5
        · subst h5
          obtain ⟨b, c, e, h⟩ := h
          exact ⟨b, c, e, h.below hb⟩
        · unfold PA at h ⊢
          split at h <;> first | contradiction | exact h
set_option maxRecDepth 100000 in
set_option maxHeartbeats 8000000 in
theorem reg20_any (C : Code) (hC : findC (isReg 20) (Try.f9.body.getD .skip) = some C) (Q : Exit → Act → World → Prop) {X : World} {b9 : Nat} {kd : Int} {d : List Int} {A9 : Option Addr} {c9 : Nat} {al : List Op1} {A7 : Option Addr} {n7 c7 : Nat} {x0 x1 x2 x3 x4 x5 x6 x8 x10 x11 x12 x13 x14 x15 x16 x17 x18 x19 x20 x21 x22 x23 x24 x25 x26 x27 x28 x29 x30 x31 x32 x33 x34 x35 x36 x37 x38 x39 x40 x41 x42 x43 x44 x45 x46 x47 x48 x49 x50 x51 x52 x53 x54 x55 x56 x57 x58 x59 x60 x61 x62 x63 x64 x65 x66 x67 x68 x69 x70 x71 x72 x73 x74 x75 x76 x77 x78 x79 x80 x81 x82 x83 x84 x85 x86 x87 x88 x89 x90 x91 x92 x93 x94 x95 x96 x97 x98 x99 x100 x101 x102 x103 x104 x105 x106 x107 x108 x109 x110 x111 x112 x113 x114 x115 x116 x117 x118 x119 x120 x121 x122 x123 x124 x125 x126 x127 x128 x129 x130 x131 x132 x133 x134 x135 x136 x137 x138 x139 x140 x141 x142 x143 x144 x145 x146 x147 x148 x149 x150 x151 x152 x153 x154 x155 x156 x157 x158 x159 x160 x161 x162 x163 x164 x165 x166 x167 x168 x169 x170 x171 x172 x173 x174 x175 x176 x177 x178 x179 x180 x181 x182 x183 x184 x185 x186 x187 x188 x189 x190 x191 x192 x193 x194 x195 x196 x197 x198 x199 x200 x201 x202 x203 x204 x205 x206 x207 x208 x209 x210 x211 x212 x213 x214 x215 x216 x217 x218 x219 x220 x221 x222 x223 x224 x225 x226 x227 x228 x229 x230 : Value}
    (h9 : X.heap[b9]? = some (.cells #[.int .u8 kd, .slice A9 d.length c9] 36 (0, 0))) (hd : By X A9 d) (hcap : d.length ≤ c9) (hmax : c9 ≤ maxLen) (hnil : A9 = none → c9 = 0) (hk : 0 ≤ kd ∧ kd ≤ 255) (h300 : d.length ≤ 300) (hw : rightS (kd, d) = false)
    (hO : Ops X A7 al) (hn7 : al.length = n7) (h2 : n7 ≤ 100) (hA7 : A7 = none → n7 = 0 ∧ c7 = 0) (h38 : ∀ o ∈ al, o.2.length ≤ 2 ^ 40)
    (hh : ∀ (y102 y103 y104 y105 y106 y107 y108 y109 y110 y111 : Value) (A12 : Option Addr) (c12 : Nat) (w' : World), Below X.heap.size X w' → Q .normal ⟨#[x0, x1, x2, x3, x4, x5, x6, .slice A7 n7 c7, x8, .pointer (some ⟨b9, 0, none⟩), x10, x11, .slice A12 0 c12, .int .i64 2, x14, x15, x16, x17, x18, x19, x20, x21, x22, x23, x24, x25, x26, x27, x28, x29, x30, x31, x32, x33, x34, x35, x36, x37, x38, x39, x40, x41, x42, x43, x44, x45, x46, x47, x48, x49, x50, x51, x52, x53, x54, x55, x56, x57, x58, x59, x60, x61, x62, x63, x64, x65, x66, x67, x68, x69, x70, x71, x72, x73, x74, x75, x76, x77, x78, x79, x80, x81, x82, x83, x84, x85, x86, x87, x88, x89, x90, x91, x92, x93, x94, x95, x96, x97, x98, x99, x100, x101, y102, y103, y104, y105, y106, y107, y108, y109, y110, y111, x112, x113, x114, x115, x116, x117, x118, x119, x120, x121, x122, x123, x124, x125, x126, x127, x128, x129, x130, x131, x132, x133, x134, x135, x136, x137, x138, x139, x140, x141, x142, x143, x144, x145, x146, x147, x148, x149, x150, x151, x152, x153, x154, x155, x156, x157, x158, x159, x160, x161, x162, x163, x164, x165, x166, x167, x168, x169, x170, x171, x172, x173, x174, x175, x176, x177, x178, x179, x180, x181, x182, x183, x184, x185, x186, x187, x188, x189, x190, x191, x192, x193, x194, x195, x196, x197, x198, x199, x200, x201, x202, x203, x204, x205, x206, x207, x208, x209, x210, x211, x212, x213, x214, x215, x216, x217, x218, x219, x220, x221, x222, x223, x224, x225, x226, x227, x228, x229, x230], []⟩ w') : C.wp Try.prog Q ⟨#[x0, x1, x2, x3, x4, x5, x6, .slice A7 n7 c7, x8, .pointer (some ⟨b9, 0, none⟩), x10, x11, x12, x13, x14, x15, x16, x17, x18, x19, x20, x21, x22, x23, x24, x25, x26, x27, x28, x29, x30, x31, x32, x33, x34, x35, x36, x37, x38, x39, x40, x41, x42, x43, x44, x45, x46, x47, x48, x49, x50, x51, x52, x53, x54, x55, x56, x57, x58, x59, x60, x61, x62, x63, x64, x65, x66, x67, x68, x69, x70, x71, x72, x73, x74, x75, x76, x77, x78, x79, x80, x81, x82, x83, x84, x85, x86, x87, x88, x89, x90, x91, x92, x93, x94, x95, x96, x97, x98, x99, x100, x101, x102, x103, x104, x105, x106, x107, x108, x109, x110, x111, x112, x113, x114, x115, x116, x117, x118, x119, x120, x121, x122, x123, x124, x125, x126, x127, x128, x129, x130, x131, x132, x133, x134, x135, x136, x137, x138, x139, x140, x141, x142, x143, x144, x145, x146, x147, x148, x149, x150, x151, x152, x153, x154, x155, x156, x157, x158, x159, x160, x161, x162, x163, x164, x165, x166, x167, x168, x169, x170, x171, x172, x173, x174, x175, x176, x177, x178, x179, x180, x181, x182, x183, x184, x185, x186, x187, x188, x189, x190, x191, x192, x193, x194, x195, x196, x197, x198, x199, x200, x201, x202, x203, x204, x205, x206, x207, x208, x209, x210, x211, x212, x213, x214, x215, x216, x217, x218, x219, x220, x221, x222, x223, x224, x225, x226, x227, x228, x229, x230], []⟩ X := by
  cases hC
  let QQ : Exit → Act → World → Prop := bodyPost Try.prog Try.f9 (fun _ _ => True)
  dsimp only
  obtain ⟨css, hrd, hov⟩ := hO.mem
  have HRD := Lib.hid hrd
  have HOV := Lib.hid hov
  have HCL := Lib.hid (hov.length.trans hn7)
  have HONE := Lib.hid (opvs_one hov)
  have HA7 := Lib.hid hA7
  have HN7 := Lib.hid hn7
  have H38 := Lib.hid h38
  have HW := Lib.hid (write_wrong (l := al) hw)
  have HOV9 := Lib.hid (OpV.mk (o := (kd, d)) hk ⟨A9, c9, rfl, hcap, hmax, hd, hnil⟩)
  have HH := Lib.hid hh
  have HL8 : Hid (∀ o ∈ al ++ [(kd, d)], o.2.length ≤ 2 ^ 40) := fun o ho => by
    rcases List.mem_append.1 ho with ho | ho
    · exact h38 o ho
    · rw [List.mem_singleton] at ho
      subst ho
      show d.length ≤ _
      omega
  have k0 := blk_cell h9 0
  have k1 := blk_cell h9 1
  simp at k0 k1
  have hl9 := blk_lt h9
  clear hO hrd hov hA7 hn7 h38 hw hd hcap hmax hnil hh h9
  refine wp_region_steps 11 [[], [], [0, 1], [], [3], [2, 4], [5], [6], [7], [7], [8]] (fun D a w' => ∃ g : Nat → Value, a = ⟨#[x0, x1, x2, x3, x4, x5, x6, .slice A7 n7 c7, x8, .pointer (some ⟨b9, 0, none⟩), x10, x11, g 10, x13, x14, x15, x16, x17, x18, x19, x20, x21, x22, x23, x24, x25, x26, x27, x28, x29, x30, x31, x32, x33, x34, x35, x36, x37, x38, x39, x40, x41, x42, x43, x44, x45, x46, x47, x48, x49, x50, x51, x52, x53, x54, x55, x56, x57, x58, x59, x60, x61, x62, x63, x64, x65, x66, x67, x68, x69, x70, x71, x72, x73, x74, x75, x76, x77, x78, x79, x80, x81, x82, x83, x84, x85, x86, x87, x88, x89, x90, x91, x92, x93, x94, x95, x96, x97, x98, x99, x100, x101, g 7, g 0, g 1, g 2, g 3, g 4, g 5, g 6, g 8, g 9, x112, x113, x114, x115, x116, x117, x118, x119, x120, x121, x122, x123, x124, x125, x126, x127, x128, x129, x130, x131, x132, x133, x134, x135, x136, x137, x138, x139, x140, x141, x142, x143, x144, x145, x146, x147, x148, x149, x150, x151, x152, x153, x154, x155, x156, x157, x158, x159, x160, x161, x162, x163, x164, x165, x166, x167, x168, x169, x170, x171, x172, x173, x174, x175, x176, x177, x178, x179, x180, x181, x182, x183, x184, x185, x186, x187, x188, x189, x190, x191, x192, x193, x194, x195, x196, x197, x198, x199, x200, x201, x202, x203, x204, x205, x206, x207, x208, x209, x210, x211, x212, x213, x214, x215, x216, x217, x218, x219, x220, x221, x222, x223, x224, x225, x226, x227, x228, x229, x230], []⟩ ∧ Ic 5 [2, 4] X (PA X.heap.size n7 css kd (.slice A9 d.length c9) (al ++ [(kd, d)]) ([undef, .slice A7 n7 c7, undef, .agg #[.int .u8 kd, .slice A9 d.length c9], undef, undef, undef, undef, undef, .int .i64 2, undef] : List Value)) D g w') (by kernel_rfl) (by kernel_rfl) ⟨fun i => if i = 0 then x103 else if i = 1 then x104 else if i = 2 then x105 else if i = 3 then x106 else if i = 4 then x107 else if i = 5 then x108 else if i = 6 then x109 else if i = 7 then x102 else if i = 8 then x110 else if i = 9 then x111 else if i = 10 then x12 else undef, rfl, Ic.zero _ _ _ _ _⟩ ?_ ?_
  · simp only [List.take_succ_cons, List.take_zero]
    refine ⟨?_, ?_, ?_, ?_, ?_, ?_, ?_, ?_, ?_, ?_, ?_, trivial⟩
    · intro D a w' hn hp hI
      obtain ⟨g, rfl, hR⟩ := hI
      clear hp
      go_wp2_with fail
      exact ⟨fun ix => if ix = 0 then .slice (some ⟨w'.heap.size, 0, none⟩) 0 0 else g ix, by rfl, hR.upd PA.below 0 (by decide) (fun h => absurd h (by decide)) _ ((Below.refl _ _).alloc (Nat.le_refl _) _) ⟨_, rfl, hR.b.size, heap_alloc_last _ _⟩⟩
    · intro D a w' hn hp hI
      obtain ⟨g, rfl, hR⟩ := hI
      clear hp
      go_wp2_with fail
      exact ⟨fun ix => if ix = 1 then .slice A7 n7 c7 else g ix, by rfl, hR.upd PA.below 1 (by decide) (fun h => absurd h (by decide)) _ (Below.refl _ _) rfl⟩
    · intro D a w' hn hp hI
      obtain ⟨g, rfl, hR⟩ := hI
      have HNC : ¬ D 5 := fun h => hn (hR.l h 2 (by decide))
      obtain ⟨b0, e0, hb0, hc0⟩ : ∃ b, g 0 = .slice (some ⟨b, 0, none⟩) 0 0 ∧ X.heap.size ≤ b ∧ w'.heap[b]? = some (.cells #[] 36 (0, 0)) := hR.e 0 hp.1 (fun h => absurd h HNC)
      rw [e0]
      have e1 : g 1 = .slice A7 n7 c7 := hR.e 1 hp.2.1 (fun h => absurd h HNC)
      rw [e1]
      have hRD := HRD.out.below hR.b
      clear hp
      go_wp2_with (at_builtin; refine wpList_append0 rfl _ _ rfl X.heap.size b0 hb0 hc0 A7 n7 c7 css rfl rfl HA7.out hRD HCL.out HONE.out (by omega) ?_; intro v5 w5 hr5 hb5; (try dsimp only [Act.put]); (try simp only [List.setIfInBounds_toArray, List.set_cons_succ, List.set_cons_zero]))
      exact ⟨fun ix => if ix = 2 then v5 else g ix, by simp [e0, e1], hR.upd PA.below 2 (by decide) (fun h => absurd h (by decide)) _ hb5 hr5⟩
    · intro D a w' hn hp hI
      obtain ⟨g, rfl, hR⟩ := hI
      have cc0 := kc hR.b k0
      have cc1 := kc hR.b k1
      clear hp
      go_wp2_with fail
      exact ⟨fun ix => if ix = 3 then .agg #[.int .u8 kd, .slice A9 d.length c9] else g ix, by rfl, hR.upd PA.below 3 (by decide) (fun h => absurd h (by decide)) _ (Below.refl _ _) rfl⟩
    · intro D a w' hn hp hI
      obtain ⟨g, rfl, hR⟩ := hI
      have HNC : ¬ D 5 := fun h => hn (hR.l h 4 (by decide))
      have e3 : g 3 = .agg #[.int .u8 kd, .slice A9 d.length c9] := hR.e 3 hp.1 (fun h => absurd h HNC)
      rw [e3]
      clear hp
      go_wp2_with fail
      exact ⟨fun ix => if ix = 4 then .slice (some ⟨w'.heap.size, 0, none⟩) 1 1 else g ix, by simp [e3], hR.upd PA.below 4 (by decide) (fun h => absurd h (by decide)) _ ((Below.refl _ _).alloc (Nat.le_refl _) _) ⟨_, rfl, heap_alloc_last _ _⟩⟩
    · intro D a w' hn hp hI
      obtain ⟨g, rfl, hR⟩ := hI
      have HNC : ¬ D 5 := hn
      have r2 : w'.ownsRow X.heap.size 36 2 (g 2) n7 css.flatten := hR.e 2 hp.1 (fun h => absurd h HNC)
      obtain ⟨b4, e4, hc4⟩ : ∃ b, g 4 = .slice (some ⟨b, 0, none⟩) 1 1 ∧ w'.heap[b]? = some (.cells #[.int .u8 kd, .slice A9 d.length c9] 36 (0, 0)) := hR.e 4 hp.2.1 (fun h => absurd h HNC)
      rw [e4]
      have HLC : ∀ i ∈ [2, 4], D i := fun i hi => by simp at hi; rcases hi with rfl | rfl; exact hp.1; exact hp.2.1
      have HB2 := Lib.hid hR.b
      obtain ⟨i0, hi, hz0, hz1, hz2⟩ := info_parts info36
      clear hp
      go_wp2_with (at_builtin; refine wpList_append_own _ rfl _ _ 26 rfl X.heap.size 36 i0 (.agg #[.int .u8 0, .slice none 0 0]) 2 32 Try.underlying26 hi hz0 hz1 hz2 rfl (by decide) _ _ _ rfl r2 ⟨b4, 0, none⟩ 1 1 [.int .u8 kd, .slice A9 d.length c9] rfl rfl (World.news_of_block hc4) (by simp [Value.oneCell']) (lt_maxLen' (by omega)) (by omega) HB2.out.size ?_; intro v8 w8 hown8 hgrow8 hnil8; (try dsimp only [Act.put]); (try simp only [List.setIfInBounds_toArray, List.set_cons_succ, List.set_cons_zero]); obtain ⟨g8, cap8, rfl⟩ := ownsRow_succ hown8; have H8 := Lib.hid hown8; have HG8 := Lib.hid hgrow8; clear hown8 hgrow8 hnil8)
      have hg : w'.grownBy w8 (g 2).ownBlock := HG8.out
      have hB8 : Below X.heap.size X w8 := HB2.out.grown hg HB2.out.size fun k e => (r2.lt k e).1
      have hops := app_ops HN7.out H8.out (HOV.out.bel hB8) (HOV9.out.below hB8)
      exact ⟨fun ix => if ix = 5 then .slice (some ⟨g8, 0, none⟩) (n7 + 1) cap8 else g ix, by simp [e4], hR.turn HNC HLC _ hB8 ⟨_, _, rfl, hops⟩⟩
    · intro D a w' hn hp hI
      obtain ⟨g, rfl, hR⟩ := hI
      have HDC : D 5 := hp.1
      obtain ⟨b5, c5, e5, hops⟩ : ∃ b c, g 5 = .slice (some ⟨b, 0, none⟩) (n7 + 1) c ∧ Ops w' (some ⟨b, 0, none⟩) (al ++ [(kd, d)]) := hR.e 5 hp.1 (fun _ => by decide)
      rw [e5]
      have HB2 := Lib.hid hR.b
      clear hp
      go_wp2_with fail
      refine (write_m (al ++ [(kd, d)]) (n7 + 1) (some ⟨b5, 0, none⟩) c5 w' (by rw [List.length_append, HN7.out]; rfl) hops (by omega) HL8.out HW.out).mono ?_
      rintro e Y ⟨A12, c12, rfl, _, hby⟩
      clear hops
      go_wp2_with fail
      exact ⟨fun ix => if ix = 6 then .tuple #[.slice A12 0 c12, .int .i64 2] else g ix, by simp [e5], hR.upd PA.below 6 (by decide) (fun _ => HDC) _ hby ⟨_, _, rfl⟩⟩
    · intro D a w' hn hp hI
      obtain ⟨g, rfl, hR⟩ := hI
      have HDC : D 5 := hR.o 6 hp.1 (by decide)
      obtain ⟨A12, c12, e6⟩ : ∃ A c, g 6 = .tuple #[.slice A 0 c, .int .i64 2] := hR.e 6 hp.1 (fun _ => by decide)
      rw [e6]
      clear hp
      go_wp2_with fail
      exact ⟨fun ix => if ix = 7 then .tuple #[.slice A12 0 c12, .int .i64 2] else g ix, by simp [e6], hR.upd PA.below 7 (by decide) (fun _ => HDC) _ (Below.refl _ _) ⟨_, _, rfl⟩⟩
    · intro D a w' hn hp hI
      obtain ⟨g, rfl, hR⟩ := hI
      have HDC : D 5 := hR.o 7 hp.1 (by decide)
      obtain ⟨A12, c12, e7⟩ : ∃ A c, g 7 = .tuple #[.slice A 0 c, .int .i64 2] := hR.e 7 hp.1 (fun _ => by decide)
      rw [e7]
      clear hp
      go_wp2_with fail
      exact ⟨fun ix => if ix = 8 then .slice A12 0 c12 else g ix, by simp [e7], hR.upd PA.below 8 (by decide) (fun _ => HDC) _ (Below.refl _ _) ⟨_, _, rfl⟩⟩
    · intro D a w' hn hp hI
      obtain ⟨g, rfl, hR⟩ := hI
      have HDC : D 5 := hR.o 7 hp.1 (by decide)
      obtain ⟨A12, c12, e7⟩ : ∃ A c, g 7 = .tuple #[.slice A 0 c, .int .i64 2] := hR.e 7 hp.1 (fun _ => by decide)
      rw [e7]
      clear hp
      go_wp2_with fail
      exact ⟨fun ix => if ix = 9 then .int .i64 2 else g ix, by simp [e7], hR.upd PA.below 9 (by decide) (fun _ => HDC) _ (Below.refl _ _) rfl⟩
    · intro D a w' hn hp hI
      obtain ⟨g, rfl, hR⟩ := hI
      have HDC : D 5 := hR.o 8 hp.1 (by decide)
      obtain ⟨A12, c12, e8⟩ : ∃ A c, g 8 = .slice A 0 c := hR.e 8 hp.1 (fun _ => by decide)
      rw [e8]
      clear hp
      go_wp2_with fail
      exact ⟨fun ix => if ix = 10 then .slice A12 0 c12 else g ix, by simp [e8], hR.upd PA.below 10 (by decide) (fun _ => HDC) _ (Below.refl _ _) ⟨_, _, rfl⟩⟩
  intro D a w' hD2 hI2
  obtain ⟨g20, rfl, hR⟩ := hI2
  have e9 : g20 9 = .int .i64 2 := hR.e 9 (hD2 9 (by decide)) (fun _ => by decide)
  obtain ⟨A12, c12, e10⟩ : ∃ A c, g20 10 = .slice A 0 c := hR.e 10 (hD2 10 (by decide)) (fun _ => by decide)
  rw [e9, e10]
  have HB2 := Lib.hid hR.b
  simp only [List.drop_succ_cons, List.drop_zero]
  clear hD2 hR e9 e10
  go_wp2_with fail
  exact HH.out _ _ _ _ _ _ _ _ _ _ _ _ _ HB2.out

end Go.Proofs.Ytjfnnclbfaakkaa

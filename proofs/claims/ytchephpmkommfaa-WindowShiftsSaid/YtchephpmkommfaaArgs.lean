/-
  From an argument's cells to a packet and to a track; whole tracks and packets that lie in a block.
-/
import Derived.Test.YtchephpmkommfaaAwake
import Derived.OpenShut
namespace Go.Proofs.Ytchephpmkommfaa
open Go.RowKit
set_option linter.unusedVariables false

theorem all2_one : ∀ (ks : List (Option IntKind)) (vs : List Value), All2 ks vs → ∀ v ∈ vs, v.oneCell' = true
  | [], vs, h => by rw [all2_nil h]; simp
  | k :: ks, vs, h => by
    obtain ⟨v, r, rfl, hv, hr⟩ := all2_cons h
    intro u hu
    rcases List.mem_cons.1 hu with rfl | hu
    · cases k with
      | none => obtain ⟨x, rfl⟩ := hv; rfl
      | some k => obtain ⟨x, rfl, _⟩ := hv; rfl
    · exact all2_one ks r hr u hu
theorem fa_of {cs : List Value} (h : All2 [some .u8, some .u32, some .u32, some .u16, some .u16, some .u8, some .u8, some .u8, some .u8, some .u32, some .u32, some .i64, some .i64, some .u8, some .u32, some .u32, some .u16, some .u16, some .u8] cs) : ∃ flags seq ack win len, Fa cs.toArray flags seq ack win len := by
  have ho := all_oneCell_toArray (all2_one _ _ h)
  obtain ⟨n0, r0, rfl, w0, h0⟩ := all2_int h
  obtain ⟨n1, r1, rfl, w1, h1⟩ := all2_int h0
  obtain ⟨n2, r2, rfl, w2, h2⟩ := all2_int h1
  obtain ⟨n3, r3, rfl, w3, h3⟩ := all2_int h2
  obtain ⟨n4, r4, rfl, w4, h4⟩ := all2_int h3
  obtain ⟨n5, r5, rfl, w5, h5⟩ := all2_int h4
  obtain ⟨n6, r6, rfl, w6, h6⟩ := all2_int h5
  obtain ⟨n7, r7, rfl, w7, h7⟩ := all2_int h6
  obtain ⟨n8, r8, rfl, w8, h8⟩ := all2_int h7
  obtain ⟨n9, r9, rfl, w9, h9⟩ := all2_int h8
  obtain ⟨n10, r10, rfl, w10, h10⟩ := all2_int h9
  obtain ⟨n11, r11, rfl, w11, h11⟩ := all2_int h10
  obtain ⟨n12, r12, rfl, w12, h12⟩ := all2_int h11
  obtain ⟨n13, r13, rfl, w13, h13⟩ := all2_int h12
  obtain ⟨n14, r14, rfl, w14, h14⟩ := all2_int h13
  obtain ⟨n15, r15, rfl, w15, h15⟩ := all2_int h14
  obtain ⟨n16, r16, rfl, w16, h16⟩ := all2_int h15
  obtain ⟨n17, r17, rfl, w17, h17⟩ := all2_int h16
  obtain ⟨n18, r18, rfl, w18, h18⟩ := all2_int h17
  obtain rfl := all2_nil h18
  exact ⟨n6, n9, n10, n11, n12, rfl, rfl, rfl, rfl, rfl, rfl, ho, bounds_u8 w6, bounds_u32 w9, bounds_u32 w10, bounds_i64 w11, bounds_i64 w12⟩
/-- A side whose numbers lie in their ranges. -/
def Sd.ok (s : Sd) : Prop := s.wf ∧ -9223372036854775808 ≤ s.size ∧ s.size ≤ 9223372036854775807
theorem trk_of {cs : List Value} (h : All2 [none, none, some .u32, some .u32, some .i64, none, none, some .u32, some .u32, some .i64] cs) : ∃ a b : Sd, cs = a.cells ++ b.cells ∧ a.ok ∧ b.ok := by
  obtain ⟨b0, r0, rfl, h0⟩ := all2_bool h
  obtain ⟨b1, r1, rfl, h1⟩ := all2_bool h0
  obtain ⟨n2, r2, rfl, w2, h2⟩ := all2_int h1
  obtain ⟨n3, r3, rfl, w3, h3⟩ := all2_int h2
  obtain ⟨n4, r4, rfl, w4, h4⟩ := all2_int h3
  obtain ⟨b5, r5, rfl, h5⟩ := all2_bool h4
  obtain ⟨b6, r6, rfl, h6⟩ := all2_bool h5
  obtain ⟨n7, r7, rfl, w7, h7⟩ := all2_int h6
  obtain ⟨n8, r8, rfl, w8, h8⟩ := all2_int h7
  obtain ⟨n9, r9, rfl, w9, h9⟩ := all2_int h8
  obtain rfl := all2_nil h9
  exact ⟨⟨b0, b1, n2, n3, n4⟩, ⟨b5, b6, n7, n8, n9⟩, rfl, ⟨⟨bounds_u32 w2, bounds_u32 w3⟩, bounds_i64 w4⟩, ⟨⟨bounds_u32 w7, bounds_u32 w8⟩, bounds_i64 w9⟩⟩
/-- A side lies in a block. -/
structure SdAt (W : World) (B o : Nat) (s : Sd) : Prop where
  c0 : W.cell? ⟨B, o, none⟩ = some (.bool s.seen)
  c1 : W.cell? ⟨B, o + 1, none⟩ = some (.bool s.acked)
  c2 : W.cell? ⟨B, o + 2, none⟩ = some (.int .u32 s.next)
  c3 : W.cell? ⟨B, o + 3, none⟩ = some (.int .u32 s.ack)
  c4 : W.cell? ⟨B, o + 4, none⟩ = some (.int .i64 s.size)
theorem sd_at {W : World} {B o : Nat} {s : Sd} (h : W.rangeAt B o s.cells) : SdAt W B o s := ⟨h 0 _ rfl, h 1 _ rfl, h 2 _ rfl, h 3 _ rfl, h 4 _ rfl⟩
theorem trk_at {W : World} {B : Nat} {a b : Sd} (h : W.rangeAt B 0 (trk a b).toList) : SdAt W B 0 a ∧ SdAt W B 5 b :=
  ⟨⟨h 0 _ rfl, h 1 _ rfl, h 2 _ rfl, h 3 _ rfl, h 4 _ rfl⟩, ⟨h 5 _ rfl, h 6 _ rfl, h 7 _ rfl, h 8 _ rfl, h 9 _ rfl⟩⟩
theorem fcell {W : World} {B : Nat} {F : Array Value} (h : W.rangeAt B 0 F.toList) (i : Nat) (v : Value) (hv : F[i]? = some v) : W.cell? ⟨B, i, none⟩ = some v := by simpa using h i v (by simpa using hv)
theorem info27 : (Try.prog.info? 27).map (·.size) = some 5 := by kernel_rfl
theorem eqSd_self (a : Sd) : eqSd a a = true := by simp [eqSd]
theorem info_trk (a b : Sd) : (Try.prog.info? 29).map (·.size) = some (trk a b).toList.length := info29
end Go.Proofs.Ytchephpmkommfaa

/-
  The walk of RelatedBelongs: an error belongs to a flow just if it quotes a packet of it, goes to the sender of this packet, and comes from the side to which the packet went. Its nine ways lie in the text Belongs.
-/
import Derived.Test.YtapeminpgojeaaaDoorBelongs
namespace Go.Proofs.YtapeminpgojeaaaDoor
open Go.RowKit
set_option linter.unusedVariables false
set_option linter.unusedSimpArgs false

theorem hit0_no {P S E sp dp q0 qp qs qd qsp qdp qk src : Int} (h : P ≠ qp ∨ S ≠ qs ∨ E ≠ qd ∨ sp ≠ qsp ∨ dp ≠ qdp ∨ 1 - q0 ≠ src) : (way0 P S E sp dp q0).hit qp qs qd qsp qdp qk src = false := by
  cases hh : (way0 P S E sp dp q0).hit qp qs qd qsp qdp qk src with
  | false => rfl
  | true => simp [Wy.hit, way0, eqK] at hh; omega
theorem hit1_no {P S E sp dp q0 qp qs qd qsp qdp qk src : Int} (h : P ≠ qp ∨ E ≠ qs ∨ S ≠ qd ∨ dp ≠ qsp ∨ sp ≠ qdp ∨ q0 ≠ src) : (way1 P S E sp dp q0).hit qp qs qd qsp qdp qk src = false := by
  cases hh : (way1 P S E sp dp q0).hit qp qs qd qsp qdp qk src with
  | false => rfl
  | true => simp [Wy.hit, way1, eqK] at hh; omega
theorem quo_no {P S E sp dp q0 dst kind ty qp qs qd qsp qdp qk src : Int} (h0 : (way0 P S E sp dp q0).hit qp qs qd qsp qdp qk src = false) (h1 : (way1 P S E sp dp q0).hit qp qs qd qsp qdp qk src = false) : quo P S E sp dp q0 dst kind ty qp qs qd qsp qdp qk src = (0, false) := by
  unfold quo
  rw [h0, h1]
  simp
theorem quo_cannot {P S E sp dp q0 dst kind ty qp qs qd qsp qdp qk src : Int} (h : can dst kind ty qp qs qk = false) : quo P S E sp dp q0 dst kind ty qp qs qd qsp qdp qk src = (0, false) := by
  unfold quo
  rw [h]
  simp
theorem kd_cases {P q1 : Int} (hP : P = 6 ∨ P = 17 ∨ P = 1) (hq : q1 = 0 ∨ q1 = 1) : kok P q1 = true ∧ known P = true ∧ (kd P q1 == ko P || kd P q1 == kr P) = true ∧ ((5 : Int) == ko P || (5 : Int) == kr P) = false ∧ 0 ≤ kd P q1 ∧ kd P q1 ≤ 255 := by
  rcases hP with rfl | rfl | rfl <;> rcases hq with rfl | rfl <;> decide

/-- What the nine ways lean on. -/
structure Bel (P S E sp dp q0 c1 c2 c3 c4 fr q1 ty kv : Int) : Prop where
  can : can c1 5 ty P c1 kv = true
  yes : quo P S E sp dp q0 c1 5 ty P c1 c2 c3 c4 kv fr = (q1, true)
  w0 : quo P S E sp dp q0 c1 5 ty P c1 c2 c3 c4 kv (1 - fr) = (0, false)
  w1 : quo P S E sp dp q0 c2 5 ty P c1 c2 c3 c4 kv fr = (0, false)
  w2 : quo P S E sp dp q0 c1 4 ty P c1 c2 c3 c4 kv fr = (0, false)
  w3 : quo P S E sp dp q0 c1 5 5 P c1 c2 c3 c4 kv fr = (0, false)
  w4 : quo P S E sp dp q0 c1 5 ty P c1 c2 (IntKind.u16.wrap (c3 + 1)) c4 kv fr = (0, false)
  w5 : quo P S E sp dp q0 c1 5 ty P c1 c2 c3 (IntKind.u16.wrap (c4 - 1)) kv fr = (0, false)
  w6 : quo P S E sp dp q0 c1 5 ty P c1 ((c2 + 1) % 4294967296) c3 c4 kv fr = (0, false)
  w7 : quo P S E sp dp q0 c1 5 ty P c1 c2 c3 c4 5 fr = (0, false)
  w8 : quo P S E sp dp q0 c1 5 ty 47 c1 c2 c3 c4 kv fr = (0, false)
theorem bel_of (P S E sp dp q0 c1 c2 c3 c4 fr q1 ty : Int) (hP : P = 6 ∨ P = 17 ∨ P = 1) (hne : S ≠ E) (hq0 : 0 ≤ q0 ∧ q0 ≤ 1) (ht : ty = 3 ∨ ty = 11 ∨ ty = 12) (h2 : 0 ≤ c2 ∧ c2 ≤ 4294967295) (h3 : 0 ≤ c3 ∧ c3 ≤ 65535) (h4 : 0 ≤ c4 ∧ c4 ≤ 65535)
    (hk : q1 = 0 ∧ S = c1 ∧ E = c2 ∧ sp = c3 ∧ dp = c4 ∧ 1 - q0 = fr ∨ q1 = 1 ∧ E = c1 ∧ S = c2 ∧ dp = c3 ∧ sp = c4 ∧ q0 = fr) : Bel P S E sp dp q0 c1 c2 c3 c4 fr q1 ty (kd P q1) := by
  have hq : q1 = 0 ∨ q1 = 1 := by omega
  obtain ⟨_, e1, e2, e3, _, _⟩ := kd_cases hP hq
  have hh : hrd ty = true := by rcases ht with rfl | rfl | rfl <;> rfl
  have hcan : Go.Proofs.YtapeminpgojeaaaDoor.can c1 5 ty P c1 (kd P q1) = true := by
    unfold Go.Proofs.YtapeminpgojeaaaDoor.can
    rw [e1, hh, e2]
    simp
  have n3 : IntKind.u16.wrap (c3 + 1) = (c3 + 1) % 65536 := rfl
  have n4 : IntKind.u16.wrap (c4 - 1) = (c4 - 1) % 65536 := rfl
  refine ⟨hcan, ?_, ?_, ?_, ?_, ?_, ?_, ?_, ?_, ?_, ?_⟩
  · unfold quo
    rw [hcan, decide_eq_true hq0.2, decide_eq_true (show fr ≤ 1 by omega)]
    rcases hk with ⟨rfl, rfl, rfl, rfl, rfl, rfl⟩ | ⟨rfl, rfl, rfl, rfl, rfl, rfl⟩
    · have : (way0 P S E sp dp q0).hit P S E sp dp (kd P 0) (1 - q0) = true := by simp [Wy.hit, way0, eqK, kd]
      rw [this]
      rfl
    · rw [hit0_no (.inr (.inl hne))]
      have : (way1 P S E sp dp q0).hit P E S dp sp (kd P 1) q0 = true := by simp [Wy.hit, way1, eqK, kd]
      rw [this]
      rfl
  · exact quo_no (hit0_no (by omega)) (hit1_no (by omega))
  · exact quo_cannot (by
      have : (c2 == c1) = false := by simp; omega
      unfold Go.Proofs.YtapeminpgojeaaaDoor.can
      rw [this]
      simp)
  · exact quo_cannot (by unfold Go.Proofs.YtapeminpgojeaaaDoor.can; simp)
  · exact quo_cannot (by unfold Go.Proofs.YtapeminpgojeaaaDoor.can; simp [hrd])
  · exact quo_no (hit0_no (by rw [n3]; omega)) (hit1_no (by rw [n3]; omega))
  · exact quo_no (hit0_no (by rw [n4]; omega)) (hit1_no (by rw [n4]; omega))
  · exact quo_no (hit0_no (by omega)) (hit1_no (by omega))
  · exact quo_cannot (by unfold Go.Proofs.YtapeminpgojeaaaDoor.can; rw [e3]; simp)
  · exact quo_cannot (by unfold Go.Proofs.YtapeminpgojeaaaDoor.can; simp [known])

theorem relatedBelongs_walk (p s d sp dp side dir by' way : Int) (w : World) (hT : Tabs w)
    (hx : (0 ≤ p ∧ p ≤ 255) ∧ (0 ≤ s ∧ s ≤ 4294967295) ∧ (0 ≤ d ∧ d ≤ 4294967295) ∧ (0 ≤ sp ∧ sp ≤ 65535) ∧ (0 ≤ dp ∧ dp ≤ 65535)) (hs : 0 ≤ side ∧ side ≤ 255) (hd : 0 ≤ dir ∧ dir ≤ 255) (hb : 0 ≤ by' ∧ by' ≤ 4294967295) (hw : 0 ≤ way ∧ way ≤ 255) :
    Calls Tryd.prog 4 #[.agg #[.int .u8 p, .int .u32 s, .int .u32 d, .int .u16 sp, .int .u16 dp], .int .u8 side, .int .u8 dir, .int .u32 by', .int .u8 way] w fun e w' => e = .returned (.bool true) ∧ Below w.heap.size w w' := by
  obtain ⟨h1, h2, h3, h4, h5⟩ := hx
  have hR := fun W => right_any p s d sp dp side W h1 h3 hs
  obtain ⟨hne, hE0, hE1⟩ := rd_ne s d h3
  have hP := rp_range p
  generalize rp p = P at *
  generalize rd s d = E at *
  obtain ⟨q0, hq0⟩ : ∃ q, side % 2 = q := ⟨_, rfl⟩
  rw [hq0] at hR
  have hq0' : 0 ≤ q0 ∧ q0 ≤ 1 := by omega
  obtain ⟨q1, hq1⟩ : ∃ q, dir % 2 = q := ⟨_, rfl⟩
  have hq1' : dir.tmod 2 = q1 := by rw [Int.tmod_eq_emod_of_nonneg hd.1]; exact hq1
  obtain ⟨c1, c2, c3, c4, fr, hk⟩ : ∃ c1 c2 c3 c4 fr : Int, q1 = 0 ∧ s = c1 ∧ E = c2 ∧ sp = c3 ∧ dp = c4 ∧ 1 - q0 = fr ∨ q1 = 1 ∧ E = c1 ∧ s = c2 ∧ dp = c3 ∧ sp = c4 ∧ q0 = fr := by
    have : q1 = 0 ∨ q1 = 1 := by omega
    rcases this with h | h
    · exact ⟨s, E, sp, dp, 1 - q0, .inl ⟨h, rfl, rfl, rfl, rfl, rfl⟩⟩
    · exact ⟨E, s, dp, sp, q0, .inr ⟨h, rfl, rfl, rfl, rfl, rfl⟩⟩
  obtain ⟨ty, ht⟩ : ∃ ty : Int, by' % 3 = 0 ∧ ty = 3 ∨ by' % 3 = 1 ∧ ty = 11 ∨ by' % 3 = 2 ∧ ty = 12 := by
    have : by' % 3 = 0 ∨ by' % 3 = 1 ∨ by' % 3 = 2 := by omega
    rcases this with h | h | h
    · exact ⟨3, .inl ⟨h, rfl⟩⟩
    · exact ⟨11, .inr (.inl ⟨h, rfl⟩)⟩
    · exact ⟨12, .inr (.inr ⟨h, rfl⟩)⟩
  have hty : ty = 3 ∨ ty = 11 ∨ ty = 12 := by omega
  have hqq : q1 = 0 ∨ q1 = 1 := by omega
  obtain ⟨hkok, _, _, _, hkv⟩ := kd_cases hP hqq
  have b1 : 0 ≤ c1 ∧ c1 ≤ 4294967295 := by omega
  have b2 : 0 ≤ c2 ∧ c2 ≤ 4294967295 := by omega
  have b3 : 0 ≤ c3 ∧ c3 ≤ 65535 := by omega
  have b4 : 0 ≤ c4 ∧ c4 ≤ 65535 := by omega
  have hB := bel_of P s E sp dp q0 c1 c2 c3 c4 fr q1 ty hP hne hq0' hty b2 b3 b4 hk
  have hP' : 0 ≤ P ∧ P ≤ 255 := by omega
  have hG := fun W hW => quoting_hit P s E sp dp q0 dir by' W hW hP' hq0' hd hb c1 c2 c3 c4 fr q1 ty hq1 hk ht
  rw [hkok] at hG
  generalize kd P q1 = kv at *
  have hty' : 0 ≤ ty ∧ ty ≤ 255 := by omega
  have n3 : IntKind.u16.wrap (c3 + 1) = (c3 + 1) % 65536 := rfl
  have n4 : IntKind.u16.wrap (c4 - 1) = (c4 - 1) % 65536 := rfl
  have hF := fa_gF c1 5 ty P c1 c2 c3 c4 kv by' (by decide) hty' hP' hkv b1 b1 b2 b3 b4
  have hm : way % 9 = 0 ∨ way % 9 = 1 ∨ way % 9 = 2 ∨ way % 9 = 3 ∨ way % 9 = 4 ∨ way % 9 = 5 ∨ way % 9 = 6 ∨ way % 9 = 7 ∨ way % 9 = 8 := by omega
  have hm' : way.tmod 9 = way % 9 := by rw [Int.tmod_eq_emod_of_nonneg hw.1]
  rcases hm with h | h | h | h | h | h | h | h | h
  · exact belongs_0 p s d sp dp side dir by' way P s E q0 P c1 c2 c3 c4 ty kv fr q1 w hT hR hG hP' hq0'.1 (by omega) (by omega) b2.1 b2.2 b3.1 b3.2 b4.1 b4.2 hd.1 hd.2 hw.1 hw.2 hF hF hB.yes hB.can hB.w0 hq1 hq1' h (hm'.trans h)
  · exact belongs_1 p s d sp dp side dir by' way P s E q0 P c1 c2 c3 c4 ty kv fr q1 w hT hR hG hP' hq0'.1 (by omega) (by omega) b2.1 b2.2 b3.1 b3.2 b4.1 b4.2 hd.1 hd.2 hw.1 hw.2 hF (fa_gF c2 5 ty P c1 c2 c3 c4 kv by' (by decide) hty' hP' hkv b2 b1 b2 b3 b4) hB.yes hB.can hB.w1 hq1 hq1' h (hm'.trans h)
  · exact belongs_2 p s d sp dp side dir by' way P s E q0 P c1 c2 c3 c4 ty kv fr q1 w hT hR hG hP' hq0'.1 (by omega) (by omega) b2.1 b2.2 b3.1 b3.2 b4.1 b4.2 hd.1 hd.2 hw.1 hw.2 hF (fa_gF c1 4 ty P c1 c2 c3 c4 kv by' (by decide) hty' hP' hkv b1 b1 b2 b3 b4) hB.yes hB.can hB.w2 hq1 hq1' h (hm'.trans h)
  · exact belongs_3 p s d sp dp side dir by' way P s E q0 P c1 c2 c3 c4 ty kv fr q1 w hT hR hG hP' hq0'.1 (by omega) (by omega) b2.1 b2.2 b3.1 b3.2 b4.1 b4.2 hd.1 hd.2 hw.1 hw.2 hF (fa_gF c1 5 5 P c1 c2 c3 c4 kv by' (by decide) (by decide) hP' hkv b1 b1 b2 b3 b4) hB.yes hB.can hB.w3 hq1 hq1' h (hm'.trans h)
  · exact belongs_4 p s d sp dp side dir by' way P s E q0 P c1 c2 c3 c4 ty kv fr q1 w hT hR hG hP' hq0'.1 (by omega) (by omega) b2.1 b2.2 b3.1 b3.2 b4.1 b4.2 hd.1 hd.2 hw.1 hw.2 hF (fa_gF c1 5 ty P c1 c2 (IntKind.u16.wrap (c3 + 1)) c4 kv by' (by decide) hty' hP' hkv b1 b1 b2 (by rw [n3]; omega) b4) hB.yes hB.can hB.w4 hq1 hq1' h (hm'.trans h)
  · exact belongs_5 p s d sp dp side dir by' way P s E q0 P c1 c2 c3 c4 ty kv fr q1 w hT hR hG hP' hq0'.1 (by omega) (by omega) b2.1 b2.2 b3.1 b3.2 b4.1 b4.2 hd.1 hd.2 hw.1 hw.2 hF (fa_gF c1 5 ty P c1 c2 c3 (IntKind.u16.wrap (c4 - 1)) kv by' (by decide) hty' hP' hkv b1 b1 b2 b3 (by rw [n4]; omega)) hB.yes hB.can hB.w5 hq1 hq1' h (hm'.trans h)
  · exact belongs_6 p s d sp dp side dir by' way P s E q0 P c1 c2 c3 c4 ty kv fr q1 w hT hR hG hP' hq0'.1 (by omega) (by omega) b2.1 b2.2 b3.1 b3.2 b4.1 b4.2 hd.1 hd.2 hw.1 hw.2 hF (fa_gF c1 5 ty P c1 ((c2 + 1) % 4294967296) c3 c4 kv by' (by decide) hty' hP' hkv b1 b1 (by omega) b3 b4) hB.yes hB.can hB.w6 hq1 hq1' h (hm'.trans h)
  · exact belongs_7 p s d sp dp side dir by' way P s E q0 P c1 c2 c3 c4 ty kv fr q1 w hT hR hG hP' hq0'.1 (by omega) (by omega) b2.1 b2.2 b3.1 b3.2 b4.1 b4.2 hd.1 hd.2 hw.1 hw.2 hF (fa_gF c1 5 ty P c1 c2 c3 c4 5 by' (by decide) hty' hP' (by decide) b1 b1 b2 b3 b4) hB.yes hB.can hB.w7 hq1 hq1' h (hm'.trans h)
  · exact belongs_8 p s d sp dp side dir by' way P s E q0 P c1 c2 c3 c4 ty kv fr q1 w hT hR hG hP' hq0'.1 (by omega) (by omega) b2.1 b2.2 b3.1 b3.2 b4.1 b4.2 hd.1 hd.2 hw.1 hw.2 hF (fa_gF c1 5 ty 47 c1 c2 c3 c4 kv by' (by decide) hty' (by decide) hkv b1 b1 b2 b3 b4) hB.yes hB.can hB.w8 hq1 hq1' h (hm'.trans h)

end Go.Proofs.YtapeminpgojeaaaDoor

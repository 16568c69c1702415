/-
  The walk of RelatedTurned, out of its core: a flow of TCP or UDP and the same flow seen from the other end have the same errors, in opposite directions; for ICMP the query of one is no reply of the other.
-/
import Derived.Test.YtapeminpgojeaaaDoorBelongsL
import Derived.Test.YtapeminpgojeaaaDoorTurned
namespace Go.Proofs.YtapeminpgojeaaaDoor
open Go.RowKit
set_option linter.unusedVariables false
set_option linter.unusedSimpArgs false

theorem quo_range (P S E sp dp q0 dst kind ty qp qs qd qsp qdp qk src : Int) : 0 ≤ (quo P S E sp dp q0 dst kind ty qp qs qd qsp qdp qk src).1 ∧ (quo P S E sp dp q0 dst kind ty qp qs qd qsp qdp qk src).1 ≤ 1 := by
  unfold quo
  split
  · split
    · exact ⟨by decide, by decide⟩
    · split
      · exact ⟨by decide, by decide⟩
      · exact ⟨by decide, by decide⟩
  · exact ⟨by decide, by decide⟩

set_option maxHeartbeats 2000000 in
theorem relatedTurned_walk (p s d sp dp side dir by' : Int) (F : Array Value) (dst kind typ qp qs qd qsp qdp qk src : Int) (w : World) (hT : Tabs w)
    (hx : (0 ≤ p ∧ p ≤ 255) ∧ (0 ≤ s ∧ s ≤ 4294967295) ∧ (0 ≤ d ∧ d ≤ 4294967295) ∧ (0 ≤ sp ∧ sp ≤ 65535) ∧ (0 ≤ dp ∧ dp ≤ 65535)) (hs : 0 ≤ side ∧ side ≤ 255) (hd : 0 ≤ dir ∧ dir ≤ 255) (hb : 0 ≤ by' ∧ by' ≤ 4294967295) (h : Fa F dst kind typ qp qs qd qsp qdp qk) (hr : 0 ≤ src ∧ src ≤ 255) :
    Calls Tryd.prog 5 #[.agg #[.int .u8 p, .int .u32 s, .int .u32 d, .int .u16 sp, .int .u16 dp], .int .u8 side, .int .u8 dir, .int .u32 by', .agg F, .int .u8 src] w fun e w' => e = .returned (.bool true) ∧ Below w.heap.size w w' := by
  obtain ⟨h1, h2, h3, h4, h5⟩ := hx
  have hR := fun W => right_any p s d sp dp side W h1 h3 hs
  obtain ⟨hne, hE0, hE1⟩ := rd_ne s d h3
  have hP := rp_range p
  generalize rp p = P at *
  generalize rd s d = E at *
  obtain ⟨q0, hq0⟩ : ∃ q, side % 2 = q := ⟨_, rfl⟩
  rw [hq0] at hR
  have hq0' : 0 ≤ q0 ∧ q0 ≤ 1 := by omega
  obtain ⟨q1, hq1⟩ : ∃ q, dir % 2 = q := ⟨_, rfl⟩
  obtain ⟨c1, c2, c3, c4, fr, hk⟩ : ∃ c1 c2 c3 c4 fr : Int, q1 = 0 ∧ s = c1 ∧ E = c2 ∧ sp = c3 ∧ dp = c4 ∧ 1 - q0 = fr ∨ q1 = 1 ∧ E = c1 ∧ s = c2 ∧ dp = c3 ∧ sp = c4 ∧ q0 = fr := by
    have : q1 = 0 ∨ q1 = 1 := by omega
    rcases this with h | h
    · exact ⟨s, E, sp, dp, 1 - q0, .inl ⟨h, rfl, rfl, rfl, rfl, rfl⟩⟩
    · exact ⟨E, s, dp, sp, q0, .inr ⟨h, rfl, rfl, rfl, rfl, rfl⟩⟩
  obtain ⟨ty, ht⟩ : ∃ ty : Int, by' % 3 = 0 ∧ ty = 3 ∨ by' % 3 = 1 ∧ ty = 11 ∨ by' % 3 = 2 ∧ ty = 12 := by
    have : by' % 3 = 0 ∨ by' % 3 = 1 ∨ by' % 3 = 2 := by omega
    rcases this with h | h | h
    · exact ⟨3, .inl ⟨h, rfl⟩⟩
    · exact ⟨11, .inr (.inl ⟨h, rfl⟩)⟩
    · exact ⟨12, .inr (.inr ⟨h, rfl⟩)⟩
  have hqq : q1 = 0 ∨ q1 = 1 := by omega
  obtain ⟨_, _, _, _, hkv⟩ := kd_cases hP hqq
  have b1 : 0 ≤ c1 ∧ c1 ≤ 4294967295 := by omega
  have b2 : 0 ≤ c2 ∧ c2 ≤ 4294967295 := by omega
  have b3 : 0 ≤ c3 ∧ c3 ≤ 65535 := by omega
  have b4 : 0 ≤ c4 ∧ c4 ≤ 65535 := by omega
  have hP' : 0 ≤ P ∧ P ≤ 255 := by omega
  have hfr : 0 ≤ fr := by omega
  have hG := fun W hW => quoting_hit P s E sp dp q0 dir by' W hW hP' hq0' hd hb c1 c2 c3 c4 fr q1 ty hq1 hk ht
  generalize kd P q1 = kv at *
  have hty' : 0 ≤ ty ∧ ty ≤ 255 := by omega
  have hF := fa_gF c1 5 ty P c1 c2 c3 c4 kv by' (by decide) hty' hP' hkv b1 b1 b2 b3 b4
  have hsz := h.size
  obtain ⟨l⟩ := F
  match l, hsz with
  | [g0, g1, g2, g3, g4, g5, g6, g7, g8, g9, g10, g11, g12, g13, g14, g15, g16, g17, g18], _ =>
    exact turned_core p s d sp dp side dir by' src P s E q0 ty kv fr (.int .u8 1) (.int .u32 by') (.int .u32 c1) (.int .u16 0) (.int .u16 0) (.int .u8 5) (.int .u8 0) (.int .u8 ty) (.int .u8 0) (.int .u32 0) (.int .u32 0) (.int .i64 0) (.int .i64 0) (.int .u8 P) (.int .u32 c1) (.int .u32 c2) (.int .u16 c3) (.int .u16 c4) (.int .u8 kv) g0 g1 g2 g3 g4 g5 g6 g7 g8 g9 g10 g11 g12 g13 g14 g15 g16 g17 g18 dst kind typ qp qs qd qsp qdp qk dst kind typ qp qs qd qsp qdp qk (kok P q1)
      (quo P s E sp dp q0 c1 5 ty P c1 c2 c3 c4 kv fr) (quo P E s dp sp (1 - q0) c1 5 ty P c1 c2 c3 c4 kv fr) (quo P s E sp dp q0 dst kind typ qp qs qd qsp qdp qk src) (quo P E s dp sp (1 - q0) dst kind typ qp qs qd qsp qdp qk src) w hT hR hG hq0'.1 hq0'.2
      (fun W hW => quotes_any (gF c1 5 ty P c1 c2 c3 c4 kv by') P s E sp dp q0 c1 5 ty P c1 c2 c3 c4 kv fr W hF hW hP' hq0'.1 hfr)
      (fun W hW => quotes_any (gF c1 5 ty P c1 c2 c3 c4 kv by') P E s dp sp (1 - q0) c1 5 ty P c1 c2 c3 c4 kv fr W hF hW hP' (by omega) hfr)
      (fun W hW => quotes_any _ P s E sp dp q0 dst kind typ qp qs qd qsp qdp qk src W h hW hP' hq0'.1 hr.1)
      (fun W hW => quotes_any _ P E s dp sp (1 - q0) dst kind typ qp qs qd qsp qdp qk src W h hW hP' (by omega) hr.1)
      (ho_gF c1 5 ty P c1 c2 c3 c4 kv by') h.one (quo_turned _ _ _ _ _ _ _ _ _ _ _ _ _ _ _ _ hP hne hq0') (quo_turned _ _ _ _ _ _ _ _ _ _ _ _ _ _ _ _ hP hne hq0') (quo_range _ _ _ _ _ _ _ _ _ _ _ _ _ _ _ _) (quo_range _ _ _ _ _ _ _ _ _ _ _ _ _ _ _ _)

end Go.Proofs.YtapeminpgojeaaaDoor

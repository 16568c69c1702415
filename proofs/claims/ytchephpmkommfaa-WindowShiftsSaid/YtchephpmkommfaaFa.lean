import Derived.Test.YtchephpmkommfaaWin
import Derived.Deep.MidRow
namespace Go.Proofs.Ytchephpmkommfaa
open Go.RowKit
set_option linter.unusedVariables false

/-- What a packet says, to this package. -/
structure Fa (F : Array Value) (flags seq ack win len : Int) : Prop where
  size : F.size = 19
  cflags : F[6]? = some (.int .u8 flags)
  cseq : F[9]? = some (.int .u32 seq)
  cack : F[10]? = some (.int .u32 ack)
  cwin : F[11]? = some (.int .i64 win)
  clen : F[12]? = some (.int .i64 len)
  one : F.all (·.oneCell') = true
  bf : 0 ≤ flags ∧ flags ≤ 255
  bs : 0 ≤ seq ∧ seq ≤ 4294967295
  ba : 0 ≤ ack ∧ ack ≤ 4294967295
  bw : -9223372036854775808 ≤ win ∧ win ≤ 9223372036854775807
  bl : -9223372036854775808 ≤ len ∧ len ≤ 9223372036854775807

set_option maxHeartbeats 1000000 in
theorem room_fa (F : Array Value) (flags seq ack win len : Int) (w : World) (h : Fa F flags seq ack win len) :
    Calls Try.prog 18 #[.agg F] w fun e w' => e = .returned (.int .u32 (room flags len)) ∧ (w.alloc (.cells F 34)).alloc (.cells #[.int .u8 2, .int .u8 1] 5) = w' := by
  have f1 := h.cflags
  have f2 := h.clen
  clear h
  by_cases h2 : (bits .and .u8 flags 2 != 0) = true
  all_goals by_cases h1 : (bits .and .u8 flags 1 != 0) = true
  all_goals
    obtain ⟨r, hr⟩ : ∃ r, room flags len = r := ⟨_, rfl⟩
    have hr1 := hr
    unfold room at hr1
    simp only [h1, h2, if_true] at hr1
    rw [hr]
    try simp only [Bool.not_eq_true] at h1
    try simp only [Bool.not_eq_true] at h2
    have HR := Lib.hid hr1
    clear hr hr1
    go_enter Try.func18, Try.ntmps18
    go_wp2_with fail
    go_rounds 3
    go_ret
    refine ⟨?_, rfl⟩
    rw [← HR.out]
    simp <;> omega

end Go.Proofs.Ytchephpmkommfaa

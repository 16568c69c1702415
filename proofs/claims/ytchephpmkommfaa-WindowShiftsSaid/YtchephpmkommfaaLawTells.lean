/-
  The walk of WindowTells. Conditions: the numbers lie in their types' ranges.
-/
import Derived.Test.YtchephpmkommfaaTells
import Derived.Test.YtchephpmkommfaaAwake
import Derived.Test.YtchephpmkommfaaArgs
namespace Go.Proofs.Ytchephpmkommfaa
open Go.RowKit
set_option linter.unusedVariables false
set_option linter.unusedSimpArgs false

set_option maxRecDepth 100000 in
set_option maxHeartbeats 4000000 in
theorem windowTells_walk (a b : Sd) (d : Int) (F : Array Value) (flags seq ack win len na nb : Int) (w : World) (hab : a.ok ∧ b.ok) (hd : 0 ≤ d ∧ d ≤ 255) (h : Fa F flags seq ack win len) (hna : 0 ≤ na ∧ na ≤ 4294967295) (hnb : 0 ≤ nb ∧ nb ≤ 4294967295) :
    Calls Try.prog 4 #[.agg (trk a b), .int .u8 d, .agg F, .int .u32 na, .int .u32 nb] w fun e w' => e = .returned (.bool true) ∧ Below w.heap.size w w' := by
  have HC := Lib.hid (fun W => tells_any a b F flags seq ack win len d na nb W h hab.1.1 hab.2.1 hd.1 hna hnb)
  have IF : Hid ((Try.prog.info? 34).map (·.size) = some F.toList.length) := h.hi
  have IT : Hid ((Try.prog.info? 29).map (·.size) = some (trk a b).toList.length) := by show _ = _; rw [info29]; rfl
  clear h hab hna hnb hd
  generalize trk a b = T at *
  go_enter Try.func4, Try.ntmps4
  go_wp2_with (first | (refine wpList_load_wide 29 _ rfl (by rfl) _ _ rfl T _ Try.underlying29 rfl IT.out ?_ ?_; · (repeat (first | exact range_new _ _ _ | refine World.rangeAt_alloc ?_ _))) | (refine wpList_load_wide 34 _ rfl (by rfl) _ _ rfl F _ Try.underlying34 rfl IF.out ?_ ?_; · (repeat (first | (refine range_new' _ _ _ _ ?_; first | rfl | (simp; done)) | refine World.rangeAt_alloc ?_ _))))
  refine (HC.out _).mono ?_
  rintro e w1 ⟨rfl, hb⟩
  have b1 : Below w.heap.size w w1 := bthen (by repeat' (first | exact Below.refl _ _ | refine Below.alloc ?_ (by first | omega | (simp; done) | (simp; omega)) _)) hb
  clear hb
  go_wp2_with fail
  refine (awake_any _).mono ?_
  rintro e w2 ⟨rfl, hb⟩
  go_wp2_with fail
  go_ret
  exact ⟨rfl, bthen b1 hb⟩

end Go.Proofs.Ytchephpmkommfaa

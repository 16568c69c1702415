/-
  The walk of RelatedTells: the program's Kind, Heard, Lookup and Quotes return what the reference's return.
-/
import Derived.Test.YtapeminpgojeaaaDoorAwake
namespace Go.Proofs.YtapeminpgojeaaaDoor
open Go.RowKit
set_option linter.unusedVariables false

set_option maxHeartbeats 1000000 in
theorem relatedTells_walk (p s d sp dp side : Int) (F : Array Value) (dst kind typ qp qs qd qsp qdp qk src n : Int) (w : World) (hT : Tabs w)
    (hx : (0 ≤ p ∧ p ≤ 255) ∧ (0 ≤ s ∧ s ≤ 4294967295) ∧ (0 ≤ d ∧ d ≤ 4294967295) ∧ (0 ≤ sp ∧ sp ≤ 65535) ∧ (0 ≤ dp ∧ dp ≤ 65535) ∧ (0 ≤ side ∧ side ≤ 255)) (h : Fa F dst kind typ qp qs qd qsp qdp qk) (hr : 0 ≤ src ∧ src ≤ 255) (hn : 0 ≤ n ∧ n ≤ 255) :
    Calls Tryd.prog 3 #[.agg #[.int .u8 p, .int .u32 s, .int .u32 d, .int .u16 sp, .int .u16 dp, .int .u8 side], .agg F, .int .u8 src, .int .u8 n] w fun e w' => e = .returned (.bool true) ∧ Below w.heap.size w w' := by
  have HC := Lib.hid (fun W (hW : Tabs W) => tells_any F p s d sp dp side dst kind typ qp qs qd qsp qdp qk src n W h hW hx.1 hx.2.2.2.2.2 hr hn)
  have hsz : (Tryd.prog.info? 29).map (·.size) = some F.toList.length := by rw [info29, Array.length_toList, h.size]
  have Hi := Lib.hid hsz
  have HT := Lib.hid hT
  clear h hT hsz hx hr hn
  go_enter Tryd.func3, Tryd.ntmps3
  go_wp2_with (refine wpList_load_wide 29 _ rfl (by rfl) _ _ rfl F _ Tryd.underlying29 rfl Hi.out ?_ ?_; · (repeat (first | with_reducible assumption | (refine range_new' _ _ _ _ ?_; first | rfl | (simp; done)) | refine World.rangeAt_alloc ?_ _)))
  refine (HC.out _ (HT.out.below (by (repeat' (first | exact Below.refl _ _ | refine Below.alloc ?_ (by first | omega | (simp; done) | (simp; omega)) _))))).mono ?_
  rintro e w1 ⟨rfl, hb⟩
  have b1 : Below w.heap.size w w1 := bthen (by (repeat' (first | exact Below.refl _ _ | refine Below.alloc ?_ (by first | omega | (simp; done) | (simp; omega)) _))) hb
  clear hb
  go_wp2_with fail
  refine (awake_any _ (HT.out.below b1)).mono ?_
  rintro e w2 ⟨rfl, hb⟩
  go_wp2_with fail
  go_ret
  exact ⟨rfl, bthen b1 hb⟩

end Go.Proofs.YtapeminpgojeaaaDoor

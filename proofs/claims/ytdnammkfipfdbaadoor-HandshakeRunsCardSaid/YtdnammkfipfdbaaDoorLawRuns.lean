/-
  The walk of HandshakeRuns: Run returns what the reference gives, for every slice of packets.
-/
import Derived.Test.YtdnammkfipfdbaaDoorRuns
namespace Go.Proofs.YtdnammkfipfdbaaDoor
open Go.RowKit
set_option linter.unusedVariables false

/-- An argument that is a slice of packets. -/
structure SeenArg (w : World) (A : Option Addr) (c : Nat) (l : List Pk) : Prop where
  ok : ∀ p ∈ l, PkOk p
  max : c ≤ maxLen
  nil : A = none → l.length = 0 ∧ c = 0
  rd : Rd w A 2 (l.map pc)

/-- From an argument's cells to its packets. -/
theorem seens_of {w : World} {A : Option Addr} {css : List (List Value)} {cap : Nat} (h1 : css.length ≤ cap) (h2 : cap ≤ maxLen) (h3 : A = none → css = [] ∧ cap = 0) (hr : Rd w A 2 css) (ha : ∀ cs ∈ css, All2 [some .u8, some .u8] cs) : ∃ l : List Pk, css.length = l.length ∧ SeenArg w A cap l := by
  have hex : ∀ css : List (List Value), (∀ cs ∈ css, All2 [some .u8, some .u8] cs) → ∃ l : List Pk, css = l.map pc ∧ ∀ p ∈ l, PkOk p := by
    intro css
    induction css with
    | nil => intro _; exact ⟨[], rfl, by simp⟩
    | cons c r ih =>
      intro h
      obtain ⟨zs, rfl, hz⟩ := ih fun cs hcs => h cs (by simp [hcs])
      obtain ⟨z, c1, rfl, wz, hc1⟩ := all2_int (h c (by simp))
      obtain ⟨y, c2, rfl, wy, hc2⟩ := all2_int hc1
      obtain rfl := all2_nil hc2
      refine ⟨(z, y) :: zs, rfl, fun p hp => ?_⟩
      rcases List.mem_cons.1 hp with rfl | hp
      · exact ⟨(bounds_u8 wz).1, (bounds_u8 wz).2, (bounds_u8 wy).1, (bounds_u8 wy).2⟩
      · exact hz p hp
  obtain ⟨l, rfl, hz⟩ := hex css ha
  exact ⟨l, by simp, hz, h2, fun h => ⟨by simpa using (h3 h).1, (h3 h).2⟩, hr⟩

set_option maxHeartbeats 1000000 in
theorem handshakeRuns_walk (A : Option Addr) (l : List Pk) (n c : Nat) (w : World) (hT : Tab w) (hn : n = l.length) (hc : n ≤ c) (h : SeenArg w A c l) :
    Calls Tryd.prog 3 #[.slice A n c] w fun e w' => e = .returned (.bool true) ∧ Below w.heap.size w w' := by
  have HT := Lib.hid hT
  have H := Lib.hid h
  have Hn := Lib.hid hn
  clear hT h hn
  go_enter Tryd.func3, Tryd.ntmps3
  go_wp2_with fail
  refine (runs_any A l n c w HT.out Hn.out hc H.out.max (fun h => by rw [Hn.out]; exact H.out.nil h) H.out.ok H.out.rd).mono ?_
  rintro e w1 ⟨rfl, hb1⟩
  go_wp2_with fail
  refine (awake_any _ (HT.out.below hb1)).mono ?_
  rintro e w2 ⟨rfl, hb2⟩
  go_wp2_with fail
  go_ret
  exact ⟨rfl, bthen hb1 hb2⟩

end Go.Proofs.YtdnammkfipfdbaaDoor

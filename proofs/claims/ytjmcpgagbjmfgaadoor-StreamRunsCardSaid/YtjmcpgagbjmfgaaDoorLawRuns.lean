/-
  The walk of StreamRuns: Run returns what the reference gives, for every slice of packets.
-/
import Derived.Test.YtjmcpgagbjmfgaaDoorRunsB
import Derived.Test.YtjmcpgagbjmfgaaDoorTells
import Derived.Test.YtjmcpgagbjmfgaaDoorLaid
namespace Go.Proofs.YtjmcpgagbjmfgaaDoor
open Go.RowKit
set_option linter.unusedVariables false

/-- An argument that is a slice of packets. -/
structure SeenArg (w : World) (A : Option Addr) (c : Nat) (l : List Pkt) : Prop where
  ok : ∀ p ∈ l, PktOk p
  max : c ≤ maxLen
  nil : A = none → l.length = 0 ∧ c = 0
  rd : Rd w A 20 (l.map pcs)

/-- From an argument's cells to its packets. -/
theorem seens_of {w : World} {A : Option Addr} {css : List (List Value)} {cap : Nat} (h1 : css.length ≤ cap) (h2 : cap ≤ maxLen) (h3 : A = none → css = [] ∧ cap = 0) (hr : Rd w A 20 css) (ha : ∀ cs ∈ css, All2 (some .u8 :: K19) cs) : ∃ l : List Pkt, css.length = l.length ∧ SeenArg w A cap l := by
  have hex : ∀ css : List (List Value), (∀ cs ∈ css, All2 (some .u8 :: K19) cs) → ∃ l : List Pkt, css = l.map pcs ∧ ∀ p ∈ l, PktOk p := by
    intro css
    induction css with
    | nil => intro _; exact ⟨[], rfl, by simp⟩
    | cons c r ih =>
      intro h
      obtain ⟨zs, rfl, hz⟩ := ih fun cs hcs => h cs (by simp [hcs])
      obtain ⟨z, F, rfl, wz, hF⟩ := all2_int (h c (by simp))
      obtain ⟨kd, ty, hfa⟩ := fa_of hF
      refine ⟨⟨z, F, kd, ty⟩ :: zs, rfl, fun p hp => ?_⟩
      rcases List.mem_cons.1 hp with rfl | hp
      · exact ⟨⟨(bounds_u8 wz).1, (bounds_u8 wz).2⟩, hfa, hF⟩
      · exact hz p hp
  obtain ⟨l, rfl, hz⟩ := hex css ha
  exact ⟨l, by simp, hz, h2, fun h => ⟨by simpa using (h3 h).1, (h3 h).2⟩, hr⟩

set_option maxHeartbeats 1000000 in
theorem streamRuns_walk (A : Option Addr) (l : List Pkt) (n c : Nat) (w : World) (hA : Ans w) (hn : n = l.length) (hc : n ≤ c) (h : SeenArg w A c l) :
    Calls Tryd.prog 7 #[.slice A n c] w fun e w' => e = .returned (.bool true) ∧ Below w.heap.size w w' := by
  have HA := Lib.hid hA
  have H := Lib.hid h
  have Hn := Lib.hid hn
  clear hA h hn
  go_enter Tryd.func7, Tryd.ntmps7
  go_wp2_with fail
  refine (runs_any A l n c w HA.out Hn.out hc H.out.max (fun h => by rw [Hn.out]; exact H.out.nil h) H.out.ok H.out.rd).mono ?_
  rintro e w1 ⟨rfl, hb1⟩
  go_wp2_with fail
  refine (awake_any _ (HA.out.below hb1)).mono ?_
  rintro e w2 ⟨rfl, hb2⟩
  go_wp2_with fail
  go_ret
  exact ⟨rfl, bthen hb1 hb2⟩

end Go.Proofs.YtjmcpgagbjmfgaaDoor

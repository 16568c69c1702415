/-
  The walk of WindowOne, in parts: all ways.
-/
import Derived.Test.YtchephpmkommfaaOne00
import Derived.Test.YtchephpmkommfaaOne01
import Derived.Test.YtchephpmkommfaaOne10
import Derived.Test.YtchephpmkommfaaOne11
namespace Go.Proofs.Ytchephpmkommfaa
open Go.RowKit
set_option linter.unusedVariables false
set_option linter.unusedSimpArgs false

theorem nxt_range (b : Bool) (n to : Int) (h1 : 0 ≤ n ∧ n ≤ 4294967295) (h2 : 0 ≤ to ∧ to ≤ 4294967295) : 0 ≤ nxt b n to ∧ nxt b n to ≤ 4294967295 := by
  unfold nxt
  split
  · exact h2
  · exact h1
theorem windowOne_walk (a b : Sd) (d : Int) (F : Array Value) (flags seq ack win len : Int) (w : World) (hab : a.ok ∧ b.ok) (hd : 0 ≤ d ∧ d ≤ 255) (h : Fa F flags seq ack win len) :
    Calls Try.prog 10 #[.agg (trk a b), .int .u8 d, .agg F] w fun e w' => e = .returned (.bool true) ∧ Below w.heap.size w w' := by
  have hx : 0 ≤ (seq + room flags len) % 4294967296 ∧ (seq + room flags len) % 4294967296 ≤ 4294967295 := by omega
  by_cases hd1 : 1 < d
  · exact one_out a b F flags seq ack win len d _ _ w hd1 rfl rfl h (fun W => see_out a b F d W hd1)
  · obtain ⟨⟨⟨han, hak⟩, _⟩, ⟨hbn, hbk⟩, _⟩ := hab
    rcases (show d = 0 ∨ d = 1 by omega) with rfl | rfl
    · have hS := fun W => see0_any a b F flags seq ack win len W h ⟨han, hak⟩
      obtain ⟨xs, xa, xn, xk, xz⟩ := a
      obtain ⟨ys, ya, yn, yk, yz⟩ := b
      simp only at han hak hbn hbk
      have hn' := nxt_range xs xn _ han hx
      have hk' := nxt_range xa xk ack hak h.ba
      cases xs <;> cases xa <;> cases hf : bits .and .u8 flags 16 != 0
      · have hS' := hS
        simp only [seeS, hf] at hS'
        exact one_0000 ys ya xn xk xz yn yk yz _ xk F flags seq ack win len _ _ w rfl rfl h hS' hf han hn' hak hak 
      · have hS' := hS
        simp only [seeS, hf] at hS'
        exact one_0001 ys ya xn xk xz yn yk yz _ _ F flags seq ack win len _ _ w rfl rfl h hS' hf han hn' hak hk' 
      · have hS' := hS
        simp only [seeS, hf] at hS'
        exact one_0010 ys ya xn xk xz yn yk yz _ xk F flags seq ack win len _ _ w rfl rfl h hS' hf han hn' hak hak (aft_same _) 
      · have hS' := hS
        simp only [seeS, hf] at hS'
        exact one_0011 ys ya xn xk xz yn yk yz _ _ F flags seq ack win len _ _ w rfl rfl h hS' hf han hn' hak hk' (aft_nxt _ _) 
      · have hS' := hS
        simp only [seeS, hf] at hS'
        exact one_0100 ys ya xn xk xz yn yk yz _ xk F flags seq ack win len _ _ w rfl rfl h hS' hf han hn' hak hak (aft_nxt _ _) 
      · have hS' := hS
        simp only [seeS, hf] at hS'
        exact one_0101 ys ya xn xk xz yn yk yz _ _ F flags seq ack win len _ _ w rfl rfl h hS' hf han hn' hak hk' (aft_nxt _ _) 
      · have hS' := hS
        simp only [seeS, hf] at hS'
        exact one_0110 ys ya xn xk xz yn yk yz _ xk F flags seq ack win len _ _ w rfl rfl h hS' hf han hn' hak hak (aft_nxt _ _) (aft_same _) 
      · have hS' := hS
        simp only [seeS, hf] at hS'
        exact one_0111 ys ya xn xk xz yn yk yz _ _ F flags seq ack win len _ _ w rfl rfl h hS' hf han hn' hak hk' (aft_nxt _ _) (aft_nxt _ _) 
    · have hS := fun W => see1_any a b F flags seq ack win len W h ⟨hbn, hbk⟩
      obtain ⟨xs, xa, xn, xk, xz⟩ := a
      obtain ⟨ys, ya, yn, yk, yz⟩ := b
      simp only at han hak hbn hbk
      have hn' := nxt_range ys yn _ hbn hx
      have hk' := nxt_range ya yk ack hbk h.ba
      cases ys <;> cases ya <;> cases hf : bits .and .u8 flags 16 != 0
      · have hS' := hS
        simp only [seeS, hf] at hS'
        exact one_1000 xs xa yn yk yz xn xk xz _ yk F flags seq ack win len _ _ w rfl rfl h hS' hf hbn hn' hbk hbk 
      · have hS' := hS
        simp only [seeS, hf] at hS'
        exact one_1001 xs xa yn yk yz xn xk xz _ _ F flags seq ack win len _ _ w rfl rfl h hS' hf hbn hn' hbk hk' 
      · have hS' := hS
        simp only [seeS, hf] at hS'
        exact one_1010 xs xa yn yk yz xn xk xz _ yk F flags seq ack win len _ _ w rfl rfl h hS' hf hbn hn' hbk hbk (aft_same _) 
      · have hS' := hS
        simp only [seeS, hf] at hS'
        exact one_1011 xs xa yn yk yz xn xk xz _ _ F flags seq ack win len _ _ w rfl rfl h hS' hf hbn hn' hbk hk' (aft_nxt _ _) 
      · have hS' := hS
        simp only [seeS, hf] at hS'
        exact one_1100 xs xa yn yk yz xn xk xz _ yk F flags seq ack win len _ _ w rfl rfl h hS' hf hbn hn' hbk hbk (aft_nxt _ _) 
      · have hS' := hS
        simp only [seeS, hf] at hS'
        exact one_1101 xs xa yn yk yz xn xk xz _ _ F flags seq ack win len _ _ w rfl rfl h hS' hf hbn hn' hbk hk' (aft_nxt _ _) 
      · have hS' := hS
        simp only [seeS, hf] at hS'
        exact one_1110 xs xa yn yk yz xn xk xz _ yk F flags seq ack win len _ _ w rfl rfl h hS' hf hbn hn' hbk hbk (aft_nxt _ _) (aft_same _) 
      · have hS' := hS
        simp only [seeS, hf] at hS'
        exact one_1111 xs xa yn yk yz xn xk xz _ _ F flags seq ack win len _ _ w rfl rfl h hS' hf hbn hn' hbk hk' (aft_nxt _ _) (aft_nxt _ _) 

end Go.Proofs.Ytchephpmkommfaa

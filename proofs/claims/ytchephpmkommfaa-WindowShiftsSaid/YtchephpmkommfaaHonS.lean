/-
  The variables of an honest conversation where they lie, seen from the side that sends; its laws. No conditions.
-/
import Derived.Test.YtchephpmkommfaaHonP
import Derived.Test.YtchephpmkommfaaLawTells
namespace Go.Proofs.Ytchephpmkommfaa
open Go.RowKit
set_option linter.unusedVariables false
set_option linter.unusedSimpArgs false

def tk (d : Nat) (x y : Sd) : Array Value := if d = 0 then trk x y else trk y x
structure Hs (W : World) (bt b6 b7 b8 dn en : Nat) (x y : Sd) (n no k ko w wo : Int) : Prop where
  de : (dn = 0 ∧ en = 1) ∨ (dn = 1 ∧ en = 0)
  hx : Half x n w no ko
  hy : Half y no wo n k
  t : W.rangeAt bt 0 (tk dn x y).toList
  tt : W.there bt 0 10
  n6 : W.cell? ⟨b6, dn, none⟩ = some (.int .u32 n)
  o6 : W.cell? ⟨b6, en, none⟩ = some (.int .u32 no)
  t6 : W.there b6 0 2
  n7 : W.cell? ⟨b7, dn, none⟩ = some (.int .u32 k)
  o7 : W.cell? ⟨b7, en, none⟩ = some (.int .u32 ko)
  t7 : W.there b7 0 2
  n8 : W.cell? ⟨b8, dn, none⟩ = some (.int .i64 w)
  o8 : W.cell? ⟨b8, en, none⟩ = some (.int .i64 wo)
  t8 : W.there b8 0 2
theorem tk_swap (d e : Nat) (x y : Sd) (h : (d = 0 ∧ e = 1) ∨ (d = 1 ∧ e = 0)) : tk d x y = tk e y x := by
  rcases h with ⟨rfl, rfl⟩ | ⟨rfl, rfl⟩ <;> rfl
theorem Hs.swap {W : World} {bt b6 b7 b8 dn en : Nat} {x y : Sd} {n no k ko w wo : Int} (h : Hs W bt b6 b7 b8 dn en x y n no k ko w wo) : Hs W bt b6 b7 b8 en dn y x no n ko k wo w :=
  ⟨h.de.symm.imp (fun ⟨a, b⟩ => ⟨b, a⟩) (fun ⟨a, b⟩ => ⟨b, a⟩), h.hy, h.hx, tk_swap dn en x y h.de ▸ h.t, h.tt, h.o6, h.n6, h.t6, h.o7, h.n7, h.t7, h.o8, h.n8, h.t8⟩
theorem Hs.below {W W' : World} {bt b6 b7 b8 dn en : Nat} {x y : Sd} {n no k ko w wo : Int} (h : Hs W bt b6 b7 b8 dn en x y n no k ko w wo) (hb : Below W.heap.size W W') : Hs W' bt b6 b7 b8 dn en x y n no k ko w wo :=
  ⟨h.de, h.hx, h.hy, range_below hb (there_lt h.tt) h.t, there_below hb (there_lt h.tt) h.tt, kc hb h.n6, kc hb h.o6, there_below hb (there_lt h.t6) h.t6, kc hb h.n7, kc hb h.o7, there_below hb (there_lt h.t7) h.t7, kc hb h.n8, kc hb h.o8, there_below hb (there_lt h.t8) h.t8⟩
theorem tk_size (d : Nat) (x y : Sd) : (tk d x y).size = 10 := by unfold tk; split <;> rfl
theorem tk_one (d : Nat) (x y : Sd) : (tk d x y).all (·.oneCell') = true := by unfold tk; split <;> simp [trk, Sd.cells, Value.oneCell']
theorem tk_own {dn en : Nat} (x y : Sd) (h : (dn = 0 ∧ en = 1) ∨ (dn = 1 ∧ en = 0)) (i : Nat) (v : Value) (hv : x.cells[i]? = some v) : (tk dn x y).toList[dn * 5 + i]? = some v := by
  have hi : i < 5 := (List.getElem?_eq_some_iff.1 hv).1
  rcases h with ⟨rfl, rfl⟩ | ⟨rfl, rfl⟩ <;> rcases (by omega : i = 0 ∨ i = 1 ∨ i = 2 ∨ i = 3 ∨ i = 4) with rfl | rfl | rfl | rfl | rfl <;> exact hv
theorem tk_oth {dn en : Nat} (x y : Sd) (h : (dn = 0 ∧ en = 1) ∨ (dn = 1 ∧ en = 0)) (i : Nat) (v : Value) (hv : y.cells[i]? = some v) : (tk dn x y).toList[en * 5 + i]? = some v := by
  rw [tk_swap dn en x y h]
  exact tk_own y x (h.symm.imp (fun ⟨a, b⟩ => ⟨b, a⟩) (fun ⟨a, b⟩ => ⟨b, a⟩)) i v hv
theorem fits_tk {dn en : Nat} (x y : Sd) (F : Array Value) (flags seq ack win len : Int) (w : World) (hde : (dn = 0 ∧ en = 1) ∨ (dn = 1 ∧ en = 0)) (h : Fa F flags seq ack win len) (hy : y.wf) :
    Calls Try.prog 17 #[.agg (tk dn x y), .int .u8 (dn : Int), .agg F] w fun e w' => e = .returned (.bool (fit y seq)) ∧ Below w.heap.size w w' := by
  rcases hde with ⟨rfl, rfl⟩ | ⟨rfl, rfl⟩
  · exact fits0_any x y F flags seq ack win len w h hy
  · exact fits1_any y x F flags seq ack win len w h hy
theorem see_tk {dn en : Nat} (x y : Sd) (F : Array Value) (flags seq ack win len : Int) (w : World) (hde : (dn = 0 ∧ en = 1) ∨ (dn = 1 ∧ en = 0)) (h : Fa F flags seq ack win len) (hx : x.wf) :
    Calls Try.prog 14 #[.agg (tk dn x y), .int .u8 (dn : Int), .agg F] w fun e w' => e = .returned (.agg (tk dn (seeS x flags seq ack win len) y)) ∧ Below w.heap.size w w' := by
  rcases hde with ⟨rfl, rfl⟩ | ⟨rfl, rfl⟩
  · exact see0_any x y F flags seq ack win len w h hx
  · exact see1_any y x F flags seq ack win len w h hx
theorem believe_tk {dn en : Nat} (x y : Sd) (F : Array Value) (flags seq ack win len : Int) (w : World) (hde : (dn = 0 ∧ en = 1) ∨ (dn = 1 ∧ en = 0)) (h : Fa F flags seq ack win len) (hx : x.wf) :
    Calls Try.prog 16 #[.agg (tk dn x y), .int .u8 (en : Int), .agg F] w fun e w' => e = .returned (.bool (bel y x flags seq ack)) ∧ Below w.heap.size w w' := by
  rcases hde with ⟨rfl, rfl⟩ | ⟨rfl, rfl⟩
  · exact believe1_any x y F flags seq ack win len w h hx
  · exact believe0_any y x F flags seq ack win len w h hx
/-- The packet of a round. -/
def hpk (seq ack win len : Int) : Array Value := #[.int .u8 0, .int .u32 0, .int .u32 0, .int .u16 0, .int .u16 0, .int .u8 1, .int .u8 16, .int .u8 0, .int .u8 0, .int .u32 seq, .int .u32 ack, .int .i64 win, .int .i64 len, .int .u8 0, .int .u32 0, .int .u32 0, .int .u16 0, .int .u16 0, .int .u8 0]
theorem fa_hpk (seq ack win len : Int) (h2 : 0 ≤ seq ∧ seq ≤ 4294967295) (h3 : 0 ≤ ack ∧ ack ≤ 4294967295) (h4 : 0 ≤ win ∧ win ≤ 65535) (h5 : 0 ≤ len ∧ len ≤ 65535) : Fa (hpk seq ack win len) 16 seq ack win len :=
  ⟨rfl, rfl, rfl, rfl, rfl, rfl, by simp [hpk, Value.oneCell'], by decide, h2, h3, by omega, by omega⟩
theorem hon_neq (S : Sd) (W : World) : (binOp .neq 27 (.agg #[.bool S.seen, .bool S.acked, .int .u32 S.next, .int .u32 S.ack, .int .i64 S.size]) (.agg #[.bool S.seen, .bool S.acked, .int .u32 S.next, .int .u32 S.ack, .int .i64 S.size])).run Try.prog W = .ok (.bool false) W := by
  obtain ⟨a, b, c, d, e⟩ := S
  rw [run_neq_struct]
  go_simp

end Go.Proofs.Ytchephpmkommfaa

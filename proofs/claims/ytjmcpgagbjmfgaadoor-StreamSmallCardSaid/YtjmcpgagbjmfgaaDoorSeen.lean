/-
  The contract of the laws' own Word.seen: the packet of a word.
-/
import Derived.Test.YtjmcpgagbjmfgaaDoorRight
import Derived.StillTailTactics
namespace Go.Proofs.YtjmcpgagbjmfgaaDoor
open Go.RowKit
set_option linter.unusedVariables false

def kdL : List Int := [2, 3, 4, 2, 3, 4, 1, 5]
def tyL (t : Int) : List Int := [8, 0, 13, 14, 15, 16, 17, 18, 8, t]
/-- The kind and the type of a word's packet. -/
def kdW (k : Int) : Int := kdL.getD (k % 8).toNat 0
def tyW (t : Int) : Int := (tyL t).getD (t % 10).toNat 0
/-- The packet's facts. -/
def sF (kind flags typ : Int) : List Value := [.int .u8 0, .int .u32 0, .int .u32 0, .int .u16 0, .int .u16 0, .int .u8 kind, .int .u8 flags, .int .u8 typ, .int .u8 0, .int .u32 0, .int .u32 0, .int .i64 0, .int .i64 0, .int .u8 0, .int .u32 0, .int .u32 0, .int .u16 0, .int .u16 0, .int .u8 0]

theorem info35 : (Tryd.prog.info? 35).map (·.size) = some 20 := by kernel_rfl
theorem results_wide {P : Program} {fn : Func} {p : Tmp} {ty : TypeId} {a : Addr} {v : Value} {w : World} (h : fn.results = #[.cell p ty]) (tmps : Array Value) (hp : tmps.getD p undef = .pointer (some a)) (hl : (loadVar ty a).run P w = .ok v w) : (results fn tmps).run P w = .ok v w := by
  rw [Array.getD_eq_getD_getElem?] at hp
  simp only [results, h]
  simp [hp, asAddr, hl]
theorem heap_alloc_last' (w : World) (o : Obj) (n : Nat) (h : w.heap.size = n) : (w.alloc o).heap[n]? = some o := h ▸ heap_alloc_last w o

set_option maxRecDepth 100000 in
set_option maxHeartbeats 4000000 in
theorem seen_core (d k t kind typ : Int) (a b : Nat) (w : World) (hd : 0 ≤ d ∧ d ≤ 255) (hk : 0 ≤ k ∧ k ≤ 255) (ht : 0 ≤ t ∧ t ≤ 255) (ha : Hid (k % 8 = a)) (hb : Hid (t % 10 = b))
    (hka : Hid ((#[.int .u8 2, .int .u8 3, .int .u8 4, .int .u8 2, .int .u8 3, .int .u8 4, .int .u8 1, .int .u8 5] : Array Value)[a]? = some (.int .u8 kind))) (htb : Hid ((#[.int .u8 8, .int .u8 0, .int .u8 13, .int .u8 14, .int .u8 15, .int .u8 16, .int .u8 17, .int .u8 18, .int .u8 8, .int .u8 t] : Array Value)[b]? = some (.int .u8 typ))) :
    Calls Tryd.prog 12 #[.agg #[.int .u8 d, .int .u8 k, .int .u8 t]] w fun e w' => e = .returned (.agg (.int .u8 (d % 2) :: sF kind k typ).toArray) ∧ Below w.heap.size w w' := by
  have A0 : (0 : Int) ≤ (a : Int) := by omega
  have A1 : (a : Int) < 8 := by have := ha.out; omega
  have B0 : (0 : Int) ≤ (b : Int) := by omega
  have B1 : (b : Int) < 10 := by have := hb.out; omega
  have E1 : k.tmod 8 = (a : Int) := by rw [Int.tmod_eq_emod_of_nonneg hk.1]; exact ha.out
  have E2 : t.tmod 10 = (b : Int) := by rw [Int.tmod_eq_emod_of_nonneg ht.1]; exact hb.out
  have E3 : d.tmod 2 = d % 2 := Int.tmod_eq_emod_of_nonneg hd.1
  have ka := hka.out
  have tb := htb.out
  clear ha hb hka htb
  go_enter Tryd.func12, Tryd.ntmps12
  go_wp2_with fail
  generalize hV : World.alloc _ _ = V
  have v0 : V.cell? ⟨w.heap.size, 0, none⟩ = some (.int .u8 d) := by subst hV; simp [go_sem]
  have v1 : V.cell? ⟨w.heap.size, 1, none⟩ = some (.int .u8 k) := by subst hV; simp [go_sem]
  have v2 : V.cell? ⟨w.heap.size, 2, none⟩ = some (.int .u8 t) := by subst hV; simp [go_sem]
  have v3 : V.cell? ⟨w.heap.size + 1 + 1, a, none⟩ = some (.int .u8 kind) := by subst hV; simp only [go_sem, World.size_alloc, Nat.lt_add_one, World.cell?_alloc_past]; exact ka
  have v4 : V.cell? ⟨w.heap.size + 1 + 1 + 1, b, none⟩ = some (.int .u8 typ) := by subst hV; rw [cell_of_row _ _ b _ _ (0, 0) (heap_alloc_last' _ _ _ (by simp))]; exact tb
  have hbV : Below w.heap.size w V := by subst hV; (repeat' (first | exact Below.refl _ _ | refine Below.alloc ?_ (by first | omega | (simp; done) | (simp; omega)) _))
  have ht : V.there (w.heap.size + 1) 0 20 := by subst hV; (repeat (first | (refine there_new _ _ _ _ _ ?_ rfl; first | rfl | (simp; done)) | refine World.there_alloc ?_ _))
  clear hV ka tb
  go_still_tail 17, (by kernel_rfl)
  refine wpList_store_wide 35 _ _ rfl rfl (w.heap.size + 1) 0 (.int .u8 (d % 2) :: sF kind k typ).toArray rfl rfl w.heap.size w info35 (by simp [sF, Value.oneCell']) hbV.drew (by omega) ((World.there_drew _ _ _ _).2 ht) ?_
  intro w' hb1 _ hr1 _ _ _
  go_wp2_with fail
  refine bodyPost_ret (v := .agg (.int .u8 (d % 2) :: sF kind k typ).toArray) ?_ rfl ⟨rfl, hb1⟩
  have hl := run_loadVar_mid (P := Tryd.prog) w' (w.heap.size + 1) 0 35 (.int .u8 (d % 2) :: sF kind k typ) _ (by simpa using hr1) Tryd.underlying35 rfl info35
  exact results_wide Tryd.results12 _ rfl hl

theorem kdW_at (k : Int) (h : 0 ≤ k) : (#[.int .u8 2, .int .u8 3, .int .u8 4, .int .u8 2, .int .u8 3, .int .u8 4, .int .u8 1, .int .u8 5] : Array Value)[(k % 8).toNat]? = some (.int .u8 (kdW k)) := by
  have : ∀ i : Fin 8, (#[.int .u8 2, .int .u8 3, .int .u8 4, .int .u8 2, .int .u8 3, .int .u8 4, .int .u8 1, .int .u8 5] : Array Value)[i.1]? = some (.int .u8 (kdL.getD i.1 0)) := by
    intro i
    match i with
    | 0 | 1 | 2 | 3 | 4 | 5 | 6 | 7 => rfl
  exact this ⟨(k % 8).toNat, by omega⟩
theorem tyW_at (t : Int) (h : 0 ≤ t) : (#[.int .u8 8, .int .u8 0, .int .u8 13, .int .u8 14, .int .u8 15, .int .u8 16, .int .u8 17, .int .u8 18, .int .u8 8, .int .u8 t] : Array Value)[(t % 10).toNat]? = some (.int .u8 (tyW t)) := by
  have : ∀ i : Fin 10, (#[.int .u8 8, .int .u8 0, .int .u8 13, .int .u8 14, .int .u8 15, .int .u8 16, .int .u8 17, .int .u8 18, .int .u8 8, .int .u8 t] : Array Value)[i.1]? = some (.int .u8 ((tyL t).getD i.1 0)) := by
    intro i
    match i with
    | 0 | 1 | 2 | 3 | 4 | 5 | 6 | 7 | 8 | 9 => rfl
  exact this ⟨(t % 10).toNat, by omega⟩

/-- Word.seen, whatever the word. -/
theorem seen_any (d k t : Int) (w : World) (hd : 0 ≤ d ∧ d ≤ 255) (hk : 0 ≤ k ∧ k ≤ 255) (ht : 0 ≤ t ∧ t ≤ 255) :
    Calls Tryd.prog 12 #[.agg #[.int .u8 d, .int .u8 k, .int .u8 t]] w fun e w' => e = .returned (.agg (.int .u8 (d % 2) :: sF (kdW k) k (tyW t)).toArray) ∧ Below w.heap.size w w' :=
  seen_core d k t (kdW k) (tyW t) (k % 8).toNat (t % 10).toNat w hd hk ht (show _ = _ by omega) (show _ = _ by omega) (kdW_at k hk.1) (tyW_at t ht.1)

theorem kdW_range (k : Int) (h : 0 ≤ k) : 1 ≤ kdW k ∧ kdW k ≤ 5 := by
  have : ∀ i : Fin 8, 1 ≤ kdL.getD i.1 0 ∧ kdL.getD i.1 0 ≤ 5 := by decide +kernel
  exact this ⟨(k % 8).toNat, by omega⟩
theorem tyW_range (t : Int) (h : 0 ≤ t ∧ t ≤ 255) : 0 ≤ tyW t ∧ tyW t ≤ 255 := by
  have : ∀ i : Fin 10, 0 ≤ (tyL t).getD i.1 0 ∧ (tyL t).getD i.1 0 ≤ 255 := by
    rintro ⟨i, hi⟩
    match i, hi with
    | 0, _ | 1, _ | 2, _ | 3, _ | 4, _ | 5, _ | 6, _ | 7, _ | 8, _ => simp [tyL]
    | 9, _ => simpa [tyL] using h
  exact this ⟨(t % 10).toNat, by omega⟩
theorem fa_sF (kind flags typ : Int) (h : 0 ≤ kind ∧ kind ≤ 255) (h1 : 0 ≤ typ ∧ typ ≤ 255) : Fa (sF kind flags typ).toArray kind typ := ⟨rfl, rfl, rfl, h, h1⟩

end Go.Proofs.YtjmcpgagbjmfgaaDoor

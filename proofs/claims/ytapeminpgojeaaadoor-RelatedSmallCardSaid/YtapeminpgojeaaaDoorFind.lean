/-
  The contracts of Find's closure, of first at flows, and of Find.
-/
import Derived.Test.YtapeminpgojeaaaDoorQuotes
import Derived.Test.YtapeminpgojeaaaDoorSlice
import Derived.Test.YtapeminpgojeaaaDoorWide
namespace Go.Proofs.YtapeminpgojeaaaDoor
open Go.RowKit
set_option linter.unusedVariables false
set_option linter.unusedSimpArgs false

set_option maxRecDepth 100000 in
set_option maxHeartbeats 4000000 in
/-- Find's closure: what the error quotes of one flow. -/
theorem find1_any (F : Array Value) (p s d sp dp side dst kind typ qp qs qd qsp qdp qk src : Int) (bf bs : Nat) (w : World) (h : Fa F dst kind typ qp qs qd qsp qdp qk) (hT : Tabs w) (hp : 0 ≤ p ∧ p ≤ 255) (hs : 0 ≤ side) (hr : 0 ≤ src)
    (hF : w.rangeAt bf 0 F.toList) (hlf : bf < w.heap.size) (hS : w.cell? ⟨bs, 0, none⟩ = some (.int .u8 src)) :
    Calls Tryd.prog 29 #[.agg #[.int .u8 p, .int .u32 s, .int .u32 d, .int .u16 sp, .int .u16 dp, .int .u8 side], .pointer (some ⟨bf, 0, none⟩), .pointer (some ⟨bs, 0, none⟩)] w fun e w' =>
      e = .returned (.tuple #[.int .u8 (quo p s d sp dp side dst kind typ qp qs qd qsp qdp qk src).1, .bool (quo p s d sp dp side dst kind typ qp qs qd qsp qdp qk src).2]) ∧ Below w.heap.size w w' := by
  have hsz : (Tryd.prog.info? 29).map (·.size) = some F.toList.length := by rw [info29, Array.length_toList, h.size]
  have Hsz := Lib.hid hsz
  have HQ := Lib.hid (fun W (hW : Tabs W) => quotes_any F p s d sp dp side dst kind typ qp qs qd qsp qdp qk src W h hW hp hs hr)
  have HT := Lib.hid hT
  have hls := cell_lt hS
  clear h hsz hT
  generalize quo p s d sp dp side dst kind typ qp qs qd qsp qdp qk src = q at *
  go_enter Tryd.func29, Tryd.ntmps29
  go_wp2_with (refine wpList_load_wide 29 _ rfl (by rfl) _ _ rfl F _ Tryd.underlying29 rfl Hsz.out ?_ ?_; · (repeat (first | with_reducible exact hF | refine World.rangeAt_alloc ?_ _)))
  refine (HQ.out _ (HT.out.below (by (repeat' (first | exact Below.refl _ _ | refine Below.setCell ?_ (by first | omega | (simp; done) | (simp; omega)) _ | refine Below.alloc ?_ (by first | omega | (simp; done) | (simp; omega)) _))))).mono ?_
  rintro e w2 ⟨rfl, hb⟩
  have b2 : Below w.heap.size w w2 := bthen (by (repeat' (first | exact Below.refl _ _ | refine Below.setCell ?_ (by first | omega | (simp; done) | (simp; omega)) _ | refine Below.alloc ?_ (by first | omega | (simp; done) | (simp; omega)) _))) hb
  clear hb
  go_wp2_with fail
  exact bodyPost_ret (v := .tuple #[.int .u8 q.1, .bool q.2]) (by simp [results, Tryd.results29, go_sem]) rfl ⟨rfl, b2⟩

/-- A flow. -/
structure Fl where
  p : Int
  s : Int
  d : Int
  sp : Int
  dp : Int
  side : Int
def Fl.arr (x : Fl) : Array Value := #[.int .u8 x.p, .int .u32 x.s, .int .u32 x.d, .int .u16 x.sp, .int .u16 x.dp, .int .u8 x.side]
def Fl.cells (x : Fl) : List Value := x.arr.toList
/-- What first gives of a list, its first element numbered n. -/
def fst1 (f : Fl → Int × Bool) : List Fl → Nat → Int × Int × Bool
  | [], _ => (-1, 0, false)
  | x :: r, n => if (f x).2 then (n, (f x).1, true) else fst1 f r (n + 1)
theorem info27 : (Tryd.prog.info? 27).map (·.size) = some 6 := by kernel_rfl

set_option maxRecDepth 100000 in
set_option maxHeartbeats 4000000 in
theorem first_any (f : Fl → Int × Bool) (fs : List Fl) (A : Option Addr) (cap : Nat) (pf ps : Value) (w : World) (hR : Rd w A 6 (fs.map Fl.cells)) (hn : fs.length ≤ 4611686018427387904)
    (hC : ∀ x ∈ fs, ∀ W, Below w.heap.size w W → Calls Tryd.prog 29 #[.agg x.arr, pf, ps] W fun e w' => e = .returned (.tuple #[.int .u8 (f x).1, .bool (f x).2]) ∧ Below W.heap.size W w') :
    Calls Tryd.prog 28 #[.slice A fs.length cap, .func (.func 29) #[] #[pf, ps]] w fun e w' =>
      e = .returned (.tuple #[.int .i64 (fst1 f fs 0).1, .int .u8 (fst1 f fs 0).2.1, .bool (fst1 f fs 0).2.2]) ∧ Below w.heap.size w w' := by
  have HR := Lib.hid hR
  have HC := Lib.hid hC
  clear hR hC
  go_enter Tryd.func28, Tryd.ntmps28
  go_wp2_with fail
  go_loopw [14] (fun i wr => ∃ k : Nat, k ≤ fs.length ∧ i = .int .i64 k ∧ fst1 f fs 0 = fst1 f (fs.drop k) k ∧ Below w.heap.size w wr) (fun i _ => fs.length - (intOf i).toNat)
  case atStart => exact ⟨0, by omega, rfl, by simp, Below.refl _ _⟩
  case round =>
    obtain ⟨k, hk, rfl, hf, hb⟩ := hrel
    by_cases hkl : k < fs.length
    · obtain ⟨b, off, rfl, hlt, hc⟩ := HR.out.mem (by intro e; rw [List.map_eq_nil_iff] at e; subst e; simp at hkl)
      obtain ⟨x, hx⟩ : ∃ x, fs[k]? = some x := ⟨fs[k], List.getElem?_eq_getElem hkl⟩
      have r0 : wr.rangeAt b (off + k * 6) x.arr.toList := fun j v hv => (hb.cell (p := ⟨b, off + k * 6 + j, none⟩) hlt).trans (hc k x.cells (by rw [List.getElem?_map, hx]; rfl) j v hv)
      have hd : decide ((k : Int) < fs.length) = true := by simp; omega
      have hmem : x ∈ fs := List.mem_of_getElem? hx
      have hdrop : fs.drop k = x :: fs.drop (k + 1) := by
        rw [List.drop_eq_getElem_cons hkl]
        rw [List.getElem?_eq_getElem hkl] at hx
        rw [Option.some.inj hx]
      have hq := HC.out x hmem
      have hcell : ∀ j v, x.cells[j]? = some v → wr.cell? ⟨b, off + k * 6 + j, none⟩ = some v := fun j v hv => (hb.cell (p := ⟨b, off + k * 6 + j, none⟩) hlt).trans (hc k x.cells (by rw [List.getElem?_map, hx]; rfl) j v hv)
      have q0 := hcell 0 _ rfl
      have q1 := hcell 1 _ rfl
      have q2 := hcell 2 _ rfl
      have q3 := hcell 3 _ rfl
      have q4 := hcell 4 _ rfl
      have q5 := hcell 5 _ rfl
      rw [Nat.add_zero] at q0
      have hbb : b < wr.heap.size := Nat.lt_of_lt_of_le hlt hb.size
      have hf1 : fst1 f (fs.drop k) k = if (f x).2 then ((k : Int), (f x).1, true) else fst1 f (fs.drop (k + 1)) (k + 1) := by rw [hdrop]; rfl
      rw [hf1] at hf
      simp only [Fl.arr] at hq
      clear hcell r0 hdrop hf1 hx hmem hc HC
      generalize f x = y at *
      obtain ⟨y1, y2⟩ := y
      simp only at hf hq
      go_wp2_with fail
      refine (hq _ (hb.alloc (by first | omega | exact hb.size | simp) _)).mono ?_
      rintro e w2 ⟨rfl, hb2⟩
      have b2 : Below w.heap.size w w2 := bthen (hb.alloc hb.size _) hb2
      clear hb2 q0 q1 q2 q3 q4 q5 hq
      cases y2 with
      | true =>
        rw [if_pos rfl] at hf
        go_wp2_with fail
        rw [hf]
        exact bodyPost_ret (v := .tuple #[.int .i64 k, .int .u8 y1, .bool true]) (by simp [results, Tryd.results28, go_sem]) rfl ⟨rfl, b2⟩
      | false =>
        rw [if_neg (by decide)] at hf
        go_wp2_with fail
        exact ⟨⟨k + 1, by omega, by go_num, hf, b2⟩, by simp [intOf]; omega⟩
    · obtain rfl : k = fs.length := by omega
      rw [List.drop_length] at hf
      go_wp2_with fail
      rw [hf]
      exact bodyPost_ret (v := .tuple #[.int .i64 (-1), .int .u8 0, .bool false]) (by simp [results, Tryd.results28, go_sem]) rfl ⟨rfl, hb⟩

/-- What Quotes gives of a flow. -/
def Fl.quo (x : Fl) (dst kind typ qp qs qd qsp qdp qk src : Int) : Int × Bool := Go.Proofs.YtapeminpgojeaaaDoor.quo x.p x.s x.d x.sp x.dp x.side dst kind typ qp qs qd qsp qdp qk src

set_option maxRecDepth 100000 in
set_option maxHeartbeats 4000000 in
/-- Find: the first flow of which the error quotes. -/
theorem find_any (F : Array Value) (fs : List Fl) (A : Option Addr) (cap : Nat) (dst kind typ qp qs qd qsp qdp qk src : Int) (w : World) (h : Fa F dst kind typ qp qs qd qsp qdp qk) (hT : Tabs w) (hr : 0 ≤ src)
    (hR : Rd w A 6 (fs.map Fl.cells)) (hn : fs.length ≤ 4611686018427387904) (hfs : ∀ x ∈ fs, (0 ≤ x.p ∧ x.p ≤ 255) ∧ 0 ≤ x.side) :
    Calls Tryd.prog 22 #[.slice A fs.length cap, .agg F, .int .u8 src] w fun e w' =>
      e = .returned (.tuple #[.int .i64 (fst1 (·.quo dst kind typ qp qs qd qsp qdp qk src) fs 0).1, .int .u8 (fst1 (·.quo dst kind typ qp qs qd qsp qdp qk src) fs 0).2.1, .bool (fst1 (·.quo dst kind typ qp qs qd qsp qdp qk src) fs 0).2.2]) ∧ Below w.heap.size w w' := by
  have H := Lib.hid (fun (bf bs : Nat) (W : World) (hb : Below w.heap.size w W) (hF : W.rangeAt bf 0 F.toList) (hlf : bf < W.heap.size) (hS : W.cell? ⟨bs, 0, none⟩ = some (.int .u8 src)) =>
    first_any (·.quo dst kind typ qp qs qd qsp qdp qk src) fs A cap (.pointer (some ⟨bf, 0, none⟩)) (.pointer (some ⟨bs, 0, none⟩)) W (hR.below hb) hn
      fun x hx V hV => find1_any F x.p x.s x.d x.sp x.dp x.side dst kind typ qp qs qd qsp qdp qk src bf bs V h ((hT.below hb).below hV) (hfs x hx).1 (hfs x hx).2 hr (range_below hV hlf hF) (Nat.lt_of_lt_of_le hlf hV.size) (kc hV hS))
  clear h hT hR
  generalize fst1 (·.quo dst kind typ qp qs qd qsp qdp qk src) fs 0 = y at *
  go_enter Tryd.func22, Tryd.ntmps22
  go_wp2_with fail
  refine (H.out _ _ _ (by (repeat' (first | exact Below.refl _ _ | refine Below.setCell ?_ (by first | omega | (simp; done) | (simp; omega)) _ | refine Below.alloc ?_ (by first | omega | (simp; done) | (simp; omega)) _))) (by (repeat (first | (refine range_new' _ _ _ _ ?_; first | rfl | (simp; done)) | refine World.rangeAt_alloc ?_ _))) (by simp; try omega) (by simp [go_sem])).mono ?_
  rintro e w2 ⟨rfl, hb⟩
  have b2 : Below w.heap.size w w2 := bthen (by (repeat' (first | exact Below.refl _ _ | refine Below.setCell ?_ (by first | omega | (simp; done) | (simp; omega)) _ | refine Below.alloc ?_ (by first | omega | (simp; done) | (simp; omega)) _))) hb
  clear hb
  go_wp2_with fail
  exact bodyPost_ret (v := .tuple #[.int .i64 y.1, .int .u8 y.2.1, .bool y.2.2]) (by simp [results, Tryd.results22, go_sem]) rfl ⟨rfl, b2⟩

end Go.Proofs.YtapeminpgojeaaaDoor

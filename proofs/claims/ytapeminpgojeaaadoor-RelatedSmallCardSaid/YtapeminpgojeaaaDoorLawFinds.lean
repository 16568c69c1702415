/-
  The contract of the laws' own 'finds' at any list, and the walk of RelatedFinds: Find returns the first flow that the error quotes.
-/
import Derived.Test.YtapeminpgojeaaaDoorFinds
import Derived.Test.YtapeminpgojeaaaDoorAwake
import Derived.Test.YtapeminpgojeaaaDoorLaid
namespace Go.Proofs.YtapeminpgojeaaaDoor
open Go.RowKit
set_option linter.unusedVariables false
set_option linter.unusedSimpArgs false

set_option maxRecDepth 100000 in
set_option maxHeartbeats 1000000 in
theorem finds_long (A : Option Addr) (n cap : Nat) (F : Array Value) (src : Int) (w : World) (hn : 100 < n) :
    Calls Tryd.prog 20 #[.slice A n cap, .agg F, .int .u8 src] w fun e w' => e = .returned (.bool true) ∧ Below w.heap.size w w' := by
  have hd : decide ((100 : Int) < n) = true := by simp; omega
  go_enter Tryd.func20, Tryd.ntmps20
  go_wp2_with fail
  go_ret
  exact ⟨rfl, (by (repeat' (first | exact Below.refl _ _ | refine Below.alloc ?_ (by first | omega | (simp; done) | (simp; omega)) _)))⟩

set_option maxRecDepth 100000 in
set_option maxHeartbeats 1000000 in
theorem finds_nil (F : Array Value) (src : Int) (w : World) (Hsz : Hid ((Tryd.prog.info? 29).map (·.size) = some F.toList.length))
    (H1 : Hid (∀ (A : Option Addr) (c : Nat) (W : World), Below w.heap.size w W → Calls Tryd.prog 22 #[.slice A 0 c, .agg F, .int .u8 src] W fun e w' => e = .returned (.tuple #[.int .i64 (-1), .int .u8 0, .bool false]) ∧ Below W.heap.size W w')) :
    Calls Tryd.prog 20 #[.slice none 0 0, .agg F, .int .u8 src] w fun e w' => e = .returned (.bool true) ∧ Below w.heap.size w w' := by
  obtain ⟨i0, hi, hz0, hz1, hz2⟩ := info_parts info27b
  have hnew : ((w.alloc (.cells F 29)).alloc (.cells #[] 27)).heap[w.heap.size + 1]? = some (.cells #[] 27 (0, 0)) := by have := heap_alloc_new (w.alloc (.cells F 29)) (.cells #[] 27); simpa using this
  have Rf : ((w.alloc (.cells F 29)).alloc (.cells #[] 27)).rangeAt w.heap.size 0 F.toList := World.rangeAt_alloc (range_new w F 29) _
  go_enter Tryd.func20, Tryd.ntmps20
  go_wp2_with (first | (refine wpList_load_wide 29 _ rfl (by rfl) _ _ rfl F _ Tryd.underlying29 rfl Hsz.out ?_ ?_; · (first | with_reducible exact Rf)) | (at_builtin; refine wpList_append_own_none rfl _ _ 47 rfl (w.heap.size + 1) 27 i0 6 Tryd.underlying47 hi _ 0 [] rfl ⟨rfl, .inr ⟨w.heap.size + 1, 0, #[], rfl, Nat.le_refl _, hnew, Nat.le_refl _, Nat.zero_le _, rfl, rfl⟩⟩ rfl ?_))
  refine (H1.out _ _ _ (by (repeat' (first | exact Below.refl _ _ | refine Below.alloc ?_ (by first | omega | (simp; done) | (simp; omega)) _)))).mono ?_
  rintro e w' ⟨rfl, hb⟩
  have B : Below w.heap.size w w' := bthen (by (repeat' (first | exact Below.refl _ _ | refine Below.alloc ?_ (by first | omega | (simp; done) | (simp; omega)) _))) hb
  clear hb
  go_wp2_with fail
  refine wp_loop_rounds 1 ?_
  rw [rounds_succ]
  go_wp2_with fail
  refine wp_loop_rounds 1 ?_
  rw [rounds_succ]
  go_wp2_with fail
  go_ret
  exact ⟨by simp, B⟩

set_option maxRecDepth 100000 in
set_option maxHeartbeats 1000000 in
theorem finds_empty (a : Addr) (c : Nat) (F : Array Value) (src : Int) (w : World) (Hsz : Hid ((Tryd.prog.info? 29).map (·.size) = some F.toList.length))
    (H1 : Hid (∀ (A : Option Addr) (c : Nat) (W : World), Below w.heap.size w W → Calls Tryd.prog 22 #[.slice A 0 c, .agg F, .int .u8 src] W fun e w' => e = .returned (.tuple #[.int .i64 (-1), .int .u8 0, .bool false]) ∧ Below W.heap.size W w')) :
    Calls Tryd.prog 20 #[.slice (some a) 0 c, .agg F, .int .u8 src] w fun e w' => e = .returned (.bool true) ∧ Below w.heap.size w w' := by
  obtain ⟨i0, hi, hz0, hz1, hz2⟩ := info_parts info27b
  have hnew : ((w.alloc (.cells F 29)).alloc (.cells #[] 27)).heap[w.heap.size + 1]? = some (.cells #[] 27 (0, 0)) := by have := heap_alloc_new (w.alloc (.cells F 29)) (.cells #[] 27); simpa using this
  go_enter Tryd.func20, Tryd.ntmps20
  go_wp2_with (first | (refine wpList_load_wide 29 _ rfl (by rfl) _ _ rfl F _ Tryd.underlying29 rfl Hsz.out ?_ ?_; · (first | with_reducible exact Rf)) | (at_builtin; refine wpList_append_own _ rfl _ _ 47 rfl (w.heap.size + 1) 27 i0 (.agg #[.int .u8 0, .int .u32 0, .int .u32 0, .int .u16 0, .int .u16 0, .int .u8 0]) 6 20 Tryd.underlying47 hi hz0 hz1 hz2 rfl (by decide) _ 0 [] rfl ⟨rfl, .inr ⟨w.heap.size + 1, 0, #[], rfl, Nat.le_refl _, hnew, Nat.le_refl _, Nat.zero_le _, rfl, rfl⟩⟩ a 0 c [] rfl rfl (fun j u h => by simp at h) (fun u h => by simp at h) (Nat.zero_le _) (Nat.zero_le _) ?_ ?_; (simp <;> omega); intro v' w1 hown hgrow hiff; have bg : Below (w.alloc (.cells F 29)).heap.size (w.alloc (.cells F 29)) w1 := ((Below.refl _ _).alloc (Nat.le_refl _) _).grown hgrow (by simp) (fun k hk => by cases hk; simp); have Rf : w1.rangeAt w.heap.size 0 F.toList := range_below bg (by simp) (range_new w F 29); have hex : ∃ A' c', v' = .slice A' 0 c' := (by rcases hown.2 with ⟨h, _⟩ | ⟨g', cap', cur, h, _⟩ <;> exact ⟨_, _, h⟩); obtain ⟨A', c', hv⟩ := hex; rw [hv]; clear hv hown hgrow hiff))
  have b1 : Below w.heap.size w w1 := bthen ((Below.refl _ _).alloc (Nat.le_refl _) _) bg
  refine (H1.out _ _ _ b1).mono ?_
  rintro e w' ⟨rfl, hb⟩
  have B : Below w.heap.size w w' := bthen b1 hb
  clear hb bg b1 Rf
  go_wp2_with fail
  refine wp_loop_rounds 1 ?_
  rw [rounds_succ]
  go_wp2_with fail
  refine wp_loop_rounds 1 ?_
  rw [rounds_succ]
  go_wp2_with fail
  go_ret
  exact ⟨by simp, B⟩

/-- finds, whatever list. -/
theorem finds_any (F : Array Value) (fs : List Fl) (A : Option Addr) (cap : Nat) (dst kind typ qp qs qd qsp qdp qk src : Int) (w : World) (h : Fa F dst kind typ qp qs qd qsp qdp qk) (hT : Tabs w) (hr : 0 ≤ src)
    (hR : Rd w A 6 (fs.map Fl.cells)) (hle : fs.length ≤ cap) (hnil : A = none → fs = [] ∧ cap = 0) (hfs : ∀ x ∈ fs, (0 ≤ x.p ∧ x.p ≤ 255) ∧ 0 ≤ x.side) :
    Calls Tryd.prog 20 #[.slice A fs.length cap, .agg F, .int .u8 src] w fun e w' => e = .returned (.bool true) ∧ Below w.heap.size w w' := by
  by_cases hlong : 100 < fs.length
  · exact finds_long A _ cap F src w hlong
  have Hsz := Lib.hid (show (Tryd.prog.info? 29).map (·.size) = some F.toList.length by rw [info29, Array.length_toList, h.size])
  by_cases hne : fs = []
  · subst hne
    have H1 := Lib.hid (fun (A : Option Addr) (c : Nat) (W : World) (hb : Below w.heap.size w W) => find_any F [] A c dst kind typ qp qs qd qsp qdp qk src W h (hT.below hb) hr (Rd.nil W A 6) (by simp) (by simp))
    cases A with
    | none =>
      obtain ⟨_, rfl⟩ := hnil rfl
      exact finds_nil F src w Hsz H1
    | some a => exact finds_empty a cap F src w Hsz H1
  obtain ⟨b, off, rfl, _, _⟩ := hR.mem (by rw [Ne, List.map_eq_nil_iff]; exact hne)
  exact finds_more (·.quo dst kind typ qp qs qd qsp qdp qk src) fs b off cap src w F Hsz
    (Lib.hid fun A c W hb hRW => find_any F fs A c dst kind typ qp qs qd qsp qdp qk src W h (hT.below hb) hr hRW (by omega) hfs)
    (Lib.hid fun x hx W => rquotes_any F x.p x.s x.d x.sp x.dp x.side dst kind typ qp qs qd qsp qdp qk src W h (hfs x hx).2 hr)
    hR hle (List.length_pos_iff.2 hne) (by omega)

theorem flows_of {A : Option Addr} {cap : Nat} {css : List (List Value)} {w : World} (hle : css.length ≤ cap) (hmx : cap ≤ maxLen) (hnil : A = none → css = [] ∧ cap = 0) (hrd : Rd w A 6 css) (hall : ∀ cs ∈ css, All2 [some .u8, some .u32, some .u32, some .u16, some .u16, some .u8] cs) :
    ∃ l : List Fl, css.length = l.length ∧ (l.length ≤ cap ∧ (A = none → l = [] ∧ cap = 0) ∧ Rd w A 6 (l.map Fl.cells) ∧ ∀ x ∈ l, (0 ≤ x.p ∧ x.p ≤ 255) ∧ 0 ≤ x.side) := by
  have : ∃ l : List Fl, css = l.map Fl.cells ∧ ∀ x ∈ l, (0 ≤ x.p ∧ x.p ≤ 255) ∧ 0 ≤ x.side := by
    clear hle hmx hnil hrd
    induction css with
    | nil => exact ⟨[], rfl, by simp⟩
    | cons c r ih =>
      obtain ⟨l, rfl, hl⟩ := ih (fun cs h => hall cs (List.mem_cons_of_mem _ h))
      obtain ⟨p, s, d, sp, dp, side, rfl, hp, _, _, _, _, hs⟩ := flow_of (hall c (by simp))
      refine ⟨⟨p, s, d, sp, dp, side⟩ :: l, rfl, fun x hx => ?_⟩
      rcases List.mem_cons.1 hx with rfl | hx
      · exact ⟨hp, hs.1⟩
      · exact hl x hx
  obtain ⟨l, rfl, hl⟩ := this
  rw [List.length_map] at hle
  exact ⟨l, List.length_map _, hle, fun e => ⟨List.map_eq_nil_iff.1 (hnil e).1, (hnil e).2⟩, hrd, hl⟩

set_option maxHeartbeats 1000000 in
theorem relatedFinds_walk (A : Option Addr) (fs : List Fl) (n cap : Nat) (F : Array Value) (dst kind typ qp qs qd qsp qdp qk src : Int) (w : World) (hT : Tabs w) (hn : n = fs.length) (hle0 : n ≤ cap)
    (hp : fs.length ≤ cap ∧ (A = none → fs = [] ∧ cap = 0) ∧ Rd w A 6 (fs.map Fl.cells) ∧ ∀ x ∈ fs, (0 ≤ x.p ∧ x.p ≤ 255) ∧ 0 ≤ x.side) (h : Fa F dst kind typ qp qs qd qsp qdp qk) (hr : 0 ≤ src ∧ src ≤ 255) :
    Calls Tryd.prog 7 #[.slice A n cap, .agg F, .int .u8 src] w fun e w' => e = .returned (.bool true) ∧ Below w.heap.size w w' := by
  subst hn
  have HC := Lib.hid (fun W (hb : Below w.heap.size w W) => finds_any F fs A cap dst kind typ qp qs qd qsp qdp qk src W h (hT.below hb) hr.1 (hp.2.2.1.below hb) hp.1 hp.2.1 hp.2.2.2)
  have Hi := Lib.hid (show (Tryd.prog.info? 29).map (·.size) = some F.toList.length by rw [info29, Array.length_toList, h.size])
  have HT := Lib.hid hT
  clear h hT hp hr
  go_enter Tryd.func7, Tryd.ntmps7
  go_wp2_with (refine wpList_load_wide 29 _ rfl (by rfl) _ _ rfl F _ Tryd.underlying29 rfl Hi.out ?_ ?_; · (repeat (first | with_reducible assumption | (refine range_new' _ _ _ _ ?_; first | rfl | (simp; done)) | refine World.rangeAt_alloc ?_ _)))
  refine (HC.out _ (by (repeat' (first | exact Below.refl _ _ | refine Below.alloc ?_ (by first | omega | (simp; done) | (simp; omega)) _)))).mono ?_
  rintro e w1 ⟨rfl, hb⟩
  have b1 : Below w.heap.size w w1 := bthen (by (repeat' (first | exact Below.refl _ _ | refine Below.alloc ?_ (by first | omega | (simp; done) | (simp; omega)) _))) hb
  clear hb
  go_wp2_with fail
  refine (awake_any _ (HT.out.below b1)).mono ?_
  rintro e w2 ⟨rfl, hb⟩
  go_wp2_with fail
  go_ret
  exact ⟨rfl, bthen b1 hb⟩

end Go.Proofs.YtapeminpgojeaaaDoor

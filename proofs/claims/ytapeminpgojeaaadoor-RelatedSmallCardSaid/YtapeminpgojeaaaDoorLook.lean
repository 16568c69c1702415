/-
  The contract of package related's Lookup: the key that an error quotes, and whether it can belong to a flow; conditions: what a packet says lies in the types' ranges, and that the two package maps lie as the program's text lays them.
-/
import Derived.Test.YtapeminpgojeaaaDoorBase
namespace Go.Proofs.YtapeminpgojeaaaDoor
open Go.RowKit
set_option linter.unusedVariables false
set_option linter.unusedSimpArgs false

/-- What a packet says, to this package. -/
structure Fa (F : Array Value) (dst kind typ qp qs qd qsp qdp qk : Int) : Prop where
  size : F.size = 19
  one : F.all (·.oneCell') = true
  c2 : F[2]? = some (.int .u32 dst)
  c5 : F[5]? = some (.int .u8 kind)
  c7 : F[7]? = some (.int .u8 typ)
  c13 : F[13]? = some (.int .u8 qp)
  c14 : F[14]? = some (.int .u32 qs)
  c15 : F[15]? = some (.int .u32 qd)
  c16 : F[16]? = some (.int .u16 qsp)
  c17 : F[17]? = some (.int .u16 qdp)
  c18 : F[18]? = some (.int .u8 qk)
  bk : 0 ≤ kind ∧ kind ≤ 255
  bt : 0 ≤ typ ∧ typ ≤ 255
  bp : 0 ≤ qp ∧ qp ≤ 255
  bq : 0 ≤ qk ∧ qk ≤ 255
  bd : 0 ≤ dst ∧ dst ≤ 4294967295
  bs : 0 ≤ qs ∧ qs ≤ 4294967295
  be : 0 ≤ qd ∧ qd ≤ 4294967295
  bf : 0 ≤ qsp ∧ qsp ≤ 65535
  bg : 0 ≤ qdp ∧ qdp ≤ 65535

/-- An error can belong to a flow. -/
def can (dst kind typ qp qs qk : Int) : Bool := known qp && (kind == 5 && (hrd typ && (dst == qs && (qk == ko qp || qk == kr qp))))
/-- What is left of a number. -/
def pk (b : Bool) (x : Int) : Int := if b then x else 0

set_option maxHeartbeats 2000000 in
theorem lookup_any (F : Array Value) (dst kind typ qp qs qd qsp qdp qk : Int) (w : World) (h : Fa F dst kind typ qp qs qd qsp qdp qk) (hT : Tabs w) :
    Calls Tryd.prog 16 #[.agg F] w fun e w' => e = .returned (.tuple #[.agg #[.int .u8 (pk (can dst kind typ qp qs qk) qp), .int .u32 (pk (can dst kind typ qp qs qk) qs), .int .u32 (pk (can dst kind typ qp qs qk) qd), .int .u16 (pk (can dst kind typ qp qs qk) qsp), .int .u16 (pk (can dst kind typ qp qs qk) qdp)], .bool (can dst kind typ qp qs qk)]) ∧
      ((w.alloc (.cells F 29)).alloc (.cells #[.int .u8 (pk (can dst kind typ qp qs qk) qp), .int .u32 (pk (can dst kind typ qp qs qk) qs), .int .u32 (pk (can dst kind typ qp qs qk) qd), .int .u16 (pk (can dst kind typ qp qs qk) qsp), .int .u16 (pk (can dst kind typ qp qs qk) qdp)] 25)).alloc (.cells #[.int .u8 (ko qp), .int .u8 (kr qp)] 63) = w' := by
  obtain ⟨b, h1, h2⟩ := hT.kinds qp h.bp
  have hz := cell_lt h1
  have hl := fun o o' : Obj => h2 ((w.alloc o).alloc o') (((Below.refl _ _).alloc (Nat.le_refl _) o).alloc (by simp) o')
  have HH : Hid (∀ W, Below w.heap.size w W → Calls Tryd.prog 19 #[.int .u8 typ] W fun e w' => e = .returned (.bool (hrd typ)) ∧ W = w') := fun W hW => heard_any typ W h.bt (hT.below hW)
  have g2 := h.c2
  have g5 := h.c5
  have g7 := h.c7
  have g13 := h.c13
  have g14 := h.c14
  have g15 := h.c15
  have g16 := h.c16
  have g17 := h.c17
  have g18 := h.c18
  clear h hT h2
  obtain ⟨c, hc⟩ : ∃ c, can dst kind typ qp qs qk = c := ⟨_, rfl⟩
  rw [hc]
  unfold can at hc
  generalize known qp = k at *
  generalize ko qp = x at *
  generalize kr qp = y at *
  generalize hrd typ = hh at *
  cases k
  · obtain rfl : c = false := by clear hl HH; cases c with | false => rfl | true => exfalso; simp at hc <;> simp_all
    clear hc
    simp only [pk, if_true, Bool.false_eq_true, if_false]
    go_enter Tryd.func16, Tryd.ntmps16
    go_wp2_with fail
    exact bodyPost_ret (v := .tuple #[.agg #[.int .u8 0, .int .u32 0, .int .u32 0, .int .u16 0, .int .u16 0], .bool false]) (by simp [results, Tryd.results16, go_sem]) rfl ⟨rfl, rfl⟩
  · cases h5 : kind != 5
    · cases hh
      · obtain rfl : c = false := by clear hl HH; cases c with | false => rfl | true => exfalso; simp at hc <;> simp_all
        clear hc
        simp only [pk, if_true, Bool.false_eq_true, if_false]
        go_enter Tryd.func16, Tryd.ntmps16
        go_wp2_with fail
        refine (HH.out _ (by (repeat' (first | exact Below.refl _ _ | refine Below.alloc ?_ (by first | omega | (simp; done) | (simp; omega)) _)))).mono ?_
        rintro e w' ⟨rfl, rfl⟩
        go_wp2_with fail
        exact bodyPost_ret (v := .tuple #[.agg #[.int .u8 0, .int .u32 0, .int .u32 0, .int .u16 0, .int .u16 0], .bool false]) (by simp [results, Tryd.results16, go_sem]) rfl ⟨rfl, rfl⟩
      · cases hd : dst != qs
        · cases e1 : qk != x
          · obtain rfl : c = true := by rw [← hc]; simp_all
            clear hc
            simp only [pk, if_true, Bool.false_eq_true, if_false]
            go_enter Tryd.func16, Tryd.ntmps16
            go_wp2_with fail
            refine (HH.out _ (by (repeat' (first | exact Below.refl _ _ | refine Below.alloc ?_ (by first | omega | (simp; done) | (simp; omega)) _)))).mono ?_
            rintro e w' ⟨rfl, rfl⟩
            go_wp2_with fail
            exact bodyPost_ret (v := .tuple #[.agg #[.int .u8 qp, .int .u32 qs, .int .u32 qd, .int .u16 qsp, .int .u16 qdp], .bool true]) (by simp [results, Tryd.results16, go_sem]) rfl ⟨rfl, rfl⟩
          · cases e2 : qk != y
            · obtain rfl : c = true := by rw [← hc]; simp_all
              clear hc
              simp only [pk, if_true, Bool.false_eq_true, if_false]
              go_enter Tryd.func16, Tryd.ntmps16
              go_wp2_with fail
              refine (HH.out _ (by (repeat' (first | exact Below.refl _ _ | refine Below.alloc ?_ (by first | omega | (simp; done) | (simp; omega)) _)))).mono ?_
              rintro e w' ⟨rfl, rfl⟩
              go_wp2_with fail
              exact bodyPost_ret (v := .tuple #[.agg #[.int .u8 qp, .int .u32 qs, .int .u32 qd, .int .u16 qsp, .int .u16 qdp], .bool true]) (by simp [results, Tryd.results16, go_sem]) rfl ⟨rfl, rfl⟩
            · obtain rfl : c = false := by clear hl HH; cases c with | false => rfl | true => exfalso; simp at hc <;> simp_all
              clear hc
              simp only [pk, if_true, Bool.false_eq_true, if_false]
              go_enter Tryd.func16, Tryd.ntmps16
              go_wp2_with fail
              refine (HH.out _ (by (repeat' (first | exact Below.refl _ _ | refine Below.alloc ?_ (by first | omega | (simp; done) | (simp; omega)) _)))).mono ?_
              rintro e w' ⟨rfl, rfl⟩
              go_wp2_with fail
              exact bodyPost_ret (v := .tuple #[.agg #[.int .u8 0, .int .u32 0, .int .u32 0, .int .u16 0, .int .u16 0], .bool false]) (by simp [results, Tryd.results16, go_sem]) rfl ⟨rfl, rfl⟩
        · obtain rfl : c = false := by clear hl HH; cases c with | false => rfl | true => exfalso; simp at hc <;> simp_all
          clear hc
          simp only [pk, if_true, Bool.false_eq_true, if_false]
          go_enter Tryd.func16, Tryd.ntmps16
          go_wp2_with fail
          refine (HH.out _ (by (repeat' (first | exact Below.refl _ _ | refine Below.alloc ?_ (by first | omega | (simp; done) | (simp; omega)) _)))).mono ?_
          rintro e w' ⟨rfl, rfl⟩
          go_wp2_with fail
          exact bodyPost_ret (v := .tuple #[.agg #[.int .u8 0, .int .u32 0, .int .u32 0, .int .u16 0, .int .u16 0], .bool false]) (by simp [results, Tryd.results16, go_sem]) rfl ⟨rfl, rfl⟩
    · obtain rfl : c = false := by clear hl HH; cases c with | false => rfl | true => exfalso; simp at hc <;> simp_all
      clear hc
      simp only [pk, if_true, Bool.false_eq_true, if_false]
      go_enter Tryd.func16, Tryd.ntmps16
      go_wp2_with fail
      exact bodyPost_ret (v := .tuple #[.agg #[.int .u8 0, .int .u32 0, .int .u32 0, .int .u16 0, .int .u16 0], .bool false]) (by simp [results, Tryd.results16, go_sem]) rfl ⟨rfl, rfl⟩

end Go.Proofs.YtapeminpgojeaaaDoor

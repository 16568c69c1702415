/-
  Plain lemmas behind RelatedSmall, of no program: a flow and an error that lie in blocks of their own, and are written cell by cell. No conditions.
-/
import Derived.Test.YtapeminpgojeaaaDoorBelongs
import Derived.Test.YtapeminpgojeaaaDoorLawFinds
namespace Go.Proofs.YtapeminpgojeaaaDoor
open Go.RowKit
set_option linter.unusedVariables false
set_option linter.unusedSimpArgs false

theorem there_set {W : World} {b n b' j : Nat} {v : Value} (h : W.there b 0 n) : (W.setCell ⟨b', j, none⟩ v).there b 0 n := World.there_setCells h b' j [v]
-- the bounds of an error's numbers
structure Gr (dst kind ty k0 k1 k2 k3 k4 kv : Int) : Prop where
  hdst : 0 ≤ dst ∧ dst ≤ 4294967295
  hkind : 0 ≤ kind ∧ kind ≤ 255
  hty : 0 ≤ ty ∧ ty ≤ 255
  hk0 : 0 ≤ k0 ∧ k0 ≤ 255
  hk1 : 0 ≤ k1 ∧ k1 ≤ 4294967295
  hk2 : 0 ≤ k2 ∧ k2 ≤ 4294967295
  hk3 : 0 ≤ k3 ∧ k3 ≤ 65535
  hk4 : 0 ≤ k4 ∧ k4 ≤ 65535
  hkv : 0 ≤ kv ∧ kv ≤ 255
theorem Gr.fa {dst kind ty k0 k1 k2 k3 k4 kv : Int} (h : Gr dst kind ty k0 k1 k2 k3 k4 kv) (by' : Int) : Fa (gF dst kind ty k0 k1 k2 k3 k4 kv by') dst kind ty k0 k1 k2 k3 k4 kv := fa_gF dst kind ty k0 k1 k2 k3 k4 kv by' h.hkind h.hty h.hk0 h.hkv h.hdst h.hk1 h.hk2 h.hk3 h.hk4
structure Yl (W : World) (b : Nat) (p s d sp dp q : Int) : Prop where
  r : W.rangeAt b 0 (Fl.cells ⟨p, s, d, sp, dp, q⟩)
  t : W.there b 0 6
  hp : 0 ≤ p ∧ p ≤ 255
  hq : 0 ≤ q ∧ q ≤ 255
structure Gl (W : World) (b : Nat) (dst kind ty k0 k1 k2 k3 k4 kv : Int) : Prop where
  r : W.rangeAt b 0 (gF dst kind ty k0 k1 k2 k3 k4 kv 151587081).toList
  t : W.there b 0 19
  f : Gr dst kind ty k0 k1 k2 k3 k4 kv
theorem Yl.lt {W : World} {b : Nat} {p s d sp dp q : Int} (h : Yl W b p s d sp dp q) : b < W.heap.size := there_lt h.t
theorem Gl.lt {W : World} {b : Nat} {dst kind ty k0 k1 k2 k3 k4 kv : Int} (h : Gl W b dst kind ty k0 k1 k2 k3 k4 kv) : b < W.heap.size := there_lt h.t
theorem Yl.below {W W' : World} {b : Nat} {p s d sp dp q : Int} (h : Yl W b p s d sp dp q) (hb : Below W.heap.size W W') : Yl W' b p s d sp dp q := ⟨range_below hb h.lt h.r, there_below hb h.lt h.t, h.hp, h.hq⟩
theorem Gl.below {W W' : World} {b : Nat} {dst kind ty k0 k1 k2 k3 k4 kv : Int} (h : Gl W b dst kind ty k0 k1 k2 k3 k4 kv) (hb : Below W.heap.size W W') : Gl W' b dst kind ty k0 k1 k2 k3 k4 kv := ⟨range_below hb h.lt h.r, there_below hb h.lt h.t, h.f⟩
theorem Yl.other {W : World} {b b' j : Nat} {v : Value} {p s d sp dp q : Int} (h : Yl W b p s d sp dp q) (hne : b ≠ b') : Yl (W.setCell ⟨b', j, none⟩ v) b p s d sp dp q := ⟨range_else h.r hne j v, there_set h.t, h.hp, h.hq⟩
theorem Gl.other {W : World} {b b' j : Nat} {v : Value} {dst kind ty k0 k1 k2 k3 k4 kv : Int} (h : Gl W b dst kind ty k0 k1 k2 k3 k4 kv) (hne : b ≠ b') : Gl (W.setCell ⟨b', j, none⟩ v) b dst kind ty k0 k1 k2 k3 k4 kv := ⟨range_else h.r hne j v, there_set h.t, h.f⟩
theorem Yl.set0 {W : World} {b : Nat} {p s d sp dp q : Int} (h : Yl W b p s d sp dp q) (x' : Int) (hx : 0 ≤ x' ∧ x' ≤ 255) : Yl (W.setCell ⟨b, 0, none⟩ (.int .u8 x')) b x' s d sp dp q := ⟨range_put h.r 0 _ (tfree h.t 0 (by decide)), there_set h.t, hx, h.hq⟩
theorem Yl.set1 {W : World} {b : Nat} {p s d sp dp q : Int} (h : Yl W b p s d sp dp q) (x' : Int) : Yl (W.setCell ⟨b, 1, none⟩ (.int .u32 x')) b p x' d sp dp q := ⟨range_put h.r 1 _ (tfree h.t 1 (by decide)), there_set h.t, h.hp, h.hq⟩
theorem Yl.set2 {W : World} {b : Nat} {p s d sp dp q : Int} (h : Yl W b p s d sp dp q) (x' : Int) : Yl (W.setCell ⟨b, 2, none⟩ (.int .u32 x')) b p s x' sp dp q := ⟨range_put h.r 2 _ (tfree h.t 2 (by decide)), there_set h.t, h.hp, h.hq⟩
theorem Yl.set3 {W : World} {b : Nat} {p s d sp dp q : Int} (h : Yl W b p s d sp dp q) (x' : Int) : Yl (W.setCell ⟨b, 3, none⟩ (.int .u16 x')) b p s d x' dp q := ⟨range_put h.r 3 _ (tfree h.t 3 (by decide)), there_set h.t, h.hp, h.hq⟩
theorem Yl.set4 {W : World} {b : Nat} {p s d sp dp q : Int} (h : Yl W b p s d sp dp q) (x' : Int) : Yl (W.setCell ⟨b, 4, none⟩ (.int .u16 x')) b p s d sp x' q := ⟨range_put h.r 4 _ (tfree h.t 4 (by decide)), there_set h.t, h.hp, h.hq⟩
theorem Yl.set5 {W : World} {b : Nat} {p s d sp dp q : Int} (h : Yl W b p s d sp dp q) (x' : Int) (hx : 0 ≤ x' ∧ x' ≤ 255) : Yl (W.setCell ⟨b, 5, none⟩ (.int .u8 x')) b p s d sp dp x' := ⟨range_put h.r 5 _ (tfree h.t 5 (by decide)), there_set h.t, h.hp, hx⟩
theorem Gl.set2 {W : World} {b : Nat} {dst kind ty k0 k1 k2 k3 k4 kv : Int} (h : Gl W b dst kind ty k0 k1 k2 k3 k4 kv) (x' : Int) (hx : 0 ≤ x' ∧ x' ≤ 4294967295) : Gl (W.setCell ⟨b, 2, none⟩ (.int .u32 x')) b x' kind ty k0 k1 k2 k3 k4 kv := ⟨range_put h.r 2 _ (tfree h.t 2 (by decide)), there_set h.t, ⟨hx, h.f.hkind, h.f.hty, h.f.hk0, h.f.hk1, h.f.hk2, h.f.hk3, h.f.hk4, h.f.hkv⟩⟩
theorem Gl.set5 {W : World} {b : Nat} {dst kind ty k0 k1 k2 k3 k4 kv : Int} (h : Gl W b dst kind ty k0 k1 k2 k3 k4 kv) (x' : Int) (hx : 0 ≤ x' ∧ x' ≤ 255) : Gl (W.setCell ⟨b, 5, none⟩ (.int .u8 x')) b dst x' ty k0 k1 k2 k3 k4 kv := ⟨range_put h.r 5 _ (tfree h.t 5 (by decide)), there_set h.t, ⟨h.f.hdst, hx, h.f.hty, h.f.hk0, h.f.hk1, h.f.hk2, h.f.hk3, h.f.hk4, h.f.hkv⟩⟩
theorem Gl.set7 {W : World} {b : Nat} {dst kind ty k0 k1 k2 k3 k4 kv : Int} (h : Gl W b dst kind ty k0 k1 k2 k3 k4 kv) (x' : Int) (hx : 0 ≤ x' ∧ x' ≤ 255) : Gl (W.setCell ⟨b, 7, none⟩ (.int .u8 x')) b dst kind x' k0 k1 k2 k3 k4 kv := ⟨range_put h.r 7 _ (tfree h.t 7 (by decide)), there_set h.t, ⟨h.f.hdst, h.f.hkind, hx, h.f.hk0, h.f.hk1, h.f.hk2, h.f.hk3, h.f.hk4, h.f.hkv⟩⟩
theorem Gl.set13 {W : World} {b : Nat} {dst kind ty k0 k1 k2 k3 k4 kv : Int} (h : Gl W b dst kind ty k0 k1 k2 k3 k4 kv) (x' : Int) (hx : 0 ≤ x' ∧ x' ≤ 255) : Gl (W.setCell ⟨b, 13, none⟩ (.int .u8 x')) b dst kind ty x' k1 k2 k3 k4 kv := ⟨range_put h.r 13 _ (tfree h.t 13 (by decide)), there_set h.t, ⟨h.f.hdst, h.f.hkind, h.f.hty, hx, h.f.hk1, h.f.hk2, h.f.hk3, h.f.hk4, h.f.hkv⟩⟩
theorem Gl.set14 {W : World} {b : Nat} {dst kind ty k0 k1 k2 k3 k4 kv : Int} (h : Gl W b dst kind ty k0 k1 k2 k3 k4 kv) (x' : Int) (hx : 0 ≤ x' ∧ x' ≤ 4294967295) : Gl (W.setCell ⟨b, 14, none⟩ (.int .u32 x')) b dst kind ty k0 x' k2 k3 k4 kv := ⟨range_put h.r 14 _ (tfree h.t 14 (by decide)), there_set h.t, ⟨h.f.hdst, h.f.hkind, h.f.hty, h.f.hk0, hx, h.f.hk2, h.f.hk3, h.f.hk4, h.f.hkv⟩⟩
theorem Gl.set15 {W : World} {b : Nat} {dst kind ty k0 k1 k2 k3 k4 kv : Int} (h : Gl W b dst kind ty k0 k1 k2 k3 k4 kv) (x' : Int) (hx : 0 ≤ x' ∧ x' ≤ 4294967295) : Gl (W.setCell ⟨b, 15, none⟩ (.int .u32 x')) b dst kind ty k0 k1 x' k3 k4 kv := ⟨range_put h.r 15 _ (tfree h.t 15 (by decide)), there_set h.t, ⟨h.f.hdst, h.f.hkind, h.f.hty, h.f.hk0, h.f.hk1, hx, h.f.hk3, h.f.hk4, h.f.hkv⟩⟩
theorem Gl.set16 {W : World} {b : Nat} {dst kind ty k0 k1 k2 k3 k4 kv : Int} (h : Gl W b dst kind ty k0 k1 k2 k3 k4 kv) (x' : Int) (hx : 0 ≤ x' ∧ x' ≤ 65535) : Gl (W.setCell ⟨b, 16, none⟩ (.int .u16 x')) b dst kind ty k0 k1 k2 x' k4 kv := ⟨range_put h.r 16 _ (tfree h.t 16 (by decide)), there_set h.t, ⟨h.f.hdst, h.f.hkind, h.f.hty, h.f.hk0, h.f.hk1, h.f.hk2, hx, h.f.hk4, h.f.hkv⟩⟩
theorem Gl.set17 {W : World} {b : Nat} {dst kind ty k0 k1 k2 k3 k4 kv : Int} (h : Gl W b dst kind ty k0 k1 k2 k3 k4 kv) (x' : Int) (hx : 0 ≤ x' ∧ x' ≤ 65535) : Gl (W.setCell ⟨b, 17, none⟩ (.int .u16 x')) b dst kind ty k0 k1 k2 k3 x' kv := ⟨range_put h.r 17 _ (tfree h.t 17 (by decide)), there_set h.t, ⟨h.f.hdst, h.f.hkind, h.f.hty, h.f.hk0, h.f.hk1, h.f.hk2, h.f.hk3, hx, h.f.hkv⟩⟩
theorem Gl.set18 {W : World} {b : Nat} {dst kind ty k0 k1 k2 k3 k4 kv : Int} (h : Gl W b dst kind ty k0 k1 k2 k3 k4 kv) (x' : Int) (hx : 0 ≤ x' ∧ x' ≤ 255) : Gl (W.setCell ⟨b, 18, none⟩ (.int .u8 x')) b dst kind ty k0 k1 k2 k3 k4 x' := ⟨range_put h.r 18 _ (tfree h.t 18 (by decide)), there_set h.t, ⟨h.f.hdst, h.f.hkind, h.f.hty, h.f.hk0, h.f.hk1, h.f.hk2, h.f.hk3, h.f.hk4, hx⟩⟩

theorem own_set {w : World} {base : Nat} {e : TypeId} {size : Nat} {v : Value} {n : Nat} {xs : List Value} (h : w.ownsRow base e size v n xs) {b j : Nat} (u : Value) (hne : ∀ k, v.ownBlock = some k → k ≠ b) : (w.setCell ⟨b, j, none⟩ u).ownsRow base e size v n xs := by
  refine ⟨h.1, ?_⟩
  rcases h.2 with hn | ⟨g, cap, cur, rfl, hbs, hg, r⟩
  · exact .inl hn
  · refine .inr ⟨g, cap, cur, rfl, hbs, ?_, r⟩
    have hne' : b ≠ g := fun e => hne g rfl e.symm
    rw [← hg]
    simp [World.setCell, hne', Array.getElem?_modify]
theorem own_below {w w' : World} {base : Nat} {e : TypeId} {size : Nat} {v : Value} {n : Nat} {xs : List Value} (h : w.ownsRow base e size v n xs) (hb : Below w.heap.size w w') : w'.ownsRow base e size v n xs := by
  refine ⟨h.1, ?_⟩
  rcases h.2 with hn | ⟨g, cap, cur, rfl, hbs, hg, r⟩
  · exact .inl hn
  · exact .inr ⟨g, cap, cur, rfl, hbs, (hb.block g (Array.getElem?_eq_some_iff.1 hg).1).trans hg, r⟩
def Fk (x : Fl) : Prop := (0 ≤ x.p ∧ x.p ≤ 255) ∧ 0 ≤ x.side
/-- A round's own flow and error, and the list that it appends to. -/
structure St (w1 : World) (ny ng : Nat) (v : Value) (l : List Fl) (p s d sp dp q dst kind ty k0 k1 k2 k3 k4 kv : Int) (W : World) : Prop where
  b : Below w1.heap.size w1 W
  y : Yl W ny p s d sp dp q
  g : Gl W ng dst kind ty k0 k1 k2 k3 k4 kv
  ly : w1.heap.size ≤ ny
  lg : w1.heap.size ≤ ng
  ne : ny ≠ ng
  own : W.ownsRow w1.heap.size 27 6 v l.length (l.map Fl.cells).flatten
  no : ∀ k, v.ownBlock = some k → k ≠ ny ∧ k ≠ ng
  fk : ∀ x ∈ l, Fk x
theorem St.below {w1 : World} {ny ng : Nat} {v : Value} {l : List Fl} {p s d sp dp q dst kind ty k0 k1 k2 k3 k4 kv : Int} {W : World} (h : St w1 ny ng v l p s d sp dp q dst kind ty k0 k1 k2 k3 k4 kv W) {W' : World} (hb : Below W.heap.size W W') : St w1 ny ng v l p s d sp dp q dst kind ty k0 k1 k2 k3 k4 kv W' := ⟨bthen h.b hb, h.y.below hb, h.g.below hb, h.ly, h.lg, h.ne, own_below h.own hb, h.no, h.fk⟩
theorem St.y0 {w1 : World} {ny ng : Nat} {v : Value} {l : List Fl} {p s d sp dp q dst kind ty k0 k1 k2 k3 k4 kv : Int} {W : World} (h : St w1 ny ng v l p s d sp dp q dst kind ty k0 k1 k2 k3 k4 kv W) (x' : Int) (hx : 0 ≤ x' ∧ x' ≤ 255) : St w1 ny ng v l x' s d sp dp q dst kind ty k0 k1 k2 k3 k4 kv (W.setCell ⟨ny, 0, none⟩ (.int .u8 x')) := ⟨h.b.setCell (p := ⟨ny, 0, none⟩) h.ly _, h.y.set0 x' hx, h.g.other h.ne.symm, h.ly, h.lg, h.ne, own_set h.own _ (fun k hk => (h.no k hk).1), h.no, h.fk⟩
theorem St.y1 {w1 : World} {ny ng : Nat} {v : Value} {l : List Fl} {p s d sp dp q dst kind ty k0 k1 k2 k3 k4 kv : Int} {W : World} (h : St w1 ny ng v l p s d sp dp q dst kind ty k0 k1 k2 k3 k4 kv W) (x' : Int) : St w1 ny ng v l p x' d sp dp q dst kind ty k0 k1 k2 k3 k4 kv (W.setCell ⟨ny, 1, none⟩ (.int .u32 x')) := ⟨h.b.setCell (p := ⟨ny, 1, none⟩) h.ly _, h.y.set1 x', h.g.other h.ne.symm, h.ly, h.lg, h.ne, own_set h.own _ (fun k hk => (h.no k hk).1), h.no, h.fk⟩
theorem St.y2 {w1 : World} {ny ng : Nat} {v : Value} {l : List Fl} {p s d sp dp q dst kind ty k0 k1 k2 k3 k4 kv : Int} {W : World} (h : St w1 ny ng v l p s d sp dp q dst kind ty k0 k1 k2 k3 k4 kv W) (x' : Int) : St w1 ny ng v l p s x' sp dp q dst kind ty k0 k1 k2 k3 k4 kv (W.setCell ⟨ny, 2, none⟩ (.int .u32 x')) := ⟨h.b.setCell (p := ⟨ny, 2, none⟩) h.ly _, h.y.set2 x', h.g.other h.ne.symm, h.ly, h.lg, h.ne, own_set h.own _ (fun k hk => (h.no k hk).1), h.no, h.fk⟩
theorem St.y3 {w1 : World} {ny ng : Nat} {v : Value} {l : List Fl} {p s d sp dp q dst kind ty k0 k1 k2 k3 k4 kv : Int} {W : World} (h : St w1 ny ng v l p s d sp dp q dst kind ty k0 k1 k2 k3 k4 kv W) (x' : Int) : St w1 ny ng v l p s d x' dp q dst kind ty k0 k1 k2 k3 k4 kv (W.setCell ⟨ny, 3, none⟩ (.int .u16 x')) := ⟨h.b.setCell (p := ⟨ny, 3, none⟩) h.ly _, h.y.set3 x', h.g.other h.ne.symm, h.ly, h.lg, h.ne, own_set h.own _ (fun k hk => (h.no k hk).1), h.no, h.fk⟩
theorem St.y4 {w1 : World} {ny ng : Nat} {v : Value} {l : List Fl} {p s d sp dp q dst kind ty k0 k1 k2 k3 k4 kv : Int} {W : World} (h : St w1 ny ng v l p s d sp dp q dst kind ty k0 k1 k2 k3 k4 kv W) (x' : Int) : St w1 ny ng v l p s d sp x' q dst kind ty k0 k1 k2 k3 k4 kv (W.setCell ⟨ny, 4, none⟩ (.int .u16 x')) := ⟨h.b.setCell (p := ⟨ny, 4, none⟩) h.ly _, h.y.set4 x', h.g.other h.ne.symm, h.ly, h.lg, h.ne, own_set h.own _ (fun k hk => (h.no k hk).1), h.no, h.fk⟩
theorem St.y5 {w1 : World} {ny ng : Nat} {v : Value} {l : List Fl} {p s d sp dp q dst kind ty k0 k1 k2 k3 k4 kv : Int} {W : World} (h : St w1 ny ng v l p s d sp dp q dst kind ty k0 k1 k2 k3 k4 kv W) (x' : Int) (hx : 0 ≤ x' ∧ x' ≤ 255) : St w1 ny ng v l p s d sp dp x' dst kind ty k0 k1 k2 k3 k4 kv (W.setCell ⟨ny, 5, none⟩ (.int .u8 x')) := ⟨h.b.setCell (p := ⟨ny, 5, none⟩) h.ly _, h.y.set5 x' hx, h.g.other h.ne.symm, h.ly, h.lg, h.ne, own_set h.own _ (fun k hk => (h.no k hk).1), h.no, h.fk⟩
theorem St.g2 {w1 : World} {ny ng : Nat} {v : Value} {l : List Fl} {p s d sp dp q dst kind ty k0 k1 k2 k3 k4 kv : Int} {W : World} (h : St w1 ny ng v l p s d sp dp q dst kind ty k0 k1 k2 k3 k4 kv W) (x' : Int) (hx : 0 ≤ x' ∧ x' ≤ 4294967295) : St w1 ny ng v l p s d sp dp q x' kind ty k0 k1 k2 k3 k4 kv (W.setCell ⟨ng, 2, none⟩ (.int .u32 x')) := ⟨h.b.setCell (p := ⟨ng, 2, none⟩) h.lg _, h.y.other h.ne, h.g.set2 x' hx, h.ly, h.lg, h.ne, own_set h.own _ (fun k hk => (h.no k hk).2), h.no, h.fk⟩
theorem St.g5 {w1 : World} {ny ng : Nat} {v : Value} {l : List Fl} {p s d sp dp q dst kind ty k0 k1 k2 k3 k4 kv : Int} {W : World} (h : St w1 ny ng v l p s d sp dp q dst kind ty k0 k1 k2 k3 k4 kv W) (x' : Int) (hx : 0 ≤ x' ∧ x' ≤ 255) : St w1 ny ng v l p s d sp dp q dst x' ty k0 k1 k2 k3 k4 kv (W.setCell ⟨ng, 5, none⟩ (.int .u8 x')) := ⟨h.b.setCell (p := ⟨ng, 5, none⟩) h.lg _, h.y.other h.ne, h.g.set5 x' hx, h.ly, h.lg, h.ne, own_set h.own _ (fun k hk => (h.no k hk).2), h.no, h.fk⟩
theorem St.g7 {w1 : World} {ny ng : Nat} {v : Value} {l : List Fl} {p s d sp dp q dst kind ty k0 k1 k2 k3 k4 kv : Int} {W : World} (h : St w1 ny ng v l p s d sp dp q dst kind ty k0 k1 k2 k3 k4 kv W) (x' : Int) (hx : 0 ≤ x' ∧ x' ≤ 255) : St w1 ny ng v l p s d sp dp q dst kind x' k0 k1 k2 k3 k4 kv (W.setCell ⟨ng, 7, none⟩ (.int .u8 x')) := ⟨h.b.setCell (p := ⟨ng, 7, none⟩) h.lg _, h.y.other h.ne, h.g.set7 x' hx, h.ly, h.lg, h.ne, own_set h.own _ (fun k hk => (h.no k hk).2), h.no, h.fk⟩
theorem St.g13 {w1 : World} {ny ng : Nat} {v : Value} {l : List Fl} {p s d sp dp q dst kind ty k0 k1 k2 k3 k4 kv : Int} {W : World} (h : St w1 ny ng v l p s d sp dp q dst kind ty k0 k1 k2 k3 k4 kv W) (x' : Int) (hx : 0 ≤ x' ∧ x' ≤ 255) : St w1 ny ng v l p s d sp dp q dst kind ty x' k1 k2 k3 k4 kv (W.setCell ⟨ng, 13, none⟩ (.int .u8 x')) := ⟨h.b.setCell (p := ⟨ng, 13, none⟩) h.lg _, h.y.other h.ne, h.g.set13 x' hx, h.ly, h.lg, h.ne, own_set h.own _ (fun k hk => (h.no k hk).2), h.no, h.fk⟩
theorem St.g14 {w1 : World} {ny ng : Nat} {v : Value} {l : List Fl} {p s d sp dp q dst kind ty k0 k1 k2 k3 k4 kv : Int} {W : World} (h : St w1 ny ng v l p s d sp dp q dst kind ty k0 k1 k2 k3 k4 kv W) (x' : Int) (hx : 0 ≤ x' ∧ x' ≤ 4294967295) : St w1 ny ng v l p s d sp dp q dst kind ty k0 x' k2 k3 k4 kv (W.setCell ⟨ng, 14, none⟩ (.int .u32 x')) := ⟨h.b.setCell (p := ⟨ng, 14, none⟩) h.lg _, h.y.other h.ne, h.g.set14 x' hx, h.ly, h.lg, h.ne, own_set h.own _ (fun k hk => (h.no k hk).2), h.no, h.fk⟩
theorem St.g15 {w1 : World} {ny ng : Nat} {v : Value} {l : List Fl} {p s d sp dp q dst kind ty k0 k1 k2 k3 k4 kv : Int} {W : World} (h : St w1 ny ng v l p s d sp dp q dst kind ty k0 k1 k2 k3 k4 kv W) (x' : Int) (hx : 0 ≤ x' ∧ x' ≤ 4294967295) : St w1 ny ng v l p s d sp dp q dst kind ty k0 k1 x' k3 k4 kv (W.setCell ⟨ng, 15, none⟩ (.int .u32 x')) := ⟨h.b.setCell (p := ⟨ng, 15, none⟩) h.lg _, h.y.other h.ne, h.g.set15 x' hx, h.ly, h.lg, h.ne, own_set h.own _ (fun k hk => (h.no k hk).2), h.no, h.fk⟩
theorem St.g16 {w1 : World} {ny ng : Nat} {v : Value} {l : List Fl} {p s d sp dp q dst kind ty k0 k1 k2 k3 k4 kv : Int} {W : World} (h : St w1 ny ng v l p s d sp dp q dst kind ty k0 k1 k2 k3 k4 kv W) (x' : Int) (hx : 0 ≤ x' ∧ x' ≤ 65535) : St w1 ny ng v l p s d sp dp q dst kind ty k0 k1 k2 x' k4 kv (W.setCell ⟨ng, 16, none⟩ (.int .u16 x')) := ⟨h.b.setCell (p := ⟨ng, 16, none⟩) h.lg _, h.y.other h.ne, h.g.set16 x' hx, h.ly, h.lg, h.ne, own_set h.own _ (fun k hk => (h.no k hk).2), h.no, h.fk⟩
theorem St.g17 {w1 : World} {ny ng : Nat} {v : Value} {l : List Fl} {p s d sp dp q dst kind ty k0 k1 k2 k3 k4 kv : Int} {W : World} (h : St w1 ny ng v l p s d sp dp q dst kind ty k0 k1 k2 k3 k4 kv W) (x' : Int) (hx : 0 ≤ x' ∧ x' ≤ 65535) : St w1 ny ng v l p s d sp dp q dst kind ty k0 k1 k2 k3 x' kv (W.setCell ⟨ng, 17, none⟩ (.int .u16 x')) := ⟨h.b.setCell (p := ⟨ng, 17, none⟩) h.lg _, h.y.other h.ne, h.g.set17 x' hx, h.ly, h.lg, h.ne, own_set h.own _ (fun k hk => (h.no k hk).2), h.no, h.fk⟩
theorem St.g18 {w1 : World} {ny ng : Nat} {v : Value} {l : List Fl} {p s d sp dp q dst kind ty k0 k1 k2 k3 k4 kv : Int} {W : World} (h : St w1 ny ng v l p s d sp dp q dst kind ty k0 k1 k2 k3 k4 kv W) (x' : Int) (hx : 0 ≤ x' ∧ x' ≤ 255) : St w1 ny ng v l p s d sp dp q dst kind ty k0 k1 k2 k3 k4 x' (W.setCell ⟨ng, 18, none⟩ (.int .u8 x')) := ⟨h.b.setCell (p := ⟨ng, 18, none⟩) h.lg _, h.y.other h.ne, h.g.set18 x' hx, h.ly, h.lg, h.ne, own_set h.own _ (fun k hk => (h.no k hk).2), h.no, h.fk⟩
theorem Yl.block {W W' : World} {b : Nat} {p s d sp dp q : Int} (h : Yl W b p s d sp dp q) (hb : W'.heap[b]? = W.heap[b]?) : Yl W' b p s d sp dp q :=
  ⟨fun j v hv => (World.cell?_of_block (a := ⟨b, 0 + j, none⟩) hb).trans (h.r j v hv), fun j hj => by rw [World.cell?_of_block (a := ⟨b, 0 + j, none⟩) hb, World.frozen?_of_block (a := ⟨b, 0 + j, none⟩) hb]; exact h.t j hj, h.hp, h.hq⟩
theorem Gl.block {W W' : World} {b : Nat} {dst kind ty k0 k1 k2 k3 k4 kv : Int} (h : Gl W b dst kind ty k0 k1 k2 k3 k4 kv) (hb : W'.heap[b]? = W.heap[b]?) : Gl W' b dst kind ty k0 k1 k2 k3 k4 kv :=
  ⟨fun j v hv => (World.cell?_of_block (a := ⟨b, 0 + j, none⟩) hb).trans (h.r j v hv), fun j hj => by rw [World.cell?_of_block (a := ⟨b, 0 + j, none⟩) hb, World.frozen?_of_block (a := ⟨b, 0 + j, none⟩) hb]; exact h.t j hj, h.f⟩
theorem fl_one1 (y : Fl) : ∀ u ∈ y.cells, u.oneCell' = true := by
  intro u hu
  simp only [Fl.cells, Fl.arr, List.mem_cons, List.not_mem_nil, or_false] at hu
  rcases hu with rfl | rfl | rfl | rfl | rfl | rfl <;> rfl
theorem St.append {w1 : World} {ny ng : Nat} {v : Value} {l : List Fl} {p s d sp dp q dst kind ty k0 k1 k2 k3 k4 kv : Int} {W : World} (h : St w1 ny ng v l p s d sp dp q dst kind ty k0 k1 k2 k3 k4 kv W) {w' : World} {g cap m : Nat} {x : Fl} (hx : Fk x) (hm : l.length + 1 = m) (ho : w'.ownsRow w1.heap.size 27 6 (.slice (some ⟨g, 0, none⟩) m cap) m ((l.map Fl.cells).flatten ++ x.cells)) (hg : W.grownBy w' v.ownBlock) (ha : v.ownBlock = some g ∨ g = W.heap.size) :
    St w1 ny ng (.slice (some ⟨g, 0, none⟩) m cap) (l ++ [x]) p s d sp dp q dst kind ty k0 k1 k2 k3 k4 kv w' := by
  subst hm
  refine ⟨h.b.grown hg h.b.size (fun k hk => (h.own.lt k hk).1), h.y.block (hg.block _ h.y.lt (fun e => (h.no _ e.symm).1 rfl)), h.g.block (hg.block _ h.g.lt (fun e => (h.no _ e.symm).2 rfl)), h.ly, h.lg, h.ne, ?_, ?_, ?_⟩
  · have e : ((l ++ [x]).map Fl.cells).flatten = (l.map Fl.cells).flatten ++ x.cells := by simp
    rw [e, List.length_append]
    exact ho
  · intro k hk
    obtain rfl : g = k := by simpa [Value.ownBlock] using hk
    rcases ha with ha | ha
    · exact h.no _ ha
    · have := h.y.lt
      have := h.g.lt
      exact ⟨by omega, by omega⟩
  · intro z hz
    rcases List.mem_append.1 hz with hz | hz
    · exact h.fk z hz
    · rw [List.mem_singleton.1 hz]
      exact hx
theorem own_rd {w : World} {base g m cap : Nat} {e : TypeId} {l : List Fl} (h : w.ownsRow base e 6 (.slice (some ⟨g, 0, none⟩) m cap) l.length (l.map Fl.cells).flatten) (hm : l.length = m) : Rd w (some ⟨g, 0, none⟩) 6 (l.map Fl.cells) := by
  subst hm
  exact Rd.of_own h (fl_each l) (h.lt g rfl).2
theorem own_cap {w : World} {base g m cap : Nat} {e : TypeId} {size n : Nat} {xs : List Value} (h : w.ownsRow base e size (.slice (some ⟨g, 0, none⟩) m cap) n xs) : n ≤ cap ∧ cap ≤ maxLen := by
  rcases h.2 with ⟨h1, _⟩ | ⟨g', c', cur, h1, _, _, h2, h3, _⟩
  · cases h1
  · injection h1 with _ _ h1
    subst h1
    exact ⟨h2, h3⟩
theorem Rd.drop {w : World} {b off size : Nat} {css : List (List Value)} (h : Rd w (some ⟨b, off, none⟩) size css) (n : Nat) : Rd w (some ⟨b, off + n * size, none⟩) size (css.drop n) :=
  ⟨fun cs hcs => h.each cs (List.mem_of_mem_drop hcs), fun hne => by
    have hl : css ≠ [] := by rintro rfl; simp at hne
    obtain ⟨b', off', e, hlt, hc⟩ := h.mem hl
    simp only [Option.some.injEq, Addr.mk.injEq, and_true] at e
    obtain ⟨rfl, rfl⟩ := e
    refine ⟨b, off + n * size, rfl, hlt, fun i cs hi j v hv => ?_⟩
    rw [List.getElem?_drop] at hi
    have := hc _ cs hi j v hv
    rw [Nat.add_mul] at this
    rw [← this]
    congr 2
    omega⟩

end Go.Proofs.YtapeminpgojeaaaDoor

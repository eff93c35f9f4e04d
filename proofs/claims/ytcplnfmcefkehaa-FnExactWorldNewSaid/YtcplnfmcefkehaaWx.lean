/- Walks: a feed in a box of its own; heads and feeds are made. -/
import Derived.Test.YtcplnfmcefkehaaWw
namespace Go.Proofs.Ytcplnfmcefkehaa
open Go.RowKit

theorem grow_set (w : World) (p : Addr) (u : Value) : w.grownBy (w.setCell p u) (some p.block) := ⟨rfl, rfl, rfl, by simp [World.setCell], fun k _ hk => Below.heap_setCell w p u k (fun e => hk (by rw [e]))⟩
theorem O1.ne_box {α : Type} {enc : α → Value} {B q : Nat} {e t : TypeId} {w : World} {v : Value} {l : List α} {cur : Array Value} {x : Nat × Nat} (h : O1 enc B e w v l) (hq : w.heap[q]? = some (.cells cur t x)) (ht : e ≠ t) : v.ownBlock ≠ some q := by
  intro he
  rcases h.2 with ⟨rfl, _⟩ | ⟨k, cap, cur2, rfl, hk, hh, r⟩
  · simp [Value.ownBlock] at he
  · simp only [Value.ownBlock, Option.some.injEq] at he
    subst he
    rw [hh] at hq
    injection hq with hq
    injection hq with _ h3
    exact ht h3
theorem O1.setq {α : Type} {enc : α → Value} {B q : Nat} {e t : TypeId} {w : World} {v : Value} {l : List α} {cur : Array Value} {x : Nat × Nat} (h : O1 enc B e w v l) (hq : w.heap[q]? = some (.cells cur t x)) (ht : e ≠ t) (i : Nat) (u : Value) : O1 enc B e (w.setCell ⟨q, i, none⟩ u) v l :=
  h.grown (grow_set w ⟨q, i, none⟩ u) (.inr (h.ne_box hq ht))
theorem box_set {w : World} {q i : Nat} {cur : Array Value} {t : TypeId} (h : w.heap[q]? = some (.cells cur t (0, 0))) (u : Value) : (w.setCell ⟨q, i, none⟩ u).heap[q]? = some (.cells (cur.setIfInBounds i u) t (0, 0)) := by
  simp [World.setCell, Array.getElem?_modify, h]

/-- A feed in a box at block q; its rows lie from block B on. -/
structure FB (B q : Nat) (w : World) (f : Fd) (vb vh : Value) : Prop where
  box : w.heap[q]? = some (.cells #[.int .i64 f.pub, .int .i64 f.hd.len, .int .i64 f.hd.dg, .int .i64 f.hd.sg, vb, vh] 39 (0, 0))
  fo : FeedO B w f vb vh
section
variable {B q : Nat} {w w' : World} {f : Fd} {vb vh : Value}
theorem FB.c0 (h : FB B q w f vb vh) : w.cell? ⟨q, 0, none⟩ = some (.int .i64 f.pub) := cell_of_row _ _ 0 _ _ _ h.box
theorem FB.c1 (h : FB B q w f vb vh) : w.cell? ⟨q, 1, none⟩ = some (.int .i64 f.hd.len) := cell_of_row _ _ 1 _ _ _ h.box
theorem FB.c2 (h : FB B q w f vb vh) : w.cell? ⟨q, 2, none⟩ = some (.int .i64 f.hd.dg) := cell_of_row _ _ 2 _ _ _ h.box
theorem FB.c3 (h : FB B q w f vb vh) : w.cell? ⟨q, 3, none⟩ = some (.int .i64 f.hd.sg) := cell_of_row _ _ 3 _ _ _ h.box
theorem FB.c4 (h : FB B q w f vb vh) : w.cell? ⟨q, 4, none⟩ = some vb := cell_of_row _ _ 4 _ _ _ h.box
theorem FB.c5 (h : FB B q w f vb vh) : w.cell? ⟨q, 5, none⟩ = some vh := cell_of_row _ _ 5 _ _ _ h.box
theorem FB.lt (h : FB B q w f vb vh) : q < w.heap.size := (Array.getElem?_eq_some_iff.1 h.box).1
theorem FB.fz (h : FB B q w f vb vh) (o : Nat) : w.frozen? ⟨q, o, none⟩ = false := by simp [World.frozen?, h.box]
theorem FB.below (h : FB B q w f vb vh) (hb : Below w.heap.size w w') : FB B q w' f vb vh := ⟨(hb.block q h.lt).trans h.box, h.fo.below hb⟩
theorem FB.only {g : Nat} (h : FB B q w f vb vh) (hb : Only g w w') (hB : g < B) (hq : g ≠ q) : FB B q w' f vb vh :=
  ⟨(hb.block q h.lt (fun e => hq (Option.some.inj e).symm)).trans h.box, ⟨h.fo.bl.only hb hB, h.fo.hv.only hb hB⟩⟩
theorem FB.mono {B' : Nat} (h : FB B q w f vb vh) (hB : B' ≤ B) : FB B' q w f vb vh := ⟨h.box, h.fo.mono hB⟩
theorem FB.made (h : FeedO B w f vb vh) : FB B w.heap.size (w.alloc (.cells #[.int .i64 f.pub, .int .i64 f.hd.len, .int .i64 f.hd.dg, .int .i64 f.hd.sg, vb, vh] 39)) f vb vh :=
  ⟨heap_alloc_new _ _, h.below ((Below.refl _ _).alloc (Nat.le_refl _) _)⟩
theorem FB.nb (h : FB B q w f vb vh) : vb.ownBlock ≠ some q := h.fo.bl.ne_box h.box (by decide)
theorem FB.nh (h : FB B q w f vb vh) : vh.ownBlock ≠ some q := h.fo.hv.ne_box h.box (by decide)
theorem FB.grown (h : FB B q w f vb vh) {row : Option Nat} (hg : w.grownBy w' row) (hr : row ≠ some q) (hb : vb.ownBlock = none ∨ vb.ownBlock ≠ row) (hh : vh.ownBlock = none ∨ vh.ownBlock ≠ row) : FB B q w' f vb vh :=
  ⟨(hg.block q h.lt (fun e => hr e.symm)).trans h.box, ⟨h.fo.bl.grown hg hb, h.fo.hv.grown hg hh⟩⟩
/-- A new value for the blocks: first the row has grown, then the box takes it. -/
theorem FB.set4 (h : FB B q w f vb vh) {vb' : Value} {bl' : List ByteArray} (hg : w.grownBy w' vb.ownBlock) (ho : O1 Value.string B 9 w' vb' bl') : FB B q (w'.setCell ⟨q, 4, none⟩ vb') { f with bl := bl' } vb' vh := by
  have hq := (hg.block q h.lt (fun e => h.nb e.symm)).trans h.box
  have hh := h.fo.hv.grown hg (O1.ne_ h.fo.hv h.fo.bl (by decide))
  exact ⟨box_set hq vb', ⟨ho.setq hq (by decide) _ _, hh.setq hq (by decide) _ _⟩⟩
theorem FB.set5 (h : FB B q w f vb vh) {vh' : Value} {hv' : List Bool} (hg : w.grownBy w' vh.ownBlock) (ho : O1 Value.bool B 4 w' vh' hv') : FB B q (w'.setCell ⟨q, 5, none⟩ vh') { f with hv := hv' } vb vh' := by
  have hq := (hg.block q h.lt (fun e => h.nh e.symm)).trans h.box
  have hh := h.fo.bl.grown hg (O1.ne_ h.fo.bl h.fo.hv (by decide))
  exact ⟨box_set hq vh', ⟨hh.setq hq (by decide) _ _, ho.setq hq (by decide) _ _⟩⟩
theorem FB.set0 (h : FB B q w f vb vh) (n : Int) : FB B q (w.setCell ⟨q, 0, none⟩ (.int .i64 n)) { f with pub := n } vb vh :=
  ⟨box_set h.box _, ⟨h.fo.bl.setq h.box (by decide) _ _, h.fo.hv.setq h.box (by decide) _ _⟩⟩
theorem FB.set1 (h : FB B q w f vb vh) (n : Int) : FB B q (w.setCell ⟨q, 1, none⟩ (.int .i64 n)) { f with hd := { f.hd with len := n } } vb vh :=
  ⟨box_set h.box _, ⟨h.fo.bl.setq h.box (by decide) _ _, h.fo.hv.setq h.box (by decide) _ _⟩⟩
theorem FB.set2 (h : FB B q w f vb vh) (n : Int) : FB B q (w.setCell ⟨q, 2, none⟩ (.int .i64 n)) { f with hd := { f.hd with dg := n } } vb vh :=
  ⟨box_set h.box _, ⟨h.fo.bl.setq h.box (by decide) _ _, h.fo.hv.setq h.box (by decide) _ _⟩⟩
theorem FB.set3 (h : FB B q w f vb vh) (n : Int) : FB B q (w.setCell ⟨q, 3, none⟩ (.int .i64 n)) { f with hd := { f.hd with sg := n } } vb vh :=
  ⟨box_set h.box _, ⟨h.fo.bl.setq h.box (by decide) _ _, h.fo.hv.setq h.box (by decide) _ _⟩⟩
end

/-- The head that HeadMake makes. -/
def hmake (s : Int) (l : List Int) : Hd × Bool := if key s && leavesOk l then (⟨l.length, treeD l, s * (pair l.length (treeD l) + 1) % 997⟩, true) else (Hd.zero, false)
/-- What HeadMake leaves. -/
def HeadPost (h : Hd) (ok : Bool) (w : World) (e : Ending) (w' : World) : Prop := e = .returned (.tuple #[.agg #[.int .i64 h.len, .int .i64 h.dg, .int .i64 h.sg], .bool ok]) ∧ Below w.heap.size w w'
theorem treeD_dig {l : List Int} (h : leavesOk l = true) : dig (treeD l) = true := by
  unfold treeD; rw [h]; have := (leavesOk_true.1 h).1; exact fold_dig (dig_true.2 (by omega)) _
end Go.Proofs.Ytcplnfmcefkehaa

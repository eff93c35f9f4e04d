/- Walks: whole feeds are made. -/
import Derived.Test.YtcplnfmcefkehaaWx
import Derived.Test.YtcplnfmcefkehaaLawq
import Derived.Deep.RegionLaw
namespace Go.Proofs.Ytcplnfmcefkehaa
open Go.RowKit

def hpub (s : Int) : Int := if key s then s * 5 % 997 else 0
/-- A new feed. -/
def fnew (p : Int) : Fd := ⟨if key p then p else 0, Hd.zero, [], []⟩
def NewPost (p : Int) (w : World) (e : Ending) (w' : World) : Prop :=
  ∃ ub uh, e = .returned (.tuple #[.agg #[.int .i64 (fnew p).pub, .int .i64 0, .int .i64 0, .int .i64 0, ub, uh], .bool (key p)]) ∧ FeedO w.heap.size w' (fnew p) ub uh ∧ Below w.heap.size w w'
theorem O1.made' {α : Type} {enc : α → Value} {e : TypeId} {S : World} {n : Nat} (hn : S.heap.size = n) : O1 enc n e (S.alloc (.cells #[] e)) (.slice (some ⟨n, 0, none⟩) 0 0) [] := by subst hn; exact O1.made enc S e
theorem O1.setb {α : Type} {enc : α → Value} {B : Nat} {e : TypeId} {w : World} {v : Value} {l : List α} (h : O1 enc B e w v l) {p : Addr} (hp : p.block < B) (u : Value) : O1 enc B e (w.setCell p u) v l :=
  h.grown (grow_set w p u) (.inr (fun e => by have := (h.lt _ e).1; omega))
theorem below_set6 {B q : Nat} {a w : World} (h : Below B a w) (hq : B ≤ q) (x0 x1 x2 x3 x4 x5 : Value) : Below B a ((((((w.setCell ⟨q, 0, none⟩ x0).setCell ⟨q, 1, none⟩ x1).setCell ⟨q, 2, none⟩ x2).setCell ⟨q, 3, none⟩ x3).setCell ⟨q, 4, none⟩ x4).setCell ⟨q, 5, none⟩ x5) :=
  (((((h.setCell hq _).setCell hq _).setCell hq _).setCell hq _).setCell hq _).setCell hq _
theorem FeedO.set6 {B q : Nat} {w : World} {f : Fd} {vb vh : Value} (h : FeedO B w f vb vh) (hq : q < B) (x0 x1 x2 x3 x4 x5 : Value) : FeedO B ((((((w.setCell ⟨q, 0, none⟩ x0).setCell ⟨q, 1, none⟩ x1).setCell ⟨q, 2, none⟩ x2).setCell ⟨q, 3, none⟩ x3).setCell ⟨q, 4, none⟩ x4).setCell ⟨q, 5, none⟩ x5) f vb vh :=
  ⟨(((((h.bl.setb hq _).setb hq _).setb hq _).setb hq _).setb hq _).setb hq _, (((((h.hv.setb hq _).setb hq _).setb hq _).setb hq _).setb hq _).setb hq _⟩
set_option maxHeartbeats 400000 in
theorem FeedNew_s (p : Int) (w : World) : Calls Try.prog 11 #[.int .i64 p] w (NewPost p w) := by
  obtain ⟨b1, HK⟩ : ∃ b, Hid (key p = b) := ⟨_, Lib.hid rfl⟩
  cases b1
  · have HF : Hid ((fnew p).pub = 0) := Lib.hid (by unfold fnew; rw [HK.out]; rfl)
    unfold NewPost
    rw [HF.out, HK.out]
    go_enter Try.func11, Try.ntmps11
    go_wp2_with (go_at_call 9; refine (l3Key_b HK _).mono ?_; rintro e w' ⟨rfl, rfl⟩)
    exact bodyPost_ret (v := .tuple #[.agg #[.int .i64 0, .int .i64 0, .int .i64 0, .int .i64 0, .slice none 0 0, .slice none 0 0], .bool false]) (by simp [results, Try.results11, go_sem]) rfl
      ⟨_, _, rfl, ⟨O1.nil _ _ _ _, O1.nil _ _ _ _⟩, by repeat (first | exact Below.refl _ _ | refine Below.setCell ?_ (Nat.le_refl _) _ | refine Below.alloc ?_ (Nat.le_refl _) _)⟩
  · have HF : Hid ((fnew p).pub = p) := Lib.hid (by unfold fnew; rw [HK.out]; rfl)
    unfold NewPost
    rw [HF.out, HK.out]
    go_enter Try.func11, Try.ntmps11
    go_wp2_with (first
      | (go_at_call 9; refine (l3Key_b HK _).mono ?_; rintro e w' ⟨rfl, rfl⟩)
      | (go_at_call 28; refine (l11Empty_any _).mono ?_; rintro e w1 ⟨rfl, hb1⟩; have hcc := bcell hb1; have hs1 := hb1.size; simp at hs1; have hs2 : w.heap.size < w1.heap.size := by omega))
    have hb01 : Below w.heap.size w w1 := ((Below.refl w.heap.size w).alloc (Nat.le_refl _) _).trans (hb1.mono (by simp))
    refine bodyPost_ret (v := .tuple #[.agg #[.int .i64 p, .int .i64 0, .int .i64 0, .int .i64 0, .slice (some ⟨w1.heap.size, 0, none⟩) 0 0, .slice (some ⟨w1.heap.size + 1, 0, none⟩) 0 0], .bool true]) (by simp [results, Try.results11, go_sem, hs2, hcc]) rfl ⟨_, _, rfl, ⟨?_, ?_⟩, ?_⟩
    · exact (((O1.made' (by simp)).alloc _).mono (B := w1.heap.size) (by omega))
    · exact ((O1.made' (by simp)).mono (B := w1.heap.size + 1) (by omega))
    · refine Below.alloc (Below.alloc ?_ (by simp; omega) _) (by simp; omega) _
      exact below_set6 hb01 (Nat.le_refl _) _ _ _ _ _ _

section
variable {B q : Nat} {w w' : World} {f : Fd} {vb vh : Value}
theorem FB.g4 (h : FB B q w f vb vh) (hg : w.grownBy w' vb.ownBlock) : (∃ u, w'.cell? ⟨q, 4, none⟩ = some u) ∧ w'.frozen? ⟨q, 4, none⟩ = false := by
  have hq := (hg.block q h.lt (fun e => h.nb e.symm)).trans h.box
  exact ⟨⟨vb, cell_of_row _ _ 4 _ _ _ hq⟩, by simp [World.frozen?, hq]⟩
theorem FB.g5 (h : FB B q w f vb vh) (hg : w.grownBy w' vh.ownBlock) : (∃ u, w'.cell? ⟨q, 5, none⟩ = some u) ∧ w'.frozen? ⟨q, 5, none⟩ = false := by
  have hq := (hg.block q h.lt (fun e => h.nh e.symm)).trans h.box
  exact ⟨⟨vh, cell_of_row _ _ 5 _ _ _ hq⟩, by simp [World.frozen?, hq]⟩
end
theorem below_drew' {B : Nat} {a b : World} (h : Below B a b) : Below B a b.drew := h.drew
theorem O1.sl2 {α : Type} {enc : α → Value} {B : Nat} {e : TypeId} {w : World} {v : Value} {l : List α} (h : O1 enc B e w v l) : ∃ A n c, v = .slice A n c ∧ Hid (n = l.length) := by
  obtain ⟨A, c, h⟩ := h.sl; exact ⟨A, _, c, h, Lib.hid rfl⟩
theorem HeadPublic_sb {s p : Int} (h : Hid (hpub s = p)) (w : World) : Calls Try.prog 12 #[.int .i64 s] w fun e w' => e = .returned (.int .i64 p) ∧ w = w' := by
  rw [← h.out]; exact HeadPublic_s s w
theorem FB.h4' {B q : Nat} {w w' : World} {f : Fd} {vb vh : Value} (h : FB B q w f vb vh) (hg : w.grownBy w' vh.ownBlock) : w'.cell? ⟨q, 4, none⟩ = some vb :=
  cell_of_row _ _ 4 _ _ _ ((hg.block q h.lt (fun e => h.nh e.symm)).trans h.box)
theorem FB.h4 {B q : Nat} {w w' : World} {f : Fd} {vb vh : Value} (h : FB B q w f vb vh) (hg : w.grownBy w' vb.ownBlock) : w'.cell? ⟨q, 4, none⟩ = some vb :=
  cell_of_row _ _ 4 _ _ _ ((hg.block q h.lt (fun e => h.nb e.symm)).trans h.box)
/-- What l91Whole leaves. -/
def WholePost (bl : List ByteArray) (w : World) (e : Ending) (w' : World) : Prop :=
  ∃ f ub uh, e = .returned (.agg #[.int .i64 f.pub, .int .i64 f.hd.len, .int .i64 f.hd.dg, .int .i64 f.hd.sg, ub, uh]) ∧ FeedO w.heap.size w' f ub uh ∧ f.bl = bl ∧ f.hv.length = bl.length ∧ Below w.heap.size w w'
theorem FB.fill {B q : Nat} {w : World} {f : Fd} {vb vh x0 x1 x2 x3 x4 x5 : Value} (hq : w.heap[q]? = some (.cells #[x0, x1, x2, x3, x4, x5] 39 (0, 0))) (ho : FeedO B w f vb vh) :
    FB B q ((((((w.setCell ⟨q, 0, none⟩ (.int .i64 f.pub)).setCell ⟨q, 1, none⟩ (.int .i64 f.hd.len)).setCell ⟨q, 2, none⟩ (.int .i64 f.hd.dg)).setCell ⟨q, 3, none⟩ (.int .i64 f.hd.sg)).setCell ⟨q, 4, none⟩ vb).setCell ⟨q, 5, none⟩ vh) f vb vh := by
  have b0 := box_set (i := 0) hq (.int .i64 f.pub)
  have b1 := box_set (i := 1) b0 (.int .i64 f.hd.len)
  have b2 := box_set (i := 2) b1 (.int .i64 f.hd.dg)
  have b3 := box_set (i := 3) b2 (.int .i64 f.hd.sg)
  have b4 := box_set (i := 4) b3 vb
  have b5 := box_set (i := 5) b4 vh
  exact ⟨b5, ⟨(((((ho.bl.setq hq (by decide) _ _).setq b0 (by decide) _ _).setq b1 (by decide) _ _).setq b2 (by decide) _ _).setq b3 (by decide) _ _).setq b4 (by decide) _ _,
    (((((ho.hv.setq hq (by decide) _ _).setq b0 (by decide) _ _).setq b1 (by decide) _ _).setq b2 (by decide) _ _).setq b3 (by decide) _ _).setq b4 (by decide) _ _⟩⟩
end Go.Proofs.Ytcplnfmcefkehaa

/- Walks: a feed in a box of its own; heads and feeds are made. -/
import Derived.Test.YtlhiabnablbkpaaWw
namespace Go.Proofs.Ytlhiabnablbkpaa
open Go.RowKit

theorem grow_set (w : World) (p : Addr) (u : Value) : w.grownBy (w.setCell p u) (some p.block) := ⟨rfl, rfl, rfl, by simp [World.setCell], fun k _ hk => Below.heap_setCell w p u k (fun e => hk (by rw [e]))⟩
theorem O1.ne_box {α : Type} {enc : α → Value} {B q : Nat} {e t : TypeId} {w : World} {v : Value} {l : List α} {cur : Array Value} {x : Nat × Nat} (h : O1 enc B e w v l) (hq : w.heap[q]? = some (.cells cur t x)) (ht : e ≠ t) : v.ownBlock ≠ some q := by
  intro he
  rcases h.2 with ⟨rfl, _⟩ | ⟨k, cap, cur2, rfl, hk, hh, r⟩
  · simp [Value.ownBlock] at he
  · simp only [Value.ownBlock, Option.some.injEq] at he
    subst he
    rw [hh] at hq
    injection hq with hq
    injection hq with _ h3
    exact ht h3
theorem O1.setq {α : Type} {enc : α → Value} {B q : Nat} {e t : TypeId} {w : World} {v : Value} {l : List α} {cur : Array Value} {x : Nat × Nat} (h : O1 enc B e w v l) (hq : w.heap[q]? = some (.cells cur t x)) (ht : e ≠ t) (i : Nat) (u : Value) : O1 enc B e (w.setCell ⟨q, i, none⟩ u) v l :=
  h.grown (grow_set w ⟨q, i, none⟩ u) (.inr (h.ne_box hq ht))
theorem box_set {w : World} {q i : Nat} {cur : Array Value} {t : TypeId} (h : w.heap[q]? = some (.cells cur t (0, 0))) (u : Value) : (w.setCell ⟨q, i, none⟩ u).heap[q]? = some (.cells (cur.setIfInBounds i u) t (0, 0)) := by
  simp [World.setCell, Array.getElem?_modify, h]

/-- A feed in a box at block q; its rows lie from block B on. -/
structure FB (B q : Nat) (w : World) (f : Fd) (vb vh : Value) : Prop where
  box : w.heap[q]? = some (.cells #[.int .i64 f.pub, .int .i64 f.hd.len, .int .i64 f.hd.dg, .int .i64 f.hd.sg, vb, vh] 34 (0, 0))
  fo : FeedO B w f vb vh
section
variable {B q : Nat} {w w' : World} {f : Fd} {vb vh : Value}
theorem FB.c0 (h : FB B q w f vb vh) : w.cell? ⟨q, 0, none⟩ = some (.int .i64 f.pub) := cell_of_row _ _ 0 _ _ _ h.box
theorem FB.c1 (h : FB B q w f vb vh) : w.cell? ⟨q, 1, none⟩ = some (.int .i64 f.hd.len) := cell_of_row _ _ 1 _ _ _ h.box
theorem FB.c2 (h : FB B q w f vb vh) : w.cell? ⟨q, 2, none⟩ = some (.int .i64 f.hd.dg) := cell_of_row _ _ 2 _ _ _ h.box
theorem FB.c3 (h : FB B q w f vb vh) : w.cell? ⟨q, 3, none⟩ = some (.int .i64 f.hd.sg) := cell_of_row _ _ 3 _ _ _ h.box
theorem FB.c4 (h : FB B q w f vb vh) : w.cell? ⟨q, 4, none⟩ = some vb := cell_of_row _ _ 4 _ _ _ h.box
theorem FB.c5 (h : FB B q w f vb vh) : w.cell? ⟨q, 5, none⟩ = some vh := cell_of_row _ _ 5 _ _ _ h.box
theorem FB.lt (h : FB B q w f vb vh) : q < w.heap.size := (Array.getElem?_eq_some_iff.1 h.box).1
theorem FB.fz (h : FB B q w f vb vh) (o : Nat) : w.frozen? ⟨q, o, none⟩ = false := by simp [World.frozen?, h.box]
theorem FB.below (h : FB B q w f vb vh) (hb : Below w.heap.size w w') : FB B q w' f vb vh := ⟨(hb.block q h.lt).trans h.box, h.fo.below hb⟩
theorem FB.only {g : Nat} (h : FB B q w f vb vh) (hb : Only g w w') (hB : g < B) (hq : g ≠ q) : FB B q w' f vb vh :=
  ⟨(hb.block q h.lt (fun e => hq (Option.some.inj e).symm)).trans h.box, ⟨h.fo.bl.only hb hB, h.fo.hv.only hb hB⟩⟩
theorem FB.mono {B' : Nat} (h : FB B q w f vb vh) (hB : B' ≤ B) : FB B' q w f vb vh := ⟨h.box, h.fo.mono hB⟩
theorem FB.made (h : FeedO B w f vb vh) : FB B w.heap.size (w.alloc (.cells #[.int .i64 f.pub, .int .i64 f.hd.len, .int .i64 f.hd.dg, .int .i64 f.hd.sg, vb, vh] 34)) f vb vh :=
  ⟨heap_alloc_new _ _, h.below ((Below.refl _ _).alloc (Nat.le_refl _) _)⟩
theorem FB.nb (h : FB B q w f vb vh) : vb.ownBlock ≠ some q := h.fo.bl.ne_box h.box (by decide)
theorem FB.nh (h : FB B q w f vb vh) : vh.ownBlock ≠ some q := h.fo.hv.ne_box h.box (by decide)
theorem FB.grown (h : FB B q w f vb vh) {row : Option Nat} (hg : w.grownBy w' row) (hr : row ≠ some q) (hb : vb.ownBlock = none ∨ vb.ownBlock ≠ row) (hh : vh.ownBlock = none ∨ vh.ownBlock ≠ row) : FB B q w' f vb vh :=
  ⟨(hg.block q h.lt (fun e => hr e.symm)).trans h.box, ⟨h.fo.bl.grown hg hb, h.fo.hv.grown hg hh⟩⟩
/-- A new value for the blocks: first the row has grown, then the box takes it. -/
theorem FB.set4 (h : FB B q w f vb vh) {vb' : Value} {bl' : List ByteArray} (hg : w.grownBy w' vb.ownBlock) (ho : O1 Value.string B 9 w' vb' bl') : FB B q (w'.setCell ⟨q, 4, none⟩ vb') { f with bl := bl' } vb' vh := by
  have hq := (hg.block q h.lt (fun e => h.nb e.symm)).trans h.box
  have hh := h.fo.hv.grown hg (O1.ne_ h.fo.hv h.fo.bl (by decide))
  exact ⟨box_set hq vb', ⟨ho.setq hq (by decide) _ _, hh.setq hq (by decide) _ _⟩⟩
theorem FB.set5 (h : FB B q w f vb vh) {vh' : Value} {hv' : List Bool} (hg : w.grownBy w' vh.ownBlock) (ho : O1 Value.bool B 4 w' vh' hv') : FB B q (w'.setCell ⟨q, 5, none⟩ vh') { f with hv := hv' } vb vh' := by
  have hq := (hg.block q h.lt (fun e => h.nh e.symm)).trans h.box
  have hh := h.fo.bl.grown hg (O1.ne_ h.fo.bl h.fo.hv (by decide))
  exact ⟨box_set hq vh', ⟨hh.setq hq (by decide) _ _, ho.setq hq (by decide) _ _⟩⟩
theorem FB.set0 (h : FB B q w f vb vh) (n : Int) : FB B q (w.setCell ⟨q, 0, none⟩ (.int .i64 n)) { f with pub := n } vb vh :=
  ⟨box_set h.box _, ⟨h.fo.bl.setq h.box (by decide) _ _, h.fo.hv.setq h.box (by decide) _ _⟩⟩
theorem FB.set1 (h : FB B q w f vb vh) (n : Int) : FB B q (w.setCell ⟨q, 1, none⟩ (.int .i64 n)) { f with hd := { f.hd with len := n } } vb vh :=
  ⟨box_set h.box _, ⟨h.fo.bl.setq h.box (by decide) _ _, h.fo.hv.setq h.box (by decide) _ _⟩⟩
theorem FB.set2 (h : FB B q w f vb vh) (n : Int) : FB B q (w.setCell ⟨q, 2, none⟩ (.int .i64 n)) { f with hd := { f.hd with dg := n } } vb vh :=
  ⟨box_set h.box _, ⟨h.fo.bl.setq h.box (by decide) _ _, h.fo.hv.setq h.box (by decide) _ _⟩⟩
theorem FB.set3 (h : FB B q w f vb vh) (n : Int) : FB B q (w.setCell ⟨q, 3, none⟩ (.int .i64 n)) { f with hd := { f.hd with sg := n } } vb vh :=
  ⟨box_set h.box _, ⟨h.fo.bl.setq h.box (by decide) _ _, h.fo.hv.setq h.box (by decide) _ _⟩⟩
end

/-- The head that HeadMake makes. -/
def hmake (s : Int) (l : List Int) : Hd × Bool := if key s && leavesOk l then (⟨l.length, treeD l, s * (pair l.length (treeD l) + 1) % 997⟩, true) else (Hd.zero, false)
/-- What HeadMake leaves. -/
def HeadPost (h : Hd) (ok : Bool) (w : World) (e : Ending) (w' : World) : Prop := e = .returned (.tuple #[.agg #[.int .i64 h.len, .int .i64 h.dg, .int .i64 h.sg], .bool ok]) ∧ Below w.heap.size w w'
theorem l2Leaves_b {l : List Int} {b : Bool} (h : Hid (leavesOk l = b)) (v : Value) (w : World) (hv : RI w v l) : Calls Try.prog 136 #[v] w fun e w' => e = .returned (.bool b) ∧ w = w' := by
  rw [← h.out]; exact l2Leaves_any l v w hv
theorem TreeDigest_sb {l : List Int} {d : Int} (h : Hid (treeD l = d)) (v : Value) (w : World) (hv : RI w v l) : Calls Try.prog 134 #[v] w fun e w' => e = .returned (.int .i64 d) ∧ Below w.heap.size w w' := by
  rw [← h.out]; exact TreeDigest_s l v w hv
theorem treeD_dig {l : List Int} (h : leavesOk l = true) : dig (treeD l) = true := by
  unfold treeD; rw [h]; have := (leavesOk_true.1 h).1; exact fold_dig (dig_true.2 (by omega)) _
set_option maxHeartbeats 400000 in
theorem HeadMake_s (s : Int) (l : List Int) (v : Value) (w : World) (hv : RI w v l) : Calls Try.prog 125 #[.int .i64 s, v] w (HeadPost (hmake s l).1 (hmake s l).2 w) := by
  have HV := Lib.hid hv
  obtain ⟨A, c, rfl, n1, n2, _⟩ := hv
  unfold maxLen at n2
  have hbm : l.length ≤ 9223372036854775807 := by have := n1.1; omega
  clear n1 n2
  obtain ⟨b1, HK⟩ : ∃ b, Hid (key s = b) := ⟨_, Lib.hid rfl⟩
  obtain ⟨b2, HL⟩ : ∃ b, Hid (leavesOk l = b) := ⟨_, Lib.hid rfl⟩
  have hb0 : Below w.heap.size w (w.alloc (.cells #[.int .i64 0, .int .i64 0, .int .i64 0] 32)) := (Below.refl _ _).alloc (Nat.le_refl _) _
  have hr0 := HV.out.below hb0
  cases b1
  · have HR : Hid (hmake s l = (Hd.zero, false)) := Lib.hid (by unfold hmake; rw [HK.out]; rfl)
    rw [HR.out]
    go_enter Try.func125, Try.ntmps125
    go_wp2_with (first
      | (go_at_call 99; refine (l3Key_b HK _).mono ?_; rintro e w' ⟨rfl, rfl⟩)
      | (go_at_call 136; refine (l2Leaves_b HL _ _ hr0).mono ?_; rintro e w' ⟨rfl, rfl⟩))
    exact bodyPost_ret (v := .tuple #[.agg #[.int .i64 0, .int .i64 0, .int .i64 0], .bool false]) (by simp [results, Try.results125, go_sem]) rfl ⟨rfl, by repeat (first | exact hb0 | exact Below.refl _ _ | refine Below.setCell ?_ (Nat.le_refl _) _ | refine Below.alloc ?_ (Nat.le_refl _) _)⟩
  cases b2
  · have HR : Hid (hmake s l = (Hd.zero, false)) := Lib.hid (by unfold hmake; rw [HK.out, HL.out]; rfl)
    rw [HR.out]
    go_enter Try.func125, Try.ntmps125
    go_wp2_with (first
      | (go_at_call 99; refine (l3Key_b HK _).mono ?_; rintro e w' ⟨rfl, rfl⟩)
      | (go_at_call 136; refine (l2Leaves_b HL _ _ hr0).mono ?_; rintro e w' ⟨rfl, rfl⟩))
    exact bodyPost_ret (v := .tuple #[.agg #[.int .i64 0, .int .i64 0, .int .i64 0], .bool false]) (by simp [results, Try.results125, go_sem]) rfl ⟨rfl, by repeat (first | exact hb0 | exact Below.refl _ _ | refine Below.setCell ?_ (Nat.le_refl _) _ | refine Below.alloc ?_ (Nat.le_refl _) _)⟩
  · have HR : Hid (hmake s l = (⟨l.length, treeD l, s * (pair l.length (treeD l) + 1) % 997⟩, true)) := Lib.hid (by unfold hmake; rw [HK.out, HL.out]; rfl)
    rw [HR.out]
    obtain ⟨s1, s2⟩ := key_true.1 HK.out
    have hl16 := (leavesOk_true.1 HL.out).1
    have hd1 : dig (l.length : Int) = true := dig_true.2 (by omega)
    have hd2 := treeD_dig HL.out
    have hp := pair_bd l.length (treeD l)
    obtain ⟨d, HD⟩ : ∃ d, Hid (treeD l = d) := ⟨_, Lib.hid rfl⟩
    obtain ⟨m, HM⟩ : ∃ m, Hid (pair l.length d + 1 = m) := ⟨_, Lib.hid rfl⟩
    rw [HD.out] at hd2 hp
    rw [HD.out]
    show Calls _ _ _ _ (HeadPost ⟨l.length, d, s * (pair l.length d + 1) % 997⟩ true w)
    rw [HM.out]
    have hm1 : 1 ≤ m ∧ m ≤ 991 := by have := HM.out; omega
    have hsm : 0 ≤ s * m ∧ s * m ≤ 996 * 991 := ⟨Int.mul_nonneg (by omega) (by omega), Int.mul_le_mul (by omega) (by omega) (by omega) (by omega)⟩
    clear hp
    go_enter Try.func125, Try.ntmps125
    go_wp2_with (first
      | (go_at_call 99; refine (l3Key_b HK _).mono ?_; rintro e w' ⟨rfl, rfl⟩)
      | (go_at_call 136; refine (l2Leaves_b HL _ _ hr0).mono ?_; rintro e w' ⟨rfl, rfl⟩)
      | (go_at_call 134; refine (TreeDigest_sb HD _ _ hr0).mono ?_; rintro e w1 ⟨rfl, hb1⟩; have hcc := bcell hb1; have hs1 := hb1.size; simp at hs1; have hs2 : w.heap.size < w1.heap.size := by omega)
      | (go_at_call 131; refine (l3Message_b HM _ hd1 hd2).mono ?_; rintro e w' ⟨rfl, rfl⟩))
    refine bodyPost_ret (v := .tuple #[.agg #[.int .i64 l.length, .int .i64 d, .int .i64 (s * m % 997)], .bool true]) (by simp [results, Try.results125, go_sem, hcc]) rfl ⟨rfl, ?_⟩
    have hb01 := hb0.trans (hb1.mono (by simp))
    exact (((hb01.setCell (Nat.le_refl _) _).setCell (Nat.le_refl _) _).setCell (Nat.le_refl _) _)
theorem HeadMake_sb {s : Int} {l : List Int} {h : Hd} {ok : Bool} (hh : Hid (hmake s l = (h, ok))) (v : Value) (w : World) (hv : RI w v l) : Calls Try.prog 125 #[.int .i64 s, v] w (HeadPost h ok w) := by
  have := HeadMake_s s l v w hv
  rw [hh.out] at this
  exact this
end Go.Proofs.Ytlhiabnablbkpaa

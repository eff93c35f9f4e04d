/- Walks: whole feeds are made. -/
import Derived.Test.YtlhiabnablbkpaaWx
import Derived.Test.YtlhiabnablbkpaaLawq
import Derived.Deep.RegionLaw
namespace Go.Proofs.Ytlhiabnablbkpaa
open Go.RowKit

def hpub (s : Int) : Int := if key s then s * 5 % 997 else 0
/-- A new feed. -/
def fnew (p : Int) : Fd := ⟨if key p then p else 0, Hd.zero, [], []⟩
def NewPost (p : Int) (w : World) (e : Ending) (w' : World) : Prop :=
  ∃ ub uh, e = .returned (.tuple #[.agg #[.int .i64 (fnew p).pub, .int .i64 0, .int .i64 0, .int .i64 0, ub, uh], .bool (key p)]) ∧ FeedO w.heap.size w' (fnew p) ub uh ∧ Below w.heap.size w w'
theorem O1.made' {α : Type} {enc : α → Value} {e : TypeId} {S : World} {n : Nat} (hn : S.heap.size = n) : O1 enc n e (S.alloc (.cells #[] e)) (.slice (some ⟨n, 0, none⟩) 0 0) [] := by subst hn; exact O1.made enc S e
theorem O1.setb {α : Type} {enc : α → Value} {B : Nat} {e : TypeId} {w : World} {v : Value} {l : List α} (h : O1 enc B e w v l) {p : Addr} (hp : p.block < B) (u : Value) : O1 enc B e (w.setCell p u) v l :=
  h.grown (grow_set w p u) (.inr (fun e => by have := (h.lt _ e).1; omega))
theorem below_set6 {B q : Nat} {a w : World} (h : Below B a w) (hq : B ≤ q) (x0 x1 x2 x3 x4 x5 : Value) : Below B a ((((((w.setCell ⟨q, 0, none⟩ x0).setCell ⟨q, 1, none⟩ x1).setCell ⟨q, 2, none⟩ x2).setCell ⟨q, 3, none⟩ x3).setCell ⟨q, 4, none⟩ x4).setCell ⟨q, 5, none⟩ x5) :=
  (((((h.setCell hq _).setCell hq _).setCell hq _).setCell hq _).setCell hq _).setCell hq _
theorem FeedO.set6 {B q : Nat} {w : World} {f : Fd} {vb vh : Value} (h : FeedO B w f vb vh) (hq : q < B) (x0 x1 x2 x3 x4 x5 : Value) : FeedO B ((((((w.setCell ⟨q, 0, none⟩ x0).setCell ⟨q, 1, none⟩ x1).setCell ⟨q, 2, none⟩ x2).setCell ⟨q, 3, none⟩ x3).setCell ⟨q, 4, none⟩ x4).setCell ⟨q, 5, none⟩ x5) f vb vh :=
  ⟨(((((h.bl.setb hq _).setb hq _).setb hq _).setb hq _).setb hq _).setb hq _, (((((h.hv.setb hq _).setb hq _).setb hq _).setb hq _).setb hq _).setb hq _⟩
set_option maxHeartbeats 400000 in
theorem FeedNew_s (p : Int) (w : World) : Calls Try.prog 100 #[.int .i64 p] w (NewPost p w) := by
  obtain ⟨b1, HK⟩ : ∃ b, Hid (key p = b) := ⟨_, Lib.hid rfl⟩
  cases b1
  · have HF : Hid ((fnew p).pub = 0) := Lib.hid (by unfold fnew; rw [HK.out]; rfl)
    unfold NewPost
    rw [HF.out, HK.out]
    go_enter Try.func100, Try.ntmps100
    go_wp2_with (go_at_call 99; refine (l3Key_b HK _).mono ?_; rintro e w' ⟨rfl, rfl⟩)
    exact bodyPost_ret (v := .tuple #[.agg #[.int .i64 0, .int .i64 0, .int .i64 0, .int .i64 0, .slice none 0 0, .slice none 0 0], .bool false]) (by simp [results, Try.results100, go_sem]) rfl
      ⟨_, _, rfl, ⟨O1.nil _ _ _ _, O1.nil _ _ _ _⟩, by repeat (first | exact Below.refl _ _ | refine Below.setCell ?_ (Nat.le_refl _) _ | refine Below.alloc ?_ (Nat.le_refl _) _)⟩
  · have HF : Hid ((fnew p).pub = p) := Lib.hid (by unfold fnew; rw [HK.out]; rfl)
    unfold NewPost
    rw [HF.out, HK.out]
    go_enter Try.func100, Try.ntmps100
    go_wp2_with (first
      | (go_at_call 99; refine (l3Key_b HK _).mono ?_; rintro e w' ⟨rfl, rfl⟩)
      | (go_at_call 133; refine (l11Empty_any _).mono ?_; rintro e w1 ⟨rfl, hb1⟩; have hcc := bcell hb1; have hs1 := hb1.size; simp at hs1; have hs2 : w.heap.size < w1.heap.size := by omega))
    have hb01 : Below w.heap.size w w1 := ((Below.refl w.heap.size w).alloc (Nat.le_refl _) _).trans (hb1.mono (by simp))
    refine bodyPost_ret (v := .tuple #[.agg #[.int .i64 p, .int .i64 0, .int .i64 0, .int .i64 0, .slice (some ⟨w1.heap.size, 0, none⟩) 0 0, .slice (some ⟨w1.heap.size + 1, 0, none⟩) 0 0], .bool true]) (by simp [results, Try.results100, go_sem, hs2, hcc]) rfl ⟨_, _, rfl, ⟨?_, ?_⟩, ?_⟩
    · exact (((O1.made' (by simp)).alloc _).mono (B := w1.heap.size) (by omega))
    · exact ((O1.made' (by simp)).mono (B := w1.heap.size + 1) (by omega))
    · refine Below.alloc (Below.alloc ?_ (by simp; omega) _) (by simp; omega) _
      exact below_set6 hb01 (Nat.le_refl _) _ _ _ _ _ _

section
variable {B q : Nat} {w w' : World} {f : Fd} {vb vh : Value}
theorem FB.g4 (h : FB B q w f vb vh) (hg : w.grownBy w' vb.ownBlock) : (∃ u, w'.cell? ⟨q, 4, none⟩ = some u) ∧ w'.frozen? ⟨q, 4, none⟩ = false := by
  have hq := (hg.block q h.lt (fun e => h.nb e.symm)).trans h.box
  exact ⟨⟨vb, cell_of_row _ _ 4 _ _ _ hq⟩, by simp [World.frozen?, hq]⟩
theorem FB.g5 (h : FB B q w f vb vh) (hg : w.grownBy w' vh.ownBlock) : (∃ u, w'.cell? ⟨q, 5, none⟩ = some u) ∧ w'.frozen? ⟨q, 5, none⟩ = false := by
  have hq := (hg.block q h.lt (fun e => h.nh e.symm)).trans h.box
  exact ⟨⟨vh, cell_of_row _ _ 5 _ _ _ hq⟩, by simp [World.frozen?, hq]⟩
end
theorem below_drew' {B : Nat} {a b : World} (h : Below B a b) : Below B a b.drew := h.drew
theorem O1.sl2 {α : Type} {enc : α → Value} {B : Nat} {e : TypeId} {w : World} {v : Value} {l : List α} (h : O1 enc B e w v l) : ∃ A n c, v = .slice A n c ∧ Hid (n = l.length) := by
  obtain ⟨A, c, h⟩ := h.sl; exact ⟨A, _, c, h, Lib.hid rfl⟩
theorem HeadPublic_sb {s p : Int} (h : Hid (hpub s = p)) (w : World) : Calls Try.prog 101 #[.int .i64 s] w fun e w' => e = .returned (.int .i64 p) ∧ w = w' := by
  rw [← h.out]; exact HeadPublic_s s w
theorem FB.h4' {B q : Nat} {w w' : World} {f : Fd} {vb vh : Value} (h : FB B q w f vb vh) (hg : w.grownBy w' vh.ownBlock) : w'.cell? ⟨q, 4, none⟩ = some vb :=
  cell_of_row _ _ 4 _ _ _ ((hg.block q h.lt (fun e => h.nh e.symm)).trans h.box)
theorem FB.h4 {B q : Nat} {w w' : World} {f : Fd} {vb vh : Value} (h : FB B q w f vb vh) (hg : w.grownBy w' vb.ownBlock) : w'.cell? ⟨q, 4, none⟩ = some vb :=
  cell_of_row _ _ 4 _ _ _ ((hg.block q h.lt (fun e => h.nb e.symm)).trans h.box)
/-- What l91Whole leaves. -/
def WholePost (bl : List ByteArray) (w : World) (e : Ending) (w' : World) : Prop :=
  ∃ f ub uh, e = .returned (.agg #[.int .i64 f.pub, .int .i64 f.hd.len, .int .i64 f.hd.dg, .int .i64 f.hd.sg, ub, uh]) ∧ FeedO w.heap.size w' f ub uh ∧ f.bl = bl ∧ f.hv.length = bl.length ∧ Below w.heap.size w w'
theorem FB.fill {B q : Nat} {w : World} {f : Fd} {vb vh x0 x1 x2 x3 x4 x5 : Value} (hq : w.heap[q]? = some (.cells #[x0, x1, x2, x3, x4, x5] 34 (0, 0))) (ho : FeedO B w f vb vh) :
    FB B q ((((((w.setCell ⟨q, 0, none⟩ (.int .i64 f.pub)).setCell ⟨q, 1, none⟩ (.int .i64 f.hd.len)).setCell ⟨q, 2, none⟩ (.int .i64 f.hd.dg)).setCell ⟨q, 3, none⟩ (.int .i64 f.hd.sg)).setCell ⟨q, 4, none⟩ vb).setCell ⟨q, 5, none⟩ vh) f vb vh := by
  have b0 := box_set (i := 0) hq (.int .i64 f.pub)
  have b1 := box_set (i := 1) b0 (.int .i64 f.hd.len)
  have b2 := box_set (i := 2) b1 (.int .i64 f.hd.dg)
  have b3 := box_set (i := 3) b2 (.int .i64 f.hd.sg)
  have b4 := box_set (i := 4) b3 vb
  have b5 := box_set (i := 5) b4 vh
  exact ⟨b5, ⟨(((((ho.bl.setq hq (by decide) _ _).setq b0 (by decide) _ _).setq b1 (by decide) _ _).setq b2 (by decide) _ _).setq b3 (by decide) _ _).setq b4 (by decide) _ _,
    (((((ho.hv.setq hq (by decide) _ _).setq b0 (by decide) _ _).setq b1 (by decide) _ _).setq b2 (by decide) _ _).setq b3 (by decide) _ _).setq b4 (by decide) _ _⟩⟩
set_option maxHeartbeats 1000000 in
set_option maxRecDepth 100000 in
theorem l91Whole_any (s : Int) (bl : List ByteArray) (v : Value) (w : World) (hv : RS w v bl) (hl : bl.length ≤ 100) (hs : ∀ x ∈ bl, x.size ≤ maxLen) : Calls Try.prog 83 #[.int .i64 s, v] w (WholePost bl w) := by
  have HS := Lib.hid hs
  clear hs
  obtain ⟨W0, HW0⟩ : ∃ W0, Hid (w.alloc (.cells #[.int .i64 0, .int .i64 0, .int .i64 0, .int .i64 0, .slice none 0 0, .slice none 0 0] 34) = W0) := ⟨_, Lib.hid rfl⟩
  have HB0 : Hid (Below w.heap.size w W0) := Lib.hid (by rw [← HW0.out]; exact (Below.refl _ _).alloc (Nat.le_refl _) _)
  have hs0 : w.heap.size + 1 = W0.heap.size := by rw [← HW0.out]; simp
  have hbox : W0.heap[w.heap.size]? = some (.cells #[.int .i64 0, .int .i64 0, .int .i64 0, .int .i64 0, .slice none 0 0, .slice none 0 0] 34 (0, 0)) := by rw [← HW0.out]; exact heap_alloc_new w _
  have z0 : W0.cell? ⟨w.heap.size, 0, none⟩ = some (.int .i64 0) := cell_of_row _ _ 0 _ _ _ hbox
  have z1 : W0.cell? ⟨w.heap.size, 1, none⟩ = some (.int .i64 0) := cell_of_row _ _ 1 _ _ _ hbox
  have z2 : W0.cell? ⟨w.heap.size, 2, none⟩ = some (.int .i64 0) := cell_of_row _ _ 2 _ _ _ hbox
  have z3 : W0.cell? ⟨w.heap.size, 3, none⟩ = some (.int .i64 0) := cell_of_row _ _ 3 _ _ _ hbox
  have z4 : W0.cell? ⟨w.heap.size, 4, none⟩ = some (.slice none 0 0) := cell_of_row _ _ 4 _ _ _ hbox
  have z5 : W0.cell? ⟨w.heap.size, 5, none⟩ = some (.slice none 0 0) := cell_of_row _ _ 5 _ _ _ hbox
  have zf : ∀ i, W0.frozen? ⟨w.heap.size, i, none⟩ = false := fun i => by simp [World.frozen?, hbox]
  have HV : Hid (RS W0 v bl) := Lib.hid (hv.below HB0.out)
  obtain ⟨A, c, rfl, n1, n2, n3⟩ := hv
  clear n1 n2 n3 hbox
  have hl0 : w.heap.size < W0.heap.size := by omega
  obtain ⟨p, HP⟩ : ∃ p, Hid (hpub s = p) := ⟨_, Lib.hid rfl⟩
  by_cases h0 : bl.length = 0
  · have h0' : ((bl.length : Int) == 0) = true := by simp [h0]
    go_enter Try.func83, Try.ntmps83
    go_wp2_with fail
    rw [HW0.out]
    go_wp2_with (first
      | (go_at_call 101; refine (HeadPublic_sb HP _).mono ?_; rintro e w' ⟨rfl, rfl⟩)
      | (go_at_call 100; refine (FeedNew_s _ _).mono ?_; rintro e w1 ⟨ub, uh, rfl, ho1, hb1⟩; obtain ⟨xA, xc, rfl⟩ := ho1.bl.sl; obtain ⟨yA, yc, rfl⟩ := ho1.hv.sl; have hcc := bcell hb1; have hs1 := hb1.size; have hs2 : w.heap.size < w1.heap.size := by omega))
    refine bodyPost_ret (v := .agg #[.int .i64 (fnew p).pub, .int .i64 0, .int .i64 0, .int .i64 0, .slice xA (fnew p).bl.length xc, .slice yA (fnew p).hv.length yc]) (by simp [results, Try.results83, go_sem, hs2, hcc, hl0, z0, z1, z2, z3, z4, z5]) rfl ⟨fnew p, _, _, rfl, ?_, ?_, ?_, ?_⟩
    · exact ((ho1.set6 hl0 _ _ _ _ _ _).below ((Below.refl _ _).alloc (Nat.le_refl _) _)).mono (Nat.le_of_lt hl0)
    · exact (List.eq_nil_of_length_eq_zero h0).symm
    · exact h0.symm
    · exact (below_set6 (HB0.out.trans (hb1.mono (Nat.le_of_lt hl0))) (Nat.le_refl _) _ _ _ _ _ _).alloc (by simp; omega) _
  · have h0' : ((bl.length : Int) == 0) = false := by rw [beq_eq_false_iff_ne]; omega
    go_enter Try.func83, Try.ntmps83
    go_wp2_with fail
    rw [HW0.out]
    go_wp2_with (first
      | (go_at_call 101; refine (HeadPublic_sb HP _).mono ?_; rintro e w' ⟨rfl, rfl⟩)
      | (go_at_call 100; refine (FeedNew_s _ _).mono ?_; rintro e w1 ⟨ub, uh, rfl, ho1, hb1⟩; obtain ⟨xA, xc, rfl⟩ := ho1.bl.sl; obtain ⟨yA, yc, rfl⟩ := ho1.hv.sl; have hcc := bcell hb1; have hs1 := hb1.size; have hs2 : w.heap.size < w1.heap.size := by omega))
    have hfb : FB W0.heap.size w1.heap.size (w1.alloc (.cells #[.int .i64 (fnew p).pub, .int .i64 0, .int .i64 0, .int .i64 0, .slice xA (fnew p).bl.length xc, .slice yA (fnew p).hv.length yc] 34)) (fnew p) _ _ := FB.made ho1
    have hb2 : Below W0.heap.size W0 (w1.alloc (.cells #[.int .i64 (fnew p).pub, .int .i64 0, .int .i64 0, .int .i64 0, .slice xA (fnew p).bl.length xc, .slice yA (fnew p).hv.length yc] 34)) := hb1.alloc hs1 _
    obtain ⟨W2, HW2⟩ : ∃ W2, Hid (w1.alloc (.cells #[.int .i64 (fnew p).pub, .int .i64 0, .int .i64 0, .int .i64 0, .slice xA (fnew p).bl.length xc, .slice yA (fnew p).hv.length yc] 34) = W2) := ⟨_, Lib.hid rfl⟩
    rw [HW2.out] at hfb hb2 ⊢
    have hq : W0.heap.size ≤ w1.heap.size := hs1
    obtain ⟨q, HQ⟩ : ∃ q, Hid (w1.heap.size = q) := ⟨_, Lib.hid rfl⟩
    rw [HQ.out] at hfb hq ⊢
    obtain ⟨h, ok, HH⟩ : ∃ h ok, Hid (hmake s (lvs bl) = (h, ok)) := ⟨_, _, Lib.hid rfl⟩
    clear hcc hs1 hs2 ho1 hb1
    have hrv := HV.out.below hb2
    refine (l11Leaves_any bl _ _ hrv (by omega) HS.out).mono ?_
    rintro e w3 ⟨v3, rfl, ho3, hb3⟩
    go_wp2_with fail
    refine (HeadMake_sb HH _ _ ho3.r1).mono ?_
    rintro e w4 ⟨rfl, hb4⟩
    have hfb4 := (hfb.below hb3).below hb4
    have hb04 := hb2.trans ((hb3.mono hb2.size).trans (hb4.mono (Nat.le_trans hb2.size hb3.size)))
    clear hb2 hb3 hb4 ho3 hfb
    have k1 := hfb4.c1
    have k2 := hfb4.c2
    have k3 := hfb4.c3
    have kf := hfb4.fz
    have hfb5 := ((hfb4.set1 h.len).set2 h.dg).set3 h.sg
    have hb05 := ((hb04.setCell (p := ⟨q, 1, none⟩) hq (.int .i64 h.len)).setCell (p := ⟨q, 2, none⟩) hq (.int .i64 h.dg)).setCell (p := ⟨q, 3, none⟩) hq (.int .i64 h.sg)
    clear hfb4 hb04
    go_wp2
    clear k1 k2 k3 kf
    go_loopw [7] (fun i wr => ∃ (k : Nat) (f : Fd) (ub uh : Value), k ≤ bl.length ∧ i = .int .i64 k ∧ FB W0.heap.size q wr f ub uh ∧ f.bl = bl.take k ∧ f.hv.length = k ∧ Below W0.heap.size W0 wr) (fun i _ => bl.length - (intOf i).toNat)
    case atStart => exact ⟨0, _, _, _, Nat.zero_le _, rfl, hfb5, rfl, rfl, hb05⟩
    case round =>
      clear hfb5 hb05
      obtain ⟨k, f, ub, uh, hk, rfl, hfb, hbl, hhv, hb⟩ := hrel
      have HHV := Lib.hid hhv
      have HBL := Lib.hid hbl
      have lhv : f.hv.length ≤ 1000 := by omega
      have lbl : f.bl.length ≤ 1000 := by rw [hbl]; simp; omega
      clear hhv hbl
      obtain ⟨xA, xc, rfl⟩ := hfb.fo.bl.sl
      obtain ⟨yA, yc, rfl⟩ := hfb.fo.hv.sl
      have k0 := hfb.c0
      have k1 := hfb.c1
      have k2 := hfb.c2
      have k3 := hfb.c3
      have k4 := hfb.c4
      have k5 := hfb.c5
      by_cases hlt : k < bl.length
      · obtain ⟨A', c', hA, _, _, hc⟩ := HV.out
        cases hA
        obtain ⟨b, o, rfl, hbs, hc⟩ := hc (by omega)
        have hcell := hc k hlt
        have HX : Hid (bl.take (k + 1) = bl.take k ++ [bl[k]]) := Lib.hid (take_snocI hlt)
        go_wp2_with (at_builtin; refine app_bool hfb.fo.hv (by omega) (by have := hb.size; omega) rfl rfl rfl rfl ?_; intro v3 w3 ho3 hg3; obtain ⟨zA, zn, zc, rfl, hz3⟩ := ho3.sl2; obtain ⟨⟨u5, m5⟩, mf5⟩ := hfb.g5 hg3)
        have hfb3 := hfb.set5 hg3 ho3
        have hb3 := (hb.grown hg3 hb.size (fun k hk => (hfb.fo.hv.lt k hk).1)).setCell (p := ⟨q, 5, none⟩) hq (.slice zA zn zc)
        clear ho3 hg3 hfb k0 k1 k2 k3 k4 k5 m5 mf5 hc
        obtain ⟨W5, HW5⟩ : ∃ W5, Hid (w3.setCell ⟨q, 5, none⟩ (.slice zA zn zc) = W5) := ⟨_, Lib.hid rfl⟩
        rw [HW5.out] at hfb3 hb3 ⊢
        have k4 := hfb3.c4
        generalize bl[k] = x at *
        have HC0 := Lib.hid hcell
        clear hcell
        have hcell := (hb3.cell (p := ⟨b, o + k, none⟩) hbs).trans HC0.out
        have hql : q < W5.heap.size := hfb3.lt
        have hbl5 : b < W5.heap.size := Nat.lt_of_lt_of_le hbs hb3.size
        have hfd := hfb3.below (below_drew (Below.refl _ _))
        have hbd := below_drew' hb3
        go_region_law ((refine step_str hfd.fo.bl (by show f.bl.length ≤ _; omega) hbd.size (by rfl) (by rfl) (by rfl) (by rfl) ?_; intro tA tn tc w4 ho4 hg4; have s4 := hfd.h4 hg4; have mf4 := (hfd.g4 hg4).2))
        all_goals
          go_wp2
          go_roundw
          case rel => exact ⟨k + 1, _, _, _, by omega, by go_num, hfd.set4 hg4 ho4, by rw [HX.out, ← HBL.out], by simp [HHV.out], (hbd.grown hg4 hbd.size (fun k hk => (hfd.fo.bl.lt k hk).1)).setCell (p := ⟨q, 4, none⟩) hq _⟩
          case measure => simp [intOf]; omega
      · have hcc := bcell hb
        have hs2 := hb.size
        obtain rfl : k = bl.length := by omega
        go_wp2
        refine bodyPost_ret (v := .agg #[.int .i64 f.pub, .int .i64 f.hd.len, .int .i64 f.hd.dg, .int .i64 f.hd.sg, .slice xA f.bl.length xc, .slice yA f.hv.length yc]) (by simp [results, Try.results83, go_sem, hcc, hl0, z0, z1, z2, z3, z4, z5]) rfl ⟨f, _, _, rfl, ?_, ?_, ?_, ?_⟩
        · exact (hfb.fo.set6 hl0 _ _ _ _ _ _).mono (Nat.le_of_lt hl0)
        · rw [HBL.out, List.take_of_length_le (Nat.le_refl _)]
        · exact HHV.out
        · exact below_set6 (HB0.out.trans (hb.mono (Nat.le_of_lt hl0))) (Nat.le_refl _) _ _ _ _ _ _
end Go.Proofs.Ytlhiabnablbkpaa

/- Walks: FeedProve. -/
import Derived.Test.YtlhiabnablbkpaaWn
namespace Go.Proofs.Ytlhiabnablbkpaa
open Go.RowKit

def fproveOk (f : Fd) (i : Int) : Bool := fvalid f && wholeB f.hv && inB i 0 ((f.bl.length : Int) - 1)
def fprove (f : Fd) (i : Int) : List Int := if fproveOk f i then proofOf (lvs f.bl) i else []
theorem fvalid_size {f : Fd} (h : fvalid f = true) : ∀ s ∈ f.bl, s.size ≤ 8 := by
  simp only [fvalid, Bool.and_eq_true, beq_iff_eq] at h
  obtain ⟨⟨⟨⟨_, h1⟩, h2⟩, h3⟩, _⟩ := h
  exact blocksOk_size (by omega) h3
theorem fvalid_len {f : Fd} (h : fvalid f = true) : f.bl.length = f.hv.length ∧ f.bl.length ≤ 16 ∧ (f.bl.length : Int) = f.hd.len := by
  simp only [fvalid, Bool.and_eq_true, beq_iff_eq, Bool.or_eq_true] at h
  obtain ⟨⟨⟨⟨⟨_, h0⟩, h1⟩, h2⟩, h3⟩, _⟩ := h
  refine ⟨by omega, ?_, h1⟩
  rcases h0 with h0 | h0
  · simp only [Hd.isZero, Bool.and_eq_true, beq_iff_eq] at h0; omega
  · simp only [hcheck, Bool.and_eq_true] at h0
    have := inB_true.1 h0.1.1.1.2; omega
theorem FeedValid_ib {f : Fd} {b : Bool} (hb : Hid (fvalid f = b)) (vb vh : Value) (w : World) (hf : FeedR w f vb vh) :
    Calls Try.prog 51 #[.agg #[.int .i64 f.pub, .int .i64 f.hd.len, .int .i64 f.hd.dg, .int .i64 f.hd.sg, vb, vh]] w fun e w' => e = .returned (.bool b) ∧ Below w.heap.size w w' := by
  rw [← hb.out]; exact FeedValid_i f vb vh w hf
theorem FeedValid_sb {f : Fd} {b : Bool} (hb : Hid (fvalid f = b)) (vb vh : Value) (w : World) (hf : FeedR w f vb vh) :
    Calls Try.prog 64 #[.agg #[.int .i64 f.pub, .int .i64 f.hd.len, .int .i64 f.hd.dg, .int .i64 f.hd.sg, vb, vh]] w fun e w' => e = .returned (.bool b) ∧ Below w.heap.size w w' := by
  rw [← hb.out]; exact FeedValid_s f vb vh w hf

/-- What a call of FeedProve leaves. -/
def ProvePost_i (f : Fd) (i : Int) (w : World) (e : Ending) (w' : World) : Prop :=
  ∃ v, e = .returned (.tuple #[v, .bool (fproveOk f i)]) ∧ O1 (Value.int .i64) w.heap.size 3 w' v (fprove f i) ∧ Below w.heap.size w w'
set_option maxHeartbeats 1600000 in

theorem FeedProve_i (f : Fd) (i : Int) (vb vh : Value) (w : World) (hf : FeedR w f vb vh) :
    Calls Try.prog 26 #[.agg #[.int .i64 f.pub, .int .i64 f.hd.len, .int .i64 f.hd.dg, .int .i64 f.hd.sg, vb, vh], .int .i64 i] w (ProvePost_i f i w) := by
  have hf0 := hf.alloc (.cells #[.int .i64 f.pub, .int .i64 f.hd.len, .int .i64 f.hd.dg, .int .i64 f.hd.sg, vb, vh] 34)
  have hbA : Below w.heap.size w (w.alloc (.cells #[.int .i64 f.pub, .int .i64 f.hd.len, .int .i64 f.hd.dg, .int .i64 f.hd.sg, vb, vh] 34)) := (Below.refl _ _).alloc (Nat.le_refl _) _
  have HBA := Lib.hid hbA
  clear hbA
  obtain ⟨A, c, rfl, n1, n2, _⟩ := id hf.bl
  unfold maxLen at n2
  have hbm : f.bl.length ≤ 9223372036854775807 := by have := n1.1; omega
  clear n1 n2
  have HR : Hid (fproveOk f i = (fvalid f && wholeB f.hv && inB i 0 ((f.bl.length : Int) - 1))) := Lib.hid rfl
  obtain ⟨b1, HV⟩ : ∃ b, Hid (fvalid f = b) := ⟨_, Lib.hid rfl⟩
  cases b1
  · have HK : Hid (fproveOk f i = false) := Lib.hid (by rw [HR.out, HV.out]; rfl)
    have HL : Hid (fprove f i = []) := Lib.hid (by unfold fprove; rw [HK.out]; rfl)
    go_enter Try.func26, Try.ntmps26
    go_wp2_with (first
      | (go_at_call 51; refine (FeedValid_ib HV _ _ _ hf0).mono ?_; rintro e w1 ⟨rfl, hb1⟩; have hcc1 := bcell hb1; have hf1 := hf0.below hb1)
      | (go_at_call 71; refine (whole_b HW f.pub f.hd _ _ _ (hf1.hv)).mono ?_; rintro e w2 ⟨rfl, hb2⟩; have hb12 := below_bb hb1 hb2; have hcc2 := bcell hb12; have hf3 := hf0.below hb12)
      | (go_at_call 72; refine (within_b HI _).mono ?_; rintro e w' ⟨rfl, rfl⟩)
      | (go_at_call 74; refine (leaves_any f.pub f.hd _ _ f.bl _ hf3.bl (by omega) HSZ.out).mono ?_; rintro e w4 ⟨v4, rfl, ho4, hb4⟩; have hb14 := below_bb hb12 hb4)
      | (go_at_call 73; refine (TreeProof_i _ _ _ _ ho4.r1).mono ?_; rintro e w5 ⟨v5, rfl, ho5, hb5⟩; have hb15 := below_bb hb14 hb5))
    go_ret2
    exact ⟨_, by rw [HK.out]; rfl, by rw [HL.out]; exact O1.nil _ _ _ _, HBA.out.trans (hb1.mono (by simp))⟩
  have HSZ := Lib.hid (fvalid_size HV.out)
  obtain ⟨l1, l16, l0⟩ := fvalid_len HV.out
  clear l0
  have HL1 := Lib.hid l1
  have h16 : f.hv.length ≤ 16 := by omega
  clear l1
  obtain ⟨b2, HW⟩ : ∃ b, Hid (wholeB f.hv = b) := ⟨_, Lib.hid rfl⟩
  cases b2
  · have HK : Hid (fproveOk f i = false) := Lib.hid (by rw [HR.out, HV.out, HW.out]; rfl)
    have HL : Hid (fprove f i = []) := Lib.hid (by unfold fprove; rw [HK.out]; rfl)
    go_enter Try.func26, Try.ntmps26
    go_wp2_with (first
      | (go_at_call 51; refine (FeedValid_ib HV _ _ _ hf0).mono ?_; rintro e w1 ⟨rfl, hb1⟩; have hcc1 := bcell hb1; have hf1 := hf0.below hb1)
      | (go_at_call 71; refine (whole_b HW f.pub f.hd _ _ _ (hf1.hv)).mono ?_; rintro e w2 ⟨rfl, hb2⟩; have hb12 := below_bb hb1 hb2; have hcc2 := bcell hb12; have hf3 := hf0.below hb12)
      | (go_at_call 72; refine (within_b HI _).mono ?_; rintro e w' ⟨rfl, rfl⟩)
      | (go_at_call 74; refine (leaves_any f.pub f.hd _ _ f.bl _ hf3.bl (by omega) HSZ.out).mono ?_; rintro e w4 ⟨v4, rfl, ho4, hb4⟩; have hb14 := below_bb hb12 hb4)
      | (go_at_call 73; refine (TreeProof_i _ _ _ _ ho4.r1).mono ?_; rintro e w5 ⟨v5, rfl, ho5, hb5⟩; have hb15 := below_bb hb14 hb5))
    go_ret2
    exact ⟨_, by rw [HK.out]; rfl, by rw [HL.out]; exact O1.nil _ _ _ _, HBA.out.trans (hb12.mono (by simp))⟩
  obtain ⟨b3, HI⟩ : ∃ b, Hid (inB i 0 ((f.bl.length : Int) - 1) = b) := ⟨_, Lib.hid rfl⟩
  cases b3
  · have HK : Hid (fproveOk f i = false) := Lib.hid (by rw [HR.out, HV.out, HW.out, HI.out]; rfl)
    have HL : Hid (fprove f i = []) := Lib.hid (by unfold fprove; rw [HK.out]; rfl)
    go_enter Try.func26, Try.ntmps26
    go_wp2_with (first
      | (go_at_call 51; refine (FeedValid_ib HV _ _ _ hf0).mono ?_; rintro e w1 ⟨rfl, hb1⟩; have hcc1 := bcell hb1; have hf1 := hf0.below hb1)
      | (go_at_call 71; refine (whole_b HW f.pub f.hd _ _ _ (hf1.hv)).mono ?_; rintro e w2 ⟨rfl, hb2⟩; have hb12 := below_bb hb1 hb2; have hcc2 := bcell hb12; have hf3 := hf0.below hb12)
      | (go_at_call 72; refine (within_b HI _).mono ?_; rintro e w' ⟨rfl, rfl⟩)
      | (go_at_call 74; refine (leaves_any f.pub f.hd _ _ f.bl _ hf3.bl (by omega) HSZ.out).mono ?_; rintro e w4 ⟨v4, rfl, ho4, hb4⟩; have hb14 := below_bb hb12 hb4)
      | (go_at_call 73; refine (TreeProof_i _ _ _ _ ho4.r1).mono ?_; rintro e w5 ⟨v5, rfl, ho5, hb5⟩; have hb15 := below_bb hb14 hb5))
    go_ret2
    exact ⟨_, by rw [HK.out]; rfl, by rw [HL.out]; exact O1.nil _ _ _ _, HBA.out.trans (hb12.mono (by simp))⟩
  · have HK : Hid (fproveOk f i = true) := Lib.hid (by rw [HR.out, HV.out, HW.out, HI.out]; rfl)
    have HL : Hid (fprove f i = proofOf (lvs f.bl) i) := Lib.hid (by unfold fprove; rw [HK.out]; rfl)
    go_enter Try.func26, Try.ntmps26
    go_wp2_with (first
      | (go_at_call 51; refine (FeedValid_ib HV _ _ _ hf0).mono ?_; rintro e w1 ⟨rfl, hb1⟩; have hcc1 := bcell hb1; have hf1 := hf0.below hb1)
      | (go_at_call 71; refine (whole_b HW f.pub f.hd _ _ _ (hf1.hv)).mono ?_; rintro e w2 ⟨rfl, hb2⟩; have hb12 := below_bb hb1 hb2; have hcc2 := bcell hb12; have hf3 := hf0.below hb12)
      | (go_at_call 72; refine (within_b HI _).mono ?_; rintro e w' ⟨rfl, rfl⟩)
      | (go_at_call 74; refine (leaves_any f.pub f.hd _ _ f.bl _ hf3.bl (by omega) HSZ.out).mono ?_; rintro e w4 ⟨v4, rfl, ho4, hb4⟩; have hb14 := below_bb hb12 hb4)
      | (go_at_call 73; refine (TreeProof_i _ _ _ _ ho4.r1).mono ?_; rintro e w5 ⟨v5, rfl, ho5, hb5⟩; have hb15 := below_bb hb14 hb5))
    go_ret2
    exact ⟨_, by rw [HK.out]; rfl, by rw [HL.out]; exact ho5.mono (Nat.le_trans HBA.out.size hb14.size), HBA.out.trans (hb15.mono (by simp))⟩

/-- What a call of FeedProve leaves. -/
def ProvePost_s (f : Fd) (i : Int) (w : World) (e : Ending) (w' : World) : Prop :=
  ∃ v, e = .returned (.tuple #[v, .bool (fproveOk f i)]) ∧ O1 (Value.int .i64) w.heap.size 3 w' v (fprove f i) ∧ Below w.heap.size w w'
set_option maxHeartbeats 1600000 in

theorem FeedProve_s (f : Fd) (i : Int) (vb vh : Value) (w : World) (hf : FeedR w f vb vh) :
    Calls Try.prog 24 #[.agg #[.int .i64 f.pub, .int .i64 f.hd.len, .int .i64 f.hd.dg, .int .i64 f.hd.sg, vb, vh], .int .i64 i] w (ProvePost_s f i w) := by
  have hf0 := hf.alloc (.cells #[.int .i64 f.pub, .int .i64 f.hd.len, .int .i64 f.hd.dg, .int .i64 f.hd.sg, vb, vh] 34)
  have hbA : Below w.heap.size w (w.alloc (.cells #[.int .i64 f.pub, .int .i64 f.hd.len, .int .i64 f.hd.dg, .int .i64 f.hd.sg, vb, vh] 34)) := (Below.refl _ _).alloc (Nat.le_refl _) _
  have HBA := Lib.hid hbA
  clear hbA
  obtain ⟨A, c, rfl, n1, n2, _⟩ := id hf.bl
  unfold maxLen at n2
  have hbm : f.bl.length ≤ 9223372036854775807 := by have := n1.1; omega
  clear n1 n2
  have HR : Hid (fproveOk f i = (fvalid f && wholeB f.hv && inB i 0 ((f.bl.length : Int) - 1))) := Lib.hid rfl
  obtain ⟨b1, HV⟩ : ∃ b, Hid (fvalid f = b) := ⟨_, Lib.hid rfl⟩
  cases b1
  · have HK : Hid (fproveOk f i = false) := Lib.hid (by rw [HR.out, HV.out]; rfl)
    have HL : Hid (fprove f i = []) := Lib.hid (by unfold fprove; rw [HK.out]; rfl)
    go_enter Try.func24, Try.ntmps24
    go_wp2_with (first
      | (go_at_call 64; refine (FeedValid_sb HV _ _ _ hf0).mono ?_; rintro e w1 ⟨rfl, hb1⟩; have hcc1 := bcell hb1; have hf1 := hf0.below hb1)
      | (go_at_call 65; refine (l11Whole_b HW h16 f.pub f.hd _ _ _ (hf1.hv)).mono ?_; rintro e w2 ⟨rfl, hb2⟩; have hb12 := below_bb hb1 hb2; have hcc2 := bcell hb12; have hf3 := hf0.below hb12)
      | (go_at_call 66; refine (l6In_b HI _).mono ?_; rintro e w' ⟨rfl, rfl⟩)
      | (go_at_call 68; refine (l11Leaves_any f.bl _ _ hf3.bl (by omega) (fun s hs => Nat.le_trans (HSZ.out s hs) (by unfold maxLen; omega))).mono ?_; rintro e w4 ⟨v4, rfl, ho4, hb4⟩; have hb14 := below_bb hb12 hb4)
      | (go_at_call 67; refine (TreeProof_s _ _ _ _ ho4.r1).mono ?_; rintro e w5 ⟨v5, rfl, ho5, hb5⟩; have hb15 := below_bb hb14 hb5))
    go_ret2
    exact ⟨_, by rw [HK.out]; rfl, by rw [HL.out]; exact (O1.made _ _ _).mono (Nat.le_trans HBA.out.size hb1.size), (HBA.out.trans (hb1.mono (by simp))).alloc (Nat.le_trans HBA.out.size hb1.size) _⟩
  have HSZ := Lib.hid (fvalid_size HV.out)
  obtain ⟨l1, l16, l0⟩ := fvalid_len HV.out
  clear l0
  have HL1 := Lib.hid l1
  have h16 : f.hv.length ≤ 16 := by omega
  clear l1
  obtain ⟨b2, HW⟩ : ∃ b, Hid (wholeB f.hv = b) := ⟨_, Lib.hid rfl⟩
  cases b2
  · have HK : Hid (fproveOk f i = false) := Lib.hid (by rw [HR.out, HV.out, HW.out]; rfl)
    have HL : Hid (fprove f i = []) := Lib.hid (by unfold fprove; rw [HK.out]; rfl)
    go_enter Try.func24, Try.ntmps24
    go_wp2_with (first
      | (go_at_call 64; refine (FeedValid_sb HV _ _ _ hf0).mono ?_; rintro e w1 ⟨rfl, hb1⟩; have hcc1 := bcell hb1; have hf1 := hf0.below hb1)
      | (go_at_call 65; refine (l11Whole_b HW h16 f.pub f.hd _ _ _ (hf1.hv)).mono ?_; rintro e w2 ⟨rfl, hb2⟩; have hb12 := below_bb hb1 hb2; have hcc2 := bcell hb12; have hf3 := hf0.below hb12)
      | (go_at_call 66; refine (l6In_b HI _).mono ?_; rintro e w' ⟨rfl, rfl⟩)
      | (go_at_call 68; refine (l11Leaves_any f.bl _ _ hf3.bl (by omega) (fun s hs => Nat.le_trans (HSZ.out s hs) (by unfold maxLen; omega))).mono ?_; rintro e w4 ⟨v4, rfl, ho4, hb4⟩; have hb14 := below_bb hb12 hb4)
      | (go_at_call 67; refine (TreeProof_s _ _ _ _ ho4.r1).mono ?_; rintro e w5 ⟨v5, rfl, ho5, hb5⟩; have hb15 := below_bb hb14 hb5))
    go_ret2
    exact ⟨_, by rw [HK.out]; rfl, by rw [HL.out]; exact (O1.made _ _ _).mono (Nat.le_trans HBA.out.size hb12.size), (HBA.out.trans (hb12.mono (by simp))).alloc (Nat.le_trans HBA.out.size hb12.size) _⟩
  obtain ⟨b3, HI⟩ : ∃ b, Hid (inB i 0 ((f.bl.length : Int) - 1) = b) := ⟨_, Lib.hid rfl⟩
  cases b3
  · have HK : Hid (fproveOk f i = false) := Lib.hid (by rw [HR.out, HV.out, HW.out, HI.out]; rfl)
    have HL : Hid (fprove f i = []) := Lib.hid (by unfold fprove; rw [HK.out]; rfl)
    go_enter Try.func24, Try.ntmps24
    go_wp2_with (first
      | (go_at_call 64; refine (FeedValid_sb HV _ _ _ hf0).mono ?_; rintro e w1 ⟨rfl, hb1⟩; have hcc1 := bcell hb1; have hf1 := hf0.below hb1)
      | (go_at_call 65; refine (l11Whole_b HW h16 f.pub f.hd _ _ _ (hf1.hv)).mono ?_; rintro e w2 ⟨rfl, hb2⟩; have hb12 := below_bb hb1 hb2; have hcc2 := bcell hb12; have hf3 := hf0.below hb12)
      | (go_at_call 66; refine (l6In_b HI _).mono ?_; rintro e w' ⟨rfl, rfl⟩)
      | (go_at_call 68; refine (l11Leaves_any f.bl _ _ hf3.bl (by omega) (fun s hs => Nat.le_trans (HSZ.out s hs) (by unfold maxLen; omega))).mono ?_; rintro e w4 ⟨v4, rfl, ho4, hb4⟩; have hb14 := below_bb hb12 hb4)
      | (go_at_call 67; refine (TreeProof_s _ _ _ _ ho4.r1).mono ?_; rintro e w5 ⟨v5, rfl, ho5, hb5⟩; have hb15 := below_bb hb14 hb5))
    go_ret2
    exact ⟨_, by rw [HK.out]; rfl, by rw [HL.out]; exact (O1.made _ _ _).mono (Nat.le_trans HBA.out.size hb12.size), (HBA.out.trans (hb12.mono (by simp))).alloc (Nat.le_trans HBA.out.size hb12.size) _⟩
  · have HK : Hid (fproveOk f i = true) := Lib.hid (by rw [HR.out, HV.out, HW.out, HI.out]; rfl)
    have HL : Hid (fprove f i = proofOf (lvs f.bl) i) := Lib.hid (by unfold fprove; rw [HK.out]; rfl)
    go_enter Try.func24, Try.ntmps24
    go_wp2_with (first
      | (go_at_call 64; refine (FeedValid_sb HV _ _ _ hf0).mono ?_; rintro e w1 ⟨rfl, hb1⟩; have hcc1 := bcell hb1; have hf1 := hf0.below hb1)
      | (go_at_call 65; refine (l11Whole_b HW h16 f.pub f.hd _ _ _ (hf1.hv)).mono ?_; rintro e w2 ⟨rfl, hb2⟩; have hb12 := below_bb hb1 hb2; have hcc2 := bcell hb12; have hf3 := hf0.below hb12)
      | (go_at_call 66; refine (l6In_b HI _).mono ?_; rintro e w' ⟨rfl, rfl⟩)
      | (go_at_call 68; refine (l11Leaves_any f.bl _ _ hf3.bl (by omega) (fun s hs => Nat.le_trans (HSZ.out s hs) (by unfold maxLen; omega))).mono ?_; rintro e w4 ⟨v4, rfl, ho4, hb4⟩; have hb14 := below_bb hb12 hb4)
      | (go_at_call 67; refine (TreeProof_s _ _ _ _ ho4.r1).mono ?_; rintro e w5 ⟨v5, rfl, ho5, hb5⟩; have hb15 := below_bb hb14 hb5))
    go_ret2
    exact ⟨_, by rw [HK.out]; rfl, by rw [HL.out]; exact ho5.mono (Nat.le_trans HBA.out.size hb14.size), HBA.out.trans (hb15.mono (by simp))⟩
end Go.Proofs.Ytlhiabnablbkpaa

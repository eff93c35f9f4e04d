/- Walk: the law FnProvePut. -/
import Derived.Test.YtlhiabnablbkpaaVg
import Derived.Test.YtlhiabnablbkpaaLawr
import Derived.Deep.DeepCutAuto
namespace Go.Proofs.Ytlhiabnablbkpaa
open Go.RowKit

theorem al3 (w : World) (o1 o2 o3 : Obj) : (((w.alloc o1).alloc o2).alloc o3).drew.heap[w.heap.size]? = some o1 ∧ (((w.alloc o1).alloc o2).alloc o3).drew.heap[w.heap.size + 1]? = some o2 ∧ (((w.alloc o1).alloc o2).alloc o3).drew.heap[w.heap.size + 1 + 1]? = some o3 ∧ Below w.heap.size w (((w.alloc o1).alloc o2).alloc o3).drew := by
  have h1 := heap_alloc_new w o1
  have h2 := heap_alloc_new (w.alloc o1) o2
  have h3 := heap_alloc_new ((w.alloc o1).alloc o2) o3
  have s1 : (w.alloc o1).heap.size = w.heap.size + 1 := by simp
  have s2 : ((w.alloc o1).alloc o2).heap.size = w.heap.size + 1 + 1 := by simp
  rw [s1] at h2
  rw [s2] at h3
  have b2 : Below (w.heap.size + 1) (w.alloc o1) ((w.alloc o1).alloc o2) := (Below.refl _ _).alloc (by rw [s1]; exact Nat.le_refl _) _
  have b3 : Below (w.heap.size + 1 + 1) ((w.alloc o1).alloc o2) (((w.alloc o1).alloc o2).alloc o3) := (Below.refl _ _).alloc (by rw [s2]; exact Nat.le_refl _) _
  refine ⟨?_, ?_, h3, ?_⟩
  · exact (b3.block _ (by omega)).trans ((b2.block _ (by omega)).trans h1)
  · exact (b3.block _ (by omega)).trans h2
  · exact below_drew' ((((Below.refl _ _).alloc (Nat.le_refl _) _).alloc (by rw [s1]; omega) _).alloc (by rw [s2]; omega) _)
theorem fill_made {α : Type} {enc : α → Value} {e : TypeId} {w : World} {g n : Nat} {a : α} (h : w.heap[g]? = some (.cells (madeCells #[enc a] n) e (0, 0))) (hn : n ≤ maxLen) {B : Nat} (hB : B ≤ g) : O1 enc B e w (.slice (some ⟨g, 0, none⟩) n n) (List.replicate n a) := by
  have hf : Fill enc e g w (List.replicate n a) (List.replicate n a).length := ⟨_, h, by simp [madeCells], fun j hj _ => by
    have hj' : j < n := by simpa using hj
    simp [madeCells, hj', Nat.mod_one]⟩
  have := Fill.own hf (by simpa using hn)
  simp only [List.length_replicate] at this
  exact this.mono hB
theorem blank_fb {B ga gb r : Nat} {W : World} {f : Fd} (h1 : f.bl.length ≤ 16) (h2 : f.hv.length ≤ 16) (hS : W.heap[ga]? = some (.cells (madeCells #[.string ⟨#[]⟩] f.bl.length) 9 (0, 0))) (hB : W.heap[gb]? = some (.cells (madeCells #[.bool false] f.hv.length) 4 (0, 0)))
    (hr : W.heap[r]? = some (.cells #[.int .i64 f.pub, .int .i64 f.hd.len, .int .i64 f.hd.dg, .int .i64 f.hd.sg, .slice (some ⟨ga, 0, none⟩) f.bl.length f.bl.length, .slice (some ⟨gb, 0, none⟩) f.hv.length f.hv.length] 34 (0, 0))) (b1 : B ≤ ga) (b2 : B ≤ gb) :
    FB B r W (blank f) (.slice (some ⟨ga, 0, none⟩) f.bl.length f.bl.length) (.slice (some ⟨gb, 0, none⟩) f.hv.length f.hv.length) :=
  ⟨hr, ⟨fill_made (enc := Value.string) (a := noText) hS (by unfold maxLen; omega) b1, fill_made (enc := Value.bool) (a := false) hB (by unfold maxLen; omega) b2⟩⟩
theorem FeedPut_ib {f o : Fd} {i : Int} {t : ByteArray} {proof : List Int} {ok : Bool} (h : Hid (fput f i t proof = (o, ok))) (vb vh pv : Value) (w : World) (hf : FeedR w f vb vh) (ht : t.size ≤ maxLen) (hp : RI w pv proof) :
    Calls Try.prog 40 #[.agg #[.int .i64 f.pub, .int .i64 f.hd.len, .int .i64 f.hd.dg, .int .i64 f.hd.sg, vb, vh], .int .i64 i, .string t, pv] w (PutPost o ok w) := by
  have := FeedPut_i f i t proof vb vh pv w hf ht hp
  rw [h.out] at this
  exact this
set_option maxHeartbeats 6400000 in
set_option maxRecDepth 100000 in
theorem FnProvePut_any (bs : List UInt8) (v : Value) (w : World) (hv : RU w v bs) : Calls Try.prog 6 #[v] w fun e w' => e = .returned (.bool true) ∧ Below w.heap.size w w' := by
  have HV := Lib.hid hv
  obtain ⟨A, c, rfl, n1, n2, _⟩ := hv
  unfold maxLen at n2
  have hbm : bs.length ≤ 9223372036854775807 := by have := n1.1; omega
  clear n1 n2
  by_cases hl : 1048576 < bs.length
  · have hl' : (1048576 : Int) < (bs.length : Int) := by omega
    go_enter Try.func6, Try.ntmps6
    go_wp2
    go_ret
    exact ⟨rfl, Below.refl _ _⟩
  have hl' : ¬ (1048576 : Int) < (bs.length : Int) := by omega
  go_enter Try.func6, Try.ntmps6
  go_wp2_with fail
  refine (DrawFeedProve_any bs _ w HV.out).mono ?_
  rintro e w1 ⟨f, ub, uh, i, rfl, hf1, -, -, hz, i1, i2, hb1⟩
  have HZ := Lib.hid hz
  clear hz
  obtain ⟨uA, uc, rfl⟩ := hf1.bl.sl
  obtain ⟨tA, tc, rfl⟩ := hf1.hv.sl
  have hf2 := FB.made hf1
  have hb2 := hb1.alloc hb1.size (.cells #[.int .i64 f.pub, .int .i64 f.hd.len, .int .i64 f.hd.dg, .int .i64 f.hd.sg, .slice uA f.bl.length uc, .slice tA f.hv.length tc] 34)
  go_wp2_with fail
  obtain ⟨W2, HW2⟩ : ∃ W2, Hid (w1.alloc (.cells #[.int .i64 f.pub, .int .i64 f.hd.len, .int .i64 f.hd.dg, .int .i64 f.hd.sg, .slice uA f.bl.length uc, .slice tA f.hv.length tc] 34) = W2) := ⟨_, Lib.hid rfl⟩
  obtain ⟨q, HQ⟩ : ∃ q, Hid (w1.heap.size = q) := ⟨_, Lib.hid rfl⟩
  rw [HW2.out, HQ.out] at hf2
  rw [HW2.out] at hb2 ⊢
  rw [HQ.out]
  clear hf1 hb1
  refine (FeedProve_i f i _ _ W2 hf2.fo.r).mono ?_
  rintro e w3 ⟨v3, rfl, ho3, hb3⟩
  have hf3 := hf2.below hb3
  have R3 := Lib.hid ho3.r1
  have hb03 := hb2.trans (hb3.mono hb2.size)
  clear hb2 hf2 ho3
  have k0 := hf3.c0; have k1 := hf3.c1; have k2 := hf3.c2; have k3 := hf3.c3; have k4 := hf3.c4; have k5 := hf3.c5
  go_wp2_with fail
  refine (FeedProve_s f i _ _ w3 hf3.fo.r).mono ?_
  rintro e w4 ⟨v4, rfl, ho4, hb4⟩
  have hf4 := hf3.below hb4
  have R4 := Lib.hid ho4.r1
  have R34 : Hid (RI w4 v3 (fprove f i)) := Lib.hid (R3.out.below hb4)
  have hb04 := hb03.trans (hb4.mono hb03.size)
  clear hb03 hf3 ho4 k0 k1 k2 k3 k4 k5 R3
  obtain ⟨b, HOK⟩ : ∃ b, Hid (fproveOk f i = b) := ⟨_, Lib.hid rfl⟩
  obtain ⟨l, HL⟩ : ∃ l, Hid (fprove f i = l) := ⟨_, Lib.hid rfl⟩
  rw [HOK.out]
  rw [HL.out] at R4 R34
  cases b
  · go_wp2_with fail
    refine (sameInts_same l _ _ _ R34.out R4.out).mono ?_
    rintro e w5 ⟨rfl, hb5⟩
    have hb05 := hb04.trans (hb5.mono hb04.size)
    go_wp2_with fail
    refine (sameInts_same l _ _ _ (R34.out.below hb5) (R4.out.below hb5)).mono ?_
    rintro e w6 ⟨rfl, hb6⟩
    go_wp2
    go_ret
    exact ⟨rfl, hb05.trans (hb6.mono hb05.size)⟩
  have hok' := HOK.out
  simp only [fproveOk, Bool.and_eq_true] at hok'
  obtain ⟨⟨hval, hwh⟩, hin⟩ := hok'
  have hin := inB_true.1 hin
  obtain ⟨m, rfl⟩ : ∃ m : Nat, i = m := ⟨i.toNat, by omega⟩
  have hm : m < f.bl.length := by omega
  have hmi : (m : Int) < (f.bl.length : Int) := by omega
  obtain ⟨l1, l16, l3⟩ := fvalid_len hval
  have HVAL := Lib.hid hval
  have HWH := Lib.hid hwh
  have HL1 := Lib.hid l1
  have HL3 := Lib.hid l3
  have h16 : f.hv.length ≤ 16 := by omega
  have h0 : 0 < f.bl.length := by omega
  clear hin l1 l3 hval hwh i1 i2
  go_wp2_with fail
  refine (sameInts_same l _ _ _ R34.out R4.out).mono ?_
  rintro e w5 ⟨rfl, hb5⟩
  have hb05 := hb04.trans (hb5.mono hb04.size)
  have hf5 := hf4.below hb5
  have R5 : Hid (RI w5 v3 l) := Lib.hid (R34.out.below hb5)
  have HF5 := Lib.hid hf5
  have HB05 := Lib.hid hb05
  obtain ⟨pA, pc, rfl⟩ : ∃ pA pc, v3 = .slice pA l.length pc := by obtain ⟨a, b, h, _⟩ := R5.out; exact ⟨a, b, h⟩
  have hql5 := hf5.lt
  have k0 := hf5.c0; have k1 := hf5.c1; have k2 := hf5.c2; have k3 := hf5.c3; have k4 := hf5.c4; have k5 := hf5.c5
  have d0 : w5.drew.cell? ⟨q, 0, none⟩ = _ := k0
  have d1 : w5.drew.cell? ⟨q, 1, none⟩ = _ := k1
  have d2 : w5.drew.cell? ⟨q, 2, none⟩ = _ := k2
  have d3 : w5.drew.cell? ⟨q, 3, none⟩ = _ := k3
  have d4 : w5.drew.cell? ⟨q, 4, none⟩ = _ := k4
  have d5 : w5.drew.cell? ⟨q, 5, none⟩ = _ := k5
  clear hf4 hb04 hb05 hf5 R34 R4
  obtain ⟨i0, hi, hz0, hz1, hz2⟩ := info_parts info_str
  have hmkS := fun W => run_make_row (P := Try.prog) 24 9 i0 (.string ⟨#[]⟩) Try.underlying24 hi hz0 hz1 rfl .i64 .i64 f.bl.length (by rw [hz2]; omega) (by omega) W
  obtain ⟨j0, hj, hy0, hy1, hy2⟩ := info_parts info_bool
  have hmkB := fun W => run_make_row (P := Try.prog) 25 4 j0 (.bool false) Try.underlying25 hj hy0 hy1 rfl .i64 .i64 f.hv.length (by rw [hy2]; omega) (by omega) W
  clear hi hz0 hz1 hz2 hj hy0 hy1 hy2
  go_upto_region 8 with fail
  go_cut [9] (fun s9 wx => ∃ r ga gb, s9 = .pointer (some ⟨r, 0, none⟩) ∧ FB w5.heap.size r wx (blank f) (.slice (some ⟨ga, 0, none⟩) f.bl.length f.bl.length) (.slice (some ⟨gb, 0, none⟩) f.hv.length f.hv.length) ∧ Below w5.heap.size w5 wx)
  case first =>
    go_region_held3 (fun w' => w'.cell? ⟨q, 0, none⟩ = some (.int .i64 f.pub) ∧ w'.cell? ⟨q, 1, none⟩ = some (.int .i64 f.hd.len) ∧ w'.cell? ⟨q, 2, none⟩ = some (.int .i64 f.hd.dg) ∧ w'.cell? ⟨q, 3, none⟩ = some (.int .i64 f.hd.sg) ∧ w'.cell? ⟨q, 4, none⟩ = some (.slice uA f.bl.length uc) ∧ w'.cell? ⟨q, 5, none⟩ = some (.slice tA f.hv.length tc)) (first | with_reducible exact ⟨d0, d1, d2, d3, d4, d5⟩ | (simp (maxDischargeDepth := 8) [*, World.cell?_alloc_some]; done)) (fail)
    all_goals (
      go_wp2_with fail
      go_meet
      first
        | exact ⟨_, _, _, rfl, blank_fb l16 h16 (al3 w5 _ _ _).1 (al3 w5 _ _ _).2.1 (al3 w5 _ _ _).2.2.1 (by omega) (by omega), (al3 w5 _ _ _).2.2.2⟩
        | exact ⟨_, _, _, rfl, blank_fb l16 h16 (al3 w5 _ _ _).1 (al3 w5 _ _ _).2.2.1 (al3 w5 _ _ _).2.1 (by omega) (by omega), (al3 w5 _ _ _).2.2.2⟩
        | exact ⟨_, _, _, rfl, blank_fb l16 h16 (al3 w5 _ _ _).2.1 (al3 w5 _ _ _).1 (al3 w5 _ _ _).2.2.1 (by omega) (by omega), (al3 w5 _ _ _).2.2.2⟩
        | exact ⟨_, _, _, rfl, blank_fb l16 h16 (al3 w5 _ _ _).2.1 (al3 w5 _ _ _).2.2.1 (al3 w5 _ _ _).1 (by omega) (by omega), (al3 w5 _ _ _).2.2.2⟩
        | exact ⟨_, _, _, rfl, blank_fb l16 h16 (al3 w5 _ _ _).2.2.1 (al3 w5 _ _ _).1 (al3 w5 _ _ _).2.1 (by omega) (by omega), (al3 w5 _ _ _).2.2.2⟩
        | exact ⟨_, _, _, rfl, blank_fb l16 h16 (al3 w5 _ _ _).2.2.1 (al3 w5 _ _ _).2.1 (al3 w5 _ _ _).1 (by omega) (by omega), (al3 w5 _ _ _).2.2.2⟩)
  case rest =>
    obtain ⟨r, ga, gb, rfl, hfr, hba⟩ := hcut
    clear d0 d1 d2 d3 d4 d5 k0 k1 k2 k3 k4 k5 hmkS hmkB
    have hfq := HF5.out.below hba
    have hbc := HB05.out.trans (hba.mono HB05.out.size)
    have RC := Lib.hid (R5.out.below hba)
    obtain ⟨wa, rfl⟩ : ∃ wa, wa = wc := ⟨_, rfl⟩
    obtain ⟨b, o, rfl, hbs, hcell⟩ : ∃ b o, uA = some ⟨b, o, none⟩ ∧ b < wa.heap.size ∧ wa.cell? ⟨b, o + m, none⟩ = some (.string f.bl[m]) := by
      obtain ⟨_, _, hA, _, _, hc⟩ := hfq.fo.bl.r1
      cases hA
      obtain ⟨b, o, hA, hb, hc⟩ := hc (by omega)
      exact ⟨b, o, hA, hb, hc m hm⟩
    have hx8 : (f.bl[m]).size ≤ 8 := fvalid_size HVAL.out _ (List.getElem_mem hm)
    obtain ⟨hpt, hpu⟩ := part_put HOK.out (part_blank HL1.out) hm (by simp [blank, ← HL1.out, hm])
    rw [HL.out] at hpu
    have HPU := Lib.hid hpu
    have HSET : Hid (((blank f).put m f.bl[m]).bl[m]? = some f.bl[m]) := Lib.hid (by simp [Fd.put, blank, hm])
    have HLB : Hid (((blank f).put m f.bl[m]).bl.length = f.bl.length) := Lib.hid (by simp [Fd.put, blank])
    clear hpt hpu
    generalize f.bl[m] = x at *
    obtain ⟨g, HG⟩ : ∃ g, Hid ((blank f).put m x = g) := ⟨_, Lib.hid rfl⟩
    rw [HG.out] at HPU HSET HLB
    have hxm : x.size ≤ maxLen := by unfold maxLen; omega
    have HFR : Hid (∀ X, Below wa.heap.size wa X → FeedR X (blank f) (.slice (some ⟨ga, 0, none⟩) f.bl.length f.bl.length) (.slice (some ⟨gb, 0, none⟩) f.hv.length f.hv.length)) := Lib.hid fun X hX => (hfr.below hX).fo.r
    have j0 : wa.drew.cell? ⟨r, 0, none⟩ = some (.int .i64 f.pub) := hfr.c0
    have j1 : wa.drew.cell? ⟨r, 1, none⟩ = some (.int .i64 f.hd.len) := hfr.c1
    have j2 : wa.drew.cell? ⟨r, 2, none⟩ = some (.int .i64 f.hd.dg) := hfr.c2
    have j3 : wa.drew.cell? ⟨r, 3, none⟩ = some (.int .i64 f.hd.sg) := hfr.c3
    have j4 : wa.drew.cell? ⟨r, 4, none⟩ = _ := hfr.c4
    have j5 : wa.drew.cell? ⟨r, 5, none⟩ = _ := hfr.c5
    have jq : wa.drew.cell? ⟨q, 4, none⟩ = _ := hfq.c4
    have jx : wa.drew.cell? ⟨b, o + m, none⟩ = _ := hcell
    have i0 : wa.cell? ⟨r, 0, none⟩ = some (.int .i64 f.pub) := hfr.c0
    have i1 : wa.cell? ⟨r, 1, none⟩ = some (.int .i64 f.hd.len) := hfr.c1
    have i2 : wa.cell? ⟨r, 2, none⟩ = some (.int .i64 f.hd.dg) := hfr.c2
    have i3 : wa.cell? ⟨r, 3, none⟩ = some (.int .i64 f.hd.sg) := hfr.c3
    have i4 := hfr.c4
    have i5 := hfr.c5
    have iq := hfq.c4
    have hr6 : ¬ r = wa.heap.size := Nat.ne_of_lt hfr.lt
    have hq6 : ¬ q = wa.heap.size := Nat.ne_of_lt hfq.lt
    have hb6 : ¬ b = wa.heap.size := Nat.ne_of_lt hbs
    go_upto_region 9 with fail
    go_cut [10, 11] (fun s10 s11 wx => ∃ z ub uh, s10 = .pointer (some ⟨z, 0, none⟩) ∧ s11 = .bool true ∧ FB wa.heap.size z wx g ub uh ∧ Below wa.heap.size wa wx)
    case first =>
      go_region_held3 (fun w' => w'.cell? ⟨r, 0, none⟩ = some (.int .i64 f.pub) ∧ w'.cell? ⟨r, 1, none⟩ = some (.int .i64 f.hd.len) ∧ w'.cell? ⟨r, 2, none⟩ = some (.int .i64 f.hd.dg) ∧ w'.cell? ⟨r, 3, none⟩ = some (.int .i64 f.hd.sg) ∧ w'.cell? ⟨r, 4, none⟩ = some (.slice (some ⟨ga, 0, none⟩) f.bl.length f.bl.length) ∧ w'.cell? ⟨r, 5, none⟩ = some (.slice (some ⟨gb, 0, none⟩) f.hv.length f.hv.length) ∧ w'.cell? ⟨q, 4, none⟩ = some (.slice (some ⟨b, o, none⟩) f.bl.length uc) ∧ w'.cell? ⟨b, o + m, none⟩ = some (.string x))
        (first | with_reducible exact ⟨j0, j1, j2, j3, j4, j5, jq, jx⟩ | with_reducible exact ⟨n0, n1, n2, n3, n4, n5, nq, nx⟩ | with_reducible exact ⟨(cell_set6 hr6).trans n0, (cell_set6 hr6).trans n1, (cell_set6 hr6).trans n2, (cell_set6 hr6).trans n3, (cell_set6 hr6).trans n4, (cell_set6 hr6).trans n5, (cell_set6 hq6).trans nq, (cell_set6 hb6).trans nx⟩ | (simp (maxDischargeDepth := 8) [*, World.cell?_alloc_some]; done))
        (first
          | (go_at_call 40; refine (FeedPut_ib HPU _ _ _ _ (HFR.out _ (below_drew (Below.refl wa.heap.size wa))) hxm (RC.out.below (below_drew (Below.refl wa.heap.size wa)))).mono ?_; rintro e w7 ⟨ub7, uh7, rfl, ho7, hb7⟩; obtain ⟨sA, sc, rfl⟩ := ho7.bl.sl; obtain ⟨tA7, tc7, rfl⟩ := ho7.hv.sl
             have hb67 : Below wa.heap.size wa w7 := below_bb (below_drew (Below.refl wa.heap.size wa)) hb7
             have ho7 := ho7.mono (B' := wa.heap.size) (below_drew (Below.refl wa.heap.size wa)).size
             have hf7 := hfr.below hb67
             have hq7 := hfq.below hb67
             have n0 : w7.cell? ⟨r, 0, none⟩ = some (.int .i64 f.pub) := hf7.c0; have n1 : w7.cell? ⟨r, 1, none⟩ = some (.int .i64 f.hd.len) := hf7.c1; have n2 : w7.cell? ⟨r, 2, none⟩ = some (.int .i64 f.hd.dg) := hf7.c2; have n3 : w7.cell? ⟨r, 3, none⟩ = some (.int .i64 f.hd.sg) := hf7.c3; have n4 := hf7.c4; have n5 := hf7.c5; have nq := hq7.c4
             have nx := (hb67.cell (p := ⟨b, o + m, none⟩) hbs).trans hcell)
          | (go_at_call 40; refine (FeedPut_ib HPU _ _ _ _ (HFR.out _ (below_drew (below_alloc (Below.refl wa.heap.size wa) (.cells #[.int .i64 0, .int .i64 0, .int .i64 0, .int .i64 0, .slice none 0 0, .slice none 0 0] 34)))) hxm (RC.out.below (below_drew (below_alloc (Below.refl wa.heap.size wa) (.cells #[.int .i64 0, .int .i64 0, .int .i64 0, .int .i64 0, .slice none 0 0, .slice none 0 0] 34))))).mono ?_; rintro e w7 ⟨ub7, uh7, rfl, ho7, hb7⟩; obtain ⟨sA, sc, rfl⟩ := ho7.bl.sl; obtain ⟨tA7, tc7, rfl⟩ := ho7.hv.sl
             have hb67 : Below wa.heap.size wa w7 := below_bb (below_drew (below_alloc (Below.refl wa.heap.size wa) (.cells #[.int .i64 0, .int .i64 0, .int .i64 0, .int .i64 0, .slice none 0 0, .slice none 0 0] 34))) hb7
             have ho7 := ho7.mono (B' := wa.heap.size) (below_drew (below_alloc (Below.refl wa.heap.size wa) (.cells #[.int .i64 0, .int .i64 0, .int .i64 0, .int .i64 0, .slice none 0 0, .slice none 0 0] 34))).size
             have hf7 := hfr.below hb67
             have hq7 := hfq.below hb67
             have n0 : w7.cell? ⟨r, 0, none⟩ = some (.int .i64 f.pub) := hf7.c0; have n1 : w7.cell? ⟨r, 1, none⟩ = some (.int .i64 f.hd.len) := hf7.c1; have n2 : w7.cell? ⟨r, 2, none⟩ = some (.int .i64 f.hd.dg) := hf7.c2; have n3 : w7.cell? ⟨r, 3, none⟩ = some (.int .i64 f.hd.sg) := hf7.c3; have n4 := hf7.c4; have n5 := hf7.c5; have nq := hq7.c4
             have nx := (hb67.cell (p := ⟨b, o + m, none⟩) hbs).trans hcell
             have hz7 := (hb7.block wa.heap.size (by show wa.heap.size < (wa.alloc _).heap.size; simp)).trans (heap_alloc_new wa (.cells #[.int .i64 0, .int .i64 0, .int .i64 0, .int .i64 0, .slice none 0 0, .slice none 0 0] 34))
             obtain ⟨y0, y1, y2, y3, y4, y5, yf⟩ := box_cells hz7))
      · go_wp2_with fail
        go_meet
        exact ⟨w7.heap.size, _, _, rfl, rfl, FB.made ho7, hb67.alloc hb67.size _⟩
      · go_wp2_with fail
        go_meet
        exact ⟨wa.heap.size, _, _, rfl, rfl, FB.fill hz7 ho7, below_set6 hb67 (Nat.le_refl _) _ _ _ _ _ _⟩
    case rest =>
      obtain ⟨z, ub8, uh8, rfl, rfl, hg8, hb8⟩ := hcut
      clear i0 i1 i2 i3 i4 i5 iq j0 j1 j2 j3 j4 j5 jq jx
      obtain ⟨sA, sc, rfl⟩ := hg8.fo.bl.sl
      obtain ⟨b2, o2, rfl, hbs2, hcell2⟩ : ∃ b2 o2, sA = some ⟨b2, o2, none⟩ ∧ b2 < wc.heap.size ∧ wc.cell? ⟨b2, o2 + m, none⟩ = some (.string x) := by
        have hlg := HLB.out
        obtain ⟨_, _, hA, _, _, hc⟩ := hg8.fo.bl.r1
        cases hA
        obtain ⟨b2, o2, hA, hb, hc⟩ := hc (by omega)
        refine ⟨b2, o2, hA, hb, ?_⟩
        rw [hc m (by omega)]
        have := HSET.out
        rw [List.getElem?_eq_getElem (by omega)] at this
        rw [Option.some.inj this]
      have hmg : (m : Int) < (g.bl.length : Int) := by have := HLB.out; omega
      have hq8 := hfq.below hb8
      have k4 := hg8.c4
      have q4 := hq8.c4
      have hcell8 := (hb8.cell (p := ⟨b, o + m, none⟩) hbs).trans hcell
      have hbs8 := Nat.lt_of_lt_of_le hbs hb8.size
      have hzl := hg8.lt
      have hql := hq8.lt
      have hb08 := hbc.trans (hb8.mono hbc.size)
      clear hg8 hq8 hfq hb8 hcell hfr
      go_wp2_with fail
      have hup := up_cell wc
      refine wp_region_up (by kernel_rfl) (by kernel_rfl) ?_
      repeat (go_big_quiet_step (fail))
      refine wpQuiet_nil ?_
      intro w9 hw9
      have hb9 := of_up hw9
      clear hw9 hup
      go_wp2
      go_ret
      exact ⟨rfl, hb08.trans (hb9.mono hb08.size)⟩
end Go.Proofs.Ytlhiabnablbkpaa

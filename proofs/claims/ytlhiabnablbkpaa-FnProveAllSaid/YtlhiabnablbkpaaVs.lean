/- Walk: the law FnProveAll. -/
import Derived.Test.YtlhiabnablbkpaaVg
import Derived.Test.YtlhiabnablbkpaaLawr
import Derived.Deep.DeepCutAuto
namespace Go.Proofs.Ytlhiabnablbkpaa
open Go.RowKit

theorem al3 (w : World) (o1 o2 o3 : Obj) : (((w.alloc o1).alloc o2).alloc o3).drew.heap[w.heap.size]? = some o1 ∧ (((w.alloc o1).alloc o2).alloc o3).drew.heap[w.heap.size + 1]? = some o2 ∧ (((w.alloc o1).alloc o2).alloc o3).drew.heap[w.heap.size + 1 + 1]? = some o3 ∧ Below w.heap.size w (((w.alloc o1).alloc o2).alloc o3).drew := by
  have h1 := heap_alloc_new w o1
  have h2 := heap_alloc_new (w.alloc o1) o2
  have h3 := heap_alloc_new ((w.alloc o1).alloc o2) o3
  have s1 : (w.alloc o1).heap.size = w.heap.size + 1 := by simp
  have s2 : ((w.alloc o1).alloc o2).heap.size = w.heap.size + 1 + 1 := by simp
  rw [s1] at h2
  rw [s2] at h3
  have b2 : Below (w.heap.size + 1) (w.alloc o1) ((w.alloc o1).alloc o2) := (Below.refl _ _).alloc (by rw [s1]; exact Nat.le_refl _) _
  have b3 : Below (w.heap.size + 1 + 1) ((w.alloc o1).alloc o2) (((w.alloc o1).alloc o2).alloc o3) := (Below.refl _ _).alloc (by rw [s2]; exact Nat.le_refl _) _
  refine ⟨?_, ?_, h3, ?_⟩
  · exact (b3.block _ (by omega)).trans ((b2.block _ (by omega)).trans h1)
  · exact (b3.block _ (by omega)).trans h2
  · exact below_drew' ((((Below.refl _ _).alloc (Nat.le_refl _) _).alloc (by rw [s1]; omega) _).alloc (by rw [s2]; omega) _)
theorem fill_made {α : Type} {enc : α → Value} {e : TypeId} {w : World} {g n : Nat} {a : α} (h : w.heap[g]? = some (.cells (madeCells #[enc a] n) e (0, 0))) (hn : n ≤ maxLen) {B : Nat} (hB : B ≤ g) : O1 enc B e w (.slice (some ⟨g, 0, none⟩) n n) (List.replicate n a) := by
  have hf : Fill enc e g w (List.replicate n a) (List.replicate n a).length := ⟨_, h, by simp [madeCells], fun j hj _ => by
    have hj' : j < n := by simpa using hj
    simp [madeCells, hj', Nat.mod_one]⟩
  have := Fill.own hf (by simpa using hn)
  simp only [List.length_replicate] at this
  exact this.mono hB
theorem blank_fb {B ga gb r : Nat} {W : World} {f : Fd} (h1 : f.bl.length ≤ 16) (h2 : f.hv.length ≤ 16) (hS : W.heap[ga]? = some (.cells (madeCells #[.string ⟨#[]⟩] f.bl.length) 9 (0, 0))) (hB : W.heap[gb]? = some (.cells (madeCells #[.bool false] f.hv.length) 4 (0, 0)))
    (hr : W.heap[r]? = some (.cells #[.int .i64 f.pub, .int .i64 f.hd.len, .int .i64 f.hd.dg, .int .i64 f.hd.sg, .slice (some ⟨ga, 0, none⟩) f.bl.length f.bl.length, .slice (some ⟨gb, 0, none⟩) f.hv.length f.hv.length] 34 (0, 0))) (b1 : B ≤ ga) (b2 : B ≤ gb) :
    FB B r W (blank f) (.slice (some ⟨ga, 0, none⟩) f.bl.length f.bl.length) (.slice (some ⟨gb, 0, none⟩) f.hv.length f.hv.length) :=
  ⟨hr, ⟨fill_made (enc := Value.string) (a := noText) hS (by unfold maxLen; omega) b1, fill_made (enc := Value.bool) (a := false) hB (by unfold maxLen; omega) b2⟩⟩
theorem part_all {f g : Fd} (hl : f.bl.length = f.hv.length) (hw : wholeB f.hv = true) (hp : Part f g) (h : ∀ j, j < f.bl.length → g.hv[j]? = some true) : g = f := by
  have hh : g.hv = f.hv := by
    apply List.ext_getElem?
    intro j
    by_cases hj : j < f.bl.length
    · rw [h j hj, wholeB_all hw j (by omega)]
    · rw [List.getElem?_eq_none (by rw [hp.lh]; omega), List.getElem?_eq_none (by omega)]
  have hb : g.bl = f.bl := part_whole hp (by rw [hh]; exact hw)
  have h1 := hp.pub
  have h2 := hp.hd
  cases f; cases g
  simp only at h1 h2 hh hb
  rw [h1, h2, hh, hb]
def off (m n j : Nat) : Nat := if m ≤ j then j - m else j + n - m
theorem off_mod {m n k : Nat} (hm : m < n) (hk : k < n) : off m n ((k + m) % n) = k ∧ ∀ j, j < n → off m n j = k → j = (k + m) % n := by
  have e : (k + m) % n = if k + m < n then k + m else k + m - n := by
    by_cases h : k + m < n
    · rw [if_pos h, Nat.mod_eq_of_lt h]
    · rw [if_neg h, Nat.mod_eq_sub_mod (by omega), Nat.mod_eq_of_lt (by omega)]
  rw [e]
  unfold off
  refine ⟨?_, fun j hj h => ?_⟩
  · split <;> split <;> omega
  · split at h <;> split <;> omega
theorem round_hv {g : Fd} {a k n m : Nat} {x : ByteArray} (hl : g.hv.length = n) (ho : ∀ j, j < n → g.hv[j]? = some (decide (off m n j < k))) (hf : off m n a = k ∧ ∀ j, j < n → off m n j = k → j = a) (ha : a < n) :
    ∀ j, j < n → (g.put a x).hv[j]? = some (decide (off m n j < k + 1)) := fun j hj => by
  simp only [Fd.put]
  by_cases h : a = j
  · subst h
    rw [List.getElem?_set_self (by omega), hf.1]
    simp
  · rw [List.getElem?_set_ne h, ho j hj]
    have h2 : off m n j ≠ k := fun e => h (hf.2 j hj e).symm
    congr 1
    rw [Bool.eq_iff_iff]; simp; omega
theorem FeedPut_ib {f o : Fd} {i : Int} {t : ByteArray} {proof : List Int} {ok : Bool} (h : Hid (fput f i t proof = (o, ok))) (vb vh pv : Value) (w : World) (hf : FeedR w f vb vh) (ht : t.size ≤ maxLen) (hp : RI w pv proof) :
    Calls Try.prog 40 #[.agg #[.int .i64 f.pub, .int .i64 f.hd.len, .int .i64 f.hd.dg, .int .i64 f.hd.sg, vb, vh], .int .i64 i, .string t, pv] w (PutPost o ok w) := by
  have := FeedPut_i f i t proof vb vh pv w hf ht hp
  rw [h.out] at this
  exact this
set_option maxHeartbeats 1600000 in
set_option maxRecDepth 100000 in
theorem FnProveAll_any (bs : List UInt8) (v : Value) (w : World) (hv : RU w v bs) : Calls Try.prog 8 #[v] w fun e w' => e = .returned (.bool true) ∧ Below w.heap.size w w' := by
  have HV := Lib.hid hv
  obtain ⟨A, c, rfl, n1, n2, _⟩ := hv
  unfold maxLen at n2
  have hbm : bs.length ≤ 9223372036854775807 := by have := n1.1; omega
  clear n1 n2
  by_cases hl : 1048576 < bs.length
  · have hl' : (1048576 : Int) < (bs.length : Int) := by omega
    go_enter Try.func8, Try.ntmps8
    go_wp2
    go_ret
    exact ⟨rfl, Below.refl _ _⟩
  have hl' : ¬ (1048576 : Int) < (bs.length : Int) := by omega
  go_enter Try.func8, Try.ntmps8
  go_wp2_with fail
  refine (DrawFeedProve_any bs _ w HV.out).mono ?_
  rintro e w1 ⟨f, ub, uh, i, rfl, hf1, -, -, hz, i1, i2, hb1⟩
  have HZ := Lib.hid hz
  clear hz
  obtain ⟨uA, uc, rfl⟩ := hf1.bl.sl
  obtain ⟨tA, tc, rfl⟩ := hf1.hv.sl
  have hf2 := FB.made hf1
  have hb2 := hb1.alloc hb1.size (.cells #[.int .i64 f.pub, .int .i64 f.hd.len, .int .i64 f.hd.dg, .int .i64 f.hd.sg, .slice uA f.bl.length uc, .slice tA f.hv.length tc] 34)
  go_wp2_with fail
  obtain ⟨W2, HW2⟩ : ∃ W2, Hid (w1.alloc (.cells #[.int .i64 f.pub, .int .i64 f.hd.len, .int .i64 f.hd.dg, .int .i64 f.hd.sg, .slice uA f.bl.length uc, .slice tA f.hv.length tc] 34) = W2) := ⟨_, Lib.hid rfl⟩
  obtain ⟨q, HQ⟩ : ∃ q, Hid (w1.heap.size = q) := ⟨_, Lib.hid rfl⟩
  rw [HW2.out, HQ.out] at hf2
  rw [HW2.out] at hb2 ⊢
  rw [HQ.out]
  clear hf1 hb1
  refine (FeedProve_i f i _ _ W2 hf2.fo.r).mono ?_
  rintro e w3 ⟨v3, rfl, ho3, hb3⟩
  have hf3 := hf2.below hb3
  have R3 := Lib.hid ho3.r1
  have hb03 := hb2.trans (hb3.mono hb2.size)
  clear hb2 hf2 ho3
  have k0 := hf3.c0; have k1 := hf3.c1; have k2 := hf3.c2; have k3 := hf3.c3; have k4 := hf3.c4; have k5 := hf3.c5
  go_wp2_with fail
  refine (FeedProve_s f i _ _ w3 hf3.fo.r).mono ?_
  rintro e w4 ⟨v4, rfl, ho4, hb4⟩
  have hf4 := hf3.below hb4
  have R4 := Lib.hid ho4.r1
  have R34 : Hid (RI w4 v3 (fprove f i)) := Lib.hid (R3.out.below hb4)
  have hb04 := hb03.trans (hb4.mono hb03.size)
  clear hb03 hf3 ho4 k0 k1 k2 k3 k4 k5 R3
  obtain ⟨b, HOK⟩ : ∃ b, Hid (fproveOk f i = b) := ⟨_, Lib.hid rfl⟩
  obtain ⟨l, HL⟩ : ∃ l, Hid (fprove f i = l) := ⟨_, Lib.hid rfl⟩
  rw [HOK.out]
  rw [HL.out] at R4 R34
  cases b
  · go_wp2_with fail
    refine (sameInts_same l _ _ _ R34.out R4.out).mono ?_
    rintro e w5 ⟨rfl, hb5⟩
    have hb05 := hb04.trans (hb5.mono hb04.size)
    go_wp2_with fail
    refine (sameInts_same l _ _ _ (R34.out.below hb5) (R4.out.below hb5)).mono ?_
    rintro e w6 ⟨rfl, hb6⟩
    go_wp2
    go_ret
    exact ⟨rfl, hb05.trans (hb6.mono hb05.size)⟩
  have hok' := HOK.out
  simp only [fproveOk, Bool.and_eq_true] at hok'
  obtain ⟨⟨hval, hwh⟩, hin⟩ := hok'
  have hin := inB_true.1 hin
  obtain ⟨m, rfl⟩ : ∃ m : Nat, i = m := ⟨i.toNat, by omega⟩
  have hm : m < f.bl.length := by omega
  have hmi : (m : Int) < (f.bl.length : Int) := by omega
  obtain ⟨l1, l16, l3⟩ := fvalid_len hval
  have HVAL := Lib.hid hval
  have HWH := Lib.hid hwh
  have HL1 := Lib.hid l1
  have HL3 := Lib.hid l3
  have h16 : f.hv.length ≤ 16 := by omega
  have h0 : 0 < f.bl.length := by omega
  clear hin l1 l3 hval hwh i1 i2
  go_wp2_with fail
  refine (sameInts_same l _ _ _ R34.out R4.out).mono ?_
  rintro e w5 ⟨rfl, hb5⟩
  have hb05 := hb04.trans (hb5.mono hb04.size)
  have hf5 := hf4.below hb5
  have R5 : Hid (RI w5 v3 l) := Lib.hid (R34.out.below hb5)
  have HF5 := Lib.hid hf5
  have HB05 := Lib.hid hb05
  obtain ⟨pA, pc, rfl⟩ : ∃ pA pc, v3 = .slice pA l.length pc := by obtain ⟨a, b, h, _⟩ := R5.out; exact ⟨a, b, h⟩
  have hql5 := hf5.lt
  have k0 := hf5.c0; have k1 := hf5.c1; have k2 := hf5.c2; have k3 := hf5.c3; have k4 := hf5.c4; have k5 := hf5.c5
  have d0 : w5.drew.cell? ⟨q, 0, none⟩ = _ := k0
  have d1 : w5.drew.cell? ⟨q, 1, none⟩ = _ := k1
  have d2 : w5.drew.cell? ⟨q, 2, none⟩ = _ := k2
  have d3 : w5.drew.cell? ⟨q, 3, none⟩ = _ := k3
  have d4 : w5.drew.cell? ⟨q, 4, none⟩ = _ := k4
  have d5 : w5.drew.cell? ⟨q, 5, none⟩ = _ := k5
  clear hf4 hb04 hb05 hf5 R34 R4
  obtain ⟨i0, hi, hz0, hz1, hz2⟩ := info_parts info_str
  have hmkS := fun W => run_make_row (P := Try.prog) 24 9 i0 (.string ⟨#[]⟩) Try.underlying24 hi hz0 hz1 rfl .i64 .i64 f.bl.length (by rw [hz2]; omega) (by omega) W
  obtain ⟨j0, hj, hy0, hy1, hy2⟩ := info_parts info_bool
  have hmkB := fun W => run_make_row (P := Try.prog) 25 4 j0 (.bool false) Try.underlying25 hj hy0 hy1 rfl .i64 .i64 f.hv.length (by rw [hy2]; omega) (by omega) W
  clear hi hz0 hz1 hz2 hj hy0 hy1 hy2
  go_upto_region 8 with fail
  go_cut [9] (fun s9 wx => ∃ r ga gb, s9 = .pointer (some ⟨r, 0, none⟩) ∧ FB w5.heap.size r wx (blank f) (.slice (some ⟨ga, 0, none⟩) f.bl.length f.bl.length) (.slice (some ⟨gb, 0, none⟩) f.hv.length f.hv.length) ∧ Below w5.heap.size w5 wx ∧ w5.heap.size ≤ r)
  case first =>
    go_region_held3 (fun w' => w'.cell? ⟨q, 0, none⟩ = some (.int .i64 f.pub) ∧ w'.cell? ⟨q, 1, none⟩ = some (.int .i64 f.hd.len) ∧ w'.cell? ⟨q, 2, none⟩ = some (.int .i64 f.hd.dg) ∧ w'.cell? ⟨q, 3, none⟩ = some (.int .i64 f.hd.sg) ∧ w'.cell? ⟨q, 4, none⟩ = some (.slice uA f.bl.length uc) ∧ w'.cell? ⟨q, 5, none⟩ = some (.slice tA f.hv.length tc)) (first | with_reducible exact ⟨d0, d1, d2, d3, d4, d5⟩ | (simp (maxDischargeDepth := 8) [*, World.cell?_alloc_some]; done)) (fail)
    all_goals (
      go_wp2_with fail
      go_meet
      first
        | exact ⟨_, _, _, rfl, blank_fb l16 h16 (al3 w5 _ _ _).1 (al3 w5 _ _ _).2.1 (al3 w5 _ _ _).2.2.1 (by omega) (by omega), (al3 w5 _ _ _).2.2.2, by omega⟩
        | exact ⟨_, _, _, rfl, blank_fb l16 h16 (al3 w5 _ _ _).1 (al3 w5 _ _ _).2.2.1 (al3 w5 _ _ _).2.1 (by omega) (by omega), (al3 w5 _ _ _).2.2.2, by omega⟩
        | exact ⟨_, _, _, rfl, blank_fb l16 h16 (al3 w5 _ _ _).2.1 (al3 w5 _ _ _).1 (al3 w5 _ _ _).2.2.1 (by omega) (by omega), (al3 w5 _ _ _).2.2.2, by omega⟩
        | exact ⟨_, _, _, rfl, blank_fb l16 h16 (al3 w5 _ _ _).2.1 (al3 w5 _ _ _).2.2.1 (al3 w5 _ _ _).1 (by omega) (by omega), (al3 w5 _ _ _).2.2.2, by omega⟩
        | exact ⟨_, _, _, rfl, blank_fb l16 h16 (al3 w5 _ _ _).2.2.1 (al3 w5 _ _ _).1 (al3 w5 _ _ _).2.1 (by omega) (by omega), (al3 w5 _ _ _).2.2.2, by omega⟩
        | exact ⟨_, _, _, rfl, blank_fb l16 h16 (al3 w5 _ _ _).2.2.1 (al3 w5 _ _ _).2.1 (al3 w5 _ _ _).1 (by omega) (by omega), (al3 w5 _ _ _).2.2.2, by omega⟩)
  case rest =>
    obtain ⟨r, ga, gb, rfl, hfr, hba, hr5⟩ := hcut
    clear d0 d1 d2 d3 d4 d5 k0 k1 k2 k3 k4 k5 hmkS hmkB
    have hfq := HF5.out.below hba
    have hbc := HB05.out.trans (hba.mono HB05.out.size)
    have RC := Lib.hid (R5.out.below hba)
    obtain ⟨wa, rfl⟩ : ∃ wa, wa = wc := ⟨_, rfl⟩
    have hbw0 : w.heap.size ≤ wa.heap.size := hbc.size
    go_wp2_with fail
    go_loopw [10] (fun kv wr => ∃ (k : Nat) (g : Fd) (ub uh : Value), kv = .int .i64 k ∧ k ≤ f.bl.length ∧ Hid (Part f g ∧ ∀ j, j < f.bl.length → g.hv[j]? = some (decide (off m f.bl.length j < k))) ∧ FB w5.heap.size r wr g ub uh ∧ Below w5.heap.size w5 wr) (fun kv _ => f.bl.length - (intOf kv).toNat)
    case atStart => exact ⟨0, blank f, _, _, rfl, Nat.zero_le _, Lib.hid ⟨part_blank HL1.out, fun j hj => by simp [blank, ← HL1.out, hj]⟩, hfr, hba⟩
    case round =>
      clear hfr hfq hbc RC hba
      obtain ⟨k, g, ub, uh, rfl, hk, HPT, hfr, hbw⟩ := hrel
      obtain ⟨ga2, gc2, rfl⟩ := hfr.fo.bl.sl
      obtain ⟨gb2, gd2, rfl⟩ := hfr.fo.hv.sl
      have hfq := HF5.out.below hbw
      have hb0r := HB05.out.trans (hbw.mono HB05.out.size)
      have q0 := hfq.c0; have q1 := hfq.c1; have q2 := hfq.c2; have q3 := hfq.c3; have q4 := hfq.c4; have q5 := hfq.c5
      by_cases hlt : k < f.bl.length
      · have hlt' : (k : Int) < (f.bl.length : Int) := by omega
        have e1 : ((k : Int) + (m : Int)) % (f.bl.length : Int) = (((k + m) % f.bl.length : Nat) : Int) := by simp
        have ha1 : (k + m) % f.bl.length < f.bl.length := Nat.mod_lt _ h0
        have HOFF : Hid (off m f.bl.length ((k + m) % f.bl.length) = k ∧ ∀ j, j < f.bl.length → off m f.bl.length j = k → j = (k + m) % f.bl.length) := Lib.hid (off_mod hm hlt)
        obtain ⟨a, HA⟩ : ∃ a, Hid ((k + m) % f.bl.length = a) := ⟨_, Lib.hid rfl⟩
        rw [HA.out] at e1 ha1 HOFF
        have hai : (a : Int) < (f.bl.length : Int) := by omega
        have hnz : (f.bl.length : Int) ≠ 0 := by omega
        have HOKA : Hid (fproveOk f a = true) := Lib.hid (by
          unfold fproveOk
          rw [HVAL.out, HWH.out, inB_true.2 (show (0 : Int) ≤ (a : Int) ∧ (a : Int) ≤ (f.bl.length : Int) - 1 by omega)]; rfl)
        obtain ⟨l8, HL8⟩ : ∃ l8, Hid (fprove f a = l8) := ⟨_, Lib.hid rfl⟩
        have hx8 : (f.bl[a]).size ≤ 8 := fvalid_size HVAL.out _ (List.getElem_mem ha1)
        have HPP : Hid (Part f (g.put a f.bl[a]) ∧ fput g a f.bl[a] (fprove f a) = (g.put a f.bl[a], true)) := Lib.hid (part_put HOKA.out HPT.out.1 ha1 (by rw [HPT.out.2 a ha1, HOFF.out.1]; simp))
        rw [HL8.out] at HPP
        go_wp2_with fail
        simp only [e1]
        refine (FeedProve_i f a _ _ wr hfq.fo.r).mono ?_
        rintro e w8 ⟨v8, rfl, ho8, hb8⟩
        rw [HOKA.out]
        rw [HL8.out] at ho8
        obtain ⟨oA, oc, rfl⟩ := ho8.sl
        have hfr8 := hfr.below hb8
        have hfq8 := hfq.below hb8
        have hbw8 := hbw.trans (hb8.mono hbw.size)
        have RC := Lib.hid ho8.r1
        clear q0 q1 q2 q3 q4 q5 e1 hfr hfq hb8 ho8
        obtain ⟨b, o, rfl, hbs8, hcell8⟩ : ∃ b o, uA = some ⟨b, o, none⟩ ∧ b < w8.heap.size ∧ w8.cell? ⟨b, o + a, none⟩ = some (.string f.bl[a]) := by
          obtain ⟨_, _, hA, _, _, hc⟩ := hfq8.fo.bl.r1
          cases hA
          obtain ⟨b, o, hA, hb, hc⟩ := hc (by omega)
          exact ⟨b, o, hA, hb, hc a ha1⟩
        generalize f.bl[a] = x at *
        obtain ⟨g2, HG2⟩ : ∃ g2, Hid (g.put a x = g2) := ⟨_, Lib.hid rfl⟩
        rw [HG2.out] at HPP
        have HPU := Lib.hid HPP.out.2
        have hxm : x.size ≤ maxLen := by unfold maxLen; omega
        have HFR : Hid (∀ X, Below w8.heap.size w8 X → FeedR X g (.slice ga2 g.bl.length gc2) (.slice gb2 g.hv.length gd2)) := Lib.hid fun X hX => (hfr8.below hX).fo.r
        have i0 := hfr8.c0; have i1 := hfr8.c1; have i2 := hfr8.c2; have i3 := hfr8.c3; have i4 := hfr8.c4; have i5 := hfr8.c5; have iq := hfq8.c4
        have j0 : w8.drew.cell? ⟨r, 0, none⟩ = _ := i0
        have j1 : w8.drew.cell? ⟨r, 1, none⟩ = _ := i1
        have j2 : w8.drew.cell? ⟨r, 2, none⟩ = _ := i2
        have j3 : w8.drew.cell? ⟨r, 3, none⟩ = _ := i3
        have j4 : w8.drew.cell? ⟨r, 4, none⟩ = _ := i4
        have j5 : w8.drew.cell? ⟨r, 5, none⟩ = _ := i5
        have jq : w8.drew.cell? ⟨q, 4, none⟩ = _ := iq
        have jx : w8.drew.cell? ⟨b, o + a, none⟩ = _ := hcell8
        have hr6 : ¬ r = w8.heap.size := Nat.ne_of_lt hfr8.lt
        have hq6 : ¬ q = w8.heap.size := Nat.ne_of_lt hfq8.lt
        have hb6 : ¬ b = w8.heap.size := Nat.ne_of_lt hbs8
        go_wp2_with fail
        go_region_held3 (fun w' => w'.cell? ⟨r, 0, none⟩ = some (.int .i64 g.pub) ∧ w'.cell? ⟨r, 1, none⟩ = some (.int .i64 g.hd.len) ∧ w'.cell? ⟨r, 2, none⟩ = some (.int .i64 g.hd.dg) ∧ w'.cell? ⟨r, 3, none⟩ = some (.int .i64 g.hd.sg) ∧ w'.cell? ⟨r, 4, none⟩ = some (.slice ga2 g.bl.length gc2) ∧ w'.cell? ⟨r, 5, none⟩ = some (.slice gb2 g.hv.length gd2) ∧ w'.cell? ⟨q, 4, none⟩ = some (.slice (some ⟨b, o, none⟩) f.bl.length uc) ∧ w'.cell? ⟨b, o + a, none⟩ = some (.string x))
          (first | with_reducible exact ⟨j0, j1, j2, j3, j4, j5, jq, jx⟩ | with_reducible exact ⟨n0, n1, n2, n3, n4, n5, nq, nx⟩ | with_reducible exact ⟨(cell_set6 hr6).trans n0, (cell_set6 hr6).trans n1, (cell_set6 hr6).trans n2, (cell_set6 hr6).trans n3, (cell_set6 hr6).trans n4, (cell_set6 hr6).trans n5, (cell_set6 hq6).trans nq, (cell_set6 hb6).trans nx⟩ | (simp (maxDischargeDepth := 8) [*, World.cell?_alloc_some]; done))
          (first
            | (go_at_call 40; refine (FeedPut_ib HPU _ _ _ _ (HFR.out _ (below_drew (Below.refl w8.heap.size w8))) hxm (RC.out.below (below_drew (Below.refl w8.heap.size w8)))).mono ?_; rintro e w9 ⟨ub9, uh9, rfl, ho9, hb9⟩; obtain ⟨sA, sc, rfl⟩ := ho9.bl.sl; obtain ⟨tA9, tc9, rfl⟩ := ho9.hv.sl
               have hb89 : Below w8.heap.size w8 w9 := below_bb (below_drew (Below.refl w8.heap.size w8)) hb9
               have ho9 := ho9.mono (B' := w8.heap.size) (below_drew (Below.refl w8.heap.size w8)).size
               have hf9 := hfr8.below hb89
               have hq9 := hfq8.below hb89
               have n0 := hf9.c0; have n1 := hf9.c1; have n2 := hf9.c2; have n3 := hf9.c3; have n4 := hf9.c4; have n5 := hf9.c5; have nq := hq9.c4
               have nx := (hb89.cell (p := ⟨b, o + a, none⟩) hbs8).trans hcell8)
            | (go_at_call 40; refine (FeedPut_ib HPU _ _ _ _ (HFR.out _ (below_drew (below_alloc (Below.refl w8.heap.size w8) (.cells #[.int .i64 0, .int .i64 0, .int .i64 0, .int .i64 0, .slice none 0 0, .slice none 0 0] 34)))) hxm (RC.out.below (below_drew (below_alloc (Below.refl w8.heap.size w8) (.cells #[.int .i64 0, .int .i64 0, .int .i64 0, .int .i64 0, .slice none 0 0, .slice none 0 0] 34))))).mono ?_; rintro e w9 ⟨ub9, uh9, rfl, ho9, hb9⟩; obtain ⟨sA, sc, rfl⟩ := ho9.bl.sl; obtain ⟨tA9, tc9, rfl⟩ := ho9.hv.sl
               have hb89 : Below w8.heap.size w8 w9 := below_bb (below_drew (below_alloc (Below.refl w8.heap.size w8) (.cells #[.int .i64 0, .int .i64 0, .int .i64 0, .int .i64 0, .slice none 0 0, .slice none 0 0] 34))) hb9
               have ho9 := ho9.mono (B' := w8.heap.size) (below_drew (below_alloc (Below.refl w8.heap.size w8) (.cells #[.int .i64 0, .int .i64 0, .int .i64 0, .int .i64 0, .slice none 0 0, .slice none 0 0] 34))).size
               have hf9 := hfr8.below hb89
               have hq9 := hfq8.below hb89
               have n0 := hf9.c0; have n1 := hf9.c1; have n2 := hf9.c2; have n3 := hf9.c3; have n4 := hf9.c4; have n5 := hf9.c5; have nq := hq9.c4
               have nx := (hb89.cell (p := ⟨b, o + a, none⟩) hbs8).trans hcell8
               have hz9 := (hb9.block w8.heap.size (by show w8.heap.size < (w8.alloc _).heap.size; simp)).trans (heap_alloc_new w8 (.cells #[.int .i64 0, .int .i64 0, .int .i64 0, .int .i64 0, .slice none 0 0, .slice none 0 0] 34))
               obtain ⟨y0, y1, y2, y3, y4, y5, yf⟩ := box_cells hz9))
        · have hz10 := FB.made ho9
          have hr10 := (hf9.below (below_alloc (Below.refl w9.heap.size w9) (.cells #[.int .i64 g2.pub, .int .i64 g2.hd.len, .int .i64 g2.hd.dg, .int .i64 g2.hd.sg, .slice sA g2.bl.length sc, .slice tA9 g2.hv.length tc9] 34))).box
          have hb10 := hb89.alloc hb89.size (.cells #[.int .i64 g2.pub, .int .i64 g2.hd.len, .int .i64 g2.hd.dg, .int .i64 g2.hd.sg, .slice sA g2.bl.length sc, .slice tA9 g2.hv.length tc9] 34)
          obtain ⟨W10, HW10⟩ : ∃ W10, Hid (w9.alloc (.cells #[.int .i64 g2.pub, .int .i64 g2.hd.len, .int .i64 g2.hd.dg, .int .i64 g2.hd.sg, .slice sA g2.bl.length sc, .slice tA9 g2.hv.length tc9] 34) = W10) := ⟨_, Lib.hid rfl⟩
          rw [HW10.out] at hz10 hr10 hb10 ⊢
          have hb5x := hbw8.trans (hb10.mono hbw8.size)
          have t0 := hz10.c0; have t1 := hz10.c1; have t2 := hz10.c2; have t3 := hz10.c3; have t4 := hz10.c4; have t5 := hz10.c5
          obtain ⟨p0, p1, p2, p3, p4, p5, pf⟩ := box_cells hr10
          have HQ10 := Lib.hid hz10
          have HR10 := Lib.hid hr10
          clear hr10 i0 i1 i2 i3 i4 i5 iq j0 j1 j2 j3 j4 j5 jq jx n0 n1 n2 n3 n4 n5 nq nx hz10 hf9 hq9 hfr8 hfq8 hcell8
          go_wp2
          go_roundw
          case rel => exact ⟨k + 1, g2, _, _, by go_num, by omega, Lib.hid ⟨HPP.out.1, by rw [← HG2.out]; exact round_hv (HPT.out.1.lh) HPT.out.2 HOFF.out ha1⟩, (FB.fill HR10.out (HQ10.out.fo.mono hbw8.size)), below_set6 hb5x hr5 _ _ _ _ _ _⟩
          case measure => simp [intOf]; omega
        · have hz10 := FB.fill hz9 ho9
          have hr10 := (heap_set6 (w := w9) hr6 (.int .i64 g2.pub) (.int .i64 g2.hd.len) (.int .i64 g2.hd.dg) (.int .i64 g2.hd.sg) (.slice sA g2.bl.length sc) (.slice tA9 g2.hv.length tc9)).trans hf9.box
          have hb10 := below_set6 hb89 (Nat.le_refl _) (.int .i64 g2.pub) (.int .i64 g2.hd.len) (.int .i64 g2.hd.dg) (.int .i64 g2.hd.sg) (.slice sA g2.bl.length sc) (.slice tA9 g2.hv.length tc9)
          obtain ⟨W10, HW10⟩ : ∃ W10, Hid (((((((w9.setCell ⟨w8.heap.size, 0, none⟩ (.int .i64 g2.pub)).setCell ⟨w8.heap.size, 1, none⟩ (.int .i64 g2.hd.len)).setCell ⟨w8.heap.size, 2, none⟩ (.int .i64 g2.hd.dg)).setCell ⟨w8.heap.size, 3, none⟩ (.int .i64 g2.hd.sg)).setCell ⟨w8.heap.size, 4, none⟩ (.slice sA g2.bl.length sc)).setCell ⟨w8.heap.size, 5, none⟩ (.slice tA9 g2.hv.length tc9)) = W10) := ⟨_, Lib.hid rfl⟩
          rw [HW10.out] at hz10 hr10 hb10 ⊢
          have hb5x := hbw8.trans (hb10.mono hbw8.size)
          have t0 := hz10.c0; have t1 := hz10.c1; have t2 := hz10.c2; have t3 := hz10.c3; have t4 := hz10.c4; have t5 := hz10.c5
          obtain ⟨p0, p1, p2, p3, p4, p5, pf⟩ := box_cells hr10
          have HQ10 := Lib.hid hz10
          have HR10 := Lib.hid hr10
          clear hz9 y0 y1 y2 y3 y4 y5 yf hr10 i0 i1 i2 i3 i4 i5 iq j0 j1 j2 j3 j4 j5 jq jx n0 n1 n2 n3 n4 n5 nq nx hz10 hf9 hq9 hfr8 hfq8 hcell8
          go_wp2
          go_roundw
          case rel => exact ⟨k + 1, g2, _, _, by go_num, by omega, Lib.hid ⟨HPP.out.1, by rw [← HG2.out]; exact round_hv (HPT.out.1.lh) HPT.out.2 HOFF.out ha1⟩, (FB.fill HR10.out (HQ10.out.fo.mono hbw8.size)), below_set6 hb5x hr5 _ _ _ _ _ _⟩
          case measure => simp [intOf]; omega
      · have hgf : g = f := part_all HL1.out HWH.out HPT.out.1 (fun j hj => by (rw [HPT.out.2 j hj]; have : off m f.bl.length j < f.bl.length := by (unfold off; split <;> omega)); simp; omega)
        have hgf' := hgf.symm
        clear hgf
        subst hgf'
        have p0 := hfr.c0; have p1 := hfr.c1; have p2 := hfr.c2; have p3 := hfr.c3; have p4 := hfr.c4; have p5 := hfr.c5
        have hlt' : ¬ (k : Int) < (f.bl.length : Int) := by omega
        go_wp2_with fail
        refine (sameFeed_same f _ _ _ _ wr hfr.fo.r hfq.fo.r).mono ?_
        rintro e w9 ⟨rfl, hb9⟩
        go_wp2
        go_ret
        exact ⟨rfl, hb0r.trans (hb9.mono hb0r.size)⟩
end Go.Proofs.Ytlhiabnablbkpaa

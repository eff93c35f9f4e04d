/- Walk: the law FnProve. -/
import Derived.Test.YtlhiabnablbkpaaVc
import Derived.Test.YtlhiabnablbkpaaWp
namespace Go.Proofs.Ytlhiabnablbkpaa
open Go.RowKit

theorem TreeCheck_ib {dg n i leaf : Int} {l : List Int} {b : Bool} (h : Hid (checkOf dg n i leaf l = b)) (v : Value) (w : World) (hv : RI w v l) :
    Calls Try.prog 34 #[.int .i64 dg, .int .i64 n, .int .i64 i, .int .i64 leaf, v] w fun e w' => e = .returned (.bool b) ∧ Below w.heap.size w w' := by
  rw [← h.out]; exact TreeCheck_i dg n i leaf l v w hv
theorem DigestText_ib {s : ByteArray} {d : Int} (h : Hid (textD s.data.toList = d)) (w : World) (hs : s.size ≤ 8) : Calls Try.prog 35 #[.string s] w fun e w' => e = .returned (.int .i64 d) ∧ w = w' := by
  rw [← h.out]; exact DigestText_ok s w hs
set_option maxHeartbeats 1600000 in
set_option maxRecDepth 100000 in
theorem FnProve_any (bs : List UInt8) (v : Value) (w : World) (hv : RU w v bs) : Calls Try.prog 4 #[v] w fun e w' => e = .returned (.bool true) ∧ Below w.heap.size w w' := by
  have HV := Lib.hid hv
  obtain ⟨A, c, rfl, n1, n2, _⟩ := hv
  unfold maxLen at n2
  have hbm : bs.length ≤ 9223372036854775807 := by have := n1.1; omega
  clear n1 n2
  by_cases hl : 1048576 < bs.length
  · have hl' : (1048576 : Int) < (bs.length : Int) := by omega
    go_enter Try.func4, Try.ntmps4
    go_wp2
    go_ret
    exact ⟨rfl, Below.refl _ _⟩
  have hl' : ¬ (1048576 : Int) < (bs.length : Int) := by omega
  go_enter Try.func4, Try.ntmps4
  go_wp2_with fail
  refine (DrawFeedProve_any bs _ w HV.out).mono ?_
  rintro e w1 ⟨f, ub, uh, i, rfl, hf1, -, -, hz, i1, i2, hb1⟩
  have HZ := Lib.hid hz
  clear hz
  obtain ⟨uA, uc, rfl⟩ := hf1.bl.sl
  obtain ⟨tA, tc, rfl⟩ := hf1.hv.sl
  have hf2 := FB.made hf1
  have hb2 := hb1.alloc hb1.size (.cells #[.int .i64 f.pub, .int .i64 f.hd.len, .int .i64 f.hd.dg, .int .i64 f.hd.sg, .slice uA f.bl.length uc, .slice tA f.hv.length tc] 34)
  go_wp2_with fail
  obtain ⟨W2, HW2⟩ : ∃ W2, Hid (w1.alloc (.cells #[.int .i64 f.pub, .int .i64 f.hd.len, .int .i64 f.hd.dg, .int .i64 f.hd.sg, .slice uA f.bl.length uc, .slice tA f.hv.length tc] 34) = W2) := ⟨_, Lib.hid rfl⟩
  rw [HW2.out] at hf2 hb2 ⊢
  clear hf1 hb1
  refine (FeedProve_i f i _ _ W2 hf2.fo.r).mono ?_
  rintro e w3 ⟨v3, rfl, ho3, hb3⟩
  have hf3 := hf2.below hb3
  have R3 := Lib.hid ho3.r1
  have hb03 := hb2.trans (hb3.mono hb2.size)
  clear hb2 hf2 ho3
  have k0 := hf3.c0; have k1 := hf3.c1; have k2 := hf3.c2; have k3 := hf3.c3; have k4 := hf3.c4; have k5 := hf3.c5
  go_wp2_with fail
  refine (FeedProve_s f i _ _ w3 hf3.fo.r).mono ?_
  rintro e w4 ⟨v4, rfl, ho4, hb4⟩
  have hf4 := hf3.below hb4
  have R4 := Lib.hid ho4.r1
  have R34 : Hid (RI w4 v3 (fprove f i)) := Lib.hid (R3.out.below hb4)
  have hb04 := hb03.trans (hb4.mono hb03.size)
  clear hb03 hf3 ho4 k0 k1 k2 k3 k4 k5 R3
  obtain ⟨b, HOK⟩ : ∃ b, Hid (fproveOk f i = b) := ⟨_, Lib.hid rfl⟩
  obtain ⟨l, HL⟩ : ∃ l, Hid (fprove f i = l) := ⟨_, Lib.hid rfl⟩
  rw [HOK.out]
  rw [HL.out] at R4 R34
  cases b
  · go_wp2_with fail
    refine (sameInts_same l _ _ _ R34.out R4.out).mono ?_
    rintro e w5 ⟨rfl, hb5⟩
    have hb05 := hb04.trans (hb5.mono hb04.size)
    go_wp2_with fail
    refine (sameInts_same l _ _ _ (R34.out.below hb5) (R4.out.below hb5)).mono ?_
    rintro e w6 ⟨rfl, hb6⟩
    go_wp2
    go_ret
    exact ⟨rfl, hb05.trans (hb6.mono hb05.size)⟩
  · obtain ⟨hm, HCK⟩ := prove_law HOK.out
    rw [HL.out] at HCK
    have hin := inB_true.1 (by have := HOK.out; simp only [fproveOk, Bool.and_eq_true] at this; exact this.2)
    obtain ⟨m, rfl⟩ : ∃ m : Nat, i = m := ⟨i.toNat, by omega⟩
    have hx8 : (f.bl[(m : Int).toNat]).size ≤ 8 := fvalid_size (by have := HOK.out; simp only [fproveOk, Bool.and_eq_true] at this; exact this.1.1) _ (List.getElem_mem hm)
    simp only [Int.toNat_natCast] at hm HCK hx8
    have hxs : (uA = none → False) ∧ ∃ b o, uA = some ⟨b, o, none⟩ ∧ b < w4.heap.size ∧ w4.cell? ⟨b, o + m, none⟩ = some (.string f.bl[m]) := by
      obtain ⟨_, _, hA, _, _, hc⟩ := hf4.fo.bl.r1
      cases hA
      obtain ⟨b, o, hA, hb, hc⟩ := hc (by omega)
      exact ⟨fun h => by (rw [h] at hA; cases hA), b, o, hA, hb, hc m hm⟩
    obtain ⟨-, b, o, rfl, hbs, hcell⟩ := hxs
    generalize f.bl[m] = x at *
    obtain ⟨d, HD⟩ : ∃ d, Hid (textD x.data.toList = d) := ⟨_, Lib.hid rfl⟩
    rw [HD.out] at HCK
    have HCK := Lib.hid HCK
    have hmi : (m : Int) < (f.bl.length : Int) := by omega
    clear hin
    go_wp2_with fail
    refine (sameInts_same l _ _ _ R34.out R4.out).mono ?_
    rintro e w5 ⟨rfl, hb5⟩
    have hb05 := hb04.trans (hb5.mono hb04.size)
    have hf5 := hf4.below hb5
    have k0 := hf5.c0; have k1 := hf5.c1; have k2 := hf5.c2; have k3 := hf5.c3; have k4 := hf5.c4; have k5 := hf5.c5
    have hcell5 := (hb5.cell (p := ⟨b, o + m, none⟩) hbs).trans hcell
    have hbs5 : b < w5.heap.size := Nat.lt_of_lt_of_le hbs hb5.size
    have hql5 := hf5.lt
    have R5 : Hid (RI w5 v3 l) := Lib.hid (R34.out.below hb5)
    clear hcell hbs hf4 hb04
    go_wp2_with fail
    have hup := up_cell w5
    refine wp_region_up (by kernel_rfl) (by kernel_rfl) ?_
    repeat (go_big_quiet_step (first
      | (go_at_call 35; exact up_same (DigestText_ib HD _ hx8))
      | (go_at_call 34; exact up_call (TreeCheck_ib HCK _ _ (R5.out.up _)))))
    refine wpQuiet_nil ?_
    intro w6 hw6
    have hb6 := of_up hw6
    clear hw6 hup
    go_wp2
    go_ret
    exact ⟨rfl, hb05.trans (hb6.mono hb05.size)⟩
end Go.Proofs.Ytlhiabnablbkpaa

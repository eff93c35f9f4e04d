/- Walks: the laws' comparisons, at equal things. -/
import Derived.Test.YtcplnfmcefkehaaWn
namespace Go.Proofs.Ytcplnfmcefkehaa
open Go.RowKit

theorem eqIntS_same (l : List Int) (va vb : Value) (w : World) (ha : R1 (Value.int .i64) w va l) (hb : R1 (Value.int .i64) w vb l) :
    Calls Try.prog 48 #[va, vb] w fun e w' => e = .returned (.bool true) ∧ Below w.heap.size w w' := by
  have HA := Lib.hid ha
  have HB := Lib.hid hb
  have hm := ha.len
  obtain ⟨A, c, rfl, h1, h2, h3⟩ := ha
  obtain ⟨A2, c2, rfl, q1, q2, q3⟩ := hb
  unfold maxLen at hm
  clear h3 q3 h1 q1 h2 q2
  have hnn : ((l.length : Int) != (l.length : Int)) = false := by simp
  go_enter Try.func48, Try.ntmps48
  go_wp2
  go_loopw [5] (fun i wr => ∃ k : Nat, k ≤ l.length ∧ i = .int .i64 k ∧ Below w.heap.size w wr) (fun i _ => l.length - (intOf i).toNat)
  case atStart => exact ⟨0, Nat.zero_le _, rfl, Below.refl _ _⟩
  case round =>
    obtain ⟨k, hk, rfl, hbw⟩ := hrel
    by_cases hlt : k < l.length
    · obtain ⟨_, _, hA, _, _, hc⟩ := HA.out.below hbw
      cases hA
      obtain ⟨b, o, rfl, hbs, hc⟩ := hc (by omega)
      have e1 := hc k hlt
      obtain ⟨_, _, hA, _, _, hc2⟩ := HB.out.below hbw
      cases hA
      obtain ⟨b', o', rfl, hbs', hc2⟩ := hc2 (by omega)
      have e2 := hc2 k hlt
      clear hc hc2
      generalize l[k] = x at *
      have hup := up_cell wr
      have hki : (k : Int) < (l.length : Int) := by omega
      have hk0 : (0 : Int) ≤ (k : Int) := by omega
      go_wp2
      refine wp_region_up (by kernel_rfl) (by kernel_rfl) ?_
      repeat (go_big_quiet_step (fail))
      refine wpQuiet_nil ?_
      intro w1 hw1
      have hb1 := of_up hw1
      clear hw1 hup
      go_wp2
      go_roundw
      case rel => exact ⟨k + 1, by omega, by go_num, hbw.trans (hb1.mono hbw.size)⟩
      case measure => simp [intOf]; omega
    · go_wp2
      go_ret
      exact ⟨rfl, hbw⟩

theorem eqStringS_same (l : List ByteArray) (va vb : Value) (w : World) (ha : R1 (Value.string) w va l) (hb : R1 (Value.string) w vb l) :
    Calls Try.prog 45 #[va, vb] w fun e w' => e = .returned (.bool true) ∧ Below w.heap.size w w' := by
  have HA := Lib.hid ha
  have HB := Lib.hid hb
  have hm := ha.len
  obtain ⟨A, c, rfl, h1, h2, h3⟩ := ha
  obtain ⟨A2, c2, rfl, q1, q2, q3⟩ := hb
  unfold maxLen at hm
  clear h3 q3 h1 q1 h2 q2
  have hnn : ((l.length : Int) != (l.length : Int)) = false := by simp
  go_enter Try.func45, Try.ntmps45
  go_wp2
  go_loopw [5] (fun i wr => ∃ k : Nat, k ≤ l.length ∧ i = .int .i64 k ∧ Below w.heap.size w wr) (fun i _ => l.length - (intOf i).toNat)
  case atStart => exact ⟨0, Nat.zero_le _, rfl, Below.refl _ _⟩
  case round =>
    obtain ⟨k, hk, rfl, hbw⟩ := hrel
    by_cases hlt : k < l.length
    · obtain ⟨_, _, hA, _, _, hc⟩ := HA.out.below hbw
      cases hA
      obtain ⟨b, o, rfl, hbs, hc⟩ := hc (by omega)
      have e1 := hc k hlt
      obtain ⟨_, _, hA, _, _, hc2⟩ := HB.out.below hbw
      cases hA
      obtain ⟨b', o', rfl, hbs', hc2⟩ := hc2 (by omega)
      have e2 := hc2 k hlt
      clear hc hc2
      generalize l[k] = x at *
      have hup := up_cell wr
      have hki : (k : Int) < (l.length : Int) := by omega
      have hk0 : (0 : Int) ≤ (k : Int) := by omega
      go_wp2
      refine wp_region_up (by kernel_rfl) (by kernel_rfl) ?_
      repeat (go_big_quiet_step (fail))
      refine wpQuiet_nil ?_
      intro w1 hw1
      have hb1 := of_up hw1
      clear hw1 hup
      go_wp2
      go_roundw
      case rel => exact ⟨k + 1, by omega, by go_num, hbw.trans (hb1.mono hbw.size)⟩
      case measure => simp [intOf]; omega
    · go_wp2
      go_ret
      exact ⟨rfl, hbw⟩

theorem eqBoolS_same (l : List Bool) (va vb : Value) (w : World) (ha : R1 (Value.bool) w va l) (hb : R1 (Value.bool) w vb l) :
    Calls Try.prog 46 #[va, vb] w fun e w' => e = .returned (.bool true) ∧ Below w.heap.size w w' := by
  have HA := Lib.hid ha
  have HB := Lib.hid hb
  have hm := ha.len
  obtain ⟨A, c, rfl, h1, h2, h3⟩ := ha
  obtain ⟨A2, c2, rfl, q1, q2, q3⟩ := hb
  unfold maxLen at hm
  clear h3 q3 h1 q1 h2 q2
  have hnn : ((l.length : Int) != (l.length : Int)) = false := by simp
  go_enter Try.func46, Try.ntmps46
  go_wp2
  go_loopw [5] (fun i wr => ∃ k : Nat, k ≤ l.length ∧ i = .int .i64 k ∧ Below w.heap.size w wr) (fun i _ => l.length - (intOf i).toNat)
  case atStart => exact ⟨0, Nat.zero_le _, rfl, Below.refl _ _⟩
  case round =>
    obtain ⟨k, hk, rfl, hbw⟩ := hrel
    by_cases hlt : k < l.length
    · obtain ⟨_, _, hA, _, _, hc⟩ := HA.out.below hbw
      cases hA
      obtain ⟨b, o, rfl, hbs, hc⟩ := hc (by omega)
      have e1 := hc k hlt
      obtain ⟨_, _, hA, _, _, hc2⟩ := HB.out.below hbw
      cases hA
      obtain ⟨b', o', rfl, hbs', hc2⟩ := hc2 (by omega)
      have e2 := hc2 k hlt
      clear hc hc2
      generalize l[k] = x at *
      have hup := up_cell wr
      have hki : (k : Int) < (l.length : Int) := by omega
      have hk0 : (0 : Int) ≤ (k : Int) := by omega
      go_wp2
      refine wp_region_up (by kernel_rfl) (by kernel_rfl) ?_
      repeat (go_big_quiet_step (fail))
      refine wpQuiet_nil ?_
      intro w1 hw1
      have hb1 := of_up hw1
      clear hw1 hup
      go_wp2
      go_roundw
      case rel => exact ⟨k + 1, by omega, by go_num, hbw.trans (hb1.mono hbw.size)⟩
      case measure => simp [intOf]; omega
    · go_wp2
      go_ret
      exact ⟨rfl, hbw⟩

theorem eqHead_same (a b c : Int) (w : World) : Calls Try.prog 44 #[.agg #[.int .i64 a, .int .i64 b, .int .i64 c], .agg #[.int .i64 a, .int .i64 b, .int .i64 c]] w fun e w' => e = .returned (.bool true) ∧ Below w.heap.size w w' := by
  go_enter Try.func44, Try.ntmps44
  go_wp2
  go_ret
  exact ⟨rfl, ((Below.refl _ _).alloc (Nat.le_refl _) _).alloc (by simp) _⟩
theorem run_head_eql (a1 a2 a3 : Int) (w : World) :
    (binOp .eql 35 (.agg #[.int .i64 a1, .int .i64 a2, .int .i64 a3]) (.agg #[.int .i64 a1, .int .i64 a2, .int .i64 a3])).run Try.prog w = .ok (.bool true) w := by
  rw [run_eql_struct, run_equalIn_agg _ _ _ _ _ (by kernel_rfl) (by kernel_rfl)]
  simp [go_sem]
theorem eqFeed_same (f : Fd) (va vb ua ub : Value) (w : World) (ha : FeedR w f va vb) (hb : FeedR w f ua ub) :
    Calls Try.prog 31 #[.agg #[.int .i64 f.pub, .int .i64 f.hd.len, .int .i64 f.hd.dg, .int .i64 f.hd.sg, va, vb], .agg #[.int .i64 f.pub, .int .i64 f.hd.len, .int .i64 f.hd.dg, .int .i64 f.hd.sg, ua, ub]] w fun e w' => e = .returned (.bool true) ∧ Below w.heap.size w w' := by
  have HA := Lib.hid ((ha.alloc (.cells #[.int .i64 f.pub, .int .i64 f.hd.len, .int .i64 f.hd.dg, .int .i64 f.hd.sg, va, vb] 39)).alloc (.cells #[.int .i64 f.pub, .int .i64 f.hd.len, .int .i64 f.hd.dg, .int .i64 f.hd.sg, ua, ub] 39))
  have HB := Lib.hid ((hb.alloc (.cells #[.int .i64 f.pub, .int .i64 f.hd.len, .int .i64 f.hd.dg, .int .i64 f.hd.sg, va, vb] 39)).alloc (.cells #[.int .i64 f.pub, .int .i64 f.hd.len, .int .i64 f.hd.dg, .int .i64 f.hd.sg, ua, ub] 39))
  go_enter Try.func31, Try.ntmps31
  go_wp2_with (first
    | (go_at_call 44; refine (eqHead_same _ _ _ _).mono ?_; rintro e w1 ⟨rfl, hb1⟩; have hcc1 := bcell hb1)
    | (go_at_call 45; refine (eqStringS_same f.bl _ _ _ (HA.out.below hb1).bl (HB.out.below hb1).bl).mono ?_; rintro e w2 ⟨rfl, hb2⟩; have hb12 := below_bb hb1 hb2; have hcc2 := bcell hb12)
    | (go_at_call 46; refine (eqBoolS_same f.hv _ _ _ (HA.out.below hb12).hv (HB.out.below hb12).hv).mono ?_; rintro e w3 ⟨rfl, hb3⟩; have hb13 := below_bb hb12 hb3))
  go_ret
  exact ⟨rfl, (((Below.refl _ _).alloc (Nat.le_refl _) _).alloc (by simp) _).trans (hb13.mono (by simp; omega))⟩
end Go.Proofs.Ytcplnfmcefkehaa

/- Walks: bits, leaves of a feed. -/
import Derived.Test.YtlhiabnablbkpaaWk
namespace Go.Proofs.Ytlhiabnablbkpaa
open Go.RowKit

theorem BitsCount_any (l : List Bool) (v : Value) (w : World) (hv : RB w v l) :
    Calls Try.prog 52 #[v] w fun e w' => e = .returned (.int .i64 (bcount l)) ∧ w = w' := by
  have hm := hv.len
  obtain ⟨A, c, rfl, h1, h2, h3⟩ := hv
  unfold maxLen at hm
  by_cases h16 : 16 < l.length
  · have h16' : (16 : Int) < (l.length : Int) := by omega
    go_enter Try.func52, Try.ntmps52
    go_wp2
    go_ret; exact ⟨reti (by unfold bcount; rw [if_neg (by omega)]), rfl⟩
  · have h16' : ¬ (16 : Int) < (l.length : Int) := by omega
    go_enter Try.func52, Try.ntmps52
    go_wp2
    go_loop [3, 11] (fun t i => ∃ k : Nat, k ≤ l.length ∧ i = .int .i64 k ∧ t = .int .i64 (cnt (l.take k) : Nat)) (fun _ i => l.length - (intOf i).toNat)
    case atStart => exact ⟨0, Nat.zero_le _, rfl, rfl⟩
    case round =>
      obtain ⟨k, hk, rfl, rfl⟩ := hrel
      by_cases hlt : k < l.length
      · obtain ⟨b, o, rfl, hb, hc⟩ := h3 (by omega)
        have hcell := hc k hlt
        have HS : Hid (cnt (l.take (k + 1)) = cnt (l.take k) + if l[k] then 1 else 0) := Lib.hid (by rw [take_snocI hlt, cnt_snoc])
        have hcl : cnt (l.take k) ≤ k := Nat.le_trans (cnt_le _) (List.length_take_le _ _)
        clear hc h3
        generalize cnt (l.take k) = t at *
        generalize l[k] = x at *
        cases x
        · go_wp2
          go_round
          case rel => exact ⟨k + 1, by omega, by go_num, by rw [HS.out]; rfl⟩
          case measure => simp [intOf]; omega
        · go_wp2
          go_round
          case rel => exact ⟨k + 1, by omega, by go_num, by rw [HS.out]; go_num⟩
          case measure => simp [intOf]; omega
      · go_wp2
        go_ret; exact ⟨reti (by rw [List.take_of_length_le (by omega)]; unfold bcount; rw [if_pos (by omega)]), rfl⟩
theorem l4Count_any (l : List Bool) (v : Value) (w : World) (hv : RB w v l) :
    Calls Try.prog 135 #[v] w fun e w' => e = .returned (.int .i64 (cnt l : Nat)) ∧ w = w' := by
  have hm := hv.len
  obtain ⟨A, c, rfl, h1, h2, h3⟩ := hv
  unfold maxLen at hm
  go_enter Try.func135, Try.ntmps135
  go_wp2
  go_loop [3, 4] (fun t i => ∃ k : Nat, k ≤ l.length ∧ i = .int .i64 k ∧ t = .int .i64 (cnt (l.take k) : Nat)) (fun _ i => l.length - (intOf i).toNat)
  case atStart => exact ⟨0, Nat.zero_le _, rfl, rfl⟩
  case round =>
    obtain ⟨k, hk, rfl, rfl⟩ := hrel
    by_cases hlt : k < l.length
    · obtain ⟨b, o, rfl, hb, hc⟩ := h3 (by omega)
      have hcell := hc k hlt
      have HS : Hid (cnt (l.take (k + 1)) = cnt (l.take k) + if l[k] then 1 else 0) := Lib.hid (by rw [take_snocI hlt, cnt_snoc])
      have hcl : cnt (l.take k) ≤ k := Nat.le_trans (cnt_le _) (List.length_take_le _ _)
      clear hc h3
      generalize cnt (l.take k) = t at *
      generalize l[k] = x at *
      cases x
      · go_wp2
        go_round
        case rel => exact ⟨k + 1, by omega, by go_num, by rw [HS.out]; rfl⟩
        case measure => simp [intOf]; omega
      · go_wp2
        go_round
        case rel => exact ⟨k + 1, by omega, by go_num, by rw [HS.out]; go_num⟩
        case measure => simp [intOf]; omega
    · go_wp2
      go_ret; exact ⟨reti (by rw [List.take_of_length_le (by omega)]), rfl⟩

theorem l11Leaves_any (bl : List ByteArray) (v : Value) (w : World) (hv : RS w v bl) (hl : bl.length ≤ 10000000000) (hs : ∀ s ∈ bl, s.size ≤ maxLen) :
    Calls Try.prog 68 #[v] w fun e w' => ∃ v', e = .returned v' ∧ O1 (Value.int .i64) w.heap.size 3 w' v' (lvs bl) ∧ Below w.heap.size w w' := by
  have HS := Lib.hid hs; clear hs
  have HV := Lib.hid hv
  obtain ⟨A, c, rfl, h1, h2, h3⟩ := hv
  clear h3
  go_enter Try.func68, Try.ntmps68
  go_wp2
  go_loopw [3, 4] (fun out i wr => ∃ k : Nat, k ≤ bl.length ∧ i = .int .i64 k ∧ O1 (Value.int .i64) w.heap.size 3 wr out (lvs (bl.take k)) ∧ Below w.heap.size w wr) (fun _ i _ => bl.length - (intOf i).toNat)
  case atStart => exact ⟨0, Nat.zero_le _, rfl, O1.made _ _ _, (Below.refl _ _).alloc (Nat.le_refl _) _⟩
  case round =>
    obtain ⟨k, hk, rfl, hown, hb⟩ := hrel
    by_cases hlt : k < bl.length
    · obtain ⟨A', c', hA, _, _, hc⟩ := HV.out.below hb
      cases hA
      obtain ⟨b, o, rfl, hbs, hc⟩ := hc (by omega)
      have hcell := hc k hlt
      have hsz := HS.out _ (List.getElem_mem hlt)
      have HT : Hid (lvs (bl.take (k + 1)) = lvs (bl.take k) ++ [textD bl[k].data.toList]) := Lib.hid (by rw [take_snocI hlt]; unfold lvs; rw [List.map_append]; rfl)
      have hlk : (lvs (bl.take k)).length = k := by simp [lvs]; omega
      have HLK := Lib.hid hlk
      clear hc hlk
      generalize bl[k] = s at *
      go_wp2_with (first
        | (go_at_call 119; refine (l1Text_any s _ hsz).mono ?_; rintro e w' ⟨rfl, rfl⟩)
        | (at_builtin; refine app_int hown (by rw [HLK.out]; omega) hb.size rfl rfl rfl rfl ?_; intro v3 w3 hown3 hb3))
      go_roundw
      case rel => exact ⟨k + 1, by omega, by go_num, by rw [HT.out]; exact hown3, hb.trans hb3⟩
      case measure => simp [intOf]; omega
    · go_wp2
      go_ret
      exact ⟨_, rfl, by rw [List.take_of_length_le (by omega)] at hown; exact hown, hb⟩
theorem l11Whole_any (P0 : Int) (h : Hd) (vb vh : Value) (hv : List Bool) (w : World) (hh : RB w vh hv) :
    Calls Try.prog 65 #[.agg #[.int .i64 P0, .int .i64 h.len, .int .i64 h.dg, .int .i64 h.sg, vb, vh]] w fun e w' => e = .returned (.bool (cnt hv == hv.length)) ∧ Below w.heap.size w w' := by
  have HH := Lib.hid hh
  obtain ⟨A, c, rfl, h1, h2, h3⟩ := hh
  clear h3
  go_enter Try.func65, Try.ntmps65
  go_wp2
  have c5 : (w.alloc (.cells #[.int .i64 P0, .int .i64 h.len, .int .i64 h.dg, .int .i64 h.sg, vb, .slice A hv.length c] 34)).cell? ⟨w.heap.size, 5, none⟩ = some (.slice A hv.length c) := cell_of_row _ _ 5 _ _ _ (heap_alloc_new w _)
  have hW : w.heap.size < (w.alloc (.cells #[.int .i64 P0, .int .i64 h.len, .int .i64 h.dg, .int .i64 h.sg, vb, .slice A hv.length c] 34)).heap.size := by simp
  have hbW := (Below.refl w.heap.size w).alloc (Nat.le_refl _) (.cells #[.int .i64 P0, .int .i64 h.len, .int .i64 h.dg, .int .i64 h.sg, vb, .slice A hv.length c] 34)
  have HR := Lib.hid (HH.out.below hbW)
  generalize w.alloc (.cells #[.int .i64 P0, .int .i64 h.len, .int .i64 h.dg, .int .i64 h.sg, vb, .slice A hv.length c] 34) = W at *
  have hup := up_cell W
  refine wp_region_up (by kernel_rfl) (by kernel_rfl) ?_
  repeat (go_big_quiet_step ((go_at_call 135; exact up_same (l4Count_any _ _ _ (HR.out.up _)))))
  refine wpQuiet_nil ?_
  intro w1 hw1
  have hb1 := of_up hw1
  clear hw1 hup
  go_wp2
  go_ret
  refine ⟨retb ?_, hbW.trans (hb1.mono (by omega))⟩
  rw [Bool.eq_iff_iff]; simp; omega
theorem whole_any (P0 : Int) (h : Hd) (vb vh : Value) (hv : List Bool) (w : World) (hh : RB w vh hv) :
    Calls Try.prog 71 #[.agg #[.int .i64 P0, .int .i64 h.len, .int .i64 h.dg, .int .i64 h.sg, vb, vh]] w fun e w' => e = .returned (.bool (wholeB hv)) ∧ Below w.heap.size w w' := by
  have HH := Lib.hid hh
  obtain ⟨A, c, rfl, h1, h2, h3⟩ := hh
  clear h3
  go_enter Try.func71, Try.ntmps71
  go_wp2
  have c5 : (w.alloc (.cells #[.int .i64 P0, .int .i64 h.len, .int .i64 h.dg, .int .i64 h.sg, vb, .slice A hv.length c] 34)).cell? ⟨w.heap.size, 5, none⟩ = some (.slice A hv.length c) := cell_of_row _ _ 5 _ _ _ (heap_alloc_new w _)
  have hW : w.heap.size < (w.alloc (.cells #[.int .i64 P0, .int .i64 h.len, .int .i64 h.dg, .int .i64 h.sg, vb, .slice A hv.length c] 34)).heap.size := by simp
  have hbW := (Below.refl w.heap.size w).alloc (Nat.le_refl _) (.cells #[.int .i64 P0, .int .i64 h.len, .int .i64 h.dg, .int .i64 h.sg, vb, .slice A hv.length c] 34)
  have HR := Lib.hid (HH.out.below hbW)
  generalize w.alloc (.cells #[.int .i64 P0, .int .i64 h.len, .int .i64 h.dg, .int .i64 h.sg, vb, .slice A hv.length c] 34) = W at *
  have hup := up_cell W
  refine wp_region_up (by kernel_rfl) (by kernel_rfl) ?_
  repeat (go_big_quiet_step ((go_at_call 52; exact up_same (BitsCount_any _ _ _ (HR.out.up _)))))
  refine wpQuiet_nil ?_
  intro w1 hw1
  have hb1 := of_up hw1
  clear hw1 hup
  go_wp2
  go_ret
  exact ⟨rfl, hbW.trans (hb1.mono (by omega))⟩
theorem leaves_any (P0 : Int) (h : Hd) (vb vh : Value) (bl : List ByteArray) (w : World) (hv : RS w vb bl) (hl : bl.length ≤ 10000000000) (hs : ∀ s ∈ bl, s.size ≤ 8) :
    Calls Try.prog 74 #[.agg #[.int .i64 P0, .int .i64 h.len, .int .i64 h.dg, .int .i64 h.sg, vb, vh]] w fun e w' => ∃ v', e = .returned v' ∧ O1 (Value.int .i64) w.heap.size 3 w' v' (lvs bl) ∧ Below w.heap.size w w' := by
  have HS := Lib.hid hs; clear hs
  have HV := Lib.hid hv
  obtain ⟨A, c, rfl, h1, h2, h3⟩ := hv
  clear h3
  have hmk : ∀ o : Obj, O1 (Value.int .i64) w.heap.size 3 ((w.alloc o).alloc (.cells #[] 3)) (.slice (some ⟨w.heap.size + 1, 0, none⟩) 0 0) [] := fun o => by
    have h := O1.mono (B' := w.heap.size) (O1.made (Value.int .i64) (w.alloc o) 3) (by simp)
    simpa using h
  have HMK := Lib.hid hmk
  clear hmk
  go_enter Try.func74, Try.ntmps74
  go_wp2
  go_loopw [3, 10] (fun out i wr => ∃ k : Nat, k ≤ bl.length ∧ i = .int .i64 k ∧ O1 (Value.int .i64) w.heap.size 3 wr out (lvs (bl.take k)) ∧ Below w.heap.size w wr) (fun _ i _ => bl.length - (intOf i).toNat)
  case atStart => exact ⟨0, Nat.zero_le _, rfl, HMK.out _, ((Below.refl _ _).alloc (Nat.le_refl _) _).alloc (by simp) _⟩
  case round =>
    obtain ⟨k, hk, rfl, hown, hb⟩ := hrel
    by_cases hlt : k < bl.length
    · obtain ⟨A', c', hA, _, _, hc⟩ := HV.out.below hb
      cases hA
      obtain ⟨b, o, rfl, hbs, hc⟩ := hc (by omega)
      have hcell := hc k hlt
      have hsz := HS.out _ (List.getElem_mem hlt)
      have HT : Hid (lvs (bl.take (k + 1)) = lvs (bl.take k) ++ [textD bl[k].data.toList]) := Lib.hid (by rw [take_snocI hlt]; unfold lvs; rw [List.map_append]; rfl)
      have hlk : (lvs (bl.take k)).length = k := by simp [lvs]; omega
      have HLK := Lib.hid hlk
      clear hc hlk
      generalize bl[k] = s at *
      go_wp2_with (first
        | (go_at_call 35; refine (DigestText_ok s _ hsz).mono ?_; rintro e w' ⟨rfl, rfl⟩)
        | (at_builtin; refine app_int hown (by rw [HLK.out]; omega) hb.size rfl rfl rfl rfl ?_; intro v3 w3 hown3 hb3))
      go_roundw
      case rel => exact ⟨k + 1, by omega, by go_num, by rw [HT.out]; exact hown3, hb.trans hb3⟩
      case measure => simp [intOf]; omega
    · go_wp2
      go_ret
      exact ⟨_, rfl, by rw [List.take_of_length_le (by omega)] at hown; exact hown, hb⟩
end Go.Proofs.Ytlhiabnablbkpaa

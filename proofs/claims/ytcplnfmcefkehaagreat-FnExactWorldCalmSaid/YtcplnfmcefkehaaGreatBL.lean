/- Walks: worlds are made of the laws' own. | Walks: windows of requests, links and lists of the reference. -/
import Derived.Test.YtcplnfmcefkehaaGreatBK
set_option linter.unusedVariables false
set_option linter.unusedSimpArgs false
namespace Go.Proofs.YtcplnfmcefkehaaGreat
open Go.RowKit

theorem qfV : (Tryz.prog.info? 52).map (fun i => (i.zero, i.size, i.bytes)) = some (some (.agg #[.int .i64 0, .int .i64 0]), 2, 16) := by kernel_rfl
theorem qhs : (Tryz.prog.info? 118).map (fun i => (i.zero, i.size, i.bytes)) = some (some (.agg #[.int .i64 0, .int .i64 0]), 2, 16) := by kernel_rfl
theorem qd8 : (Tryz.prog.info? 72).map (fun i => (i.zero, i.size, i.bytes)) = some (some (.agg #[.int .i64 0, .int .i64 0, .int .i64 0, .int .i64 0, .string ⟨#[]⟩, .slice none 0 0]), 6, 72) := by kernel_rfl
theorem qq7 (a b : Int) (w : World) : Calls Tryz.prog 103 #[.agg #[.int .i64 a, .int .i64 b]] w fun e w' => e = .returned (.agg #[.int .i64 a, .int .i64 b]) ∧ Below w.heap.size w w' := by
 go_enter Tryz.func103, Tryz.ntmps103
 go_wp2
 exact bodyPost_ret (v := .agg #[.int .i64 a, .int .i64 b]) (by simp [results, Tryz.results103, go_sem]) rfl ⟨rfl, by repeat (first | exact bR_ _ _ | refine Below.setCell ?_ (by first | (simp; done) | (simp; omega)) _ | refine Below.alloc ?_ (by first | (simp; done) | (simp; omega)) _)⟩
theorem qrf (a b : Int) (w : World) : Calls Tryz.prog 163 #[.agg #[.int .i64 a, .int .i64 b]] w fun e w' => e = .returned (.agg #[.int .i64 a, .int .i64 b]) ∧ Below w.heap.size w w' := by
 go_enter Tryz.func163, Tryz.ntmps163
 go_wp2
 exact bodyPost_ret (v := .agg #[.int .i64 a, .int .i64 b]) (by simp [results, Tryz.results163, go_sem]) rfl ⟨rfl, by repeat (first | exact bR_ _ _ | refine Below.setCell ?_ (by first | (simp; done) | (simp; omega)) _ | refine Below.alloc ?_ (by first | (simp; done) | (simp; omega)) _)⟩
set_option maxHeartbeats 800000 in
theorem qqI (l : List (Int × Int)) (v : Value) (w : World) (hv : RP w v l) (hl : l.length ≤ 1048576) :
 Calls Tryz.prog 47 #[v] w fun e w' => e = .returned (.slice (some ⟨w.heap.size, 0, none⟩) l.length l.length) ∧ qct w.heap.size w'.heap.size 52 w' (.slice (some ⟨w.heap.size, 0, none⟩) l.length l.length) l ∧ Below w.heap.size w w' := by
 have HV := hI_ hv
 obtain ⟨A, c, rfl⟩ := hv.sl
 clear hv
 obtain ⟨i0, hi, hz0, hz1, hz2⟩ := info_parts qfV
 have hmk := fun W => qhD (P := Tryz.prog) 31 52 i0 _ Tryz.underlying31 hi hz0 (N := 2) (zc := #[.int .i64 0, .int .i64 0]) hz1 rfl .i64 .i64 l.length (by rw [hz2]; omega) (by omega) W
 have HN := hI_ (ON.madeN (e := 52) (w := w) (N := 2) (n := l.length) #[.int .i64 0, .int .i64 0] (by unfold maxLen; omega))
 go_enter Tryz.func47, Tryz.ntmps47
 go_wp2
 clear hmk
 go_loopw [4] (fun i wr => ∃ (k : Nat) (F : Nat → Value), k ≤ l.length ∧ i = .int .i64 k ∧ ON 2 w.heap.size 52 wr (.slice (some ⟨w.heap.size, 0, none⟩) l.length l.length) l.length F ∧ (∀ j (hj : j < l.length), j < k → F (j * 2) = .int .i64 l[j].1 ∧ F (j * 2 + 1) = .int .i64 l[j].2) ∧ Below w.heap.size w wr) (fun i _ => l.length - (intOf i).toNat)
 case atStart => exact ⟨0, _, Nat.zero_le _, rfl, HN.out, fun j _ h => by omega, (bR_ _ _).alloc (nr_ _) _⟩
 case round =>
  obtain ⟨k, F, hk, rfl, hN, hF, hb⟩ := hrel
  have HF := hI_ hF
  clear hF
  by_cases hlt : k < l.length
  · obtain ⟨b, o, rfl, hbs, e0, e1⟩ := (HV.out.below hb).at_ hlt
    have hkl : (k : Int) < (l.length : Int) := by omega
    obtain ⟨a, ha⟩ : ∃ a, Hid (l[k] = a) := ⟨_, hI_ rfl⟩
    rw [ha.out] at e0 e1
    go_wp2_with fail
    refine (qq7 _ _ wr).mono ?_
    rintro e w1 ⟨rfl, hb1⟩
    have hN1 := hN.below hb1
    have hb2 := hb.trans (hb1.mono hb.size)
    obtain ⟨d0, f0⟩ := hN1.at_ (t := k * 2) (by omega)
    obtain ⟨d1, f1⟩ := hN1.at_ (t := k * 2 + 1) (by omega)
    clear e0 e1 hb hb1 hN
    go_wp2
    go_roundw
    case rel =>
     refine ⟨k + 1, _, by omega, by go_num, (hN1.put2 hlt _ _).1, fun j hj hjk => ?_, (hb2.setCell (p := ⟨w.heap.size, k * 2, none⟩) (nr_ _) _).setCell (p := ⟨w.heap.size, k * 2 + 1, none⟩) (nr_ _) _⟩
     by_cases hjk2 : j = k
     · subst hjk2
       rw [ha.out]
       exact ⟨by rw [if_neg (by omega), if_pos rfl], by rw [if_pos rfl]⟩
     · rw [if_neg (by omega), if_neg (by omega), if_neg (by omega), if_neg (by omega)]
       exact HF.out j hj (by omega)
    case measure => simp [intOf]; omega
  · obtain rfl : k = l.length := by omega
    go_wp2
    go_ret
    exact ⟨rfl, ⟨hN.up_, F, hN, fun j hj => HF.out j hj hj⟩, hb⟩
set_option maxHeartbeats 800000 in
theorem qqX (l : List (Int × Int)) (v : Value) (w : World) (hv : RP w v l) (hl : l.length ≤ 1048576) :
 Calls Tryz.prog 104 #[v] w fun e w' => e = .returned (.slice (some ⟨w.heap.size, 0, none⟩) l.length l.length) ∧ qct w.heap.size w'.heap.size 118 w' (.slice (some ⟨w.heap.size, 0, none⟩) l.length l.length) l ∧ Below w.heap.size w w' := by
 have HV := hI_ hv
 obtain ⟨A, c, rfl⟩ := hv.sl
 clear hv
 obtain ⟨i0, hi, hz0, hz1, hz2⟩ := info_parts qhs
 have hmk := fun W => qhD (P := Tryz.prog) 50 118 i0 _ Tryz.underlying50 hi hz0 (N := 2) (zc := #[.int .i64 0, .int .i64 0]) hz1 rfl .i64 .i64 l.length (by rw [hz2]; omega) (by omega) W
 have HN := hI_ (ON.madeN (e := 118) (w := w) (N := 2) (n := l.length) #[.int .i64 0, .int .i64 0] (by unfold maxLen; omega))
 go_enter Tryz.func104, Tryz.ntmps104
 go_wp2
 clear hmk
 go_loopw [4] (fun i wr => ∃ (k : Nat) (F : Nat → Value), k ≤ l.length ∧ i = .int .i64 k ∧ ON 2 w.heap.size 118 wr (.slice (some ⟨w.heap.size, 0, none⟩) l.length l.length) l.length F ∧ (∀ j (hj : j < l.length), j < k → F (j * 2) = .int .i64 l[j].1 ∧ F (j * 2 + 1) = .int .i64 l[j].2) ∧ Below w.heap.size w wr) (fun i _ => l.length - (intOf i).toNat)
 case atStart => exact ⟨0, _, Nat.zero_le _, rfl, HN.out, fun j _ h => by omega, (bR_ _ _).alloc (nr_ _) _⟩
 case round =>
  obtain ⟨k, F, hk, rfl, hN, hF, hb⟩ := hrel
  have HF := hI_ hF
  clear hF
  by_cases hlt : k < l.length
  · obtain ⟨b, o, rfl, hbs, e0, e1⟩ := (HV.out.below hb).at_ hlt
    have hkl : (k : Int) < (l.length : Int) := by omega
    obtain ⟨a, ha⟩ : ∃ a, Hid (l[k] = a) := ⟨_, hI_ rfl⟩
    rw [ha.out] at e0 e1
    go_wp2_with fail
    refine (qrf _ _ wr).mono ?_
    rintro e w1 ⟨rfl, hb1⟩
    have hN1 := hN.below hb1
    have hb2 := hb.trans (hb1.mono hb.size)
    obtain ⟨d0, f0⟩ := hN1.at_ (t := k * 2) (by omega)
    obtain ⟨d1, f1⟩ := hN1.at_ (t := k * 2 + 1) (by omega)
    clear e0 e1 hb hb1 hN
    go_wp2
    go_roundw
    case rel =>
     refine ⟨k + 1, _, by omega, by go_num, (hN1.put2 hlt _ _).1, fun j hj hjk => ?_, (hb2.setCell (p := ⟨w.heap.size, k * 2, none⟩) (nr_ _) _).setCell (p := ⟨w.heap.size, k * 2 + 1, none⟩) (nr_ _) _⟩
     by_cases hjk2 : j = k
     · subst hjk2
       rw [ha.out]
       exact ⟨by rw [if_neg (by omega), if_pos rfl], by rw [if_pos rfl]⟩
     · rw [if_neg (by omega), if_neg (by omega), if_neg (by omega), if_neg (by omega)]
       exact HF.out j hj (by omega)
    case measure => simp [intOf]; omega
  · obtain rfl : k = l.length := by omega
    go_wp2
    go_ret
    exact ⟨rfl, ⟨hN.up_, F, hN, fun j hj => HF.out j hj hj⟩, hb⟩
section
variable {B C : Nat} {e : TypeId} {w : World} {v : Value} {p : Addr}
theorem qa7.setb {fs : List Fd} (h : qa7 B C w v fs) (hp : p.block < B) (u : Value) : qa7 B C (w.setCell p u) v fs := by
 obtain ⟨h0, F, h1, h2, h3⟩ := h
 exact ⟨h0, F, h1.far (qaR w p u) hp, fun j hj => ⟨(h2 j hj).1, (h2 j hj).2.1, (h2 j hj).2.2.1, (h2 j hj).2.2.2.1, (h2 j hj).2.2.2.2.1.far (qaR w p u) hp, (h2 j hj).2.2.2.2.2⟩, h3⟩
theorem qct.setb {l : List (Int × Int)} (h : qct B C e w v l) (hp : p.block < B) (u : Value) : qct B C e (w.setCell p u) v l := h.far (qaR w p u) hp
theorem qcA.setb {ls : List (List (Int × Int))} (h : qcA B C w v ls) (hp : p.block < B) (u : Value) : qcA B C (w.setCell p u) v ls := by
 obtain ⟨h0, F, h1, h2, h3⟩ := h
 exact ⟨h0, F, h1.far (qaR w p u) hp, fun j hj => (h2 j hj).setb hp u, h3⟩
theorem qbd.setb {ps : List Pc} (h : qbd B C w v ps) (hp : p.block < B) (u : Value) : qbd B C (w.setCell p u) v ps := by
 obtain ⟨h0, F, h1, h2, h3⟩ := h
 exact ⟨h0, F, h1.far (qaR w p u) hp, fun j hj => ⟨(h2 j hj).1, (h2 j hj).2.1, (h2 j hj).2.2.1, (h2 j hj).2.2.2.1, (h2 j hj).2.2.2.2.1, (h2 j hj).2.2.2.2.2.1.far (qaR w p u) hp, (h2 j hj).2.2.2.2.2.2⟩, h3⟩
end
theorem qrq (l : List Int) (v : Value) (w : World) (hv : RI w v l) (hl : l.length ≤ 1048576) : Calls Tryz.prog 164 #[v] w fun e w' => ∃ A c, e = .returned (.slice A l.length c) ∧ O1 (Value.int .i64) w.heap.size 3 w' (.slice A l.length c) l ∧ Below w.heap.size w w' :=
 (qq6 l v w hv hl).mono fun _ _ ⟨he, ho, hb⟩ => ⟨_, _, he, ho, hb⟩
set_option maxHeartbeats 800000 in
theorem qqJ (p : Pc) (v : Value) (w : World) (hp : RI w v p.prf) (h1 : p.prf.length ≤ 1048576) :
 Calls Tryz.prog 105 #[.agg #[.int .i64 p.fr, .int .i64 p.to_, .int .i64 p.len, .int .i64 p.idx, .string p.txt, v]] w fun e w' => ∃ u, e = .returned (.agg #[.int .i64 p.fr, .int .i64 p.to_, .int .i64 p.len, .int .i64 p.idx, .string p.txt, u]) ∧ O1 (Value.int .i64) w.heap.size 3 w' u p.prf ∧ Below w.heap.size w w' := by
 have HFA := hI_ hp
 clear hp
 go_enter Tryz.func105, Tryz.ntmps105
 go_wp2_with fail
 refine (qrq p.prf _ _ (HFA.out.below ?hbx) h1).mono ?_
 case hbx => exact (by repeat (first | exact bR_ _ _ | refine Below.setCell ?_ (by first | (simp; done) | (simp; omega)) _ | refine Below.alloc ?_ (by first | (simp; done) | (simp; omega)) _))
 rintro e w2 ⟨uA, uc, rfl, ho2, hb2⟩
 have HQ2 : Hid (Below w.heap.size w w2) := hI_ (Below.trans (by repeat (first | exact bR_ _ _ | refine Below.setCell ?_ (by first | (simp; done) | (simp; omega)) _ | refine Below.alloc ?_ (by first | (simp; done) | (simp; omega)) _)) (hb2.mono (by simp; omega)))
 have hcc2 := qeY hb2
 have hs2 := hb2.size
 simp at hs2
 have l20 : w.heap.size < w2.heap.size := by omega
 have l21 : w.heap.size + 1 < w2.heap.size := by omega
 have l22 : w.heap.size + 1 + 1 < w2.heap.size := by omega
 have HO2 := hI_ ho2
 clear ho2
 go_wp2
 refine bodyPost_ret (v := .agg #[.int .i64 p.fr, .int .i64 p.to_, .int .i64 p.len, .int .i64 p.idx, .string p.txt, .slice uA p.prf.length uc]) (by simp [results, Tryz.results105, go_sem, hcc2]) rfl ⟨_, rfl, ?_, ?_⟩
 · have ho := HO2.out
   simp only [World.size_alloc] at ho
   refine O1.mono (B := w.heap.size + 1 + 1 + 1) ?_ (by omega)
   have b1 : w.heap.size + 1 < w.heap.size + 1 + 1 + 1 := by omega
   have b2 : w.heap.size + 1 + 1 < w.heap.size + 1 + 1 + 1 := by omega
   refine O1.setb (O1.setb (O1.setb (O1.setb (O1.setb (O1.setb (O1.setb ?_ ?_ _) ?_ _) ?_ _) ?_ _) ?_ _) ?_ _) ?_ _
   · exact ho
   · exact b2
   all_goals exact b1
 · have c1 : w.heap.size ≤ w.heap.size + 1 := by omega
   have c2 : w.heap.size ≤ w.heap.size + 1 + 1 := by omega
   refine Below.setCell (Below.setCell (Below.setCell (Below.setCell (Below.setCell (Below.setCell (Below.setCell ?_ ?_ _) ?_ _) ?_ _) ?_ _) ?_ _) ?_ _) ?_ _
   · exact HQ2.out
   · exact c2
   all_goals exact c1
set_option maxHeartbeats 1600000 in
theorem qqH (l : List Fd) (v : Value) (w : World) (hv : qa6 w v l) (hl : l.length ≤ 1048576) (hsz : ∀ j (hj : j < l.length), l[j].bl.length ≤ 1048576 ∧ l[j].hv.length ≤ 1048576) :
 Calls Tryz.prog 46 #[v] w fun e w' => e = .returned (.slice (some ⟨w.heap.size, 0, none⟩) l.length l.length) ∧ qa7 w.heap.size w'.heap.size w' (.slice (some ⟨w.heap.size, 0, none⟩) l.length l.length) l ∧ Below w.heap.size w w' := by
 have HV := hI_ hv
 have HSZ := hI_ hsz
 obtain ⟨A, c, rfl⟩ := hv.sl
 clear hv hsz
 obtain ⟨i0, hi, hz0, hz1, hz2⟩ := info_parts qfU
 have hmk := fun W => qhD (P := Tryz.prog) 30 59 i0 _ Tryz.underlying30 hi hz0 (N := 6) (zc := #[.int .i64 0, .int .i64 0, .int .i64 0, .int .i64 0, .slice none 0 0, .slice none 0 0]) hz1 rfl .i64 .i64 l.length (by rw [hz2]; omega) (by omega) W
 have HN := hI_ (ON.madeN (e := 59) (w := w) (N := 6) (n := l.length) #[.int .i64 0, .int .i64 0, .int .i64 0, .int .i64 0, .slice none 0 0, .slice none 0 0] (by unfold maxLen; omega))
 have HG : Hid (w.heap.size < w.heap.size + 1) := hI_ (Nat.lt_succ_self _)
 go_enter Tryz.func46, Tryz.ntmps46
 go_wp2
 clear hmk
 go_loopw [4] (fun i wr => ∃ (k : Nat) (F : Nat → Value), k ≤ l.length ∧ i = .int .i64 k ∧ ON 6 w.heap.size 59 wr (.slice (some ⟨w.heap.size, 0, none⟩) l.length l.length) l.length F ∧ (∀ j (hj : j < l.length), j < k → F (j * 6) = .int .i64 l[j].pub ∧ F (j * 6 + 1) = .int .i64 l[j].hd.len ∧ F (j * 6 + 2) = .int .i64 l[j].hd.dg ∧ F (j * 6 + 3) = .int .i64 l[j].hd.sg ∧ qaK (w.heap.size + 1) wr l[j] (F (j * 6 + 4)) (F (j * 6 + 5))) ∧ (Dis k (fun j => F (j * 6 + 4)) ∧ Dis k (fun j => F (j * 6 + 5))) ∧ Below w.heap.size w wr ∧ w.heap.size < wr.heap.size) (fun i _ => l.length - (intOf i).toNat)
 case atStart => exact ⟨0, _, Nat.zero_le _, rfl, HN.out, fun j _ h => by omega, ⟨Dis.zero, Dis.zero⟩, (bR_ _ _).alloc (nr_ _) _, by simp⟩
 case round =>
  obtain ⟨k, F, hk, rfl, hN, hF, hdis, hb, hsz⟩ := hrel
  have HF := hI_ hF
  have HD := hI_ hdis
  clear hF hdis
  by_cases hlt : k < l.length
  · obtain ⟨b, o, xx, yy, rfl, hbs, e0, e1, e2, e3, e4, e5, e6⟩ := (HV.out.below hb).at_ hlt
    have HE := hI_ e6
    clear e6
    have hkl : (k : Int) < (l.length : Int) := by omega
    have HZK := hI_ (HSZ.out k hlt)
    obtain ⟨a, ha⟩ : ∃ a, Hid (l[k] = a) := ⟨_, hI_ rfl⟩
    rw [ha.out] at e0 e1 e2 e3 HE HZK
    go_wp2_with fail
    refine (qqY a _ _ wr HE.out HZK.out.1 HZK.out.2).mono ?_
    rintro e w1 ⟨ub, uh, rfl, ho1, hb1⟩
    obtain ⟨uA, uc, rfl⟩ := ho1.bl.sl
    obtain ⟨uB, ud, rfl⟩ := ho1.hv.sl
    have hN1 := hN.below hb1
    have hb2 := hb.trans (hb1.mono hb.size)
    have hsz1 : w.heap.size < w1.heap.size := nL_ hsz hb1.size
    obtain ⟨d0, f0⟩ := hN1.at_ (t := k * 6) (by omega)
    obtain ⟨d1, f1⟩ := hN1.at_ (t := k * 6 + 1) (by omega)
    obtain ⟨d2, f2⟩ := hN1.at_ (t := k * 6 + 2) (by omega)
    obtain ⟨d3, f3⟩ := hN1.at_ (t := k * 6 + 3) (by omega)
    obtain ⟨d4, f4⟩ := hN1.at_ (t := k * 6 + 4) (by omega)
    obtain ⟨d5, f5⟩ := hN1.at_ (t := k * 6 + 5) (by omega)
    have HB1 := hI_ hb1
    have HSW := hI_ (Nat.succ_le_of_lt hsz : w.heap.size + 1 ≤ wr.heap.size)
    clear e0 e1 e2 e3 e4 e5 hb hb1 hN hsz
    go_wp2
    go_roundw
    case rel =>
     have hp6 := fun x0 x1 x2 x3 x4 x5 => hN1.put6 hlt x0 x1 x2 x3 x4 x5
     refine ⟨k + 1, _, by omega, by go_num, (hp6 _ _ _ _ _ _).1, fun j hj hjk => ?_, ⟨Dis.push (m := wr.heap.size) HD.out.1 (fun j hj => by rw [if_neg (by omega), if_neg (by omega), if_neg (by omega), if_neg (by omega), if_neg (by omega), if_neg (by omega)]) (fun j hj b hb => ((HF.out j (by omega) hj).2.2.2.2.bl.lt b hb).2) (fun b hb => by rw [if_neg (by omega), if_pos rfl] at hb; exact (ho1.bl.lt b hb).1), Dis.push (m := wr.heap.size) HD.out.2 (fun j hj => by rw [if_neg (by omega), if_neg (by omega), if_neg (by omega), if_neg (by omega), if_neg (by omega), if_neg (by omega)]) (fun j hj b hb => ((HF.out j (by omega) hj).2.2.2.2.hv.lt b hb).2) (fun b hb => by rw [if_pos rfl] at hb; exact (ho1.hv.lt b hb).1)⟩, ?_, ?_⟩
     · by_cases hjk2 : j = k
       · subst hjk2
         rw [ha.out]
         rw [if_neg (by omega), if_neg (by omega), if_neg (by omega), if_neg (by omega), if_neg (by omega), if_pos rfl]
         rw [if_neg (by omega), if_neg (by omega), if_neg (by omega), if_neg (by omega), if_pos rfl]
         rw [if_neg (by omega), if_neg (by omega), if_neg (by omega), if_pos rfl]
         rw [if_neg (by omega), if_neg (by omega), if_pos rfl]
         rw [if_neg (by omega), if_pos rfl, if_pos rfl]
         exact ⟨rfl, rfl, rfl, rfl, (ho1.mono HSW.out).far (hp6 _ _ _ _ _ _).2 HG.out⟩
       · obtain ⟨g0, g1, g2, g3, g4⟩ := HF.out j hj (by omega)
         rw [if_neg (by omega), if_neg (by omega), if_neg (by omega), if_neg (by omega), if_neg (by omega), if_neg (by omega), if_neg (by omega), if_neg (by omega), if_neg (by omega), if_neg (by omega), if_neg (by omega), if_neg (by omega), if_neg (by omega), if_neg (by omega), if_neg (by omega), if_neg (by omega), if_neg (by omega), if_neg (by omega), if_neg (by omega), if_neg (by omega), if_neg (by omega), if_neg (by omega), if_neg (by omega), if_neg (by omega), if_neg (by omega), if_neg (by omega), if_neg (by omega), if_neg (by omega), if_neg (by omega), if_neg (by omega), if_neg (by omega), if_neg (by omega), if_neg (by omega), if_neg (by omega), if_neg (by omega), if_neg (by omega)]
         exact ⟨g0, g1, g2, g3, (g4.below HB1.out).far (hp6 _ _ _ _ _ _).2 HG.out⟩
     · exact (((((hb2.setCell (p := ⟨w.heap.size, k * 6, none⟩) (nr_ _) _).setCell (p := ⟨w.heap.size, k * 6 + 1, none⟩) (nr_ _) _).setCell (p := ⟨w.heap.size, k * 6 + 2, none⟩) (nr_ _) _).setCell (p := ⟨w.heap.size, k * 6 + 3, none⟩) (nr_ _) _).setCell (p := ⟨w.heap.size, k * 6 + 4, none⟩) (nr_ _) _).setCell (p := ⟨w.heap.size, k * 6 + 5, none⟩) (nr_ _) _
     · simpa using hsz1
    case measure => simp [intOf]; omega
  · obtain rfl : k = l.length := by omega
    go_wp2
    go_ret
    exact ⟨rfl, ⟨hN.up_, F, hN, fun j hj => ⟨(HF.out j hj hj).1, (HF.out j hj hj).2.1, (HF.out j hj hj).2.2.1, (HF.out j hj hj).2.2.2.1, (HF.out j hj hj).2.2.2.2.mono (Nat.le_succ _), (HF.out j hj hj).2.2.2.2.bl.up_, (HF.out j hj hj).2.2.2.2.hv.up_⟩, HD.out⟩, hb⟩
set_option maxHeartbeats 1600000 in
theorem qqw (l : List Pc) (v : Value) (w : World) (hv : qbx w v l) (hl : l.length ≤ 1048576) (hsz : ∀ j (hj : j < l.length), l[j].prf.length ≤ 1048576) :
 Calls Tryz.prog 49 #[v] w fun e w' => e = .returned (.slice (some ⟨w.heap.size, 0, none⟩) l.length l.length) ∧ qbd w.heap.size w'.heap.size w' (.slice (some ⟨w.heap.size, 0, none⟩) l.length l.length) l ∧ Below w.heap.size w w' := by
 have HV := hI_ hv
 have HSZ := hI_ hsz
 obtain ⟨A, c, rfl⟩ := hv.sl
 clear hv hsz
 obtain ⟨i0, hi, hz0, hz1, hz2⟩ := info_parts qd8
 have hmk := fun W => qhD (P := Tryz.prog) 33 72 i0 _ Tryz.underlying33 hi hz0 (N := 6) (zc := #[.int .i64 0, .int .i64 0, .int .i64 0, .int .i64 0, .string ⟨#[]⟩, .slice none 0 0]) hz1 rfl .i64 .i64 l.length (by rw [hz2]; omega) (by omega) W
 have HN := hI_ (ON.madeN (e := 72) (w := w) (N := 6) (n := l.length) #[.int .i64 0, .int .i64 0, .int .i64 0, .int .i64 0, .string ⟨#[]⟩, .slice none 0 0] (by unfold maxLen; omega))
 have HG : Hid (w.heap.size < w.heap.size + 1) := hI_ (Nat.lt_succ_self _)
 go_enter Tryz.func49, Tryz.ntmps49
 go_wp2
 clear hmk
 go_loopw [4] (fun i wr => ∃ (k : Nat) (F : Nat → Value), k ≤ l.length ∧ i = .int .i64 k ∧ ON 6 w.heap.size 72 wr (.slice (some ⟨w.heap.size, 0, none⟩) l.length l.length) l.length F ∧ (∀ j (hj : j < l.length), j < k → F (j * 6) = .int .i64 l[j].fr ∧ F (j * 6 + 1) = .int .i64 l[j].to_ ∧ F (j * 6 + 2) = .int .i64 l[j].len ∧ F (j * 6 + 3) = .int .i64 l[j].idx ∧ F (j * 6 + 4) = .string l[j].txt ∧ O1 (Value.int .i64) (w.heap.size + 1) 3 wr (F (j * 6 + 5)) l[j].prf) ∧ Dis k (fun j => F (j * 6 + 5)) ∧ Below w.heap.size w wr ∧ w.heap.size < wr.heap.size) (fun i _ => l.length - (intOf i).toNat)
 case atStart => exact ⟨0, _, Nat.zero_le _, rfl, HN.out, fun j _ h => by omega, Dis.zero, (bR_ _ _).alloc (nr_ _) _, by simp⟩
 case round =>
  obtain ⟨k, F, hk, rfl, hN, hF, hdis, hb, hsz⟩ := hrel
  have HF := hI_ hF
  have HD := hI_ hdis
  clear hF hdis
  by_cases hlt : k < l.length
  · obtain ⟨b, o, xx, rfl, hbs, e0, e1, e2, e3, e4, e5, e6⟩ := (HV.out.below hb).at_ hlt
    have HE := hI_ e6
    clear e6
    have hkl : (k : Int) < (l.length : Int) := by omega
    have HZK := hI_ (HSZ.out k hlt)
    obtain ⟨a, ha⟩ : ∃ a, Hid (l[k] = a) := ⟨_, hI_ rfl⟩
    rw [ha.out] at e0 e1 e2 e3 e4 HE HZK
    go_wp2_with fail
    refine (qqJ a _ wr HE.out HZK.out).mono ?_
    rintro e w1 ⟨ub, rfl, ho1, hb1⟩
    obtain ⟨uA, uc, rfl⟩ := ho1.sl
    have hN1 := hN.below hb1
    have hb2 := hb.trans (hb1.mono hb.size)
    have hsz1 : w.heap.size < w1.heap.size := nL_ hsz hb1.size
    obtain ⟨d0, f0⟩ := hN1.at_ (t := k * 6) (by omega)
    obtain ⟨d1, f1⟩ := hN1.at_ (t := k * 6 + 1) (by omega)
    obtain ⟨d2, f2⟩ := hN1.at_ (t := k * 6 + 2) (by omega)
    obtain ⟨d3, f3⟩ := hN1.at_ (t := k * 6 + 3) (by omega)
    obtain ⟨d4, f4⟩ := hN1.at_ (t := k * 6 + 4) (by omega)
    obtain ⟨d5, f5⟩ := hN1.at_ (t := k * 6 + 5) (by omega)
    have HB1 := hI_ hb1
    have HSW := hI_ (Nat.succ_le_of_lt hsz : w.heap.size + 1 ≤ wr.heap.size)
    clear e0 e1 e2 e3 e4 e5 hb hb1 hN hsz
    go_wp2
    go_roundw
    case rel =>
     have hp6 := fun x0 x1 x2 x3 x4 x5 => hN1.put6 hlt x0 x1 x2 x3 x4 x5
     refine ⟨k + 1, _, by omega, by go_num, (hp6 _ _ _ _ _ _).1, fun j hj hjk => ?_, Dis.push (m := wr.heap.size) HD.out (fun j hj => by rw [if_neg (by omega), if_neg (by omega), if_neg (by omega), if_neg (by omega), if_neg (by omega), if_neg (by omega)]) (fun j hj b hb => ((HF.out j (by omega) hj).2.2.2.2.2.lt b hb).2) (fun b hb => by rw [if_pos rfl] at hb; exact (ho1.lt b hb).1), ?_, ?_⟩
     · by_cases hjk2 : j = k
       · subst hjk2
         rw [ha.out]
         rw [if_neg (by omega), if_neg (by omega), if_neg (by omega), if_neg (by omega), if_neg (by omega), if_pos rfl]
         rw [if_neg (by omega), if_neg (by omega), if_neg (by omega), if_neg (by omega), if_pos rfl]
         rw [if_neg (by omega), if_neg (by omega), if_neg (by omega), if_pos rfl]
         rw [if_neg (by omega), if_neg (by omega), if_pos rfl]
         rw [if_neg (by omega), if_pos rfl, if_pos rfl]
         exact ⟨rfl, rfl, rfl, rfl, rfl, (ho1.mono HSW.out).far (hp6 _ _ _ _ _ _).2 HG.out⟩
       · obtain ⟨g0, g1, g2, g3, g4, g5⟩ := HF.out j hj (by omega)
         rw [if_neg (by omega), if_neg (by omega), if_neg (by omega), if_neg (by omega), if_neg (by omega), if_neg (by omega), if_neg (by omega), if_neg (by omega), if_neg (by omega), if_neg (by omega), if_neg (by omega), if_neg (by omega), if_neg (by omega), if_neg (by omega), if_neg (by omega), if_neg (by omega), if_neg (by omega), if_neg (by omega), if_neg (by omega), if_neg (by omega), if_neg (by omega), if_neg (by omega), if_neg (by omega), if_neg (by omega), if_neg (by omega), if_neg (by omega), if_neg (by omega), if_neg (by omega), if_neg (by omega), if_neg (by omega), if_neg (by omega), if_neg (by omega), if_neg (by omega), if_neg (by omega), if_neg (by omega), if_neg (by omega)]
         exact ⟨g0, g1, g2, g3, g4, (g5.below HB1.out).far (hp6 _ _ _ _ _ _).2 HG.out⟩
     · exact (((((hb2.setCell (p := ⟨w.heap.size, k * 6, none⟩) (nr_ _) _).setCell (p := ⟨w.heap.size, k * 6 + 1, none⟩) (nr_ _) _).setCell (p := ⟨w.heap.size, k * 6 + 2, none⟩) (nr_ _) _).setCell (p := ⟨w.heap.size, k * 6 + 3, none⟩) (nr_ _) _).setCell (p := ⟨w.heap.size, k * 6 + 4, none⟩) (nr_ _) _).setCell (p := ⟨w.heap.size, k * 6 + 5, none⟩) (nr_ _) _
     · simpa using hsz1
    case measure => simp [intOf]; omega
  · obtain rfl : k = l.length := by omega
    go_wp2
    go_ret
    exact ⟨rfl, ⟨hN.up_, F, hN, fun j hj => ⟨(HF.out j hj hj).1, (HF.out j hj hj).2.1, (HF.out j hj hj).2.2.1, (HF.out j hj hj).2.2.2.1, (HF.out j hj hj).2.2.2.2.1, (HF.out j hj hj).2.2.2.2.2.mono (Nat.le_succ _), (HF.out j hj hj).2.2.2.2.2.up_⟩, HD.out⟩, hb⟩
set_option maxHeartbeats 800000 in
theorem qqF (l : List (List (Int × Int))) (v : Value) (w : World) (hv : qdh w v l) (hl : l.length ≤ 1048576) (hsz : ∀ j (hj : j < l.length), l[j].length ≤ 1048576) :
 Calls Tryz.prog 48 #[v] w fun e w' => e = .returned (.slice (some ⟨w.heap.size, 0, none⟩) l.length l.length) ∧ qcA w.heap.size w'.heap.size w' (.slice (some ⟨w.heap.size, 0, none⟩) l.length l.length) l ∧ Below w.heap.size w w' := by
 have HV := hI_ hv
 have HSZ := hI_ hsz
 obtain ⟨A, c, rfl⟩ := hv.sl
 clear hv hsz
 obtain ⟨i0, hi, hz0, hz1, hz2⟩ := info_parts qeL
 have hmk := fun W => qhD (P := Tryz.prog) 32 50 i0 _ Tryz.underlying32 hi hz0 (N := 1) (zc := #[.slice none 0 0]) hz1 rfl .i64 .i64 l.length (by rw [hz2]; omega) (by omega) W
 have HN := hI_ (ON.madeN (e := 50) (w := w) (N := 1) (n := l.length) #[.slice none 0 0] (by unfold maxLen; omega))
 have hmul : l.length * 1 = l.length := Nat.mul_one _
 have HMUL := hI_ hmul
 have HG : Hid (w.heap.size < w.heap.size + 1) := hI_ (Nat.lt_succ_self _)
 clear hmul
 go_enter Tryz.func48, Tryz.ntmps48
 go_wp2
 clear hmk
 rw [Nat.mul_one] at HN
 go_loopw [4] (fun i wr => ∃ (k : Nat) (F : Nat → Value), k ≤ l.length ∧ i = .int .i64 k ∧ ON 1 w.heap.size 50 wr (.slice (some ⟨w.heap.size, 0, none⟩) l.length l.length) l.length F ∧ (∀ j (hj : j < l.length), j < k → qct (w.heap.size + 1) wr.heap.size 118 wr (F j) l[j]) ∧ Dis k F ∧ Below w.heap.size w wr ∧ w.heap.size < wr.heap.size) (fun i _ => l.length - (intOf i).toNat)
 case atStart => exact ⟨0, _, Nat.zero_le _, rfl, HN.out, fun j _ h => by omega, Dis.zero, (bR_ _ _).alloc (nr_ _) _, by simp⟩
 case round =>
  obtain ⟨k, F, hk, rfl, hN, hF, hdis, hb, hsz⟩ := hrel
  have HF := hI_ hF
  have HD := hI_ hdis
  clear hF hdis
  by_cases hlt : k < l.length
  · obtain ⟨b, o, xx, rfl, hbs, e0, e6⟩ := (HV.out.below hb).at_ hlt
    have HE := hI_ e6
    clear e6
    have hkl : (k : Int) < (l.length : Int) := by omega
    have HZK := hI_ (HSZ.out k hlt)
    obtain ⟨a, ha⟩ : ∃ a, Hid (l[k] = a) := ⟨_, hI_ rfl⟩
    rw [ha.out] at HE HZK
    go_wp2_with fail
    refine (qqX a _ wr HE.out HZK.out).mono ?_
    rintro e w1 ⟨rfl, ho1, hb1⟩
    obtain ⟨A1, HA1⟩ : ∃ A, Hid (some (⟨wr.heap.size, 0, none⟩ : Addr) = A) := ⟨_, hI_ rfl⟩
    rw [HA1.out] at ho1 ⊢
    have hN1 := hN.below hb1
    have hb2 := hb.trans (hb1.mono hb.size)
    have hsz1 : w.heap.size < w1.heap.size := nL_ hsz hb1.size
    obtain ⟨d0, f0⟩ := hN1.at_ (t := k) (by omega)
    have HB1 := hI_ hb1
    have HO1 := hI_ ho1
    have HSW := hI_ (Nat.succ_le_of_lt hsz : w.heap.size + 1 ≤ wr.heap.size)
    clear e0 hb hb1 hN hsz ho1
    go_wp2
    go_roundw
    case rel =>
     have hp1 := hN1.setAt (t := k) (by omega) (.slice A1 a.length a.length)
     refine ⟨k + 1, _, by omega, by go_num, hp1.1, fun j hj hjk => ?_, Dis.push (m := wr.heap.size) HD.out (fun j hj => by rw [if_neg (by omega)]) (fun j hj b hb => ((HF.out j (by omega) hj).lt b hb).2) (fun b hb => by rw [if_pos rfl] at hb; exact (HO1.out.lt b hb).1), hb2.setCell (p := ⟨w.heap.size, k, none⟩) (nr_ _) _, by simpa using hsz1⟩
     by_cases hjk2 : j = k
     · subst hjk2
       rw [ha.out, if_pos rfl]
       exact ((HO1.out.mono HSW.out (nr_ _)).far hp1.2 HG.out).mono (nr_ _) (by simp)
     · rw [if_neg hjk2]
       exact (((HF.out j hj (by omega)).below HB1.out).far hp1.2 HG.out).mono (nr_ _) (by simp only [World.size_setCell]; exact HB1.out.size)
    case measure => simp [intOf]; omega
  · obtain rfl : k = l.length := by omega
    go_wp2
    go_ret
    exact ⟨rfl, ⟨hN.up_, F, hN, fun j hj => (HF.out j hj hj).mono (Nat.le_succ _) (nr_ _), HD.out⟩, hb⟩
theorem qgc (a1 a2 b1 b2 : Int) (w : World) :
 (binOp .eql 118 (.agg #[.int .i64 a1, .int .i64 a2]) (.agg #[.int .i64 b1, .int .i64 b2])).run Tryz.prog w = .ok (.bool (a1 == b1 && a2 == b2)) w := by
 rw [run_eql_struct, run_equalIn_agg _ _ _ _ _ (by kernel_rfl) (by kernel_rfl)]
 by_cases h1 : a1 = b1 <;> by_cases h2 : a2 = b2 <;> simp [go_sem, h1, h2]
theorem qkI (x : Int × Int) (w : World) : Calls Tryz.prog 96 #[.agg #[.int .i64 x.1, .int .i64 x.2]] w fun e w' => e = .returned (.bool (qcB x)) ∧ Below w.heap.size w w' := by
 cases h1 : inB x.1 0 5
 · have hb := (bR_ w.heap.size w).alloc (nr_ _) (.cells #[.int .i64 x.1, .int .i64 x.2] 118)
   have HB := hI_ hb
   clear hb
   go_enter Tryz.func96, Tryz.ntmps96
   go_wp2_with (go_at_call 85; refine (qaV _ _ _ _).mono ?_; rintro e w' ⟨rfl, rfl⟩)
   go_ret
   exact ⟨qaM (by unfold qcB; rw [h1]; rfl), HB.out⟩
 · have hb := (bR_ w.heap.size w).alloc (nr_ _) (.cells #[.int .i64 x.1, .int .i64 x.2] 118)
   have HB := hI_ hb
   clear hb
   go_enter Tryz.func96, Tryz.ntmps96
   go_wp2_with (go_at_call 85; refine (qaV _ _ _ _).mono ?_; rintro e w' ⟨rfl, rfl⟩)
   go_ret
   exact ⟨qaM (by unfold qcB; rw [h1, Bool.true_and]), HB.out⟩
theorem qcJ {x : Int × Int} {b : Bool} (h : Hid (qcB x = b)) (w : World) : Calls Tryz.prog 96 #[.agg #[.int .i64 x.1, .int .i64 x.2]] w fun e w' => e = .returned (.bool b) ∧ Below w.heap.size w w' := by
 rw [← h.out]; exact qkI x w
theorem qjs (l : List (Int × Int)) (p : Int) (v : Value) (w : World) (hv : RP w v l) : Calls Tryz.prog 98 #[v, .int .i64 p] w fun e w' => e = .returned (.int .i64 (qcX l p : Nat)) ∧ w = w' := by
 have HV := hI_ hv
 have hm := hv.len
 obtain ⟨A, c, rfl⟩ := hv.sl
 unfold maxLen at hm
 clear hv
 go_enter Tryz.func98, Tryz.ntmps98
 go_wp2
 go_loop [5, 6] (fun t i => ∃ k : Nat, k ≤ l.length ∧ i = .int .i64 k ∧ t = .int .i64 (qcX (l.take k) p : Nat)) (fun _ i => l.length - (intOf i).toNat)
 case atStart => exact ⟨0, Nat.zero_le _, rfl, rfl⟩
 case round =>
  obtain ⟨k, hk, rfl, rfl⟩ := hrel
  by_cases hlt : k < l.length
  · obtain ⟨b, o, rfl, hbs, e0, e1⟩ := HV.out.at_ hlt
    have HS := hI_ (qh7 hlt p)
    have hcl : qcX (l.take k) p ≤ k := Nat.le_trans (qfL _ _) (List.length_take_le _ _)
    have hki : (k : Int) < (l.length : Int) := by omega
    generalize qcX (l.take k) p = t at *
    generalize l[k] = x at *
    by_cases hx : x.1 = p
    · have HX : Hid (qcX (l.take (k + 1)) p = t + 1) := hI_ (by rw [HS.out, hx]; simp)
      clear HS
      go_wp2
      go_round
      case rel => exact ⟨k + 1, by omega, by go_num, by rw [HX.out]; go_num⟩
      case measure => simp [intOf]; omega
    · have HX : Hid (qcX (l.take (k + 1)) p = t) := hI_ (by rw [HS.out, if_neg (by simpa using hx)]; rfl)
      clear HS
      go_wp2
      go_round
      case rel => exact ⟨k + 1, by omega, by go_num, by rw [HX.out]⟩
      case measure => simp [intOf]; omega
  · obtain rfl : k = l.length := by omega
    go_wp2
    go_ret
    exact ⟨rfl, rfl⟩
theorem qc2 {l : List (Int × Int)} {p : Int} {n : Nat} (h : Hid (qcX l p = n)) (v : Value) (w : World) (hv : RP w v l) : Calls Tryz.prog 98 #[v, .int .i64 p] w fun e w' => e = .returned (.int .i64 (n : Nat)) ∧ w = w' := by
 rw [← h.out]; exact qjs l p v w hv
theorem qip (l : List (Int × Int)) (p : Int) (v : Value) (w : World) (hv : RP w v l) : Calls Tryz.prog 99 #[v, .int .i64 p] w fun e w' => e = .returned (.int .i64 (qdL l p : Nat)) ∧ w = w' := by
 have HV := hI_ hv
 have hm := hv.len
 obtain ⟨A, c, rfl⟩ := hv.sl
 unfold maxLen at hm
 clear hv
 go_enter Tryz.func99, Tryz.ntmps99
 go_wp2
 go_loop [5, 6] (fun t i => ∃ k : Nat, k ≤ l.length ∧ i = .int .i64 k ∧ t = .int .i64 (qdL (l.take k) p : Nat)) (fun _ i => l.length - (intOf i).toNat)
 case atStart => exact ⟨0, Nat.zero_le _, rfl, rfl⟩
 case round =>
  obtain ⟨k, hk, rfl, rfl⟩ := hrel
  by_cases hlt : k < l.length
  · obtain ⟨b, o, rfl, hbs, e0, e1⟩ := HV.out.at_ hlt
    have HS := hI_ (qh6 hlt p)
    have hcl : qdL (l.take k) p ≤ k := Nat.le_trans (qfK _ _) (List.length_take_le _ _)
    have hki : (k : Int) < (l.length : Int) := by omega
    generalize qdL (l.take k) p = t at *
    generalize l[k] = x at *
    by_cases hx : x.2 = p
    · have HX : Hid (qdL (l.take (k + 1)) p = t + 1) := hI_ (by rw [HS.out, hx]; simp)
      clear HS
      go_wp2
      go_round
      case rel => exact ⟨k + 1, by omega, by go_num, by rw [HX.out]; go_num⟩
      case measure => simp [intOf]; omega
    · have HX : Hid (qdL (l.take (k + 1)) p = t) := hI_ (by rw [HS.out, if_neg (by simpa using hx)]; rfl)
      clear HS
      go_wp2
      go_round
      case rel => exact ⟨k + 1, by omega, by go_num, by rw [HX.out]⟩
      case measure => simp [intOf]; omega
  · obtain rfl : k = l.length := by omega
    go_wp2
    go_ret
    exact ⟨rfl, rfl⟩
theorem qcD {l : List (Int × Int)} {p : Int} {n : Nat} (h : Hid (qdL l p = n)) (v : Value) (w : World) (hv : RP w v l) : Calls Tryz.prog 99 #[v, .int .i64 p] w fun e w' => e = .returned (.int .i64 (n : Nat)) ∧ w = w' := by
 rw [← h.out]; exact qip l p v w hv
set_option maxHeartbeats 800000 in
theorem qkJ (l : List (Int × Int)) (a : Int × Int) (v : Value) (w : World) (hv : RP w v l) : Calls Tryz.prog 97 #[v, .agg #[.int .i64 a.1, .int .i64 a.2]] w fun e w' => e = .returned (.bool (qc8 l a)) ∧ Below w.heap.size w w' := by
 obtain ⟨W0, HW0⟩ : ∃ W0, Hid (w.alloc (.cells #[.int .i64 a.1, .int .i64 a.2] 118) = W0) := ⟨_, hI_ rfl⟩
 have HB0 : Hid (Below w.heap.size w W0) := hI_ (by rw [← HW0.out]; exact (bR_ _ _).alloc (nr_ _) _)
 have hp : W0.heap[w.heap.size]? = some (.cells #[.int .i64 a.1, .int .i64 a.2] 118 (0, 0)) := by rw [← HW0.out]; exact heap_alloc_new w _
 have lp := (Array.getElem?_eq_some_iff.1 hp).1
 have p0 : W0.cell? ⟨w.heap.size, 0, none⟩ = some (.int .i64 a.1) := cell_of_row _ _ 0 _ _ _ hp
 have p1 : W0.cell? ⟨w.heap.size, 1, none⟩ = some (.int .i64 a.2) := cell_of_row _ _ 1 _ _ _ hp
 have HP0 := hI_ p0
 have HP1 := hI_ p1
 have HV := hI_ (hv.below HB0.out)
 have hm := hv.len
 obtain ⟨A, c, rfl⟩ := hv.sl
 unfold maxLen at hm
 clear hv hp p0 p1
 go_enter Tryz.func97, Tryz.ntmps97
 go_wp2
 rw [HW0.out]
 go_loopw [5] (fun i wr => ∃ k : Nat, k ≤ l.length ∧ i = .int .i64 k ∧ qc8 (l.take k) a = false ∧ Below W0.heap.size W0 wr) (fun i _ => l.length - (intOf i).toNat)
 case atStart => exact ⟨0, Nat.zero_le _, rfl, rfl, bR_ _ _⟩
 case round =>
  obtain ⟨k, hk, rfl, hno, hbw⟩ := hrel
  have HNO := hI_ hno
  clear hno
  by_cases hlt : k < l.length
  · obtain ⟨b, o, rfl, hbs, e0, e1⟩ := (HV.out.below hbw).at_ hlt
    have p0 := (hbw.cell (p := ⟨w.heap.size, 0, none⟩) lp).trans HP0.out
    have p1 := (hbw.cell (p := ⟨w.heap.size, 1, none⟩) lp).trans HP1.out
    have lpr := nL_ lp hbw.size
    have HS := hI_ (qfQ hlt a)
    have HAT : Hid ((l[k].1 == a.1 && l[k].2 == a.2) = true → qc8 l a = true) := hI_ (qjo hlt)
    have hki : (k : Int) < (l.length : Int) := by omega
    have hk0 : (0 : Int) ≤ (k : Int) := by omega
    have HBW := hI_ hbw
    clear hbw
    generalize l[k] = x at *
    obtain ⟨r, HR⟩ : ∃ r, Hid ((x.1 == a.1 && x.2 == a.2) = r) := ⟨_, hI_ rfl⟩
    have heq : ∀ w : World, (binOp .eql 118 (.agg #[.int .i64 x.1, .int .i64 x.2]) (.agg #[.int .i64 a.1, .int .i64 a.2])).run Tryz.prog w = .ok (.bool r) w := fun w => by rw [qgc, HR.out]
    have hup := qap wr
    cases r
    · go_wp2
      refine qoH ?_
      repeat (go_big_quiet_step (fail))
      refine wpQuiet_nil ?_
      intro w1 hw1
      have hb1 := qay hw1
      clear hw1 hup heq
      go_wp2
      go_roundw
      case rel => exact ⟨k + 1, by omega, by go_num, by rw [HS.out, HNO.out, HR.out]; rfl, HBW.out.trans (hb1.mono HBW.out.size)⟩
      case measure => simp [intOf]; omega
    · go_wp2
      refine qoH ?_
      repeat (go_big_quiet_step (fail))
      refine wpQuiet_nil ?_
      intro w1 hw1
      have hb1 := qay hw1
      clear hw1 hup heq
      go_wp2
      go_ret
      exact ⟨qaM (HAT.out HR.out).symm, HB0.out.trans ((HBW.out.trans (hb1.mono HBW.out.size)).mono HB0.out.size)⟩
  · obtain rfl : k = l.length := by omega
    have hno := HNO.out
    rw [List.take_length] at hno
    have HNO' := hI_ hno
    clear hno
    have HBW := hI_ hbw
    clear hbw
    go_wp2
    go_ret
    exact ⟨qaM HNO'.out.symm, HB0.out.trans (HBW.out.mono HB0.out.size)⟩
theorem qbL {l : List (Int × Int)} {a : Int × Int} {b : Bool} (h : Hid (qc8 l a = b)) (v : Value) (w : World) (hv : RP w v l) : Calls Tryz.prog 97 #[v, .agg #[.int .i64 a.1, .int .i64 a.2]] w fun e w' => e = .returned (.bool b) ∧ Below w.heap.size w w' := by
 rw [← h.out]; exact qkJ l a v w hv
theorem qdE {l : List (Int × Int)} {k : Nat} (h : k < l.length) (hp : qh1 l k = false) : qaG l = false := qdi h hp
set_option maxHeartbeats 1600000 in
theorem qhf (l : List (Int × Int)) (v : Value) (w : World) (hv : RP w v l) : Calls Tryz.prog 44 #[v] w fun e w' => e = .returned (.bool (qaG l)) ∧ Below w.heap.size w w' := by
 have HV := hI_ hv
 have hm := hv.len
 obtain ⟨A, c, rfl⟩ := hv.sl
 unfold maxLen at hm
 have hcap : l.length ≤ c ∧ c ≤ 9223372036854775807 := by
  obtain ⟨_, _, h0, h1, h2, _⟩ := hv
  cases h0
  unfold maxLen at h2
  exact ⟨h1.1, h2⟩
 obtain ⟨hc1, hc2⟩ := hcap
 clear hv
 go_enter Tryz.func44, Tryz.ntmps44
 go_wp2
 go_loopw [3] (fun i wr => ∃ k : Nat, k ≤ l.length ∧ i = .int .i64 k ∧ qdv k (qh1 l) = true ∧ Below w.heap.size w wr) (fun i _ => l.length - (intOf i).toNat)
 case atStart => exact ⟨0, Nat.zero_le _, rfl, qb9, bR_ _ _⟩
 case round =>
  obtain ⟨k, hk, rfl, hno, hbw⟩ := hrel
  have HNO := hI_ hno
  clear hno
  have HBW := hI_ hbw
  clear hbw
  by_cases hlt : k < l.length
  · obtain ⟨b, o, rfl, hbs, e0, e1⟩ := (HV.out.below HBW.out).at_ hlt
    have HL := hI_ (HV.out.below HBW.out)
    have HT := hI_ (HL.out.take (m := k) (by omega))
    have hki : (k : Int) < (l.length : Int) := by omega
    have hk0 : (0 : Int) ≤ (k : Int) := by omega
    have hkc : k ≤ c := by omega
    obtain ⟨b1, H1⟩ : ∃ r, Hid (qcB l[k] = r) := ⟨_, hI_ rfl⟩
    obtain ⟨b2, H2⟩ : ∃ r, Hid (qc8 (l.take k) l[k] = r) := ⟨_, hI_ rfl⟩
    obtain ⟨n3, H3⟩ : ∃ r, Hid (qcX l l[k].1 = r) := ⟨_, hI_ rfl⟩
    obtain ⟨n4, H4⟩ : ∃ r, Hid (qdL l l[k].2 = r) := ⟨_, hI_ rfl⟩
    have HAT : Hid (qh1 l k = (b1 && !b2 && decide (n3 ≤ 3) && decide (n4 ≤ 2))) := hI_ (by unfold qh1; rw [qam hlt, H1.out, H2.out, H3.out, H4.out])
    have hn3 : n3 ≤ l.length := by rw [← H3.out]; exact qfL _ _
    have hn4 : n4 ≤ l.length := by rw [← H4.out]; exact qfK _ _
    generalize l[k] = x at *
    have hup := qap wr
    cases b1
    · go_wp2
      refine qoH ?_
      repeat (go_big_quiet_step (first
       | (go_at_call 96; exact qal (qcJ H1 _))
       | (go_at_call 97; exact qal (qbL H2 _ _ (HT.out.up _)))
       | (go_at_call 98; exact qaj (qc2 H3 _ _ (HL.out.up _)))
       | (go_at_call 99; exact qaj (qcD H4 _ _ (HL.out.up _)))))
      refine wpQuiet_nil ?_
      intro w1 hw1
      have hb1 := qay hw1
      clear hw1 hup
      go_wp2
      go_ret
      exact ⟨qaM (qdE hlt (by rw [HAT.out]; rfl)).symm, HBW.out.trans (hb1.mono HBW.out.size)⟩
    cases b2
    case true =>
     go_wp2
     refine qoH ?_
     repeat (go_big_quiet_step (first
      | (go_at_call 96; exact qal (qcJ H1 _))
      | (go_at_call 97; exact qal (qbL H2 _ _ (HT.out.up _)))
      | (go_at_call 98; exact qaj (qc2 H3 _ _ (HL.out.up _)))
      | (go_at_call 99; exact qaj (qcD H4 _ _ (HL.out.up _)))))
     refine wpQuiet_nil ?_
     intro w1 hw1
     have hb1 := qay hw1
     clear hw1 hup
     go_wp2
     go_ret
     exact ⟨qaM (qdE hlt (by rw [HAT.out]; rfl)).symm, HBW.out.trans (hb1.mono HBW.out.size)⟩
    by_cases h3 : n3 ≤ 3
    case neg =>
     have h3' : (3 : Int) < (n3 : Int) := by omega
     go_wp2
     refine qoH ?_
     repeat (go_big_quiet_step (first
      | (go_at_call 96; exact qal (qcJ H1 _))
      | (go_at_call 97; exact qal (qbL H2 _ _ (HT.out.up _)))
      | (go_at_call 98; exact qaj (qc2 H3 _ _ (HL.out.up _)))
      | (go_at_call 99; exact qaj (qcD H4 _ _ (HL.out.up _)))))
     refine wpQuiet_nil ?_
     intro w1 hw1
     have hb1 := qay hw1
     clear hw1 hup
     go_wp2
     go_ret
     exact ⟨qaM (qdE hlt (by rw [HAT.out]; simp [h3])).symm, HBW.out.trans (hb1.mono HBW.out.size)⟩
    have d3 : decide ((3 : Int) < (n3 : Int)) = false := by rw [decide_eq_false_iff_not]; omega
    by_cases h4 : n4 ≤ 2
    case neg =>
     have h4' : (2 : Int) < (n4 : Int) := by omega
     go_wp2
     refine qoH ?_
     repeat (go_big_quiet_step (first
      | (go_at_call 96; exact qal (qcJ H1 _))
      | (go_at_call 97; exact qal (qbL H2 _ _ (HT.out.up _)))
      | (go_at_call 98; exact qaj (qc2 H3 _ _ (HL.out.up _)))
      | (go_at_call 99; exact qaj (qcD H4 _ _ (HL.out.up _)))))
     refine wpQuiet_nil ?_
     intro w1 hw1
     have hb1 := qay hw1
     clear hw1 hup
     go_wp2
     go_ret
     exact ⟨qaM (qdE hlt (by rw [HAT.out]; simp [h4])).symm, HBW.out.trans (hb1.mono HBW.out.size)⟩
    have d4 : decide ((2 : Int) < (n4 : Int)) = false := by rw [decide_eq_false_iff_not]; omega
    go_wp2
    refine qoH ?_
    repeat (go_big_quiet_step (first
     | (go_at_call 96; exact qal (qcJ H1 _))
     | (go_at_call 97; exact qal (qbL H2 _ _ (HT.out.up _)))
     | (go_at_call 98; exact qaj (qc2 H3 _ _ (HL.out.up _)))
     | (go_at_call 99; exact qaj (qcD H4 _ _ (HL.out.up _)))))
    refine wpQuiet_nil ?_
    intro w1 hw1
    have hb1 := qay hw1
    clear hw1 hup
    go_wp2
    go_roundw
    case rel => exact ⟨k + 1, by omega, by go_num, qbh HNO.out (by rw [HAT.out]; simp [h3, h4]), HBW.out.trans (hb1.mono HBW.out.size)⟩
    case measure => simp [intOf]; omega
  · obtain rfl : k = l.length := by omega
    go_wp2
    go_ret
    exact ⟨qaM HNO.out.symm, HBW.out⟩
theorem qaL {l : List (Int × Int)} {b : Bool} (h : Hid (qaG l = b)) (v : Value) (w : World) (hv : RP w v l) : Calls Tryz.prog 44 #[v] w fun e w' => e = .returned (.bool b) ∧ Below w.heap.size w w' := by
 rw [← h.out]; exact qhf l v w hv
set_option maxHeartbeats 800000 in
theorem qjy (l m : List Int) (v u : Value) (w : World) (hv : RI w v l) (hu : RI w u m) : Calls Tryz.prog 100 #[v, u] w fun e w' => e = .returned (.bool (l == m)) ∧ Below w.heap.size w w' := by
 have HV := hI_ hv
 have HU := hI_ hu
 have hm := hv.len
 have hm2 := hu.len
 obtain ⟨A, c, rfl, -, -, -⟩ := hv
 obtain ⟨A2, c2, rfl, -, -, -⟩ := hu
 unfold maxLen at hm hm2
 by_cases hne : l.length = m.length
 case neg =>
  have hn1 : ((l.length : Int) != (m.length : Int)) = true := by simp; omega
  have HF : Hid ((l == m) = false) := hI_ (by rw [beq_eq_false_iff_ne]; intro e; exact hne (by rw [e]))
  go_enter Tryz.func100, Tryz.ntmps100
  go_wp2
  go_ret
  exact ⟨qaM HF.out.symm, bR_ _ _⟩
 have hn1 : ((l.length : Int) != (m.length : Int)) = false := by simp; omega
 have HNE := hI_ hne
 clear hne
 go_enter Tryz.func100, Tryz.ntmps100
 go_wp2
 go_loopw [5] (fun i wr => ∃ k : Nat, k ≤ l.length ∧ i = .int .i64 k ∧ l.take k = m.take k ∧ Below w.heap.size w wr) (fun i _ => l.length - (intOf i).toNat)
 case atStart => exact ⟨0, Nat.zero_le _, rfl, rfl, bR_ _ _⟩
 case round =>
  obtain ⟨k, hk, rfl, hno, hbw⟩ := hrel
  have HNO := hI_ hno
  clear hno
  have HBW := hI_ hbw
  clear hbw
  by_cases hlt : k < l.length
  · have hlt2 : k < m.length := by have := HNE.out; omega
    obtain ⟨_, _, hA, _, _, hc⟩ := HV.out.below HBW.out
    cases hA
    obtain ⟨b, o, rfl, hbs, hc⟩ := hc (by omega)
    have e1 := hc k hlt
    obtain ⟨_, _, hA, _, _, hc2⟩ := HU.out.below HBW.out
    cases hA
    obtain ⟨b', o', rfl, hbs', hc2⟩ := hc2 (by omega)
    have e2 := hc2 k hlt2
    clear hc hc2
    have hki : (k : Int) < (l.length : Int) := by omega
    have hki2 : (k : Int) < (m.length : Int) := by omega
    have hk0 : (0 : Int) ≤ (k : Int) := by omega
    have HY : Hid (l[k] = m[k] → l.take (k + 1) = m.take (k + 1)) := hI_ (fun h => by rw [qaZ hlt, qaZ hlt2, HNO.out, h])
    have HN : Hid (l[k] ≠ m[k] → (l == m) = false) := hI_ (fun h => by rw [beq_eq_false_iff_ne]; intro e; subst e; exact h rfl)
    generalize l[k] = x at *
    generalize m[k] = y at *
    have hup := qap wr
    by_cases hxy : x = y
    · have hxy' : (x != y) = false := by simp [hxy]
      go_wp2
      refine qoH ?_
      repeat (go_big_quiet_step (fail))
      refine wpQuiet_nil ?_
      intro w1 hw1
      have hb1 := qay hw1
      clear hw1 hup
      go_wp2
      go_roundw
      case rel => exact ⟨k + 1, by omega, by go_num, HY.out hxy, HBW.out.trans (hb1.mono HBW.out.size)⟩
      case measure => simp [intOf]; omega
    · have hxy' : (x != y) = true := by simp [hxy]
      have HXY := hI_ hxy
      clear hxy
      go_wp2
      refine qoH ?_
      repeat (go_big_quiet_step (fail))
      refine wpQuiet_nil ?_
      intro w1 hw1
      have hb1 := qay hw1
      clear hw1 hup
      go_wp2
      go_ret
      exact ⟨qaM (HN.out HXY.out).symm, HBW.out.trans (hb1.mono HBW.out.size)⟩
  · obtain rfl : k = l.length := by omega
    have HQ : Hid ((l == m) = true) := hI_ (by rw [beq_iff_eq]; have h := HNO.out; rw [List.take_length, HNE.out, List.take_length] at h; exact h)
    go_wp2
    go_ret
    exact ⟨qaM HQ.out.symm, HBW.out⟩
end Go.Proofs.YtcplnfmcefkehaaGreat

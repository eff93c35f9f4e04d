/- Walks: sizes of worlds, as sums. | Walks: marks of feeds that own separate rows. | Walks: marks of links and requests. | Walks: marks of blocks in transit, and of whole worlds. -/
import Derived.Test.YtcplnfmcefkehaaGreatBK
set_option linter.unusedVariables false
set_option linter.unusedSimpArgs false
namespace Go.Proofs.YtcplnfmcefkehaaGreat
open Go.RowKit

def qpu {α : Type} (f : α → Nat) (l : List α) : Nat := (l.map f).sum
theorem qpz {α : Type} (f : α → Nat) {l : List α} {k : Nat} (h : k < l.length) : qpu f (l.take (k + 1)) = qpu f (l.take k) + f l[k] := by
 unfold qpu; rw [List.take_succ_eq_append_getElem h, List.map_append, List.sum_append]; simp
theorem qpy {α : Type} (f : α → Nat) (l : List α) : qpu f (l.take l.length) = qpu f l := by rw [List.take_length]
theorem qqd {α : Type} (f : α → Nat) (l : List α) {j : Nat} (hj : j < l.length) : f l[j] ≤ qpu f l := by
 have h := qpz f hj
 have h2 : qpu f (l.take (j + 1)) ≤ qpu f l := by
  unfold qpu
  conv => rhs; rw [← List.take_append_drop (j + 1) l]
  rw [List.map_append, List.sum_append]; omega
 omega
def psz (p : Pc) : Nat := p.prf.length
def fsz (f : Fd) : Nat := f.bl.length + f.hv.length
def qrr (f : Fd) (k : Int) (w : World) (e : Ending) (w' : World) : Prop := ∃ r : Int, e = .returned (.int .i64 r) ∧ r ≤ 1048576 ∧ (0 ≤ r → r + fsz f ≤ k) ∧ Below w.heap.size w w'
theorem qqE (l : List ByteArray) (v : Value) (k : Int) (w : World) (hv : RS w v l) (hs : ∀ s ∈ l, s.size ≤ maxLen) (h0 : 0 ≤ k) (h1 : k ≤ 1048576) :
 Calls Tryz.prog 149 #[v, .int .i64 k] w fun e w' => (∃ r : Int, e = .returned (.int .i64 r) ∧ r ≤ 1048576 ∧ (0 ≤ r → r + l.length ≤ k)) ∧ w = w' := by
 have HS := hI_ hs; clear hs
 have hm := hv.len
 obtain ⟨A, c, rfl, q1, q2, q3⟩ := hv
 unfold maxLen at hm
 clear q1 q2
 by_cases hl : k - (l.length : Int) < 0
 · go_enter Tryz.func149, Tryz.ntmps149
   go_wp2
   go_ret; exact ⟨⟨-1, rfl, by omega, by omega⟩, rfl⟩
 · have hl' : ¬ (k < (l.length : Int)) := by omega
   go_enter Tryz.func149, Tryz.ntmps149
   go_wp2
   go_loop [1, 5] (fun t i => ∃ (j : Nat) (r : Int), j ≤ l.length ∧ i = .int .i64 j ∧ t = .int .i64 r ∧ 0 ≤ r ∧ r ≤ 1048576 ∧ r + (l.length : Int) ≤ k) (fun _ i => l.length - (intOf i).toNat)
   case atStart => exact ⟨0, _, Nat.zero_le _, rfl, rfl, by omega, by omega, by omega⟩
   case round =>
    obtain ⟨j, r, hj, rfl, rfl, hr0, hr1, hr9⟩ := hrel
    by_cases hlt : j < l.length
    · obtain ⟨b, o, rfl, hb, hc⟩ := q3 (by omega)
      have hcell := hc j hlt
      have hsz := HS.out _ (List.getElem_mem hlt)
      unfold maxLen at hsz
      clear hc q3
      generalize l[j] = s at *
      by_cases hx : r < (s.size : Int)
      · go_wp2
        go_ret; exact ⟨⟨-1, rfl, by omega, by omega⟩, rfl⟩
      · go_wp2
        go_round
        case rel => exact ⟨j + 1, _, by omega, by go_num, rfl, by omega, by omega, by omega⟩
        case measure => simp [intOf]; omega
    · go_wp2
      go_ret; exact ⟨⟨r, rfl, hr1, fun _ => by omega⟩, rfl⟩
theorem qra (l : List Bool) (v : Value) (k : Int) (w : World) (hv : RB w v l) (h0 : 0 ≤ k) (h1 : k ≤ 1048576) :
 Calls Tryz.prog 150 #[v, .int .i64 k] w fun e w' => (∃ r : Int, e = .returned (.int .i64 r) ∧ r ≤ 1048576 ∧ (0 ≤ r → r + l.length ≤ k)) ∧ w = w' := by
 have hm := hv.len
 obtain ⟨A, c, rfl, q1, q2, q3⟩ := hv
 unfold maxLen at hm
 clear q1 q2 q3
 by_cases hl : k < (l.length : Int)
 · go_enter Tryz.func150, Tryz.ntmps150
   go_wp2
   go_ret; exact ⟨⟨-1, rfl, by omega, by omega⟩, rfl⟩
 · go_enter Tryz.func150, Tryz.ntmps150
   go_wp2
   go_ret; exact ⟨⟨k - l.length, rfl, by omega, by omega⟩, rfl⟩
theorem qro (f : Fd) (vb vh : Value) (k : Int) (w : World) (hf : qaU w f vb vh) (hs : ∀ s ∈ f.bl, s.size ≤ maxLen) (h0 : 0 ≤ k) (h1 : k ≤ 1048576) :
 Calls Tryz.prog 81 #[.agg #[.int .i64 f.pub, .int .i64 f.hd.len, .int .i64 f.hd.dg, .int .i64 f.hd.sg, vb, vh], .int .i64 k] w (qrr f k w) := by
 have HS := hI_ hs; clear hs
 have hfa := hf.alloc (.cells #[.int .i64 f.pub, .int .i64 f.hd.len, .int .i64 f.hd.dg, .int .i64 f.hd.sg, vb, vh] 101)
 have hbA : Below w.heap.size w (w.alloc (.cells #[.int .i64 f.pub, .int .i64 f.hd.len, .int .i64 f.hd.dg, .int .i64 f.hd.sg, vb, vh] 101)) := (bR_ _ _).alloc (nr_ _) _
 have HB := hI_ hbA
 clear hbA
 go_enter Tryz.func81, Tryz.ntmps81
 go_wp2_with fail
 refine (qqE f.bl _ _ _ hfa.bl HS.out h0 h1).mono ?_
 rintro e w' ⟨⟨r, rfl, hr1, hr2⟩, rfl⟩
 by_cases hr : r < 0
 · go_wp2
   go_ret; exact ⟨-1, rfl, by omega, by omega, HB.out⟩
 · have HR2 := hI_ (hr2 (by omega))
   clear hr2
   have hr0 : 0 ≤ r := by omega
   go_wp2_with fail
   refine (qra f.hv _ _ _ hfa.hv hr0 hr1).mono ?_
   rintro e w' ⟨⟨r', rfl, hs1, hs2⟩, rfl⟩
   by_cases hr' : r' < 0
   · go_wp2
     go_ret; exact ⟨-1, rfl, by omega, by omega, HB.out⟩
   · have HS2 := hI_ (hs2 (by omega))
     clear hs2
     go_wp2
     go_ret; exact ⟨r', rfl, hs1, fun _ => by unfold fsz; have := HR2.out; have := HS2.out; omega, HB.out⟩
theorem qrp (l : List Int) (v : Value) (k : Int) (w : World) (hv : RI w v l) (h0 : 0 ≤ k) (h1 : k ≤ 1048576) :
 Calls Tryz.prog 151 #[v, .int .i64 k] w fun e w' => (∃ r : Int, e = .returned (.int .i64 r) ∧ r ≤ 1048576 ∧ (0 ≤ r → r + l.length ≤ k)) ∧ w = w' := by
 have hm := hv.len
 obtain ⟨A, c, rfl⟩ := hv.sl'
 unfold maxLen at hm
 clear hv
 by_cases hlt : k < (l.length : Int)
 · go_enter Tryz.func151, Tryz.ntmps151
   go_wp2
   go_ret; exact ⟨⟨-1, rfl, by omega, by omega⟩, rfl⟩
 · go_enter Tryz.func151, Tryz.ntmps151
   go_wp2
   go_ret; exact ⟨⟨k - l.length, rfl, by omega, by omega⟩, rfl⟩
theorem qrc (l : List (Int × Int)) (v : Value) (k : Int) (w : World) (hv : RP w v l) (h0 : 0 ≤ k) (h1 : k ≤ 1048576) :
 Calls Tryz.prog 36 #[v, .int .i64 k] w fun e w' => (∃ r : Int, e = .returned (.int .i64 r) ∧ r ≤ 1048576 ∧ (0 ≤ r → r + l.length ≤ k)) ∧ w = w' := by
 have hm := hv.len
 obtain ⟨A, c, rfl⟩ := hv.sl
 unfold maxLen at hm
 clear hv
 by_cases hlt : k < (l.length : Int)
 · go_enter Tryz.func36, Tryz.ntmps36
   go_wp2
   go_ret; exact ⟨⟨-1, rfl, by omega, by omega⟩, rfl⟩
 · go_enter Tryz.func36, Tryz.ntmps36
   go_wp2
   go_ret; exact ⟨⟨k - l.length, rfl, by omega, by omega⟩, rfl⟩
theorem qrn (l : List (Int × Int)) (v : Value) (k : Int) (w : World) (hv : RP w v l) (h0 : 0 ≤ k) (h1 : k ≤ 1048576) :
 Calls Tryz.prog 82 #[v, .int .i64 k] w fun e w' => (∃ r : Int, e = .returned (.int .i64 r) ∧ r ≤ 1048576 ∧ (0 ≤ r → r + l.length ≤ k)) ∧ w = w' := by
 have hm := hv.len
 obtain ⟨A, c, rfl⟩ := hv.sl
 unfold maxLen at hm
 clear hv
 by_cases hlt : k < (l.length : Int)
 · go_enter Tryz.func82, Tryz.ntmps82
   go_wp2
   go_ret; exact ⟨⟨-1, rfl, by omega, by omega⟩, rfl⟩
 · go_enter Tryz.func82, Tryz.ntmps82
   go_wp2
   go_ret; exact ⟨⟨k - l.length, rfl, by omega, by omega⟩, rfl⟩
def qqv (l : List Fd) (k0 : Int) (w : World) (e : Ending) (w' : World) : Prop := ∃ r : Int, e = .returned (.int .i64 r) ∧ r ≤ 1048576 ∧ (0 ≤ r → r + l.length + qpu fsz l ≤ k0) ∧ Below w.heap.size w w'
set_option maxHeartbeats 800000 in
theorem qrb (l : List Fd) (v : Value) (k0 : Int) (w : World) (hv : qa6 w v l) (hs : ∀ j (hj : j < l.length), ∀ s ∈ l[j].bl, s.size ≤ maxLen) (h0 : 0 ≤ k0) (h1 : k0 ≤ 1048576) :
 Calls Tryz.prog 35 #[v, .int .i64 k0] w (qqv l k0 w) := by
 have HV := hI_ hv
 have HS := hI_ hs
 clear hs
 have hm := hv.len
 obtain ⟨A, c, rfl⟩ := hv.sl
 unfold maxLen at hm
 clear hv
 by_cases hng : k0 < (l.length : Int)
 · go_enter Tryz.func35, Tryz.ntmps35
   go_wp2
   go_ret; exact ⟨-1, rfl, by omega, by omega, bR_ _ _⟩
 have hlm : l.length ≤ 1048576 := by omega
 go_enter Tryz.func35, Tryz.ntmps35
 go_wp2
 go_loopw [1, 5] (fun t i wr => ∃ (r : Int) (k : Nat), t = .int .i64 r ∧ 0 ≤ r ∧ r ≤ 1048576 ∧ k ≤ l.length ∧ i = .int .i64 k ∧ r + l.length + qpu fsz (l.take k) ≤ k0 ∧ Below w.heap.size w wr) (fun _ i _ => l.length - (intOf i).toNat)
 case atStart => exact ⟨_, 0, rfl, by omega, by omega, Nat.zero_le _, rfl, by simp [qpu]; try omega, bR_ _ _⟩
 case round =>
  obtain ⟨r, k, rfl, hr0, hr1, hk, rfl, hall, hbw⟩ := hrel
  have HA := hI_ hall
  clear hall
  by_cases hlt : k < l.length
  · obtain ⟨b, o, x, y, rfl, hbs, e0, e1, e2, e3, e4, e5, e6⟩ := (HV.out.below hbw).at_ hlt
    have HE := hI_ e6
    have HSK := hI_ (HS.out k hlt)
    clear e6
    have hkl : (k : Int) < (l.length : Int) := by omega
    go_wp2_with fail
    refine (qro l[k] _ _ r wr HE.out HSK.out hr0 hr1).mono ?_
    rintro e w1 ⟨r2, rfl, hr2, hr3, hb1⟩
    clear e0 e1 e2 e3 e4 e5
    by_cases hr : r2 < 0
    · go_wp2
      go_ret
      exact ⟨-1, rfl, by omega, by omega, hbw.trans (hb1.mono hbw.size)⟩
    have HQ := hI_ (hr3 (by omega))
    have HSN := hI_ (qpz fsz hlt)
    clear hr3
    go_wp2
    go_roundw
    case rel => exact ⟨r2, k + 1, rfl, by omega, hr2, by omega, by go_num, by rw [HSN.out]; have := HA.out; have := HQ.out; omega, hbw.trans (hb1.mono hbw.size)⟩
    case measure => simp [intOf]; omega
  · obtain rfl : k = l.length := by omega
    go_wp2
    go_ret
    exact ⟨r, rfl, hr1, fun _ => by have := HA.out; rw [List.take_length] at this; omega, hbw⟩
def qqu (l : List (List (Int × Int))) (k0 : Int) (w : World) (e : Ending) (w' : World) : Prop := ∃ r : Int, e = .returned (.int .i64 r) ∧ r ≤ 1048576 ∧ (0 ≤ r → r + l.length + qpu List.length l ≤ k0) ∧ Below w.heap.size w w'
set_option maxHeartbeats 800000 in
theorem qq9 (l : List (List (Int × Int))) (v : Value) (k0 : Int) (w : World) (hv : qdh w v l) (h0 : 0 ≤ k0) (h1 : k0 ≤ 1048576) :
 Calls Tryz.prog 37 #[v, .int .i64 k0] w (qqu l k0 w) := by
 have HV := hI_ hv
 have hm := hv.len
 obtain ⟨A, c, rfl⟩ := hv.sl
 unfold maxLen at hm
 clear hv
 by_cases hng : k0 < (l.length : Int)
 · go_enter Tryz.func37, Tryz.ntmps37
   go_wp2
   go_ret; exact ⟨-1, rfl, by omega, by omega, bR_ _ _⟩
 have hlm : l.length ≤ 1048576 := by omega
 go_enter Tryz.func37, Tryz.ntmps37
 go_wp2
 go_loopw [1, 5] (fun t i wr => ∃ (r : Int) (k : Nat), t = .int .i64 r ∧ 0 ≤ r ∧ r ≤ 1048576 ∧ k ≤ l.length ∧ i = .int .i64 k ∧ r + l.length + qpu List.length (l.take k) ≤ k0 ∧ Below w.heap.size w wr) (fun _ i _ => l.length - (intOf i).toNat)
 case atStart => exact ⟨_, 0, rfl, by omega, by omega, Nat.zero_le _, rfl, by simp [qpu]; try omega, bR_ _ _⟩
 case round =>
  obtain ⟨r, k, rfl, hr0, hr1, hk, rfl, hall, hbw⟩ := hrel
  have HA := hI_ hall
  clear hall
  by_cases hlt : k < l.length
  · obtain ⟨b, o, x, rfl, hbs, e0, e6⟩ := (HV.out.below hbw).at_ hlt
    have HE := hI_ e6
    clear e6
    have hkl : (k : Int) < (l.length : Int) := by omega
    go_wp2_with fail
    refine (qrn l[k] _ r wr HE.out hr0 hr1).mono ?_
    rintro e w1 ⟨⟨r2, rfl, hr2, hr3⟩, rfl⟩
    clear e0
    by_cases hr : r2 < 0
    · go_wp2
      go_ret
      exact ⟨-1, rfl, by omega, by omega, hbw⟩
    have HQ := hI_ (hr3 (by omega))
    have HSN := hI_ (qpz List.length hlt)
    clear hr3
    go_wp2
    go_roundw
    case rel => exact ⟨r2, k + 1, rfl, by omega, hr2, by omega, by go_num, by rw [HSN.out]; have := HA.out; have := HQ.out; omega, hbw⟩
    case measure => simp [intOf]; omega
  · obtain rfl : k = l.length := by omega
    go_wp2
    go_ret
    exact ⟨r, rfl, hr1, fun _ => by have := HA.out; rw [List.take_length] at this; omega, hbw⟩
theorem qrd (p : Pc) (v : Value) (k : Int) (w : World) (hp : RI w v p.prf) (hs : p.txt.size ≤ maxLen) (h0 : 0 ≤ k) (h1 : k ≤ 1048576) :
 Calls Tryz.prog 83 #[.agg #[.int .i64 p.fr, .int .i64 p.to_, .int .i64 p.len, .int .i64 p.idx, .string p.txt, v], .int .i64 k] w fun e w' => (∃ r : Int, e = .returned (.int .i64 r) ∧ r ≤ 1048576 ∧ (0 ≤ r → r + p.prf.length ≤ k)) ∧ Below w.heap.size w w' := by
 have HP := hI_ (hp.alloc (.cells #[.int .i64 p.fr, .int .i64 p.to_, .int .i64 p.len, .int .i64 p.idx, .string p.txt, v] 105))
 have HB : Hid (Below w.heap.size w (w.alloc (.cells #[.int .i64 p.fr, .int .i64 p.to_, .int .i64 p.len, .int .i64 p.idx, .string p.txt, v] 105))) := hI_ ((bR_ _ _).alloc (nr_ _) _)
 unfold maxLen at hs
 clear hp
 by_cases hlt : k < (p.txt.size : Int)
 · go_enter Tryz.func83, Tryz.ntmps83
   go_wp2
   go_ret; exact ⟨⟨-1, rfl, by omega, by omega⟩, HB.out⟩
 have hr0 : 0 ≤ k - p.txt.size := by omega
 have hr1 : k - p.txt.size ≤ 1048576 := by omega
 go_enter Tryz.func83, Tryz.ntmps83
 go_wp2_with fail
 refine (qrp p.prf _ _ _ HP.out hr0 hr1).mono ?_
 rintro e w' ⟨⟨r, rfl, hr2, hr3⟩, rfl⟩
 by_cases hr : r < 0
 · go_wp2
   go_ret; exact ⟨⟨-1, rfl, by omega, by omega⟩, HB.out⟩
 · have HS2 := hI_ (hr3 (by omega))
   clear hr3
   go_wp2
   go_ret; exact ⟨⟨r, rfl, hr2, fun _ => by have := HS2.out; omega⟩, HB.out⟩
def qqe (l : List Pc) (k0 : Int) (w : World) (e : Ending) (w' : World) : Prop := ∃ r : Int, e = .returned (.int .i64 r) ∧ r ≤ 1048576 ∧ (0 ≤ r → r + l.length + qpu psz l ≤ k0) ∧ Below w.heap.size w w'
set_option maxHeartbeats 800000 in
theorem qqW (l : List Pc) (v : Value) (k0 : Int) (w : World) (hv : qbx w v l) (hs : ∀ j (hj : j < l.length), l[j].txt.size ≤ maxLen) (h0 : 0 ≤ k0) (h1 : k0 ≤ 1048576) :
 Calls Tryz.prog 38 #[v, .int .i64 k0] w (qqe l k0 w) := by
 have HV := hI_ hv
 have HS := hI_ hs
 clear hs
 have hm := hv.len
 obtain ⟨A, c, rfl⟩ := hv.sl
 unfold maxLen at hm
 clear hv
 by_cases hng : k0 < (l.length : Int)
 · go_enter Tryz.func38, Tryz.ntmps38
   go_wp2
   go_ret; exact ⟨-1, rfl, by omega, by omega, bR_ _ _⟩
 have hlm : l.length ≤ 1048576 := by omega
 go_enter Tryz.func38, Tryz.ntmps38
 go_wp2
 go_loopw [1, 5] (fun t i wr => ∃ (r : Int) (k : Nat), t = .int .i64 r ∧ 0 ≤ r ∧ r ≤ 1048576 ∧ k ≤ l.length ∧ i = .int .i64 k ∧ r + l.length + qpu psz (l.take k) ≤ k0 ∧ Below w.heap.size w wr) (fun _ i _ => l.length - (intOf i).toNat)
 case atStart => exact ⟨_, 0, rfl, by omega, by omega, Nat.zero_le _, rfl, by simp [qpu]; try omega, bR_ _ _⟩
 case round =>
  obtain ⟨r, k, rfl, hr0, hr1, hk, rfl, hall, hbw⟩ := hrel
  have HA := hI_ hall
  clear hall
  by_cases hlt : k < l.length
  · obtain ⟨b, o, x, rfl, hbs, e0, e1, e2, e3, e4, e5, e6⟩ := (HV.out.below hbw).at_ hlt
    have HE := hI_ e6
    have HSK := hI_ (HS.out k hlt)
    clear e6
    have hkl : (k : Int) < (l.length : Int) := by omega
    go_wp2_with fail
    refine (qrd l[k] _ r wr HE.out HSK.out hr0 hr1).mono ?_
    rintro e w1 ⟨⟨r2, rfl, hr2, hr3⟩, hb1⟩
    clear e0 e1 e2 e3 e4 e5
    by_cases hr : r2 < 0
    · go_wp2
      go_ret
      exact ⟨-1, rfl, by omega, by omega, hbw.trans (hb1.mono hbw.size)⟩
    have HQ := hI_ (hr3 (by omega))
    have HSN := hI_ (qpz psz hlt)
    clear hr3
    go_wp2
    go_roundw
    case rel => exact ⟨r2, k + 1, rfl, by omega, hr2, by omega, by go_num, by rw [HSN.out]; have := HA.out; have := HQ.out; unfold psz at *; omega, hbw.trans (hb1.mono hbw.size)⟩
    case measure => simp [intOf]; omega
  · obtain rfl : k = l.length := by omega
    go_wp2
    go_ret
    exact ⟨r, rfl, hr1, fun _ => by have := HA.out; rw [List.take_length] at this; omega, hbw⟩
theorem qpG {B1 B2 s1 s2 n1 n2 : Nat} {t1 t2 : TypeId} {w : World} {v1 v2 : Value} {l1 l2 : List Value} (h1 : w.ownsRow B1 t1 s1 v1 n1 l1) (h2 : w.ownsRow B2 t2 s2 v2 n2 l2) (ht : t1 ≠ t2) : v1.ownBlock = none ∨ v1.ownBlock ≠ v2.ownBlock := by
 rcases h1.2 with ⟨rfl, _⟩ | ⟨k, cap, cur, rfl, hk, hh, r⟩
 · exact .inl rfl
 · refine .inr fun he => ?_
   rcases h2.2 with ⟨rfl, _⟩ | ⟨k2, cap2, cur2, rfl, hk2, hh2, r2⟩
   · cases he
   · cases he
     rw [hh] at hh2
     cases hh2
     exact ht rfl
theorem qqK {n : Nat} {G : Nat → Value} (h : Dis n G) {i j : Nat} (hi : i < n) (hj : j < n) (hne : i ≠ j) : (G i).ownBlock = none ∨ (G i).ownBlock ≠ (G j).ownBlock := by
 cases hG : (G i).ownBlock with
 | none => exact .inl rfl
 | some k =>
   refine .inr fun he => ?_
   rcases Nat.lt_or_gt_of_ne hne with hl | hl
   · exact h i j hl hj k hG he.symm
   · exact h j i hl hi k he.symm hG
theorem Dis.congr {n : Nat} {G G' : Nat → Value} (h : Dis n G) (he : ∀ j, j < n → G' j = G j) : Dis n G' := fun i j hij hj k hk => by
 rw [he j hj]
 rw [he i (by omega)] at hk
 exact h i j hij hj k hk
def fw (f : Fd) : Nat := 4 + f.bl.length + f.hv.length
def qpN (k : Nat) (fs : List Fd) (j : Nat) : Nat := k + qpu fw (fs.take j)
theorem qpO {k : Nat} {fs : List Fd} {j : Nat} (h : j < fs.length) : qpN k fs (j + 1) = qpN k fs j + fw fs[j] := by unfold qpN; rw [qpz fw h]; omega
theorem qqr {k : Nat} {fs : List Fd} : qpN k fs 0 = k := by simp [qpN, qpu]
theorem qqc {k : Nat} {fs : List Fd} : ∀ d j, j + d = fs.length → qpN k fs j ≤ qpN k fs fs.length
 | 0, j, h => by rw [show j = fs.length by omega]; exact nr_ _
 | d + 1, j, h => Nat.le_trans (by rw [qpO (by omega)]; omega) (qqc d (j + 1) (by omega))
def mFd (k : Nat) (f : Fd) : Fd := ⟨((k : Nat) : Int), ⟨((k + 1 : Nat) : Int), ((k + 2 : Nat) : Int), ((k + 3 : Nat) : Int)⟩, (List.range f.bl.length).map fun j => mtx (k + 4 + j), (List.range f.hv.length).map fun j => ((k + 4 + f.bl.length + j) % 3 == 0)⟩
def mFs (k : Nat) (fs : List Fd) (m : Nat) : List Fd := (List.range fs.length).map fun j => if j < m then mFd (qpN k fs j) (fs.getD j Fd.none) else fs.getD j Fd.none
theorem qpB {k : Nat} {fs : List Fd} {m : Nat} : (mFs k fs m).length = fs.length := by simp [mFs]
theorem qpP {k : Nat} {fs : List Fd} {m j : Nat} (hj : j < (mFs k fs m).length) : (mFs k fs m)[j] = if j < m then mFd (qpN k fs j) (fs.getD j Fd.none) else fs.getD j Fd.none := by simp [mFs]
theorem qrk {k : Nat} {fs : List Fd} : mFs k fs 0 = fs := by
 apply List.ext_getElem qpB
 intro j h1 h2
 rw [qpP, if_neg (by omega), qam h2]
theorem qrt {k : Nat} {fs : List Fd} {m : Nat} (hm : m < fs.length) : (mFs k fs m).set m (mFd (qpN k fs m) fs[m]) = mFs k fs (m + 1) := by
 apply List.ext_getElem (by rw [List.length_set, qpB, qpB])
 intro j h1 h2
 rw [List.getElem_set]
 split
 · rename_i h; subst h; rw [qpP, if_pos (by omega), qam hm]
 · rename_i h
   rw [qpP, qpP]
   by_cases hj : j < m
   · rw [if_pos hj, if_pos (by omega)]
   · rw [if_neg hj, if_neg (by omega)]
theorem ON.put4 {B g n cap : Nat} {e : TypeId} {w : World} {F : Nat → Value} (h : ON 6 B e w (.slice (some ⟨g, 0, none⟩) n cap) n F) {k : Nat} (hk : k < n) (x0 x1 x2 x3 : Value) :
 ON 6 B e ((((w.setCell ⟨g, k * 6, none⟩ x0).setCell ⟨g, k * 6 + 1, none⟩ x1).setCell ⟨g, k * 6 + 1 + 1, none⟩ x2).setCell ⟨g, k * 6 + 1 + 2, none⟩ x3) (.slice (some ⟨g, 0, none⟩) n cap) n
  (fun s => if s = k * 6 + 1 + 2 then x3 else if s = k * 6 + 1 + 1 then x2 else if s = k * 6 + 1 then x1 else if s = k * 6 then x0 else F s) ∧
  w.grownBy ((((w.setCell ⟨g, k * 6, none⟩ x0).setCell ⟨g, k * 6 + 1, none⟩ x1).setCell ⟨g, k * 6 + 1 + 1, none⟩ x2).setCell ⟨g, k * 6 + 1 + 2, none⟩ x3) (some g) := by
 have a0 := h.setAt (t := k * 6) (by omega) x0
 have a1 := a0.1.setAt (t := k * 6 + 1) (by omega) x1
 have a2 := a1.1.setAt (t := k * 6 + 1 + 1) (by omega) x2
 have a3 := a2.1.setAt (t := k * 6 + 1 + 2) (by omega) x3
 exact ⟨a3.1, qat (qat (qat a0.2 a1.2) a2.2) a3.2⟩
theorem qa7.upd {B C : Nat} {w w' : World} {v : Value} {fs : List Fd} {j : Nat} {f' : Fd} {F F' : Nat → Value} (hU : Up C v)
 (hF : ∀ i (hi : i < fs.length), F (i * 6) = .int .i64 fs[i].pub ∧ F (i * 6 + 1) = .int .i64 fs[i].hd.len ∧ F (i * 6 + 2) = .int .i64 fs[i].hd.dg ∧ F (i * 6 + 3) = .int .i64 fs[i].hd.sg ∧ qaK B w fs[i] (F (i * 6 + 4)) (F (i * 6 + 5)) ∧ Up C (F (i * 6 + 4)) ∧ Up C (F (i * 6 + 5)))
 (hD : Dis fs.length (fun j => F (j * 6 + 4)) ∧ Dis fs.length (fun j => F (j * 6 + 5)))
 (hN : ON 6 B 59 w' v fs.length F') (hlow : ∀ i, i < fs.length → i ≠ j → F' (i * 6) = F (i * 6) ∧ F' (i * 6 + 1) = F (i * 6 + 1) ∧ F' (i * 6 + 2) = F (i * 6 + 2) ∧ F' (i * 6 + 3) = F (i * 6 + 3)) (hhigh : ∀ i, i < fs.length → F' (i * 6 + 4) = F (i * 6 + 4) ∧ F' (i * 6 + 5) = F (i * 6 + 5))
 (hnew : F' (j * 6) = .int .i64 f'.pub ∧ F' (j * 6 + 1) = .int .i64 f'.hd.len ∧ F' (j * 6 + 2) = .int .i64 f'.hd.dg ∧ F' (j * 6 + 3) = .int .i64 f'.hd.sg) (hfo : qaK B w' f' (F (j * 6 + 4)) (F (j * 6 + 5)))
 (hoth : ∀ i (hi : i < fs.length), i ≠ j → qaK B w' fs[i] (F (i * 6 + 4)) (F (i * 6 + 5))) : qa7 B C w' v (fs.set j f') := by
 refine ⟨hU, F', by rw [List.length_set]; exact hN, fun i hi => ?_, ?_⟩
 · rw [List.length_set] at hi
   obtain ⟨a0, a1, a2, a3, a4, a5, a6⟩ := hF i hi
   rw [(hhigh i hi).1, (hhigh i hi).2, List.getElem_set]
   by_cases hij : j = i
   · rw [if_pos hij]
     subst hij
     exact ⟨hnew.1, hnew.2.1, hnew.2.2.1, hnew.2.2.2, hfo, a5, a6⟩
   · rw [if_neg hij]
     obtain ⟨l0, l1, l2, l3⟩ := hlow i hi (fun h => hij h.symm)
     rw [l0, l1, l2, l3]
     exact ⟨a0, a1, a2, a3, hoth i hi (fun h => hij h.symm), a5, a6⟩
 · rw [List.length_set]
   exact ⟨hD.1.congr fun i hi => (hhigh i hi).1, hD.2.congr fun i hi => (hhigh i hi).2⟩

set_option maxHeartbeats 3200000 in
theorem qpL (fs : List Fd) (v : Value) (k B C : Nat) (w : World) (hv : qa7 B C w v fs) (hB : B ≤ w.heap.size) (hC : C ≤ w.heap.size) (hk : qpN k fs fs.length ≤ 100000000) (hz : ∀ j (hj : j < fs.length), fs[j].bl.length ≤ 1048576 ∧ fs[j].hv.length ≤ 1048576) :
 Calls Tryz.prog 61 #[v, .int .i64 k] w fun e w' => e = .returned (.int .i64 ((qpN k fs fs.length : Nat) : Int)) ∧ qa7 B C w' v (mFs k fs fs.length) ∧ MK NF B C w w' := by
 have HV := hI_ hv
 obtain ⟨A, c, rfl⟩ := hv.r.sl
 have hm := hv.r.len
 have HC := hI_ hC
 have HU := hI_ hv.1
 have HZ := hI_ hz
 clear hz
 unfold maxLen at hm
 clear hv
 go_enter Tryz.func61, Tryz.ntmps61
 go_wp2
 go_loopw [1, 5] (fun t i wr => ∃ j : Nat, j ≤ fs.length ∧ i = .int .i64 j ∧ t = .int .i64 ((qpN k fs j : Nat) : Int) ∧ qa7 B C wr (.slice A fs.length c) (mFs k fs j) ∧ MK NF B C w wr) (fun _ i _ => fs.length - (intOf i).toNat)
 case atStart => exact ⟨0, Nat.zero_le _, rfl, by rw [qqr], by rw [qrk]; exact HV.out, MK.refl _ _ _ _⟩
 case round =>
  obtain ⟨j, hj, rfl, rfl, ho, hg⟩ := hrel
  have HG := hI_ hg
  clear hg
  by_cases hlt : j < fs.length
  · obtain ⟨q, HQ⟩ : ∃ q, Hid (qpN k fs j = q) := ⟨_, hI_ rfl⟩
    have hqb : q ≤ 100000000 := by rw [← HQ.out]; exact Nat.le_trans (qqc (fs.length - j) j (by omega)) hk
    have hqs : qpN k fs (j + 1) ≤ 100000000 := Nat.le_trans (qqc (fs.length - (j + 1)) (j + 1) (by omega)) hk
    rw [qpO hlt, HQ.out] at hqs
    unfold fw at hqs
    obtain ⟨hU, F, hN, hF, hD⟩ := ho
    rw [qpB] at hN hD
    obtain ⟨g, cap, hA, hgB, hgs⟩ := hN.form (by omega)
    cases hA
    have hgC : g < C := hU g rfl
    have hFj := hF j (by rw [qpB]; exact hlt)
    rw [qpP, if_neg (Nat.lt_irrefl j), qam hlt] at hFj
    obtain ⟨f0, HF0⟩ : ∃ f, Hid (fs[j] = f) := ⟨_, hI_ rfl⟩
    rw [HF0.out] at hFj hqs
    obtain ⟨-, -, -, -, hfo, hu4, hu5⟩ := hFj
    obtain ⟨xA, xc, hx⟩ := hfo.bl.sl
    obtain ⟨yA, yc, hy⟩ := hfo.hv.sl
    obtain ⟨⟨u0, e0⟩, f0'⟩ : (∃ u, wr.cell? ⟨g, j * 6, none⟩ = some u) ∧ wr.frozen? ⟨g, j * 6, none⟩ = false := by have := hN.at_ (t := j * 6) (by omega); exact ⟨⟨_, this.1⟩, this.2⟩
    obtain ⟨⟨u1, e1⟩, f1'⟩ : (∃ u, wr.cell? ⟨g, j * 6 + 1, none⟩ = some u) ∧ wr.frozen? ⟨g, j * 6 + 1, none⟩ = false := by have := hN.at_ (t := j * 6 + 1) (by omega); exact ⟨⟨_, this.1⟩, this.2⟩
    obtain ⟨⟨u2, e2⟩, f2'⟩ : (∃ u, wr.cell? ⟨g, j * 6 + 2, none⟩ = some u) ∧ wr.frozen? ⟨g, j * 6 + 2, none⟩ = false := by have := hN.at_ (t := j * 6 + 2) (by omega); exact ⟨⟨_, this.1⟩, this.2⟩
    obtain ⟨⟨u3, e3⟩, f3'⟩ : (∃ u, wr.cell? ⟨g, j * 6 + 3, none⟩ = some u) ∧ wr.frozen? ⟨g, j * 6 + 3, none⟩ = false := by have := hN.at_ (t := j * 6 + 3) (by omega); exact ⟨⟨_, this.1⟩, this.2⟩
    have e4 := (hN.at_ (t := j * 6 + 4) (by omega)).1
    have e5 := (hN.at_ (t := j * 6 + 5) (by omega)).1
    rw [hx] at e4
    rw [hy] at e5
    obtain ⟨K, HK⟩ : ∃ K : Int, Hid (((q : Nat) : Int) = K) := ⟨_, hI_ rfl⟩
    have hK0 : 0 ≤ K := by rw [← HK.out]; omega
    have hK1 : K ≤ 1000000000 := by rw [← HK.out]; omega
    have hp := hN.put4 hlt (.int .i64 K) (.int .i64 (K + 1)) (.int .i64 (K + 1 + 1)) (.int .i64 (K + 1 + 1 + 1))
    obtain ⟨W4, HW4⟩ : ∃ W4, Hid ((((wr.setCell ⟨g, j * 6, none⟩ (.int .i64 K)).setCell ⟨g, j * 6 + 1, none⟩ (.int .i64 (K + 1))).setCell ⟨g, j * 6 + 1 + 1, none⟩ (.int .i64 (K + 1 + 1))).setCell ⟨g, j * 6 + 1 + 2, none⟩ (.int .i64 (K + 1 + 1 + 1)) = W4) := ⟨_, hI_ rfl⟩
    rw [HW4.out] at hp
    obtain ⟨hN4, hg4⟩ := hp
    have k5 := (hN4.at_ (t := j * 6 + 5) (by omega)).1
    rw [if_neg (by omega), if_neg (by omega), if_neg (by omega), if_neg (by omega), hy] at k5
    have hneB : ∀ {α : Type} {enc : α → Value} {t : TypeId} {u : Value} {l : List α}, O1 enc B t wr u l → t ≠ 59 → u.ownBlock = none ∨ u.ownBlock ≠ some g := fun h ht => qpG h hN ht
    have hbl4 := hfo.bl.grown hg4 (hneB hfo.bl (by decide))
    have hhv4 := hfo.hv.grown hg4 (hneB hfo.hv (by decide))
    rw [hx] at hbl4
    rw [hy] at hhv4
    have hsz4 : wr.heap.size ≤ W4.heap.size := hg4.size
    have HP := hI_ (show _ ∧ _ ∧ _ ∧ _ ∧ _ ∧ _ ∧ _ ∧ _ ∧ _ ∧ _ from ⟨hU, hN, hF, hD, hN4, hg4, hfo, hu4, hu5, hbl4⟩)
    have HH4 := hI_ hhv4
    have HB4 := hI_ hbl4
    have HX := hI_ hx
    have HY := hI_ hy
    have hzj := HZ.out j hlt
    rw [HF0.out] at hzj
    have lx : f0.bl.length ≤ 2000000 := by omega
    have ly : f0.hv.length ≤ 2000000 := by omega
    rw [HQ.out, HK.out]
    clear hU hN hF hD hN4 hg4 hfo hu4 hu5 hbl4 hhv4 hx hy hneB hgs
    go_wp2_with fail
    rw [HW4.out]
    rw [show K + 1 + 1 + 1 + 1 = ((q + 4 : Nat) : Int) by rw [← HK.out]; omega]
    clear e0 e1 e2 e3 e4 e5 f0' f1' f2' f3'
    refine (qpV f0.bl _ (q + 4) B W4 HB4.out lx (by omega)).mono ?_
    rintro e w1 ⟨rfl, hm1, hr1⟩
    obtain ⟨K2, HK2⟩ : ∃ K : Int, Hid (((q + 4 + f0.bl.length : Nat) : Int) = K) := ⟨_, hI_ rfl⟩
    rw [HK2.out]
    have hgx : some g ≠ (Value.slice xA f0.bl.length xc).ownBlock := by
     rcases qpG HB4.out HP.out.2.2.2.2.1 (by decide) with h | h
     · rw [h]; exact fun e => by cases e
     · exact fun e => h e.symm
    have hgy : some g ≠ (Value.slice yA f0.hv.length yc).ownBlock := by
     rcases qpG HH4.out HP.out.2.2.2.2.1 (by decide) with h | h
     · rw [h]; exact fun e => by cases e
     · exact fun e => h e.symm
    have lg4 : g < W4.heap.size := (HP.out.2.2.2.2.1.lt g rfl).2
    have k51 := (World.cell?_of_block (a := ⟨g, j * 6 + 5, none⟩) (hr1.block g lg4 hgx)).trans k5
    have hh1 := HH4.out.grown hr1 (O1.ne_ HH4.out HB4.out (by decide))
    have HM1 := hI_ hm1
    have HR1 := hI_ hr1
    have HH1 := hI_ hh1
    have lg1 := nL_ lg4 hr1.size
    clear k5 hm1 hr1 hh1 hgx hgy
    go_wp2_with fail
    rw [← HK2.out]
    refine (qqa f0.hv _ (q + 4 + f0.bl.length) B w1 HH1.out ly (by omega)).mono ?_
    rintro e w2 ⟨rfl, hm2, hr2⟩
    obtain ⟨K3, HK3⟩ : ∃ K : Int, Hid (((q + 4 + f0.bl.length + f0.hv.length : Nat) : Int) = K) := ⟨_, hI_ rfl⟩
    rw [HK3.out]
    have HM2 := hI_ hm2
    have HR2 := hI_ hr2
    clear hm2 hr2 k51
    go_wp2
    go_roundw
    case rel =>
     obtain ⟨hU, hN, hF, hD, hN4, hg4, hfo, hu4, hu5, -⟩ := HP.out
     have hx := HX.out
     have hy := HY.out
     have hgx : some g ≠ (Value.slice xA f0.bl.length xc).ownBlock := by
      rcases qpG HB4.out hN4 (by decide) with h | h
      · rw [h]; exact fun e => by cases e
      · exact fun e => h e.symm
     have hgy : some g ≠ (Value.slice yA f0.hv.length yc).ownBlock := by
      rcases qpG HH4.out hN4 (by decide) with h | h
      · rw [h]; exact fun e => by cases e
      · exact fun e => h e.symm
     have hN1 := hN4.grown HR1.out (.inr hgx)
     have hN2 := hN1.grown HR2.out (.inr hgy)
     refine ⟨j + 1, by omega, by go_num, ?_, ?_, ?_⟩
     · rw [qpO hlt, HQ.out, HF0.out, ← HK3.out]; unfold fw; congr 1; omega
     · rw [← qrt hlt, HQ.out, HF0.out]
       refine qa7.upd (w := wr) (F := F) hU hF (by rw [qpB]; exact hD) (by rw [qpB]; exact hN2) (fun i hi hij => ?_) (fun i hi => ?_) ?_ ?_ (fun i hi hij => ?_)
       · rw [if_neg (by omega), if_neg (by omega), if_neg (by omega), if_neg (by omega)]
         rw [if_neg (by omega), if_neg (by omega), if_neg (by omega), if_neg (by omega)]
         rw [if_neg (by omega), if_neg (by omega), if_neg (by omega), if_neg (by omega)]
         rw [if_neg (by omega), if_neg (by omega), if_neg (by omega), if_neg (by omega)]
         exact ⟨rfl, rfl, rfl, rfl⟩
       · rw [if_neg (by omega), if_neg (by omega), if_neg (by omega), if_neg (by omega)]
         rw [if_neg (by omega), if_neg (by omega), if_neg (by omega), if_neg (by omega)]
         exact ⟨rfl, rfl⟩
       · rw [if_neg (by omega), if_neg (by omega), if_neg (by omega), if_pos rfl]
         rw [if_neg (by omega), if_neg (by omega), if_pos rfl]
         rw [if_neg (by omega), if_pos rfl, if_pos rfl]
         unfold mFd
         rw [← HK.out]
         refine ⟨rfl, ?_, ?_, ?_⟩ <;> (first | rfl | (congr 1; omega))
       · rw [hx, hy]
         refine ⟨?_, ?_⟩
         · have := HM1.out.grown HR2.out (O1.ne_ HM1.out HH1.out (by decide))
           simpa [mFd] using this
         · have := HM2.out
           simpa [mFd] using this
       · rw [qpB] at hi
         have hfi := (hF i (by rw [qpB]; exact hi)).2.2.2.2.1
         have b4 := hfi.bl.grown hg4 (qpG hfi.bl hN (by decide))
         have h4 := hfi.hv.grown hg4 (qpG hfi.hv hN (by decide))
         have d1 := qqK hD.1 hi hlt hij
         have d2 := qqK hD.2 hi hlt hij
         rw [hx] at d1
         rw [hy] at d2
         have b1 := b4.grown HR1.out d1
         have h1 := h4.grown HR1.out (O1.ne_ h4 HB4.out (by decide))
         exact ⟨b1.grown HR2.out (O1.ne_ b1 HH1.out (by decide)), h1.grown HR2.out d2⟩
     · rw [hx] at hu4
       rw [hy] at hu5
       exact ((HG.out.trans (MK.grown hg4 (fun k hk => by cases hk; exact ⟨hgB, hgC⟩) (hN.off (by decide)))).trans (MK.grown HR1.out (fun k hk => ⟨(HB4.out.lt k hk).1, hu4 k hk⟩) (HB4.out.off (by decide)))).trans (MK.grown HR2.out (fun k hk => ⟨(HH1.out.lt k hk).1, hu5 k hk⟩) (HH1.out.off (by decide)))
    case measure => simp [intOf]; omega
  · obtain rfl : j = fs.length := by omega
    go_wp2
    go_ret
    exact ⟨rfl, ho, HG.out⟩
def mP (k j : Nat) : Int × Int := (((k + 2 * j : Nat) : Int), ((k + 2 * j + 1 : Nat) : Int))
set_option maxHeartbeats 800000 in
theorem qpM (l : List (Int × Int)) (v : Value) (k B C : Nat) (w : World) (hv : qct B C 52 w v l) (hl : l.length ≤ 2000000) (hk : k ≤ 1000000000) :
 Calls Tryz.prog 62 #[v, .int .i64 k] w fun e w' => e = .returned (.int .i64 ((k + 2 * l.length : Nat) : Int)) ∧ qct B C 52 w' v ((List.range l.length).map (mP k)) ∧ w.grownBy w' v.ownBlock := by
 have HV := hI_ hv
 obtain ⟨A, c, rfl⟩ := hv.r.sl
 clear hv
 go_enter Tryz.func62, Tryz.ntmps62
 go_wp2
 go_loopw [1, 5] (fun t i wr => ∃ j : Nat, j ≤ l.length ∧ i = .int .i64 j ∧ t = .int .i64 ((k + 2 * j : Nat) : Int) ∧ qct B C 52 wr (.slice A l.length c) (mk (mP k) j l) ∧ w.grownBy wr (Value.slice A l.length c).ownBlock) (fun _ i _ => l.length - (intOf i).toNat)
 case atStart => exact ⟨0, Nat.zero_le _, rfl, rfl, by simpa [mk] using HV.out, qii _ _⟩
 case round =>
  obtain ⟨j, hj, rfl, rfl, ho, hg⟩ := hrel
  have HG := hI_ hg
  clear hg
  by_cases hlt : j < l.length
  · obtain ⟨hU, F, hN, hF⟩ := ho
    have hml : (mk (mP k) j l).length = l.length := qpw hj
    rw [hml] at hN
    obtain ⟨g, cap, hA, hgB, hgs⟩ := hN.form (by omega)
    cases hA
    obtain ⟨K, HK⟩ : ∃ K : Int, Hid (((k + 2 * j : Nat) : Int) = K) := ⟨_, hI_ rfl⟩
    have hK0 : 0 ≤ K := by rw [← HK.out]; omega
    have hK1 : K ≤ 2000000000 := by rw [← HK.out]; omega
    obtain ⟨d0, f0⟩ := hN.at_ (t := j * 2) (by omega)
    obtain ⟨d1, f1⟩ := hN.at_ (t := j * 2 + 1) (by omega)
    have HP := hI_ (hN.put2 hlt (.int .i64 K) (.int .i64 (K + 1)))
    have HF := hI_ hF
    have HML := hI_ hml
    have HU := hI_ hU
    rw [HK.out]
    clear hN hF hml hU
    go_wp2
    go_roundw
    case rel =>
     refine ⟨j + 1, by omega, by go_num, by have := HK.out; go_num, ⟨HU.out, _, by rw [qpw (by omega)]; exact HP.out.1, fun i hi => ?_⟩, qat HG.out HP.out.2⟩
     have hi' : i < l.length := by rw [qpw (by omega)] at hi; exact hi
     by_cases hij : i = j
     · subst hij
       have hgi : (mk (mP k) (i + 1) l)[i]'(by rw [qpw (by omega)]; exact hi') = mP k i := by simp [mk, List.getElem_append_left]
       rw [hgi, if_neg (by omega), if_pos rfl, if_pos rfl]
       unfold mP
       exact ⟨by rw [← HK.out], by congr 1; rw [← HK.out]; simp only []; omega⟩
     · have hfi := HF.out i (by rw [HML.out]; exact hi')
       have hgi : (mk (mP k) (j + 1) l)[i]'(by rw [qpw (by omega)]; exact hi') = (mk (mP k) j l)[i]'(by rw [HML.out]; exact hi') := by
        have hst := qpW (f := mP k) hlt
        have : (mk (mP k) (j + 1) l)[i]'(by rw [qpw (by omega)]; exact hi') = ((mk (mP k) j l).set j (mP k j))[i]'(by rw [List.length_set, HML.out]; exact hi') := by simp only [hst]
        rw [this, List.getElem_set_ne (fun h => hij h.symm)]
       rw [hgi, if_neg (by omega), if_neg (by omega), if_neg (by omega), if_neg (by omega)]
       exact hfi
    case measure => simp [intOf]; omega
  · obtain rfl : j = l.length := by omega
    rw [qqq] at ho
    have HO := hI_ ho
    clear ho
    go_wp2
    go_ret
    exact ⟨rfl, HO.out, HG.out⟩
set_option maxHeartbeats 800000 in
theorem qqo (l : List (Int × Int)) (v : Value) (k B C : Nat) (w : World) (hv : qct B C 118 w v l) (hl : l.length ≤ 2000000) (hk : k ≤ 1000000000) :
 Calls Tryz.prog 128 #[v, .int .i64 k] w fun e w' => e = .returned (.int .i64 ((k + 2 * l.length : Nat) : Int)) ∧ qct B C 118 w' v ((List.range l.length).map (mP k)) ∧ w.grownBy w' v.ownBlock := by
 have HV := hI_ hv
 obtain ⟨A, c, rfl⟩ := hv.r.sl
 clear hv
 go_enter Tryz.func128, Tryz.ntmps128
 go_wp2
 go_loopw [1, 5] (fun t i wr => ∃ j : Nat, j ≤ l.length ∧ i = .int .i64 j ∧ t = .int .i64 ((k + 2 * j : Nat) : Int) ∧ qct B C 118 wr (.slice A l.length c) (mk (mP k) j l) ∧ w.grownBy wr (Value.slice A l.length c).ownBlock) (fun _ i _ => l.length - (intOf i).toNat)
 case atStart => exact ⟨0, Nat.zero_le _, rfl, rfl, by simpa [mk] using HV.out, qii _ _⟩
 case round =>
  obtain ⟨j, hj, rfl, rfl, ho, hg⟩ := hrel
  have HG := hI_ hg
  clear hg
  by_cases hlt : j < l.length
  · obtain ⟨hU, F, hN, hF⟩ := ho
    have hml : (mk (mP k) j l).length = l.length := qpw hj
    rw [hml] at hN
    obtain ⟨g, cap, hA, hgB, hgs⟩ := hN.form (by omega)
    cases hA
    obtain ⟨K, HK⟩ : ∃ K : Int, Hid (((k + 2 * j : Nat) : Int) = K) := ⟨_, hI_ rfl⟩
    have hK0 : 0 ≤ K := by rw [← HK.out]; omega
    have hK1 : K ≤ 2000000000 := by rw [← HK.out]; omega
    obtain ⟨d0, f0⟩ := hN.at_ (t := j * 2) (by omega)
    obtain ⟨d1, f1⟩ := hN.at_ (t := j * 2 + 1) (by omega)
    have HP := hI_ (hN.put2 hlt (.int .i64 K) (.int .i64 (K + 1)))
    have HF := hI_ hF
    have HML := hI_ hml
    have HU := hI_ hU
    rw [HK.out]
    clear hN hF hml hU
    go_wp2
    go_roundw
    case rel =>
     refine ⟨j + 1, by omega, by go_num, by have := HK.out; go_num, ⟨HU.out, _, by rw [qpw (by omega)]; exact HP.out.1, fun i hi => ?_⟩, qat HG.out HP.out.2⟩
     have hi' : i < l.length := by rw [qpw (by omega)] at hi; exact hi
     by_cases hij : i = j
     · subst hij
       have hgi : (mk (mP k) (i + 1) l)[i]'(by rw [qpw (by omega)]; exact hi') = mP k i := by simp [mk, List.getElem_append_left]
       rw [hgi, if_neg (by omega), if_pos rfl, if_pos rfl]
       unfold mP
       exact ⟨by rw [← HK.out], by congr 1; rw [← HK.out]; simp only []; omega⟩
     · have hfi := HF.out i (by rw [HML.out]; exact hi')
       have hgi : (mk (mP k) (j + 1) l)[i]'(by rw [qpw (by omega)]; exact hi') = (mk (mP k) j l)[i]'(by rw [HML.out]; exact hi') := by
        have hst := qpW (f := mP k) hlt
        have : (mk (mP k) (j + 1) l)[i]'(by rw [qpw (by omega)]; exact hi') = ((mk (mP k) j l).set j (mP k j))[i]'(by rw [List.length_set, HML.out]; exact hi') := by simp only [hst]
        rw [this, List.getElem_set_ne (fun h => hij h.symm)]
       rw [hgi, if_neg (by omega), if_neg (by omega), if_neg (by omega), if_neg (by omega)]
       exact hfi
    case measure => simp [intOf]; omega
  · obtain rfl : j = l.length := by omega
    rw [qqq] at ho
    have HO := hI_ ho
    clear ho
    go_wp2
    go_ret
    exact ⟨rfl, HO.out, HG.out⟩
def lw (l : List (Int × Int)) : Nat := 2 * l.length
def qpR (k : Nat) (ls : List (List (Int × Int))) (j : Nat) : Nat := k + qpu lw (ls.take j)
theorem qpX {k : Nat} {ls : List (List (Int × Int))} {j : Nat} (h : j < ls.length) : qpR k ls (j + 1) = qpR k ls j + lw ls[j] := by unfold qpR; rw [qpz lw h]; omega
theorem qqs {k : Nat} {ls : List (List (Int × Int))} : qpR k ls 0 = k := by simp [qpR, qpu]
theorem qqB {k : Nat} {ls : List (List (Int × Int))} : ∀ d j, j + d = ls.length → qpR k ls j ≤ qpR k ls ls.length
 | 0, j, h => by rw [show j = ls.length by omega]; exact nr_ _
 | d + 1, j, h => Nat.le_trans (by rw [qpX (by omega)]; omega) (qqB d (j + 1) (by omega))
def mL (k : Nat) (l : List (Int × Int)) : List (Int × Int) := (List.range l.length).map (mP k)
def mLs (k : Nat) (ls : List (List (Int × Int))) (m : Nat) : List (List (Int × Int)) := (List.range ls.length).map fun j => if j < m then mL (qpR k ls j) (ls.getD j []) else ls.getD j []
theorem qpD {k : Nat} {ls : List (List (Int × Int))} {m : Nat} : (mLs k ls m).length = ls.length := by simp [mLs]
theorem qpU {k : Nat} {ls : List (List (Int × Int))} {m j : Nat} (hj : j < (mLs k ls m).length) : (mLs k ls m)[j] = if j < m then mL (qpR k ls j) (ls.getD j []) else ls.getD j [] := by simp [mLs]
theorem qrl {k : Nat} {ls : List (List (Int × Int))} : mLs k ls 0 = ls := by
 apply List.ext_getElem qpD
 intro j h1 h2
 rw [qpU, if_neg (by omega), qam h2]
set_option maxHeartbeats 1600000 in
theorem qpK (ls : List (List (Int × Int))) (v : Value) (k B C : Nat) (w : World) (hv : qcA B C w v ls) (hk : qpR k ls ls.length ≤ 100000000) (hz : ∀ j (hj : j < ls.length), ls[j].length ≤ 1048576) :
 Calls Tryz.prog 63 #[v, .int .i64 k] w fun e w' => e = .returned (.int .i64 ((qpR k ls ls.length : Nat) : Int)) ∧ qcA B C w' v (mLs k ls ls.length) ∧ MK NA B C w w' := by
 have HV := hI_ hv
 obtain ⟨A, c, rfl⟩ := hv.r.sl
 have hm := hv.r.len
 have HZ := hI_ hz
 unfold maxLen at hm
 clear hv hz
 go_enter Tryz.func63, Tryz.ntmps63
 go_wp2
 go_loopw [1, 5] (fun t i wr => ∃ j : Nat, j ≤ ls.length ∧ i = .int .i64 j ∧ t = .int .i64 ((qpR k ls j : Nat) : Int) ∧ qcA B C wr (.slice A ls.length c) (mLs k ls j) ∧ MK NA B C w wr) (fun _ i _ => ls.length - (intOf i).toNat)
 case atStart => exact ⟨0, Nat.zero_le _, rfl, by rw [qqs], by rw [qrl]; exact HV.out, MK.refl _ _ _ _⟩
 case round =>
  obtain ⟨j, hj, rfl, rfl, ho, hg⟩ := hrel
  have HG := hI_ hg
  clear hg
  by_cases hlt : j < ls.length
  · obtain ⟨q, HQ⟩ : ∃ q, Hid (qpR k ls j = q) := ⟨_, hI_ rfl⟩
    have hqb : q ≤ 100000000 := by rw [← HQ.out]; exact Nat.le_trans (qqB (ls.length - j) j (by omega)) hk
    obtain ⟨hU, F, hN, hF, hD⟩ := ho
    rw [qpD] at hN hD
    obtain ⟨g, cap, hA, hgB, hgs⟩ := hN.form (by omega)
    cases hA
    have hFj := hF j (by rw [qpD]; exact hlt)
    rw [qpU, if_neg (Nat.lt_irrefl j), qam hlt] at hFj
    have hzj := HZ.out j hlt
    obtain ⟨l0, HL0⟩ : ∃ f, Hid (ls[j] = f) := ⟨_, hI_ rfl⟩
    rw [HL0.out] at hFj hzj
    obtain ⟨xA, xc, hx⟩ := hFj.r.sl
    have e0 := (hN.at_ (t := j) (by omega)).1
    rw [hx] at e0
    have HP := hI_ (show _ ∧ _ ∧ _ ∧ _ ∧ _ from ⟨hU, hN, hF, hD, hFj⟩)
    rw [hx] at hFj
    have HJ := hI_ hFj
    have HX := hI_ hx
    rw [HQ.out]
    clear hU hN hF hD hFj hx
    go_wp2_with fail
    refine (qqo l0 _ q B C wr HJ.out (by omega) (by omega)).mono ?_
    rintro e w1 ⟨rfl, hm1, hr1⟩
    obtain ⟨K2, HK2⟩ : ∃ K : Int, Hid (((q + 2 * l0.length : Nat) : Int) = K) := ⟨_, hI_ rfl⟩
    rw [HK2.out]
    have HM1 := hI_ hm1
    have HR1 := hI_ hr1
    clear hm1 hr1 e0
    go_wp2
    go_roundw
    case rel =>
     obtain ⟨hU, hN, hF, hD, hFj⟩ := HP.out
     have hx := HX.out
     obtain ⟨-, FJ, hNJ, -⟩ := HJ.out
     refine ⟨j + 1, by omega, by go_num, ?_, ⟨hU, F, ?_, fun i hi => ?_, ?_⟩, ?_⟩
     · rw [qpX hlt, HQ.out, HL0.out, ← HK2.out]; rfl
     · rw [qpD]
       refine hN.grown HR1.out ?_
       rcases qpG hN hNJ (by decide) with h | h
       · exact .inl h
       · exact .inr h
     · rw [qpD] at hi
       rw [qpU]
       by_cases hij : i = j
       · subst hij
         rw [if_pos (by omega), qam hlt, HQ.out, HL0.out, hx]
         exact HM1.out
       · have hfi := hF i (by rw [qpD]; exact hi)
         rw [qpU] at hfi
         have hsame : (if i < j + 1 then mL (qpR k ls i) (ls.getD i []) else ls.getD i []) = (if i < j then mL (qpR k ls i) (ls.getD i []) else ls.getD i []) := by
          by_cases hlt2 : i < j
          · rw [if_pos hlt2, if_pos (by omega)]
          · rw [if_neg hlt2, if_neg (by omega)]
         rw [hsame]
         have d1 := qqK hD hi hlt hij
         rw [hx] at d1
         obtain ⟨u0, FI, u1, u2⟩ := hfi
         exact ⟨u0, FI, u1.grown HR1.out d1, u2⟩
     · rw [qpD]; exact hD
     · exact HG.out.trans (MK.grown HR1.out (fun k hk => ⟨(HJ.out.lt k hk).1, HJ.out.1 k hk⟩) (HJ.out.off (by decide)))
    case measure => simp [intOf]; omega
  · obtain rfl : j = ls.length := by omega
    go_wp2
    go_ret
    exact ⟨rfl, ho, HG.out⟩
def pw (p : Pc) : Nat := 5 + p.prf.length
def qpS (k : Nat) (ps : List Pc) (j : Nat) : Nat := k + qpu pw (ps.take j)
theorem qpY {k : Nat} {ps : List Pc} {j : Nat} (h : j < ps.length) : qpS k ps (j + 1) = qpS k ps j + pw ps[j] := by unfold qpS; rw [qpz pw h]; omega
theorem qqt {k : Nat} {ps : List Pc} : qpS k ps 0 = k := by simp [qpS, qpu]
theorem qqC {k : Nat} {ps : List Pc} : ∀ d j, j + d = ps.length → qpS k ps j ≤ qpS k ps ps.length
 | 0, j, h => by rw [show j = ps.length by omega]; exact nr_ _
 | d + 1, j, h => Nat.le_trans (by rw [qpY (by omega)]; omega) (qqC d (j + 1) (by omega))
def mPc (k : Nat) (p : Pc) : Pc := ⟨((k : Nat) : Int), ((k + 1 : Nat) : Int), ((k + 2 : Nat) : Int), ((k + 3 : Nat) : Int), mtx (k + 4), (List.range p.prf.length).map fun j => ((k + 5 + j : Nat) : Int)⟩
def mNs (k : Nat) (ps : List Pc) (m : Nat) : List Pc := (List.range ps.length).map fun j => if j < m then mPc (qpS k ps j) (ps.getD j Pc.none) else ps.getD j Pc.none
theorem qpA {k : Nat} {ps : List Pc} {m : Nat} : (mNs k ps m).length = ps.length := by simp [mNs]
theorem qpQ {k : Nat} {ps : List Pc} {m j : Nat} (hj : j < (mNs k ps m).length) : (mNs k ps m)[j] = if j < m then mPc (qpS k ps j) (ps.getD j Pc.none) else ps.getD j Pc.none := by simp [mNs]
theorem qrm {k : Nat} {ps : List Pc} : mNs k ps 0 = ps := by
 apply List.ext_getElem qpA
 intro j h1 h2
 rw [qpQ, if_neg (by omega), qam h2]
theorem ON.put4f {B g n cap : Nat} {e : TypeId} {w : World} {F : Nat → Value} (h : ON 6 B e w (.slice (some ⟨g, 0, none⟩) n cap) n F) {k : Nat} (hk : k < n) (x0 x1 x2 x3 : Value) :
 ON 6 B e ((((w.setCell ⟨g, k * 6, none⟩ x0).setCell ⟨g, k * 6 + 1, none⟩ x1).setCell ⟨g, k * 6 + 2, none⟩ x2).setCell ⟨g, k * 6 + 3, none⟩ x3) (.slice (some ⟨g, 0, none⟩) n cap) n
  (fun s => if s = k * 6 + 3 then x3 else if s = k * 6 + 2 then x2 else if s = k * 6 + 1 then x1 else if s = k * 6 then x0 else F s) ∧
  w.grownBy ((((w.setCell ⟨g, k * 6, none⟩ x0).setCell ⟨g, k * 6 + 1, none⟩ x1).setCell ⟨g, k * 6 + 2, none⟩ x2).setCell ⟨g, k * 6 + 3, none⟩ x3) (some g) := h.put4 hk x0 x1 x2 x3
set_option maxHeartbeats 3200000 in
theorem qpI (ps : List Pc) (v : Value) (k B C : Nat) (w : World) (hv : qbd B C w v ps) (hk : qpS k ps ps.length ≤ 100000000) (hz : ∀ j (hj : j < ps.length), ps[j].prf.length ≤ 1048576) :
 Calls Tryz.prog 64 #[v, .int .i64 k] w fun e w' => e = .returned (.int .i64 ((qpS k ps ps.length : Nat) : Int)) ∧ qbd B C w' v (mNs k ps ps.length) ∧ MK NN B C w w' := by
 have HV := hI_ hv
 obtain ⟨A, c, rfl⟩ := hv.r.sl
 have hm := hv.r.len
 have HZ := hI_ hz
 unfold maxLen at hm
 clear hv hz
 go_enter Tryz.func64, Tryz.ntmps64
 go_wp2
 go_loopw [1, 5] (fun t i wr => ∃ j : Nat, j ≤ ps.length ∧ i = .int .i64 j ∧ t = .int .i64 ((qpS k ps j : Nat) : Int) ∧ qbd B C wr (.slice A ps.length c) (mNs k ps j) ∧ MK NN B C w wr) (fun _ i _ => ps.length - (intOf i).toNat)
 case atStart => exact ⟨0, Nat.zero_le _, rfl, by rw [qqt], by rw [qrm]; exact HV.out, MK.refl _ _ _ _⟩
 case round =>
  obtain ⟨j, hj, rfl, rfl, ho, hg⟩ := hrel
  have HG := hI_ hg
  clear hg
  by_cases hlt : j < ps.length
  · obtain ⟨q, HQ⟩ : ∃ q, Hid (qpS k ps j = q) := ⟨_, hI_ rfl⟩
    have hqb : q ≤ 100000000 := by rw [← HQ.out]; exact Nat.le_trans (qqC (ps.length - j) j (by omega)) hk
    obtain ⟨hU, F, hN, hF, hD⟩ := ho
    rw [qpA] at hN hD
    obtain ⟨g, cap, hA, hgB, hgs⟩ := hN.form (by omega)
    cases hA
    have hgC : g < C := hU g rfl
    have hFj := hF j (by rw [qpA]; exact hlt)
    rw [qpQ, if_neg (Nat.lt_irrefl j), qam hlt] at hFj
    have hzj := HZ.out j hlt
    obtain ⟨f0, HF0⟩ : ∃ f, Hid (ps[j] = f) := ⟨_, hI_ rfl⟩
    rw [HF0.out] at hFj hzj
    obtain ⟨-, -, -, -, -, hfo, hu5⟩ := hFj
    obtain ⟨xA, xc, hx⟩ := hfo.sl
    obtain ⟨⟨u0, e0⟩, f0'⟩ : (∃ u, wr.cell? ⟨g, j * 6, none⟩ = some u) ∧ wr.frozen? ⟨g, j * 6, none⟩ = false := by have := hN.at_ (t := j * 6) (by omega); exact ⟨⟨_, this.1⟩, this.2⟩
    obtain ⟨⟨u1, e1⟩, f1'⟩ : (∃ u, wr.cell? ⟨g, j * 6 + 1, none⟩ = some u) ∧ wr.frozen? ⟨g, j * 6 + 1, none⟩ = false := by have := hN.at_ (t := j * 6 + 1) (by omega); exact ⟨⟨_, this.1⟩, this.2⟩
    obtain ⟨⟨u2, e2⟩, f2'⟩ : (∃ u, wr.cell? ⟨g, j * 6 + 2, none⟩ = some u) ∧ wr.frozen? ⟨g, j * 6 + 2, none⟩ = false := by have := hN.at_ (t := j * 6 + 2) (by omega); exact ⟨⟨_, this.1⟩, this.2⟩
    obtain ⟨⟨u3, e3⟩, f3'⟩ : (∃ u, wr.cell? ⟨g, j * 6 + 3, none⟩ = some u) ∧ wr.frozen? ⟨g, j * 6 + 3, none⟩ = false := by have := hN.at_ (t := j * 6 + 3) (by omega); exact ⟨⟨_, this.1⟩, this.2⟩
    obtain ⟨K, HK⟩ : ∃ K : Int, Hid (((q : Nat) : Int) = K) := ⟨_, hI_ rfl⟩
    have hK0 : 0 ≤ K := by rw [← HK.out]; omega
    have hK1 : K ≤ 1000000000 := by rw [← HK.out]; omega
    have hp := hN.put4f hlt (.int .i64 K) (.int .i64 (K + 1)) (.int .i64 (K + 1 + 1)) (.int .i64 (K + 1 + 1 + 1))
    obtain ⟨W4, HW4⟩ : ∃ W4, Hid ((((wr.setCell ⟨g, j * 6, none⟩ (.int .i64 K)).setCell ⟨g, j * 6 + 1, none⟩ (.int .i64 (K + 1))).setCell ⟨g, j * 6 + 2, none⟩ (.int .i64 (K + 1 + 1))).setCell ⟨g, j * 6 + 3, none⟩ (.int .i64 (K + 1 + 1 + 1)) = W4) := ⟨_, hI_ rfl⟩
    rw [HW4.out] at hp
    obtain ⟨hN4, hg4⟩ := hp
    have hfo4 := hfo.grown hg4 (qpG hfo hN (by decide))
    rw [hx] at hfo4
    have HP := hI_ (show _ ∧ _ ∧ _ ∧ _ ∧ _ ∧ _ ∧ _ ∧ _ from ⟨hU, hN, hF, hD, hN4, hg4, hfo, hu5⟩)
    have H4 := hI_ hfo4
    have HX := hI_ hx
    rw [HQ.out, HK.out]
    clear hU hN hF hD hN4 hg4 hfo hu5 hfo4 hx hgs
    go_wp2_with fail
    rw [HW4.out]
    rw [show K + 1 + 1 + 1 + 1 = ((q + 4 : Nat) : Int) by rw [← HK.out]; omega]
    clear e0 e1 e2 e3 f0' f1' f2' f3'
    refine (qpH (q + 4) W4 (by omega)).mono ?_
    rintro e w5 ⟨rfl, hb5⟩
    have hN5 := HP.out.2.2.2.2.1.below hb5
    obtain ⟨d4, g4⟩ := hN5.at_ (t := j * 6 + 4) (by omega)
    obtain ⟨hN6, hg6⟩ := hN5.setAt (t := j * 6 + 4) (by omega) (.string (mtx (q + 4)))
    have h5 := H4.out.below hb5
    have h6 := h5.grown hg6 (qpG h5 hN5 (by decide))
    obtain ⟨T, HTT⟩ : ∃ T, Hid (mtx (q + 4) = T) := ⟨_, hI_ rfl⟩
    rw [HTT.out] at hN6 hg6 h6 ⊢
    obtain ⟨W6, HW6⟩ : ∃ W, Hid (w5.setCell ⟨g, j * 6 + 4, none⟩ (.string T) = W) := ⟨_, hI_ rfl⟩
    rw [HW6.out] at hN6 hg6 h6
    have e5 := (hN6.at_ (t := j * 6 + 5) (by omega)).1
    rw [if_neg (by omega), if_neg (by omega), if_neg (by omega), if_neg (by omega), if_neg (by omega), HX.out, ← HW6.out] at e5
    obtain ⟨K5, HK5⟩ : ∃ K : Int, Hid (((q + 4 : Nat) : Int) = K) := ⟨_, hI_ rfl⟩
    have hK5 : 0 ≤ K5 := by rw [← HK5.out]; omega
    have hK6 : K5 ≤ 1000000000 := by rw [← HK5.out]; omega
    have HG6 : Hid (wr.grownBy W6 (some g)) := hI_ (qat (qat HP.out.2.2.2.2.2.1 (qaP hb5)) hg6)
    have HN6 := hI_ hN6
    have HO6 := hI_ h6
    rw [HK5.out]
    clear hN5 hN6 hg6 h5 h6 hb5
    go_wp2_with fail
    rw [HW6.out]
    rw [show K5 + 1 = ((q + 5 : Nat) : Int) by rw [← HK5.out]; omega]
    clear d4 g4 e5
    refine (qqp f0.prf _ (q + 5) B W6 HO6.out (by omega) (by omega)).mono ?_
    rintro e w7 ⟨rfl, hm7, hr7⟩
    obtain ⟨K7, HK7⟩ : ∃ K : Int, Hid (((q + 5 + f0.prf.length : Nat) : Int) = K) := ⟨_, hI_ rfl⟩
    rw [HK7.out]
    have HM7 := hI_ hm7
    have HR7 := hI_ hr7
    clear hm7 hr7
    go_wp2
    go_roundw
    case rel =>
     obtain ⟨hU, hN, hF, hD, -, -, hfo, hu5⟩ := HP.out
     have hx := HX.out
     have hN7 := HN6.out.grown HR7.out (by
      rcases qpG HN6.out HO6.out (by decide) with h | h
      · exact .inl h
      · exact .inr h)
     refine ⟨j + 1, by omega, by go_num, ?_, ⟨hU, _, by rw [qpA]; exact hN7, fun i hi => ?_, ?_⟩, ?_⟩
     · rw [qpY hlt, HQ.out, HF0.out, ← HK7.out]; unfold pw; congr 1; omega
     · have hi' : i < ps.length := by rw [qpA] at hi; exact hi
       by_cases hij : i = j
       · subst hij
         have hgi : (mNs k ps (i + 1))[i]'(by rw [qpA]; exact hi') = mPc q f0 := by rw [qpQ, if_pos (by omega), qam hlt, HQ.out, HF0.out]
         rw [hgi]
         rw [if_neg (by omega), if_neg (by omega), if_neg (by omega), if_neg (by omega), if_pos rfl]
         rw [if_neg (by omega), if_neg (by omega), if_neg (by omega), if_pos rfl]
         rw [if_neg (by omega), if_neg (by omega), if_pos rfl]
         rw [if_neg (by omega), if_pos rfl, if_pos rfl]
         rw [if_neg (by omega), if_neg (by omega), if_neg (by omega), if_neg (by omega), if_neg (by omega)]
         unfold mPc
         rw [← HK.out, ← HTT.out]
         refine ⟨rfl, ?_, ?_, ?_, rfl, ?_, hu5⟩
         iterate 3
          · first | rfl | (congr 1; omega)
         · rw [hx]
           simpa using HM7.out
       · have hfi := hF i (by rw [qpA]; exact hi')
         have hsame : (if i < j + 1 then mPc (qpS k ps i) (ps.getD i Pc.none) else ps.getD i Pc.none) = (if i < j then mPc (qpS k ps i) (ps.getD i Pc.none) else ps.getD i Pc.none) := by
          by_cases hlt2 : i < j
          · rw [if_pos hlt2, if_pos (by omega)]
          · rw [if_neg hlt2, if_neg (by omega)]
         have hgi : (mNs k ps (j + 1))[i]'(by rw [qpA]; exact hi') = (mNs k ps j)[i]'(by rw [qpA]; exact hi') := by rw [qpQ, qpQ, hsame]
         rw [hgi]
         obtain ⟨a0, a1, a2, a3, a4, a5, a6⟩ := hfi
         rw [if_neg (by omega), if_neg (by omega), if_neg (by omega), if_neg (by omega), if_neg (by omega)]
         rw [if_neg (by omega), if_neg (by omega), if_neg (by omega), if_neg (by omega), if_neg (by omega)]
         rw [if_neg (by omega), if_neg (by omega), if_neg (by omega), if_neg (by omega), if_neg (by omega)]
         rw [if_neg (by omega), if_neg (by omega), if_neg (by omega), if_neg (by omega), if_neg (by omega)]
         rw [if_neg (by omega), if_neg (by omega), if_neg (by omega), if_neg (by omega), if_neg (by omega)]
         rw [if_neg (by omega), if_neg (by omega), if_neg (by omega), if_neg (by omega), if_neg (by omega)]
         have d1 := qqK hD hi' hlt hij
         rw [hx] at d1
         exact ⟨a0, a1, a2, a3, a4, (a5.grown HG6.out (qpG a5 hN (by decide))).grown HR7.out d1, a6⟩
     · rw [qpA]
       refine hD.congr fun i hi => ?_
       rw [if_neg (by omega), if_neg (by omega), if_neg (by omega), if_neg (by omega), if_neg (by omega)]
     · rw [hx] at hu5
       exact (HG.out.trans (MK.grown HG6.out (fun k hk => by cases hk; exact ⟨hgB, hgC⟩) (hN.off (by decide)))).trans (MK.grown HR7.out (fun k hk => ⟨(HO6.out.lt k hk).1, hu5 k hk⟩) (HO6.out.off (by decide)))
    case measure => simp [intOf]; omega
  · obtain rfl : j = ps.length := by omega
    go_wp2
    go_ret
    exact ⟨rfl, ho, HG.out⟩
end Go.Proofs.YtcplnfmcefkehaaGreat

/- Walks: marks and what is held. -/
import Derived.Test.YtcplnfmcefkehaaWs
import Derived.Laws.BytesString
namespace Go.Proofs.Ytcplnfmcefkehaa
open Go.RowKit

/-- The decimal digits of k ahead of some bytes. -/
def digF : Nat → Nat → List UInt8 → List UInt8
  | 0, _, acc => acc
  | f + 1, k, acc => if k = 0 then acc else digF f (k / 10) (UInt8.ofNat (48 + k % 10) :: acc)
def mtx (k : Nat) : ByteArray := if k = 0 then ⟨#[109, 48]⟩ else ⟨(109 :: digF 20 k []).toArray⟩

theorem conv_one (W : World) (x : Int) : (convert 74 9 (.slice (some ⟨W.heap.size, 0, none⟩) 1 1)).run Try.prog (W.alloc (.cells #[.int .u8 x] 5)) = .ok (.string ⟨[UInt8.ofNat x.toNat].toArray⟩) (W.alloc (.cells #[.int .u8 x] 5)) := by
  rw [run_convert_bytes_arg _ 74 5 Try.underlying74 Try.underlying5 W.heap.size 0 1 1 [x] rfl (fun i hi => by
    obtain rfl : i = 0 := by omega
    exact cell_of_row _ _ 0 _ _ _ (heap_alloc_new W _)) _ Try.underlying9]
  rfl

set_option maxHeartbeats 400000 in
set_option maxRecDepth 100000 in
theorem markText_any (k : Nat) (w : World) (hk : k ≤ 1000000000000) :
    Calls Try.prog 38 #[.int .i64 k] w fun e w' => e = .returned (.string (mtx k)) ∧ Below w.heap.size w w' := by
  by_cases h0 : k = 0
  · subst h0
    go_enter Try.func38, Try.ntmps38
    go_wp2
    go_ret
    exact ⟨rfl, Below.refl _ _⟩
  · have h1 : ¬ (k : Int) ≤ 0 := by omega
    have HM : Hid (mtx k = ⟨(109 :: digF 20 k []).toArray⟩) := Lib.hid (by unfold mtx; rw [if_neg h0])
    have HCV := Lib.hid (fun (W : World) (x : Int) => conv_one W x)
    go_enter Try.func38, Try.ntmps38
    go_wp2
    go_loopw [0, 3] (fun q s wr => ∃ (f m : Nat) (acc : List UInt8), m ≤ 1000000000000 ∧ q = .int .i64 m ∧ s = .string ⟨acc.toArray⟩ ∧ acc.length + f = 20 ∧ Hid (m < 10 ^ f ∧ digF f m acc = digF 20 k []) ∧ Below w.heap.size w wr) (fun q _ _ => (intOf q).toNat)
    case atStart => exact ⟨20, k, [], hk, rfl, rfl, rfl, Lib.hid ⟨by omega, rfl⟩, Below.refl _ _⟩
    case round =>
      obtain ⟨f, m, acc, hm, rfl, rfl, hf, HD, hb⟩ := hrel
      have hal : acc.toArray.size ≤ 20 := by simp; omega
      by_cases hz : m = 0
      · subst hz
        have HE : Hid (digF 20 k [] = acc) := Lib.hid (by
          rw [← HD.out.2]; cases f <;> simp [digF])
        go_wp2
        go_ret
        refine ⟨?_, hb⟩
        rw [HM.out, HE.out]
        show Ending.returned (Value.string (_ ++ _)) = _
        rw [show (⟨#[109]⟩ : ByteArray) = ⟨[109].toArray⟩ from rfl, ByteArray.mk_append_mk]
        rfl
      · have hm0 : (0 : Int) < (m : Int) := by omega
        have hcv := HCV.out wr (48 + (m : Int) % 10)
        have HE : Hid (∃ f', f = f' + 1 ∧ m / 10 < 10 ^ f' ∧ digF f' (m / 10) (UInt8.ofNat (48 + m % 10) :: acc) = digF 20 k []) := Lib.hid (by
          obtain ⟨h1, h2⟩ := HD.out
          cases f with
          | zero => omega
          | succ f => exact ⟨f, rfl, by rw [Nat.pow_succ] at h1; omega, by rw [← h2]; conv => { rhs; unfold digF }; rw [if_neg hz]⟩)
        go_wp2
        go_roundw
        case rel =>
          obtain ⟨f', rfl, h1, h2⟩ := HE.out
          refine ⟨f', m / 10, UInt8.ofNat (48 + m % 10) :: acc, by omega, by go_num, ?_, by simp; omega, Lib.hid ⟨h1, h2⟩, hb.alloc hb.size _⟩
          rw [ByteArray.mk_append_mk, UInt8.ofNat_add]
          rfl
        case measure => simp [intOf]; omega

theorem O1.form {α : Type} {enc : α → Value} {B : Nat} {e : TypeId} {w : World} {v : Value} {l : List α} (h : O1 enc B e w v l) (hl : 0 < l.length) :
    ∃ g cap, v = .slice (some ⟨g, 0, none⟩) l.length cap ∧ B ≤ g ∧ g < w.heap.size := by
  rcases h.2 with ⟨_, h0⟩ | ⟨g, cap, cur, hv, hg, hh, _⟩
  · omega
  · exact ⟨g, cap, hv, hg, (Array.getElem?_eq_some_iff.1 hh).1⟩
theorem O1.at_ {α : Type} {enc : α → Value} {B : Nat} {e : TypeId} {w : World} {g n cap : Nat} {l : List α} (h : O1 enc B e w (.slice (some ⟨g, 0, none⟩) n cap) l) {j : Nat} (hj : j < l.length) :
    w.cell? ⟨g, j, none⟩ = some (enc l[j]) ∧ w.frozen? ⟨g, j, none⟩ = false := by
  obtain ⟨h1, h2⟩ := h
  rcases h2 with ⟨hv, _⟩ | ⟨g', cap', cur, hv, hg, hh, hn, hc, hs, ht⟩
  · cases hv
  · cases hv
    refine ⟨?_, by simp [World.frozen?, hh]⟩
    rw [cell_of_row w g j cur e (0, 0) hh]
    have h3 : (l.map enc)[j]? = some (enc l[j]) := by simp [hj]
    rw [← ht, List.getElem?_take] at h3
    split at h3
    · simpa using h3
    · cases h3
theorem O1.setAt {α : Type} {enc : α → Value} {B : Nat} {e : TypeId} {w : World} {g n cap : Nat} {l : List α} (h : O1 enc B e w (.slice (some ⟨g, 0, none⟩) n cap) l) {j : Nat} (hj : j < l.length) (x : α) :
    O1 enc B e (w.setCell ⟨g, j, none⟩ (enc x)) (.slice (some ⟨g, 0, none⟩) n cap) (l.set j x) ∧ w.grownBy (w.setCell ⟨g, j, none⟩ (enc x)) (some g) := by
  refine ⟨?_, ⟨rfl, rfl, rfl, by simp [World.setCell], fun k _ hk => Below.heap_setCell w ⟨g, j, none⟩ _ k (fun e => hk (by rw [e]))⟩⟩
  obtain ⟨h1, h2⟩ := h
  rcases h2 with ⟨hv, _⟩ | ⟨g', cap', cur, hv, hg, hh, hn, hc, hs, ht⟩
  · cases hv
  · injection hv with e1 e2 e3
    injection e1 with e1
    injection e1 with e1 _ _
    subst e1 e2 e3
    refine ⟨by simp, .inr ⟨g, cap, cur.setIfInBounds j (enc x), by simp, hg, ?_, by simpa using hn, hc, by simpa using hs, ?_⟩⟩
    · simp [World.setCell, Array.getElem?_modify, hh]
    · simp only [Nat.mul_one, List.length_set] at ht ⊢
      rw [Array.toList_setIfInBounds, List.take_set, ht, List.map_set]
/-- A row whose first j cells are marked. -/
def mk {α : Type} (f : Nat → α) (j : Nat) (l : List α) : List α := (List.range j).map f ++ l.drop j
theorem mk_len {α : Type} {f : Nat → α} {j : Nat} {l : List α} (h : j ≤ l.length) : (mk f j l).length = l.length := by simp [mk]; omega
theorem mk_step {α : Type} {f : Nat → α} {j : Nat} {l : List α} (h : j < l.length) : (mk f j l).set j (f j) = mk f (j + 1) l := by
  unfold mk
  rw [List.set_append_right _ _ (by simp), List.range_succ, List.map_append, List.append_assoc]
  rw [List.length_map, List.length_range, Nat.sub_self, List.drop_eq_getElem_cons h]; rfl
theorem mk_all {α : Type} {f : Nat → α} {l : List α} : mk f l.length l = (List.range l.length).map f := by simp [mk]
theorem grow_trans {a b c : World} {row : Option Nat} (h : a.grownBy b row) (k : b.grownBy c row) : a.grownBy c row :=
  ⟨k.os.trans h.os, k.tape.trans h.tape, k.output.trans h.output, Nat.le_trans h.size k.size, fun i hi hne => (k.block i (Nat.lt_of_lt_of_le hi h.size) hne).trans (h.block i hi hne)⟩
theorem grow_below {a b : World} {row : Option Nat} (h : Below a.heap.size a b) : a.grownBy b row := ⟨h.os, h.tape, h.output, h.size, fun i hi _ => h.block i hi⟩
theorem grow_refl (a : World) (row : Option Nat) : a.grownBy a row := ⟨rfl, rfl, rfl, Nat.le_refl _, fun _ _ _ => rfl⟩

/-- What a call of a mark function leaves. -/
def MarkPost {α : Type} (enc : α → Value) (B : Nat) (e : TypeId) (f : Nat → α) (k : Nat) (v : Value) (n : Nat) (w : World) (en : Ending) (w' : World) : Prop :=
  en = .returned (.int .i64 ((k + n : Nat) : Int)) ∧ O1 enc B e w' v ((List.range n).map f) ∧ w.grownBy w' v.ownBlock
set_option maxHeartbeats 400000 in
theorem markIntS_any (l : List Int) (v : Value) (k B : Nat) (w : World) (hv : O1 (Value.int .i64) B 3 w v l) (hl : l.length ≤ 2000000) (hk : k ≤ 1000000000) :
    Calls Try.prog 39 #[v, .int .i64 k] w (MarkPost (Value.int .i64) B 3 (fun j => ((k + j : Nat) : Int)) k v l.length w) := by
  have HV := Lib.hid hv
  obtain ⟨A, c, rfl, h1, h2, h3⟩ := hv.r1
  clear h1 h2 h3 hv
  go_enter Try.func39, Try.ntmps39
  go_wp2
  go_loopw [1, 5] (fun t i wr => ∃ j : Nat, j ≤ l.length ∧ i = .int .i64 j ∧ t = .int .i64 ((k + j : Nat) : Int) ∧ O1 (Value.int .i64) B 3 wr (.slice A l.length c) (mk (fun j => ((k + j : Nat) : Int)) j l) ∧ w.grownBy wr (Value.slice A l.length c).ownBlock) (fun _ i _ => l.length - (intOf i).toNat)
  case atStart => exact ⟨0, Nat.zero_le _, rfl, rfl, HV.out, grow_refl _ _⟩
  case round =>
    obtain ⟨j, hj, rfl, rfl, ho, hg⟩ := hrel
    by_cases hlt : j < l.length
    · obtain ⟨g, cap, hA, hgB, hgs⟩ := ho.form (by rw [mk_len hj]; omega)
      rw [mk_len hj] at hA
      cases hA
      have hml : j < (mk (fun j => ((k + j : Nat) : Int)) j l).length := by rw [mk_len hj]; exact hlt
      have HM := Lib.hid (mk_step (f := fun j => ((k + j : Nat) : Int)) hlt)
      obtain ⟨e1, e2⟩ := ho.at_ hml
      have HS := Lib.hid (ho.setAt hml (((k + j : Nat) : Int)))
      have e1' : ∃ u, wr.cell? ⟨g, j, none⟩ = some u := ⟨_, e1⟩
      clear e1
      obtain ⟨u, e1⟩ := e1'
      go_wp2
      go_roundw
      case rel => exact ⟨j + 1, by omega, by go_num, by go_num, by rw [← HM.out]; exact HS.out.1, grow_trans hg HS.out.2⟩
      case measure => simp [intOf]; omega
    · obtain rfl : j = l.length := by omega
      go_wp2
      go_ret
      exact ⟨rfl, by rw [← mk_all]; exact ho, hg⟩
set_option maxHeartbeats 400000 in
theorem markBoolS_any (l : List Bool) (v : Value) (k B : Nat) (w : World) (hv : O1 (Value.bool) B 4 w v l) (hl : l.length ≤ 2000000) (hk : k ≤ 1000000000) :
    Calls Try.prog 36 #[v, .int .i64 k] w (MarkPost (Value.bool) B 4 (fun j => ((k + j) % 3 == 0)) k v l.length w) := by
  have HV := Lib.hid hv
  obtain ⟨A, c, rfl, h1, h2, h3⟩ := hv.r1
  clear h1 h2 h3 hv
  go_enter Try.func36, Try.ntmps36
  go_wp2
  go_loopw [1, 5] (fun t i wr => ∃ j : Nat, j ≤ l.length ∧ i = .int .i64 j ∧ t = .int .i64 ((k + j : Nat) : Int) ∧ O1 (Value.bool) B 4 wr (.slice A l.length c) (mk (fun j => ((k + j) % 3 == 0)) j l) ∧ w.grownBy wr (Value.slice A l.length c).ownBlock) (fun _ i _ => l.length - (intOf i).toNat)
  case atStart => exact ⟨0, Nat.zero_le _, rfl, rfl, HV.out, grow_refl _ _⟩
  case round =>
    obtain ⟨j, hj, rfl, rfl, ho, hg⟩ := hrel
    by_cases hlt : j < l.length
    · obtain ⟨g, cap, hA, hgB, hgs⟩ := ho.form (by rw [mk_len hj]; omega)
      rw [mk_len hj] at hA
      cases hA
      have hml : j < (mk (fun j => ((k + j) % 3 == 0)) j l).length := by rw [mk_len hj]; exact hlt
      have HM := Lib.hid (mk_step (f := fun j => ((k + j) % 3 == 0)) hlt)
      obtain ⟨e1, e2⟩ := ho.at_ hml
      have HS := Lib.hid (ho.setAt hml (((k + j) % 3 == 0)))
      have e1' : ∃ u, wr.cell? ⟨g, j, none⟩ = some u := ⟨_, e1⟩
      clear e1
      obtain ⟨u, e1⟩ := e1'
      by_cases h3 : (k + j) % 3 = 0
      · have h3' : ((k : Int) + (j : Int)) % 3 = 0 := by omega
        have h4 : ((k + j) % 3 == 0) = true := by simp [h3]
        have HM2 := HM.out
        simp only [h4] at HM2
        rw [h4] at HS
        have HM := Lib.hid HM2
        clear h3 h4 HM2
        go_wp2
        go_roundw
        case rel => exact ⟨j + 1, by omega, by go_num, by go_num, by rw [← HM.out]; exact HS.out.1, grow_trans hg HS.out.2⟩
        case measure => simp [intOf]; omega
      have h3' : (((k : Int) + (j : Int)) % 3 == 0) = false := by simp; omega
      have h4 : ((k + j) % 3 == 0) = false := by simpa using h3
      have HM2 := HM.out
      simp only [h4] at HM2
      rw [h4] at HS
      have HM := Lib.hid HM2
      clear h3 h4 HM2
      go_wp2
      go_roundw
      case rel => exact ⟨j + 1, by omega, by go_num, by go_num, by rw [← HM.out]; exact HS.out.1, grow_trans hg HS.out.2⟩
      case measure => simp [intOf]; omega
    · obtain rfl : j = l.length := by omega
      go_wp2
      go_ret
      exact ⟨rfl, by rw [← mk_all]; exact ho, hg⟩
set_option maxHeartbeats 400000 in
theorem markStringS_any (l : List ByteArray) (v : Value) (k B : Nat) (w : World) (hv : O1 (Value.string) B 9 w v l) (hl : l.length ≤ 2000000) (hk : k ≤ 1000000000) :
    Calls Try.prog 35 #[v, .int .i64 k] w (MarkPost (Value.string) B 9 (fun j => mtx (k + j)) k v l.length w) := by
  have HV := Lib.hid hv
  obtain ⟨A, c, rfl, h1, h2, h3⟩ := hv.r1
  clear h1 h2 h3 hv
  go_enter Try.func35, Try.ntmps35
  go_wp2
  go_loopw [1, 5] (fun t i wr => ∃ j : Nat, j ≤ l.length ∧ i = .int .i64 j ∧ t = .int .i64 ((k + j : Nat) : Int) ∧ O1 (Value.string) B 9 wr (.slice A l.length c) (mk (fun j => mtx (k + j)) j l) ∧ w.grownBy wr (Value.slice A l.length c).ownBlock) (fun _ i _ => l.length - (intOf i).toNat)
  case atStart => exact ⟨0, Nat.zero_le _, rfl, rfl, HV.out, grow_refl _ _⟩
  case round =>
    obtain ⟨j, hj, rfl, rfl, ho, hg⟩ := hrel
    by_cases hlt : j < l.length
    · obtain ⟨g, cap, hA, hgB, hgs⟩ := ho.form (by rw [mk_len hj]; omega)
      rw [mk_len hj] at hA
      cases hA
      have hml : j < (mk (fun j => mtx (k + j)) j l).length := by rw [mk_len hj]; exact hlt
      have HM := Lib.hid (mk_step (f := fun j => mtx (k + j)) hlt)
      go_wp2_with fail
      refine (markText_any (k + j) _ (by omega)).mono ?_
      rintro e w1 ⟨rfl, hb1⟩
      have ho0 := ho
      have hg0 := hg
      have hgs0 := hgs
      clear ho hg hgs
      have ho := ho0.below hb1
      have hg := grow_trans hg0 (grow_below hb1)
      have hgs := Nat.lt_of_lt_of_le hgs0 hb1.size
      clear ho0 hg0 hgs0
      clear hb1
      clear wr
      obtain ⟨wr, rfl⟩ : ∃ wr : World, wr = w1 := ⟨_, rfl⟩
      obtain ⟨e1, e2⟩ := ho.at_ hml
      have HS := Lib.hid (ho.setAt hml (mtx (k + j)))
      have e1' : ∃ u, wr.cell? ⟨g, j, none⟩ = some u := ⟨_, e1⟩
      clear e1
      obtain ⟨u, e1⟩ := e1'
      go_wp2
      go_roundw
      case rel => exact ⟨j + 1, by omega, by go_num, by go_num, by rw [← HM.out]; exact HS.out.1, grow_trans hg HS.out.2⟩
      case measure => simp [intOf]; omega
    · obtain rfl : j = l.length := by omega
      go_wp2
      go_ret
      exact ⟨rfl, by rw [← mk_all]; exact ho, hg⟩

/-- What a call of a held function leaves. -/
def HeldPost (k n : Nat) (w : World) (en : Ending) (w' : World) : Prop := en = .returned (.int .i64 ((k + n : Nat) : Int)) ∧ Below w.heap.size w w'
theorem heldIntS_any (n : Nat) (v : Value) (k : Nat) (w : World) (hv : RI w v ((List.range n).map fun j => ((k + j : Nat) : Int))) (hl : n ≤ 2000000) (hk : k ≤ 1000000000) :
    Calls Try.prog 43 #[v, .int .i64 k] w (HeldPost k n w) := by
  obtain ⟨A, c, rfl, h1, h2, h3⟩ := hv
  simp only [List.length_map, List.length_range] at h1 h3 ⊢
  clear h1 h2
  go_enter Try.func43, Try.ntmps43
  go_wp2
  go_loop [1, 5] (fun t i => ∃ j : Nat, j ≤ n ∧ i = .int .i64 j ∧ t = .int .i64 ((k + j : Nat) : Int)) (fun _ i => n - (intOf i).toNat)
  case atStart => exact ⟨0, Nat.zero_le _, rfl, rfl⟩
  case round =>
    obtain ⟨j, hj, rfl, rfl⟩ := hrel
    by_cases hlt : j < n
    · obtain ⟨b, o, rfl, hb, hc⟩ := h3 (by omega)
      have hcell : w.cell? ⟨b, o + j, none⟩ = some (.int .i64 ((k : Int) + (j : Int))) := by
        have := hc j hlt
        simpa using this
      clear hc h3
      go_wp2
      go_round
      case rel => exact ⟨j + 1, by omega, by go_num, by go_num⟩
      case measure => simp [intOf]; omega
    · obtain rfl : j = n := by omega
      go_wp2
      go_ret
      exact ⟨rfl, Below.refl _ _⟩
theorem O1.sl {α : Type} {enc : α → Value} {B : Nat} {e : TypeId} {w : World} {v : Value} {l : List α} (h : O1 enc B e w v l) : ∃ A c, v = .slice A l.length c := by
  obtain ⟨A, c, h, _⟩ := h.r1; exact ⟨A, c, h⟩
end Go.Proofs.Ytcplnfmcefkehaa

/- Walks: FeedProve. | The plain law of a proof: the proof that is made of valid leaves is the one that the check takes. No condition. | The plain law of FeedProve; FeedPut as a plain function. No condition. | Walks: the laws' comparisons, at equal things. | Walks: the reader of a code. | Walks: the exact laws' conversions, marks and what is held. -/
import Derived.Test.YtcplnfmcefkehaaGreatBE
import Derived.Test.YtcplnfmcefkehaaGreatBA
import Derived.Deep.Draws
import Derived.Deep.OwnRows
namespace Go.Proofs.YtcplnfmcefkehaaGreat
open Go.RowKit

theorem fvalid_size {f : Fd} (h : fvalid f = true) : ∀ s ∈ f.bl, s.size ≤ 8 := by
  simp only [fvalid, Bool.and_eq_true, beq_iff_eq] at h
  obtain ⟨⟨⟨⟨_, h1⟩, h2⟩, h3⟩, _⟩ := h
  exact blocksOk_size (by omega) h3
theorem fvalid_len {f : Fd} (h : fvalid f = true) : f.bl.length = f.hv.length ∧ f.bl.length ≤ 16 ∧ (f.bl.length : Int) = f.hd.len := by
  simp only [fvalid, Bool.and_eq_true, beq_iff_eq, Bool.or_eq_true] at h
  obtain ⟨⟨⟨⟨⟨_, h0⟩, h1⟩, h2⟩, h3⟩, _⟩ := h
  refine ⟨by omega, ?_, h1⟩
  rcases h0 with h0 | h0
  · simp only [Hd.isZero, Bool.and_eq_true, beq_iff_eq] at h0; omega
  · simp only [hcheck, Bool.and_eq_true] at h0
    have := inB_true.1 h0.1.1.1.2; omega
theorem FeedValid_ib {f : Fd} {b : Bool} (hb : Hid (fvalid f = b)) (vb vh : Value) (w : World) (hf : FeedR w f vb vh) :
    Calls Tryz.prog 51 #[.agg #[.int .i64 f.pub, .int .i64 f.hd.len, .int .i64 f.hd.dg, .int .i64 f.hd.sg, vb, vh]] w fun e w' => e = .returned (.bool b) ∧ Below w.heap.size w w' := by
  rw [← hb.out]; exact FeedValid_i f vb vh w hf
theorem FeedValid_sb {f : Fd} {b : Bool} (hb : Hid (fvalid f = b)) (vb vh : Value) (w : World) (hf : FeedR w f vb vh) :
    Calls Tryz.prog 40 #[.agg #[.int .i64 f.pub, .int .i64 f.hd.len, .int .i64 f.hd.dg, .int .i64 f.hd.sg, vb, vh]] w fun e w' => e = .returned (.bool b) ∧ Below w.heap.size w w' := by
  rw [← hb.out]; exact FeedValid_s f vb vh w hf

end Go.Proofs.YtcplnfmcefkehaaGreat
namespace Go.Proofs.YtcplnfmcefkehaaGreat

theorem path_sibs (l : List Int) (i : Nat) : ∀ k, pathR i 0 (l.getD i 0) (sibs l i k) = rootN l k (i / 2 ^ k * 2 ^ k)
  | 0 => by simp [sibs, pathR, rootN]
  | k + 1 => by
    have hl : (sibs l i k).length = k := by simp [sibs]
    rw [sibs_snoc, pathR_snoc, path_sibs l i k, hl, Nat.zero_add]
    have e : i / 2 ^ (k + 1) = i / 2 ^ k / 2 := by rw [Nat.pow_succ, Nat.div_div_eq_div_mul]
    have e2 : (2 : Nat) ^ (k + 1) = 2 * 2 ^ k := by rw [Nat.pow_succ, Nat.mul_comm]
    rw [e, e2]
    conv => rhs; unfold rootN
    unfold sib
    generalize i / 2 ^ k = a
    generalize 2 ^ k = m
    by_cases h : a % 2 = 0
    · rw [if_pos h, if_pos h]
      have : a / 2 * (2 * m) = a * m := by rw [← Nat.mul_assoc]; congr 1; omega
      rw [this]
    · rw [if_neg h, if_neg h]
      have h1 : a * m = a / 2 * (2 * m) + m := by
        rw [← Nat.mul_assoc]
        have : a = a / 2 * 2 + 1 := by omega
        calc a * m = (a / 2 * 2 + 1) * m := by rw [← this]
          _ = a / 2 * 2 * m + m := by rw [Nat.add_mul, Nat.one_mul]
      rw [h1, Nat.add_sub_cancel]
theorem check_proof {l : List Int} (hl : l.length ≤ 16) {i : Nat} (hi : i < l.length) : checkAt (fold l.length (peaksOf l)) l.length i (l.getD i 0) (proofAt l i) = true := by
  obtain ⟨p1, p2, p3, p4, p5, p6, p7, p8, p9⟩ := pk_ok l.length (by omega) i hi
  have hs : (sibs l i (lev l.length i)).length = lev l.length i := by simp [sibs]
  have ho : (others l i).length = (trees 0 l.length).length - 1 := by simp [others, List.length_eraseIdx, p1]
  have hroot : rootN l (lev l.length i) (i / 2 ^ lev l.length i * 2 ^ lev l.length i) = rootT l (pkT l.length i) := by
    unfold rootT
    show _ = rootN l (lev l.length i) _
    congr 1
    rw [← p2, p9]
    congr 1
    have hpos : 0 < (pkT l.length i).2 := by omega
    generalize (pkT l.length i).1 = a at *
    generalize (pkT l.length i).2 = s at *
    have h1 : a / s * s ≤ i := by omega
    have h2 : i < a / s * s + s := by omega
    apply Nat.le_antisymm
    · have := Nat.div_lt_of_lt_mul (m := i) (n := s) (k := a / s + 1) (by rw [Nat.mul_add, Nat.mul_one, Nat.mul_comm]; exact h2)
      omega
    · exact (Nat.le_div_iff_mul_le hpos).2 h1
  unfold checkAt proofAt
  rw [List.length_append, hs, ho, List.take_left' hs, List.drop_left' hs, path_sibs, hroot]
  have hpk : (trees 0 l.length)[pkIdx l.length i] = pkT l.length i := by unfold pkT; rw [List.getD_eq_getElem?_getD, List.getElem?_eq_getElem p1]; rfl
  have e : (others l i).take (pkIdx l.length i) ++ [rootT l (pkT l.length i)] ++ (others l i).drop (pkIdx l.length i) = peaksOf l := by
    unfold others peaksOf
    rw [List.eraseIdx_eq_take_drop_succ, List.map_append, ← hpk]
    have hlen : (List.map (rootT l) (List.take (pkIdx l.length i) (trees 0 l.length))).length = pkIdx l.length i := by simp; omega
    rw [List.take_left' hlen, List.drop_left' hlen]
    have := List.take_append_drop (pkIdx l.length i) (trees 0 l.length)
    rw [List.drop_eq_getElem_cons p1] at this
    conv => rhs; rw [← this, List.map_append, List.map_cons]
    rw [List.append_assoc]; rfl
  rw [e]
  simp
/-- A proof of a whole valid feed's block is taken. -/
theorem check_proofOf {l : List Int} {i : Int} (hl : leavesOk l = true) (hi : inB i 0 ((l.length : Int) - 1) = true) (hd : dig (l.getD i.toNat 0) = true) (hp : digs (proofOf l i) = true) :
    checkOf (treeD l) l.length i (l.getD i.toNat 0) (proofOf l i) = true := by
  have h1 := (leavesOk_true.1 hl).1
  have h2 := inB_true.1 hi
  unfold checkOf
  have hn : ((l.length : Int)).toNat = l.length := by simp
  rw [hn, hd, hp, hi, inB_true.2 (show (1 : Int) ≤ (l.length : Int) ∧ (l.length : Int) ≤ 16 by omega)]
  unfold treeD proofOf
  rw [hl, hi]
  simp only [if_true, Bool.true_and, Bool.and_self]
  exact check_proof h1 (by omega)
theorem proofAt_dig {l : List Int} (hl : l.length ≤ 16) (hd : digs l = true) {i : Nat} (hi : i < l.length) : digs (proofAt l i) = true := by
  have hk := sib_ok l.length (by omega) i hi
  unfold digs proofAt
  rw [List.all_append, Bool.and_eq_true]
  constructor
  · unfold sibs; rw [List.all_map, List.all_eq_true]
    intro j hj
    have hj' := List.mem_range.1 hj
    exact rootN_dig hd _ _ (hk j hj')
  · unfold others; rw [List.all_map, List.all_eq_true]
    intro t ht
    exact rootT_dig hd hl (Nat.zero_le _) (List.mem_of_mem_eraseIdx ht)
theorem proofOf_dig {l : List Int} (i : Int) : digs (proofOf l i) = true := by
  unfold proofOf
  split
  · rename_i h
    simp only [Bool.and_eq_true] at h
    have h1 := leavesOk_true.1 h.1
    have h2 := inB_true.1 h.2
    exact proofAt_dig h1.1 h1.2 (by omega)
  · rfl
end Go.Proofs.YtcplnfmcefkehaaGreat
namespace Go.Proofs.YtcplnfmcefkehaaGreat

theorem lvs_get {bl : List ByteArray} {i : Nat} (hi : i < bl.length) : (lvs bl).getD i 0 = textD bl[i].data.toList := by
  unfold lvs; rw [List.getD_eq_getElem?_getD, List.getElem?_map, List.getElem?_eq_getElem hi]; rfl
/-- A feed with block i stored. -/
def Fd.put (f : Fd) (i : Nat) (t : ByteArray) : Fd := { f with bl := f.bl.set i t, hv := f.hv.set i true }
def Fd.zero : Fd := ⟨0, ⟨0, 0, 0⟩, [], []⟩
/-- May the block be tried? -/
def fputMay (f : Fd) (i : Int) (t : ByteArray) (proof : List Int) : Bool :=
  inB i 0 ((f.bl.length : Int) - 1) && !(f.hv.getD i.toNat false) && checkOf f.hd.dg f.hd.len i (textD t.data.toList) proof
def fput (f : Fd) (i : Int) (t : ByteArray) (proof : List Int) : Fd × Bool :=
  if fvalid f && decide (t.size ≤ 8) then
    if fputMay f i t proof && fvalid (f.put i.toNat t) then (f.put i.toNat t, true) else (f, false)
  else (Fd.zero, false)
theorem fput_true {f : Fd} {i : Int} {t : ByteArray} {proof : List Int} (h : (fput f i t proof).2 = true) : fvalid f = true ∧ t.size ≤ 8 ∧ fputMay f i t proof = true ∧ fvalid (f.put i.toNat t) = true ∧ (fput f i t proof).1 = f.put i.toNat t := by
  unfold fput at *
  split at h
  · rename_i h1
    rw [if_pos h1]
    split at h
    · rename_i h2
      rw [if_pos h2]
      simp only [Bool.and_eq_true, decide_eq_true_eq] at h1 h2
      exact ⟨h1.1, h1.2, h2.1, h2.2, rfl⟩
    · cases h
  · cases h
end Go.Proofs.YtcplnfmcefkehaaGreat
namespace Go.Proofs.YtcplnfmcefkehaaGreat
open Go.RowKit

theorem eqIntS_same (l : List Int) (va vb : Value) (w : World) (ha : R1 (Value.int .i64) w va l) (hb : R1 (Value.int .i64) w vb l) :
    Calls Tryz.prog 19 #[va, vb] w fun e w' => e = .returned (.bool true) ∧ Below w.heap.size w w' := by
  have HA := Lib.hid ha
  have HB := Lib.hid hb
  have hm := ha.len
  obtain ⟨A, c, rfl, h1, h2, h3⟩ := ha
  obtain ⟨A2, c2, rfl, q1, q2, q3⟩ := hb
  unfold maxLen at hm
  clear h3 q3 h1 q1 h2 q2
  have hnn : ((l.length : Int) != (l.length : Int)) = false := by simp
  go_enter Tryz.func19, Tryz.ntmps19
  go_wp2
  go_loopw [5] (fun i wr => ∃ k : Nat, k ≤ l.length ∧ i = .int .i64 k ∧ Below w.heap.size w wr) (fun i _ => l.length - (intOf i).toNat)
  case atStart => exact ⟨0, Nat.zero_le _, rfl, Below.refl _ _⟩
  case round =>
    obtain ⟨k, hk, rfl, hbw⟩ := hrel
    by_cases hlt : k < l.length
    · obtain ⟨_, _, hA, _, _, hc⟩ := HA.out.below hbw
      cases hA
      obtain ⟨b, o, rfl, hbs, hc⟩ := hc (by omega)
      have e1 := hc k hlt
      obtain ⟨_, _, hA, _, _, hc2⟩ := HB.out.below hbw
      cases hA
      obtain ⟨b', o', rfl, hbs', hc2⟩ := hc2 (by omega)
      have e2 := hc2 k hlt
      clear hc hc2
      generalize l[k] = x at *
      have hup := up_cell wr
      have hki : (k : Int) < (l.length : Int) := by omega
      have hk0 : (0 : Int) ≤ (k : Int) := by omega
      go_wp2
      refine wp_region_up (by kernel_rfl) (by kernel_rfl) ?_
      repeat (go_big_quiet_step (fail))
      refine wpQuiet_nil ?_
      intro w1 hw1
      have hb1 := of_up hw1
      clear hw1 hup
      go_wp2
      go_roundw
      case rel => exact ⟨k + 1, by omega, by go_num, hbw.trans (hb1.mono hbw.size)⟩
      case measure => simp [intOf]; omega
    · go_wp2
      go_ret
      exact ⟨rfl, hbw⟩

theorem sameInts_same (l : List Int) (va vb : Value) (w : World) (ha : R1 (Value.int .i64) w va l) (hb : R1 (Value.int .i64) w vb l) :
    Calls Tryz.prog 24 #[va, vb] w fun e w' => e = .returned (.bool true) ∧ Below w.heap.size w w' := by
  have HA := Lib.hid ha
  have HB := Lib.hid hb
  have hm := ha.len
  obtain ⟨A, c, rfl, h1, h2, h3⟩ := ha
  obtain ⟨A2, c2, rfl, q1, q2, q3⟩ := hb
  unfold maxLen at hm
  clear h3 q3 h1 q1 h2 q2
  have hnn : ((l.length : Int) != (l.length : Int)) = false := by simp
  go_enter Tryz.func24, Tryz.ntmps24
  go_wp2
  go_loopw [5] (fun i wr => ∃ k : Nat, k ≤ l.length ∧ i = .int .i64 k ∧ Below w.heap.size w wr) (fun i _ => l.length - (intOf i).toNat)
  case atStart => exact ⟨0, Nat.zero_le _, rfl, Below.refl _ _⟩
  case round =>
    obtain ⟨k, hk, rfl, hbw⟩ := hrel
    by_cases hlt : k < l.length
    · obtain ⟨_, _, hA, _, _, hc⟩ := HA.out.below hbw
      cases hA
      obtain ⟨b, o, rfl, hbs, hc⟩ := hc (by omega)
      have e1 := hc k hlt
      obtain ⟨_, _, hA, _, _, hc2⟩ := HB.out.below hbw
      cases hA
      obtain ⟨b', o', rfl, hbs', hc2⟩ := hc2 (by omega)
      have e2 := hc2 k hlt
      clear hc hc2
      generalize l[k] = x at *
      have hup := up_cell wr
      have hki : (k : Int) < (l.length : Int) := by omega
      have hk0 : (0 : Int) ≤ (k : Int) := by omega
      go_wp2
      refine wp_region_up (by kernel_rfl) (by kernel_rfl) ?_
      repeat (go_big_quiet_step (fail))
      refine wpQuiet_nil ?_
      intro w1 hw1
      have hb1 := of_up hw1
      clear hw1 hup
      go_wp2
      go_roundw
      case rel => exact ⟨k + 1, by omega, by go_num, hbw.trans (hb1.mono hbw.size)⟩
      case measure => simp [intOf]; omega
    · go_wp2
      go_ret
      exact ⟨rfl, hbw⟩

end Go.Proofs.YtcplnfmcefkehaaGreat
namespace Go.Proofs.YtcplnfmcefkehaaGreat
open Go.RowKit

/-- Block g holds a reader that has read at most P numbers. -/
def Rdr (w : World) (g P : Nat) : Prop :=
  ∃ (bs : List UInt8) (A : Option Addr) (c p : Nat), w.heap[g]? = some (.cells #[.slice A bs.length c, .int .i64 p] 137 (0, 0)) ∧ p ≤ P ∧ bs.length ≤ 2000 ∧ bs.length ≤ c ∧
    (0 < bs.length → ∃ b o, A = some ⟨b, o, none⟩ ∧ b < g ∧ ∀ j (hj : j < bs.length), w.cell? ⟨b, o + j, none⟩ = some (.int .u8 (bs[j].toNat : Int)))
theorem Rdr.mono {w : World} {g P Q : Nat} (h : Rdr w g P) (hPQ : P ≤ Q) : Rdr w g Q := by
  obtain ⟨bs, A, c, p, h1, h2, h3, h4, h5⟩ := h
  exact ⟨bs, A, c, p, h1, by omega, h3, h4, h5⟩
theorem Rdr.lt {w : World} {g P : Nat} (h : Rdr w g P) : g < w.heap.size := by
  obtain ⟨bs, A, c, p, h1, _⟩ := h
  exact (Array.getElem?_eq_some_iff.1 h1).1
theorem Rdr.keep {w w' : World} {g P : Nat} (h : Rdr w g P) (hb : ∀ k, k ≤ g → w'.heap[k]? = w.heap[k]?) : Rdr w' g P := by
  obtain ⟨bs, A, c, p, h1, h2, h3, h4, h5⟩ := h
  refine ⟨bs, A, c, p, (hb g (Nat.le_refl _)).trans h1, h2, h3, h4, fun hl => ?_⟩
  obtain ⟨b, o, hA, hbg, hc⟩ := h5 hl
  exact ⟨b, o, hA, hbg, fun j hj => (World.cell?_of_block (hb b (by omega))).trans (hc j hj)⟩
theorem Rdr.below {w w' : World} {g P : Nat} (h : Rdr w g P) (hb : Below w.heap.size w w') : Rdr w' g P := h.keep fun k hk => hb.block k (by have := h.lt; omega)
/-- Only block g and what is new has turned. -/
abbrev Only (g : Nat) (w w' : World) : Prop := w.grownBy w' (some g)
theorem Only.refl (g : Nat) (w : World) : Only g w w := ⟨rfl, rfl, rfl, Nat.le_refl _, fun _ _ _ => rfl⟩
theorem Only.trans {g : Nat} {a b c : World} (h : Only g a b) (k : Only g b c) : Only g a c :=
  ⟨k.os.trans h.os, k.tape.trans h.tape, k.output.trans h.output, Nat.le_trans h.size k.size, fun i hi hne => (k.block i (Nat.lt_of_lt_of_le hi h.size) hne).trans (h.block i hi hne)⟩
theorem Only.of_below {g : Nat} {a b : World} (h : Below a.heap.size a b) : Only g a b := ⟨h.os, h.tape, h.output, h.size, fun i hi _ => h.block i hi⟩
theorem Only.thenB {g : Nat} {a b c : World} (h : Only g a b) (k : Below b.heap.size b c) : Only g a c := h.trans (Only.of_below k)
theorem Only.below {g B : Nat} {a b : World} (h : Only g a b) (hB : B ≤ g) (hs : g < a.heap.size) : Below B a b := ⟨h.os, h.tape, h.output, h.size, fun k hk => h.block k (by omega) (fun e => by have : k = g := Option.some.inj e; omega)⟩
theorem O1.only {α : Type} {enc : α → Value} {B : Nat} {e : TypeId} {w w' : World} {v : Value} {l : List α} {g : Nat} (h : O1 enc B e w v l) (hb : Only g w w') (hg : g < B) : O1 enc B e w' v l := by
  refine ⟨h.1, ?_⟩
  rcases h.2 with hn | ⟨k, cap, cur, hv, hk, hh, r⟩
  · exact .inl hn
  · exact .inr ⟨k, cap, cur, hv, hk, (hb.block k (Array.getElem?_eq_some_iff.1 hh).1 (fun e => by have : k = g := Option.some.inj e; omega)).trans hh, r⟩

/-- What a call of pick leaves. -/
def PickPost (g P : Nat) (n : Int) (w : World) (e : Ending) (w' : World) : Prop :=
  ∃ x : Int, e = .returned (.int .i64 x) ∧ 0 ≤ x ∧ x < n ∧ Rdr w' g (P + 1) ∧ Only g w w'

theorem pick_rel {w w' : World} {g P p c : Nat} {bs : List UInt8} {A : Option Addr} (h : w.heap[g]? = some (.cells #[.slice A bs.length c, .int .i64 p] 137 (0, 0))) (hp : p ≤ P) (h3 : bs.length ≤ 2000) (h4 : bs.length ≤ c)
    (h5 : 0 < bs.length → ∃ b o, A = some ⟨b, o, none⟩ ∧ b < g ∧ ∀ j (hj : j < bs.length), w.cell? ⟨b, o + j, none⟩ = some (.int .u8 (bs[j].toNat : Int)))
    (hw : ∃ n, w' = (w.setCell ⟨g, 1, none⟩ (.int .i64 ((p : Int) + 1))).drewN n) : Rdr w' g (P + 1) ∧ Only g w w' := by
  obtain ⟨n, rfl⟩ := hw
  have ho : ∀ k, k ≠ g → ((w.setCell ⟨g, 1, none⟩ (.int .i64 ((p : Int) + 1))).drewN n).heap[k]? = w.heap[k]? := fun k hk => Below.heap_setCell w ⟨g, 1, none⟩ _ k hk
  refine ⟨⟨bs, A, c, p + 1, ?_, by omega, h3, h4, fun hl => ?_⟩, ⟨rfl, rfl, rfl, by simp [World.setCell, World.drewN], fun k _ hne => ho k (fun e => hne (by rw [e]))⟩⟩
  · show (w.setCell ⟨g, 1, none⟩ (.int .i64 ((p : Int) + 1))).heap[g]? = _
    simp only [World.setCell, Array.getElem?_modify, h, if_true, Option.map_some]
    simp
  · obtain ⟨b, o, hA, hb, hc⟩ := h5 hl
    exact ⟨b, o, hA, hb, fun j hj => (World.cell?_of_block (ho b (by omega))).trans (hc j hj)⟩

theorem pick_rng (X : Nat) (n : Int) (hX : X < 1000000000000) (hn : 1 ≤ n) : 0 ≤ (bits .xor .i64 (X : Int) ((X : Int) / 64)).tmod n ∧ (bits .xor .i64 (X : Int) ((X : Int) / 64)).tmod n < n := by
  have e : bits .xor .i64 (X : Int) ((X : Int) / 64) = ((X ^^^ (X / 64) : Nat) : Int) := by
    have hx : X ^^^ (X / 64) < 2 ^ 40 := Nat.xor_lt_two_pow (by omega) (by omega)
    rw [show (X : Int) / 64 = ((X / 64 : Nat) : Int) by omega]
    show IntKind.i64.wrap ((BitVec.ofInt 64 (X : Int) ^^^ BitVec.ofInt 64 ((X / 64 : Nat) : Int)).toNat : Int) = _
    rw [BitVec.toNat_xor, ofInt_nat X (by omega), ofInt_nat (X / 64) (by omega), IntKind.wrap_i64]
    omega
  rw [e, Int.tmod_eq_emod_of_nonneg (Int.natCast_nonneg _)]
  exact ⟨Int.emod_nonneg _ (by omega), Int.emod_lt_of_pos _ (by omega)⟩

set_option maxHeartbeats 1600000 in
set_option maxRecDepth 100000 in
theorem pick_any (g P : Nat) (n : Int) (w : World) (hr : Rdr w g P) (hn1 : 1 ≤ n) (hn2 : n ≤ 1000000) (hP : P ≤ 1000000000) :
    Calls Tryz.prog 66 #[.pointer (some ⟨g, 0, none⟩), .int .i64 n] w (PickPost g P n w) := by
  obtain ⟨bs, A, c, p, h1, h2, h3, h4, h5⟩ := hr
  have k0 : w.cell? ⟨g, 0, none⟩ = some (.slice A bs.length c) := cell_of_row w g 0 _ _ _ h1
  have k1 : w.cell? ⟨g, 1, none⟩ = some (.int .i64 p) := cell_of_row w g 1 _ _ _ h1
  have kf : w.frozen? ⟨g, 1, none⟩ = false := by simp [World.frozen?, h1]
  have HK := Lib.hid (fun (w' : World) => pick_rel (w' := w') h1 h2 h3 h4 h5)
  have m0 : (w.setCell ⟨g, 1, none⟩ (.int .i64 ((p : Int) + 1))).cell? ⟨g, 0, none⟩ = some (.slice A bs.length c) := by
    rw [World.cell?_setCell_other _ _ _ _ (by simp)]; exact k0
  have m1 : (w.setCell ⟨g, 1, none⟩ (.int .i64 ((p : Int) + 1))).cell? ⟨g, 1, none⟩ = some (.int .i64 ((p : Int) + 1)) := by
    simp [World.cell?, World.setCell, Array.getElem?_modify, h1]
  have H5 := Lib.hid h5
  have H1 := Lib.hid h1
  clear h1 h5
  by_cases hz : bs.length = 0
  · have hz' : ((bs.length : Int) == 0) = true := by simp [hz]
    clear hz
    go_enter Tryz.func66, Tryz.ntmps66
    go_wp2
    go_ret
    obtain ⟨r1, r2⟩ := HK.out (w.setCell ⟨g, 1, none⟩ (.int .i64 ((p : Int) + 1))) ⟨0, rfl⟩
    exact ⟨0, rfl, by omega, by omega, r1, r2⟩
  · have hz' : ((bs.length : Int) == 0) = false := by rw [beq_eq_false_iff_ne]; omega
    obtain ⟨b, o, rfl, hbg, hc⟩ := H5.out (by omega)
    by_cases hlt : p < bs.length
    · have hlt' : (p : Int) < (bs.length : Int) := by omega
      have hcell : (w.setCell ⟨g, 1, none⟩ (.int .i64 ((p : Int) + 1))).cell? ⟨b, o + p, none⟩ = some (.int .u8 (bs[p].toNat : Int)) := by
        rw [World.cell?_setCell_other _ _ _ _ (by intro e; injection e with e1; omega)]; exact hc p hlt
      have hb8 : (bs[p].toNat : Int) < 256 := by have := bs[p].toNat_lt; omega
      clear hc
      generalize bs[p].toNat = y at *
      have hy1 : 0 ≤ (y : Int) % n := Int.emod_nonneg _ (by omega)
      have hy2 : (y : Int) % n < n := Int.emod_lt_of_pos _ (by omega)
      go_enter Tryz.func66, Tryz.ntmps66
      go_wp2
      go_ret
      obtain ⟨r1, r2⟩ := HK.out (w.setCell ⟨g, 1, none⟩ (.int .i64 ((p : Int) + 1))) ⟨0, rfl⟩
      exact ⟨(y : Int) % n, rfl, hy1, hy2, r1, r2⟩
    · have hlt' : ¬ (p : Int) < (bs.length : Int) := by omega
      have hl1 : p % bs.length < bs.length := Nat.mod_lt _ (by omega)
      have hl2 : (p * 7 + 3) % bs.length < bs.length := Nat.mod_lt _ (by omega)
      have c1 : (w.setCell ⟨g, 1, none⟩ (.int .i64 ((p : Int) + 1))).cell? ⟨b, o + p % bs.length, none⟩ = some (.int .u8 (bs[p % bs.length].toNat : Int)) := by
        rw [World.cell?_setCell_other _ _ _ _ (by intro e; injection e with e1; omega)]; exact hc _ hl1
      have c2 : (w.setCell ⟨g, 1, none⟩ (.int .i64 ((p : Int) + 1))).cell? ⟨b, o + (p * 7 + 3) % bs.length, none⟩ = some (.int .u8 (bs[(p * 7 + 3) % bs.length].toNat : Int)) := by
        rw [World.cell?_setCell_other _ _ _ _ (by intro e; injection e with e1; omega)]; exact hc _ hl2
      have b1 : (bs[p % bs.length].toNat : Int) < 256 := by have := bs[p % bs.length].toNat_lt; omega
      have b2 : (bs[(p * 7 + 3) % bs.length].toNat : Int) < 256 := by have := bs[(p * 7 + 3) % bs.length].toNat_lt; omega
      have e1 : (p : Int) % (bs.length : Int) = ((p % bs.length : Nat) : Int) := by simp
      have e2 : ((p : Int) * 7 + 3) % (bs.length : Int) = (((p * 7 + 3) % bs.length : Nat) : Int) := by simp
      have e3 : (p : Int) / (bs.length : Int) = ((p / bs.length : Nat) : Int) := by simp
      have b3 : p / bs.length ≤ p := Nat.div_le_self _ _
      clear hc
      generalize bs[p % bs.length].toNat = y1 at *
      generalize bs[(p * 7 + 3) % bs.length].toNat = y2 at *
      generalize p % bs.length = q1 at *
      generalize (p * 7 + 3) % bs.length = q2 at *
      generalize p / bs.length = q3 at *
      have hX : (y1 : Int) * 131 + (y2 : Int) * 1117 + (p : Int) * 29 + (q3 : Int) * 53 = ((y1 * 131 + y2 * 1117 + p * 29 + q3 * 53 : Nat) : Int) := by omega
      have hXb : y1 * 131 + y2 * 1117 + p * 29 + q3 * 53 < 1000000000000 := by omega
      generalize y1 * 131 + y2 * 1117 + p * 29 + q3 * 53 = X at *
      have hb0 : b < w.heap.size := by
        have := (Array.getElem?_eq_some_iff.1 H1.out).1; omega
      have hg0 : g < w.heap.size := (Array.getElem?_eq_some_iff.1 H1.out).1
      have HX := Lib.hid hX
      clear hX
      go_enter Tryz.func66, Tryz.ntmps66
      go_wp2
      generalize hW : w.setCell ⟨g, 1, none⟩ (.int .i64 ((p : Int) + 1)) = W at *
      have HW := Lib.hid hW
      clear hW
      go_quiet (fail)
      go_wp2
      go_ret
      obtain ⟨r1, r2⟩ := HK.out (W.drewN nq) ⟨nq, rfl⟩
      refine ⟨_, rfl, ?_, ?_, r1, r2⟩
      · rw [HX.out]; exact (pick_rng X n hXb hn1).1
      · rw [HX.out]; exact (pick_rng X n hXb hn1).2
end Go.Proofs.YtcplnfmcefkehaaGreat
namespace Go.Proofs.YtcplnfmcefkehaaGreat
open Go.RowKit

/-- Of the blocks that there were, only those from B1 up to B2 may have turned. -/
structure Mid (B1 B2 : Nat) (w w' : World) : Prop where
  os : w'.os = w.os
  tape : w'.tape = w.tape
  output : w'.output = w.output
  size : w.heap.size ≤ w'.heap.size
  block : ∀ k, k < w.heap.size → (k < B1 ∨ B2 ≤ k) → w'.heap[k]? = w.heap[k]?
theorem Mid.refl (B1 B2 : Nat) (w : World) : Mid B1 B2 w w := ⟨rfl, rfl, rfl, Nat.le_refl _, fun _ _ _ => rfl⟩
theorem Mid.trans {B1 B2 : Nat} {a b c : World} (h : Mid B1 B2 a b) (k : Mid B1 B2 b c) : Mid B1 B2 a c :=
  ⟨k.os.trans h.os, k.tape.trans h.tape, k.output.trans h.output, Nat.le_trans h.size k.size, fun i hi hd => (k.block i (Nat.lt_of_lt_of_le hi h.size) hd).trans (h.block i hi hd)⟩
theorem Mid.of_below {B1 B2 : Nat} {a b : World} (h : Below a.heap.size a b) : Mid B1 B2 a b := ⟨h.os, h.tape, h.output, h.size, fun k hk _ => h.block k hk⟩
theorem Mid.below {B1 B2 B : Nat} {a b : World} (h : Mid B1 B2 a b) (hB : B ≤ B1) (hs : B ≤ a.heap.size) : Below B a b := ⟨h.os, h.tape, h.output, h.size, fun k hk => h.block k (by omega) (.inl (by omega))⟩
theorem Mid.grown {B1 B2 : Nat} {a b : World} {row : Option Nat} (h : a.grownBy b row) (hr : ∀ k, row = some k → B1 ≤ k ∧ k < B2) : Mid B1 B2 a b :=
  ⟨h.os, h.tape, h.output, h.size, fun k hk hd => h.block k hk (fun e => by have := hr k e.symm; omega)⟩
theorem Mid.setCell {B1 B2 : Nat} {a w : World} (h : Mid B1 B2 a w) {p : Addr} (h1 : B1 ≤ p.block) (h2 : p.block < B2) (u : Value) : Mid B1 B2 a (w.setCell p u) :=
  h.trans ⟨rfl, rfl, rfl, by simp [World.setCell], fun k _ hd => Below.heap_setCell _ _ _ _ (by omega)⟩
theorem O1.grown {α : Type} {enc : α → Value} {B : Nat} {e : TypeId} {w w' : World} {v : Value} {l : List α} {row : Option Nat} (h : O1 enc B e w v l) (hb : w.grownBy w' row) (hne : v.ownBlock = none ∨ v.ownBlock ≠ row) : O1 enc B e w' v l := World.ownsRow.kept h hb hne
/-- Rows of different element types are different. -/
theorem O1.ne_ {α β : Type} {e1 : α → Value} {e2 : β → Value} {B1 B2 : Nat} {t1 t2 : TypeId} {w : World} {v1 v2 : Value} {l1 : List α} {l2 : List β} (h1 : O1 e1 B1 t1 w v1 l1) (h2 : O1 e2 B2 t2 w v2 l2) (ht : t1 ≠ t2) : v1.ownBlock = none ∨ v1.ownBlock ≠ v2.ownBlock := by
  rcases h1.2 with ⟨rfl, _⟩ | ⟨k, cap, cur, rfl, hk, hh, r⟩
  · exact .inl rfl
  · refine .inr fun he => ?_
    rcases h2.2 with ⟨rfl, _⟩ | ⟨k2, cap2, cur2, rfl, hk2, hh2, r2⟩
    · simp [Value.ownBlock] at he
    · simp only [Value.ownBlock, Option.some.injEq] at he
      subst he
      rw [hh] at hh2
      injection hh2 with hh2
      injection hh2 with _ h3
      exact ht h3
theorem O1.lt {α : Type} {enc : α → Value} {B : Nat} {e : TypeId} {w : World} {v : Value} {l : List α} (h : O1 enc B e w v l) : ∀ k, v.ownBlock = some k → B ≤ k ∧ k < w.heap.size := World.ownsRow.lt h

/-- Block g holds a row of n cells of which the first k are given. -/
def Fill {α : Type} (enc : α → Value) (e : TypeId) (g : Nat) (w : World) (l : List α) (k : Nat) : Prop :=
  ∃ cur : Array Value, w.heap[g]? = some (.cells cur e (0, 0)) ∧ cur.size = l.length ∧ ∀ j (hj : j < l.length), j < k → cur[j]? = some (enc l[j])
theorem Fill.cell {α : Type} {enc : α → Value} {e : TypeId} {g : Nat} {w : World} {l : List α} {k : Nat} (h : Fill enc e g w l k) {j : Nat} (hj : j < l.length) : (∃ u, w.cell? ⟨g, j, none⟩ = some u) ∧ w.frozen? ⟨g, j, none⟩ = false := by
  obtain ⟨cur, h1, h2, h3⟩ := h
  exact ⟨⟨cur[j]'(by omega), by rw [cell_of_row w g j cur e (0, 0) h1]; simp [h2, hj]⟩, by simp [World.frozen?, h1]⟩
theorem Fill.made {α : Type} (enc : α → Value) (e : TypeId) (w : World) (z : Value) (l : List α) : Fill enc e w.heap.size (w.alloc (.cells (madeCells #[z] l.length) e)) l 0 :=
  ⟨_, heap_alloc_new w _, by simp [madeCells], fun j _ h => by omega⟩
theorem info_str : (Tryz.prog.info? 9).map (fun i => (i.zero, i.size, i.bytes)) = some (some (.string ⟨#[]⟩), 1, 16) := by kernel_rfl
theorem info_bool : (Tryz.prog.info? 4).map (fun i => (i.zero, i.size, i.bytes)) = some (some (.bool false), 1, 1) := by kernel_rfl

end Go.Proofs.YtcplnfmcefkehaaGreat

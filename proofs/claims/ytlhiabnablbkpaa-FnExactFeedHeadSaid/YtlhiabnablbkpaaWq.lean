/- Walks: the reader of a code. -/
import Derived.Test.YtlhiabnablbkpaaWn
import Derived.Deep.Draws
namespace Go.Proofs.Ytlhiabnablbkpaa
open Go.RowKit

/-- Block g holds a reader that has read at most P numbers. -/
def Rdr (w : World) (g P : Nat) : Prop :=
  ∃ (bs : List UInt8) (A : Option Addr) (c p : Nat), w.heap[g]? = some (.cells #[.slice A bs.length c, .int .i64 p] 131 (0, 0)) ∧ p ≤ P ∧ bs.length ≤ 2000 ∧ bs.length ≤ c ∧
    (0 < bs.length → ∃ b o, A = some ⟨b, o, none⟩ ∧ b < g ∧ ∀ j (hj : j < bs.length), w.cell? ⟨b, o + j, none⟩ = some (.int .u8 (bs[j].toNat : Int)))
theorem Rdr.mono {w : World} {g P Q : Nat} (h : Rdr w g P) (hPQ : P ≤ Q) : Rdr w g Q := by
  obtain ⟨bs, A, c, p, h1, h2, h3, h4, h5⟩ := h
  exact ⟨bs, A, c, p, h1, by omega, h3, h4, h5⟩
theorem Rdr.lt {w : World} {g P : Nat} (h : Rdr w g P) : g < w.heap.size := by
  obtain ⟨bs, A, c, p, h1, _⟩ := h
  exact (Array.getElem?_eq_some_iff.1 h1).1
theorem Rdr.keep {w w' : World} {g P : Nat} (h : Rdr w g P) (hb : ∀ k, k ≤ g → w'.heap[k]? = w.heap[k]?) : Rdr w' g P := by
  obtain ⟨bs, A, c, p, h1, h2, h3, h4, h5⟩ := h
  refine ⟨bs, A, c, p, (hb g (Nat.le_refl _)).trans h1, h2, h3, h4, fun hl => ?_⟩
  obtain ⟨b, o, hA, hbg, hc⟩ := h5 hl
  exact ⟨b, o, hA, hbg, fun j hj => (World.cell?_of_block (hb b (by omega))).trans (hc j hj)⟩
theorem Rdr.below {w w' : World} {g P : Nat} (h : Rdr w g P) (hb : Below w.heap.size w w') : Rdr w' g P := h.keep fun k hk => hb.block k (by have := h.lt; omega)
/-- Only block g and what is new has turned. -/
abbrev Only (g : Nat) (w w' : World) : Prop := w.grownBy w' (some g)
theorem Only.refl (g : Nat) (w : World) : Only g w w := ⟨rfl, rfl, rfl, Nat.le_refl _, fun _ _ _ => rfl⟩
theorem Only.trans {g : Nat} {a b c : World} (h : Only g a b) (k : Only g b c) : Only g a c :=
  ⟨k.os.trans h.os, k.tape.trans h.tape, k.output.trans h.output, Nat.le_trans h.size k.size, fun i hi hne => (k.block i (Nat.lt_of_lt_of_le hi h.size) hne).trans (h.block i hi hne)⟩
theorem Only.of_below {g : Nat} {a b : World} (h : Below a.heap.size a b) : Only g a b := ⟨h.os, h.tape, h.output, h.size, fun i hi _ => h.block i hi⟩
theorem Only.thenB {g : Nat} {a b c : World} (h : Only g a b) (k : Below b.heap.size b c) : Only g a c := h.trans (Only.of_below k)
theorem Only.below {g B : Nat} {a b : World} (h : Only g a b) (hB : B ≤ g) (hs : g < a.heap.size) : Below B a b := ⟨h.os, h.tape, h.output, h.size, fun k hk => h.block k (by omega) (fun e => by have : k = g := Option.some.inj e; omega)⟩
theorem O1.only {α : Type} {enc : α → Value} {B : Nat} {e : TypeId} {w w' : World} {v : Value} {l : List α} {g : Nat} (h : O1 enc B e w v l) (hb : Only g w w') (hg : g < B) : O1 enc B e w' v l := by
  refine ⟨h.1, ?_⟩
  rcases h.2 with hn | ⟨k, cap, cur, hv, hk, hh, r⟩
  · exact .inl hn
  · exact .inr ⟨k, cap, cur, hv, hk, (hb.block k (Array.getElem?_eq_some_iff.1 hh).1 (fun e => by have : k = g := Option.some.inj e; omega)).trans hh, r⟩

/-- What a call of pick leaves. -/
def PickPost (g P : Nat) (n : Int) (w : World) (e : Ending) (w' : World) : Prop :=
  ∃ x : Int, e = .returned (.int .i64 x) ∧ 0 ≤ x ∧ x < n ∧ Rdr w' g (P + 1) ∧ Only g w w'

theorem pick_rel {w w' : World} {g P p c : Nat} {bs : List UInt8} {A : Option Addr} (h : w.heap[g]? = some (.cells #[.slice A bs.length c, .int .i64 p] 131 (0, 0))) (hp : p ≤ P) (h3 : bs.length ≤ 2000) (h4 : bs.length ≤ c)
    (h5 : 0 < bs.length → ∃ b o, A = some ⟨b, o, none⟩ ∧ b < g ∧ ∀ j (hj : j < bs.length), w.cell? ⟨b, o + j, none⟩ = some (.int .u8 (bs[j].toNat : Int)))
    (hw : ∃ n, w' = (w.setCell ⟨g, 1, none⟩ (.int .i64 ((p : Int) + 1))).drewN n) : Rdr w' g (P + 1) ∧ Only g w w' := by
  obtain ⟨n, rfl⟩ := hw
  have ho : ∀ k, k ≠ g → ((w.setCell ⟨g, 1, none⟩ (.int .i64 ((p : Int) + 1))).drewN n).heap[k]? = w.heap[k]? := fun k hk => Below.heap_setCell w ⟨g, 1, none⟩ _ k hk
  refine ⟨⟨bs, A, c, p + 1, ?_, by omega, h3, h4, fun hl => ?_⟩, ⟨rfl, rfl, rfl, by simp [World.setCell, World.drewN], fun k _ hne => ho k (fun e => hne (by rw [e]))⟩⟩
  · show (w.setCell ⟨g, 1, none⟩ (.int .i64 ((p : Int) + 1))).heap[g]? = _
    simp only [World.setCell, Array.getElem?_modify, h, if_true, Option.map_some]
    simp
  · obtain ⟨b, o, hA, hb, hc⟩ := h5 hl
    exact ⟨b, o, hA, hb, fun j hj => (World.cell?_of_block (ho b (by omega))).trans (hc j hj)⟩

theorem pick_rng (X : Nat) (n : Int) (hX : X < 1000000000000) (hn : 1 ≤ n) : 0 ≤ (bits .xor .i64 (X : Int) ((X : Int) / 64)).tmod n ∧ (bits .xor .i64 (X : Int) ((X : Int) / 64)).tmod n < n := by
  have e : bits .xor .i64 (X : Int) ((X : Int) / 64) = ((X ^^^ (X / 64) : Nat) : Int) := by
    have hx : X ^^^ (X / 64) < 2 ^ 40 := Nat.xor_lt_two_pow (by omega) (by omega)
    rw [show (X : Int) / 64 = ((X / 64 : Nat) : Int) by omega]
    show IntKind.i64.wrap ((BitVec.ofInt 64 (X : Int) ^^^ BitVec.ofInt 64 ((X / 64 : Nat) : Int)).toNat : Int) = _
    rw [BitVec.toNat_xor, ofInt_nat X (by omega), ofInt_nat (X / 64) (by omega), IntKind.wrap_i64]
    omega
  rw [e, Int.tmod_eq_emod_of_nonneg (Int.natCast_nonneg _)]
  exact ⟨Int.emod_nonneg _ (by omega), Int.emod_lt_of_pos _ (by omega)⟩

set_option maxHeartbeats 1600000 in
set_option maxRecDepth 100000 in
theorem pick_any (g P : Nat) (n : Int) (w : World) (hr : Rdr w g P) (hn1 : 1 ≤ n) (hn2 : n ≤ 1000000) (hP : P ≤ 1000000000) :
    Calls Try.prog 84 #[.pointer (some ⟨g, 0, none⟩), .int .i64 n] w (PickPost g P n w) := by
  obtain ⟨bs, A, c, p, h1, h2, h3, h4, h5⟩ := hr
  have k0 : w.cell? ⟨g, 0, none⟩ = some (.slice A bs.length c) := cell_of_row w g 0 _ _ _ h1
  have k1 : w.cell? ⟨g, 1, none⟩ = some (.int .i64 p) := cell_of_row w g 1 _ _ _ h1
  have kf : w.frozen? ⟨g, 1, none⟩ = false := by simp [World.frozen?, h1]
  have HK := Lib.hid (fun (w' : World) => pick_rel (w' := w') h1 h2 h3 h4 h5)
  have m0 : (w.setCell ⟨g, 1, none⟩ (.int .i64 ((p : Int) + 1))).cell? ⟨g, 0, none⟩ = some (.slice A bs.length c) := by
    rw [World.cell?_setCell_other _ _ _ _ (by simp)]; exact k0
  have m1 : (w.setCell ⟨g, 1, none⟩ (.int .i64 ((p : Int) + 1))).cell? ⟨g, 1, none⟩ = some (.int .i64 ((p : Int) + 1)) := by
    simp [World.cell?, World.setCell, Array.getElem?_modify, h1]
  have H5 := Lib.hid h5
  have H1 := Lib.hid h1
  clear h1 h5
  by_cases hz : bs.length = 0
  · have hz' : ((bs.length : Int) == 0) = true := by simp [hz]
    clear hz
    go_enter Try.func84, Try.ntmps84
    go_wp2
    go_ret
    obtain ⟨r1, r2⟩ := HK.out (w.setCell ⟨g, 1, none⟩ (.int .i64 ((p : Int) + 1))) ⟨0, rfl⟩
    exact ⟨0, rfl, by omega, by omega, r1, r2⟩
  · have hz' : ((bs.length : Int) == 0) = false := by rw [beq_eq_false_iff_ne]; omega
    obtain ⟨b, o, rfl, hbg, hc⟩ := H5.out (by omega)
    by_cases hlt : p < bs.length
    · have hlt' : (p : Int) < (bs.length : Int) := by omega
      have hcell : (w.setCell ⟨g, 1, none⟩ (.int .i64 ((p : Int) + 1))).cell? ⟨b, o + p, none⟩ = some (.int .u8 (bs[p].toNat : Int)) := by
        rw [World.cell?_setCell_other _ _ _ _ (by intro e; injection e with e1; omega)]; exact hc p hlt
      have hb8 : (bs[p].toNat : Int) < 256 := by have := bs[p].toNat_lt; omega
      clear hc
      generalize bs[p].toNat = y at *
      have hy1 : 0 ≤ (y : Int) % n := Int.emod_nonneg _ (by omega)
      have hy2 : (y : Int) % n < n := Int.emod_lt_of_pos _ (by omega)
      go_enter Try.func84, Try.ntmps84
      go_wp2
      go_ret
      obtain ⟨r1, r2⟩ := HK.out (w.setCell ⟨g, 1, none⟩ (.int .i64 ((p : Int) + 1))) ⟨0, rfl⟩
      exact ⟨(y : Int) % n, rfl, hy1, hy2, r1, r2⟩
    · have hlt' : ¬ (p : Int) < (bs.length : Int) := by omega
      have hl1 : p % bs.length < bs.length := Nat.mod_lt _ (by omega)
      have hl2 : (p * 7 + 3) % bs.length < bs.length := Nat.mod_lt _ (by omega)
      have c1 : (w.setCell ⟨g, 1, none⟩ (.int .i64 ((p : Int) + 1))).cell? ⟨b, o + p % bs.length, none⟩ = some (.int .u8 (bs[p % bs.length].toNat : Int)) := by
        rw [World.cell?_setCell_other _ _ _ _ (by intro e; injection e with e1; omega)]; exact hc _ hl1
      have c2 : (w.setCell ⟨g, 1, none⟩ (.int .i64 ((p : Int) + 1))).cell? ⟨b, o + (p * 7 + 3) % bs.length, none⟩ = some (.int .u8 (bs[(p * 7 + 3) % bs.length].toNat : Int)) := by
        rw [World.cell?_setCell_other _ _ _ _ (by intro e; injection e with e1; omega)]; exact hc _ hl2
      have b1 : (bs[p % bs.length].toNat : Int) < 256 := by have := bs[p % bs.length].toNat_lt; omega
      have b2 : (bs[(p * 7 + 3) % bs.length].toNat : Int) < 256 := by have := bs[(p * 7 + 3) % bs.length].toNat_lt; omega
      have e1 : (p : Int) % (bs.length : Int) = ((p % bs.length : Nat) : Int) := by simp
      have e2 : ((p : Int) * 7 + 3) % (bs.length : Int) = (((p * 7 + 3) % bs.length : Nat) : Int) := by simp
      have e3 : (p : Int) / (bs.length : Int) = ((p / bs.length : Nat) : Int) := by simp
      have b3 : p / bs.length ≤ p := Nat.div_le_self _ _
      clear hc
      generalize bs[p % bs.length].toNat = y1 at *
      generalize bs[(p * 7 + 3) % bs.length].toNat = y2 at *
      generalize p % bs.length = q1 at *
      generalize (p * 7 + 3) % bs.length = q2 at *
      generalize p / bs.length = q3 at *
      have hX : (y1 : Int) * 131 + (y2 : Int) * 1117 + (p : Int) * 29 + (q3 : Int) * 53 = ((y1 * 131 + y2 * 1117 + p * 29 + q3 * 53 : Nat) : Int) := by omega
      have hXb : y1 * 131 + y2 * 1117 + p * 29 + q3 * 53 < 1000000000000 := by omega
      generalize y1 * 131 + y2 * 1117 + p * 29 + q3 * 53 = X at *
      have hb0 : b < w.heap.size := by
        have := (Array.getElem?_eq_some_iff.1 H1.out).1; omega
      have hg0 : g < w.heap.size := (Array.getElem?_eq_some_iff.1 H1.out).1
      have HX := Lib.hid hX
      clear hX
      go_enter Try.func84, Try.ntmps84
      go_wp2
      generalize hW : w.setCell ⟨g, 1, none⟩ (.int .i64 ((p : Int) + 1)) = W at *
      have HW := Lib.hid hW
      clear hW
      go_quiet (fail)
      go_wp2
      go_ret
      obtain ⟨r1, r2⟩ := HK.out (W.drewN nq) ⟨nq, rfl⟩
      refine ⟨_, rfl, ?_, ?_, r1, r2⟩
      · rw [HX.out]; exact (pick_rng X n hXb hn1).1
      · rw [HX.out]; exact (pick_rng X n hXb hn1).2
end Go.Proofs.Ytlhiabnablbkpaa

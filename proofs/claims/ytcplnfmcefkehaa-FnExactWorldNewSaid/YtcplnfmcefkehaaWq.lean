/- Walks: the reader of a code. -/
import Derived.Test.YtcplnfmcefkehaaWn
import Derived.Deep.Draws
namespace Go.Proofs.Ytcplnfmcefkehaa
open Go.RowKit

/-- Only block g and what is new has turned. -/
abbrev Only (g : Nat) (w w' : World) : Prop := w.grownBy w' (some g)
theorem Only.refl (g : Nat) (w : World) : Only g w w := ⟨rfl, rfl, rfl, Nat.le_refl _, fun _ _ _ => rfl⟩
theorem Only.trans {g : Nat} {a b c : World} (h : Only g a b) (k : Only g b c) : Only g a c :=
  ⟨k.os.trans h.os, k.tape.trans h.tape, k.output.trans h.output, Nat.le_trans h.size k.size, fun i hi hne => (k.block i (Nat.lt_of_lt_of_le hi h.size) hne).trans (h.block i hi hne)⟩
theorem Only.of_below {g : Nat} {a b : World} (h : Below a.heap.size a b) : Only g a b := ⟨h.os, h.tape, h.output, h.size, fun i hi _ => h.block i hi⟩
theorem Only.thenB {g : Nat} {a b c : World} (h : Only g a b) (k : Below b.heap.size b c) : Only g a c := h.trans (Only.of_below k)
theorem Only.below {g B : Nat} {a b : World} (h : Only g a b) (hB : B ≤ g) (hs : g < a.heap.size) : Below B a b := ⟨h.os, h.tape, h.output, h.size, fun k hk => h.block k (by omega) (fun e => by have : k = g := Option.some.inj e; omega)⟩
theorem O1.only {α : Type} {enc : α → Value} {B : Nat} {e : TypeId} {w w' : World} {v : Value} {l : List α} {g : Nat} (h : O1 enc B e w v l) (hb : Only g w w') (hg : g < B) : O1 enc B e w' v l := by
  refine ⟨h.1, ?_⟩
  rcases h.2 with hn | ⟨k, cap, cur, hv, hk, hh, r⟩
  · exact .inl hn
  · exact .inr ⟨k, cap, cur, hv, hk, (hb.block k (Array.getElem?_eq_some_iff.1 hh).1 (fun e => by have : k = g := Option.some.inj e; omega)).trans hh, r⟩

theorem pick_rng (X : Nat) (n : Int) (hX : X < 1000000000000) (hn : 1 ≤ n) : 0 ≤ (bits .xor .i64 (X : Int) ((X : Int) / 64)).tmod n ∧ (bits .xor .i64 (X : Int) ((X : Int) / 64)).tmod n < n := by
  have e : bits .xor .i64 (X : Int) ((X : Int) / 64) = ((X ^^^ (X / 64) : Nat) : Int) := by
    have hx : X ^^^ (X / 64) < 2 ^ 40 := Nat.xor_lt_two_pow (by omega) (by omega)
    rw [show (X : Int) / 64 = ((X / 64 : Nat) : Int) by omega]
    show IntKind.i64.wrap ((BitVec.ofInt 64 (X : Int) ^^^ BitVec.ofInt 64 ((X / 64 : Nat) : Int)).toNat : Int) = _
    rw [BitVec.toNat_xor, ofInt_nat X (by omega), ofInt_nat (X / 64) (by omega), IntKind.wrap_i64]
    omega
  rw [e, Int.tmod_eq_emod_of_nonneg (Int.natCast_nonneg _)]
  exact ⟨Int.emod_nonneg _ (by omega), Int.emod_lt_of_pos _ (by omega)⟩

end Go.Proofs.Ytcplnfmcefkehaa

/- Walks: peaks of a leaf; proofs. -/
import Derived.Test.YtcplnfmcefkehaaWe
import Derived.Test.YtcplnfmcefkehaaWf
import Derived.Laws.BitsAllLaws
import Derived.Laws.BitsLemmas
namespace Go.Proofs.Ytcplnfmcefkehaa
open Go.RowKit

theorem findIdx_ge {α : Type} {p : α → Bool} {l : List α} {k : Nat} (hk : k < l.length) (h : k ≤ l.findIdx p) (hp : p l[k] = false) : k + 1 ≤ l.findIdx p := by
  rcases Nat.lt_or_ge k (l.findIdx p) with h1 | h1
  · exact h1
  · have he : l.findIdx p = k := by omega
    have hlt : l.findIdx p < l.length := by omega
    have h2 : p l[l.findIdx p] = true := List.findIdx_getElem
    simp only [he] at h2
    rw [hp] at h2; cases h2
theorem findIdx_le {α : Type} {p : α → Bool} {l : List α} {k : Nat} (hk : k < l.length) (h : k ≤ l.findIdx p) (hp : p l[k] = true) : l.findIdx p = k := by
  rcases Nat.lt_or_ge k (l.findIdx p) with h1 | h1
  · exact absurd hp (by simpa using List.not_of_lt_findIdx h1)
  · omega
theorem pkT_get {n i : Nat} (h : pkIdx n i < (trees 0 n).length) : (trees 0 n)[pkIdx n i] = pkT n i := by
  unfold pkT; rw [List.getD_eq_getElem?_getD, List.getElem?_eq_getElem h]; rfl

theorem ofInt_nat (a : Nat) (ha : a < 9223372036854775808) : (BitVec.ofInt 64 (a : Int)).toNat = a := by
  rw [BitVec.ofInt_natCast, BitVec.toNat_ofNat]; exact Nat.mod_eq_of_lt (by omega)
theorem xor_nat (a b : Nat) (ha : a < 65536) (hb : b < 65536) : bits .xor .i64 (a : Int) (b : Int) = ((a ^^^ b : Nat) : Int) := by
  have hx : a ^^^ b < 2 ^ 16 := Nat.xor_lt_two_pow (by omega) (by omega)
  show IntKind.i64.wrap ((BitVec.ofInt 64 (a : Int) ^^^ BitVec.ofInt 64 (b : Int)).toNat : Int) = _
  rw [BitVec.toNat_xor, ofInt_nat a (by omega), ofInt_nat b (by omega), IntKind.wrap_i64]
  omega
theorem and_nat (a b : Nat) (ha : a < 65536) (hb : b < 65536) : bits .and .i64 (a : Int) (b : Int) = ((a &&& b : Nat) : Int) := by
  have hx : a &&& b < 2 ^ 16 := Nat.and_lt_two_pow _ (by omega)
  show IntKind.i64.wrap ((BitVec.ofInt 64 (a : Int) &&& BitVec.ofInt 64 (b : Int)).toNat : Int) = _
  rw [BitVec.toNat_and, ofInt_nat a (by omega), ofInt_nat b (by omega), IntKind.wrap_i64]
  omega

end Go.Proofs.Ytcplnfmcefkehaa

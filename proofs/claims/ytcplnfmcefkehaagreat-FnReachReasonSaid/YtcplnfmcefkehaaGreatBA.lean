/- The plain functions: digests, trees, heads. No program in sight. No condition. | Plain functions: blocks of feeds. | Words for memory: slices that read as lists, rows that a call owns, and an append onto them. No condition. | Walks: ranges, digests, keys. Each function returns its plain function's value and leaves the world alone. -/
import Derived.Below
import Derived.Test.YtcplnfmcefkehaaGreatRows
import Derived.WalkKit
import Derived.Deep.QuietTactic
import Derived.BigQuiet
import Derived.Lib.Hide
import Derived.Maps.AppendAt
import Derived.Deep.AppendLies
import Derived.Laws.AppendOwnNone
import Derived.Deep.RegionHeld3
namespace Go.Proofs.YtcplnfmcefkehaaGreat

def inB (n a b : Int) : Bool := decide (a ≤ n ∧ n ≤ b)
def dig (n : Int) : Bool := inB n 0 990
def key (n : Int) : Bool := inB n 1 996
/-- The digest of two digests. -/
def pair (a b : Int) : Int := (31 * a + 17 * b + 5) % 991
/-- The digest of a text. -/
def textD (s : List UInt8) : Int := s.foldl (fun n c => (257 * n + (c.toNat : Int) + 1) % 991) 11

theorem inB_true {n a b : Int} : inB n a b = true ↔ a ≤ n ∧ n ≤ b := by simp [inB]
theorem inB_false {n a b : Int} : inB n a b = false ↔ n < a ∨ b < n := by simp [inB]; omega
theorem dig_true {n : Int} : dig n = true ↔ 0 ≤ n ∧ n ≤ 990 := by simp [dig, inB]
theorem key_true {n : Int} : key n = true ↔ 1 ≤ n ∧ n ≤ 996 := by simp [key, inB]
theorem pair_bd (a b : Int) : 0 ≤ pair a b ∧ pair a b ≤ 990 := by unfold pair; omega
theorem pair_dig (a b : Int) : dig (pair a b) = true := dig_true.2 (pair_bd a b)
theorem textD_snoc (s : List UInt8) (c : UInt8) : textD (s ++ [c]) = (257 * textD s + (c.toNat : Int) + 1) % 991 := by simp [textD]
theorem textD_bd (s : List UInt8) : 0 ≤ textD s ∧ textD s ≤ 990 := by
  rcases List.eq_nil_or_concat s with rfl | ⟨l, c, rfl⟩
  · simp [textD]
  · rw [List.concat_eq_append, textD_snoc]; omega
theorem textD_dig (s : List UInt8) : dig (textD s) = true := dig_true.2 (textD_bd s)
theorem take_snoc {s : ByteArray} {k : Nat} (h : k < s.size) : s.data.toList.take (k + 1) = s.data.toList.take k ++ [s[k]] := by
  rw [List.take_succ_eq_append_getElem (by simpa using h)]; rfl

/-- The size of the largest complete tree from a place on: over Nat, by fuel. -/
def szF (p n : Nat) : Nat → Nat → Nat
  | 0, s => s
  | f + 1, s => if 2 * s ≤ n - p ∧ p % (2 * s) = 0 then szF p n f (2 * s) else s
def sz (p n : Nat) : Nat := szF p n 5 1
/-- The trees into which the leaves from p to n are divided: (start, size). -/
def treesF : Nat → Nat → Nat → List (Nat × Nat)
  | 0, _, _ => []
  | f + 1, p, n => if p < n then (p, sz p n) :: treesF f (p + sz p n) n else []
def trees (p n : Nat) : List (Nat × Nat) := treesF 17 p n
theorem szF_le (p n : Nat) (h : p < n) : ∀ f s, 1 ≤ s → s ≤ n - p → szF p n f s ≤ n - p ∧ 1 ≤ szF p n f s
  | 0, s, h1, h2 => ⟨h2, h1⟩
  | f + 1, s, h1, h2 => by
    unfold szF
    split
    · rename_i hc; exact szF_le p n h f (2 * s) (by omega) hc.1
    · exact ⟨h2, h1⟩
theorem szF_stop {p n s : Nat} (h : ¬ (2 * s ≤ n - p ∧ p % (2 * s) = 0)) : ∀ f, szF p n f s = s
  | 0 => rfl
  | f + 1 => by unfold szF; rw [if_neg h]
theorem szF_go {p n s f : Nat} (h : 2 * s ≤ n - p ∧ p % (2 * s) = 0) : szF p n (f + 1) s = szF p n f (2 * s) := by
  conv => lhs; unfold szF
  rw [if_pos h]
theorem sz_bd {p n : Nat} (h : p < n) : 1 ≤ sz p n ∧ sz p n ≤ n - p := by
  have := szF_le p n h 5 1 (by omega) (by omega); unfold sz; omega
theorem treesF_fuel : ∀ f g p n, n - p ≤ f → n - p ≤ g → treesF f p n = treesF g p n
  | 0, 0, _, _, _, _ => rfl
  | 0, g + 1, p, n, h, _ => by unfold treesF; rw [if_neg (by omega)]
  | f + 1, 0, p, n, _, h => by unfold treesF; rw [if_neg (by omega)]
  | f + 1, g + 1, p, n, h1, h2 => by
    unfold treesF
    by_cases hp : p < n
    · rw [if_pos hp, if_pos hp, treesF_fuel f g _ _ (by have := sz_bd hp; omega) (by have := sz_bd hp; omega)]
    · rw [if_neg hp, if_neg hp]
theorem trees_cons {p n : Nat} (h : p < n) (hn : n ≤ 16) : trees p n = (p, sz p n) :: trees (p + sz p n) n := by
  unfold trees
  conv => lhs; unfold treesF
  rw [if_pos h, treesF_fuel 16 17 _ _ (by have := sz_bd h; omega) (by have := sz_bd h; omega)]
theorem trees_nil {p n : Nat} (h : n ≤ p) : trees p n = [] := by
  unfold trees treesF; rw [if_neg (by omega)]
theorem treesF_len : ∀ f p n, (treesF f p n).length ≤ f
  | 0, _, _ => by simp [treesF]
  | f + 1, p, n => by
    unfold treesF; split
    · have := treesF_len f (p + sz p n) n; simp; omega
    · simp
theorem trees_len (p n : Nat) : (trees p n).length ≤ 17 := treesF_len 17 p n
theorem trees_pre {p0 p n : Nat} {out : List (Nat × Nat)} (h : out ++ trees p n = trees p0 n) : out.length ≤ 17 := by
  have h1 := congrArg List.length h
  have h2 := trees_len p0 n
  simp at h1; omega
/-- The root of the tree of level k from start s on. -/
def rootN (l : List Int) : Nat → Nat → Int
  | 0, s => l.getD s 0
  | k + 1, s => pair (rootN l k s) (rootN l k (s + 2 ^ k))
def digs (l : List Int) : Bool := l.all dig
theorem digs_get {l : List Int} (h : digs l = true) {j : Nat} (hj : j < l.length) : dig l[j] = true := by
  unfold digs at h; rw [List.all_eq_true] at h; exact h _ (List.getElem_mem hj)
theorem rootN_dig {l : List Int} (h : digs l = true) : ∀ k s, s + 2 ^ k ≤ l.length → dig (rootN l k s) = true
  | 0, s, hs => by unfold rootN; rw [List.getD_eq_getElem?_getD, List.getElem?_eq_getElem (by omega)]; exact digs_get h _
  | k + 1, s, _ => pair_dig _ _
theorem digs_no {l : List Int} {j : Nat} (hj : j < l.length) (h : dig l[j] = false) : digs l = false := by
  unfold digs; rw [List.all_eq_false]; exact ⟨_, List.getElem_mem hj, by simp [h]⟩
theorem digs_snoc {l : List Int} {k : Nat} (hk : k < l.length) (h : digs (l.take k) = true) (hd : dig l[k] = true) : digs (l.take (k + 1)) = true := by
  unfold digs at *; rw [List.take_succ_eq_append_getElem hk, List.all_append, h]; simp [hd]
theorem digs_all {l : List Int} {k : Nat} (hk : l.length ≤ k) (h : digs (l.take k) = true) : digs l = true := by rwa [List.take_of_length_le hk] at h
def leavesOk (l : List Int) : Bool := decide (l.length ≤ 16) && digs l
theorem leavesOk_true {l : List Int} : leavesOk l = true ↔ l.length ≤ 16 ∧ digs l = true := by simp [leavesOk]
/-- The digest of a number with peaks. -/
def fold (n : Int) (peaks : List Int) : Int := peaks.foldl pair n
theorem fold_snoc (n : Int) (l : List Int) (x : Int) : fold n (l ++ [x]) = pair (fold n l) x := by simp [fold]
theorem fold_dig {n : Int} (hn : dig n = true) (l : List Int) : dig (fold n l) = true := by
  rcases List.eq_nil_or_concat l with rfl | ⟨l, c, rfl⟩
  · exact hn
  · rw [List.concat_eq_append, fold_snoc]; exact pair_dig _ _
theorem take_snocI {α : Type} {l : List α} {k : Nat} (h : k < l.length) : l.take (k + 1) = l.take k ++ [l[k]] := List.take_succ_eq_append_getElem h
def rootT (l : List Int) (t : Nat × Nat) : Int := rootN l t.2.log2 t.1
theorem trees_ok : ∀ n, n < 17 → ∀ p, p < 17 → ∀ t ∈ trees p n, t.1 + t.2 ≤ n ∧ 2 ^ t.2.log2 = t.2 ∧ t.2.log2 ≤ 4 := by decide +kernel
def peaksOf (l : List Int) : List Int := (trees 0 l.length).map (rootT l)
def treeD (l : List Int) : Int := if leavesOk l then fold l.length (peaksOf l) else -1
theorem rootT_dig {l : List Int} (h : digs l = true) (hl : l.length ≤ 16) {p : Nat} (hp : p ≤ 16) {t : Nat × Nat} (ht : t ∈ trees p l.length) : dig (rootT l t) = true := by
  obtain ⟨h1, h2, _⟩ := trees_ok l.length (by omega) p (by omega) t ht
  exact rootN_dig h _ _ (by rw [h2]; exact h1)
theorem peaks_dig {l : List Int} (h : digs l = true) (hl : l.length ≤ 16) : digs (peaksOf l) = true := by
  unfold digs peaksOf; rw [List.all_map, List.all_eq_true]; intro t ht; exact rootT_dig h hl (Nat.zero_le _) ht
theorem rootN_take {l : List Int} {m : Nat} : ∀ k s, s + 2 ^ k ≤ m → rootN (l.take m) k s = rootN l k s
  | 0, s, h => by unfold rootN; rw [List.getD_eq_getElem?_getD, List.getD_eq_getElem?_getD, List.getElem?_take, if_pos (by omega)]
  | k + 1, s, h => by
    have : (2 : Nat) ^ (k + 1) = 2 ^ k + 2 ^ k := by rw [Nat.pow_succ]; omega
    have h1 : 1 ≤ 2 ^ k := Nat.one_le_two_pow
    unfold rootN; rw [rootN_take k s (by omega), rootN_take k _ (by omega)]
theorem rootN_drop {l : List Int} {m : Nat} : ∀ k s, rootN (l.drop m) k s = rootN l k (m + s)
  | 0, s => by unfold rootN; rw [List.getD_eq_getElem?_getD, List.getD_eq_getElem?_getD, List.getElem?_drop]
  | k + 1, s => by unfold rootN; rw [rootN_drop k s, rootN_drop k _, Nat.add_assoc]
theorem digs_take {l : List Int} (h : digs l = true) (m : Nat) : digs (l.take m) = true := by
  unfold digs at *; rw [List.all_eq_true] at *; exact fun x hx => h x (List.mem_of_mem_take hx)
theorem digs_drop {l : List Int} (h : digs l = true) (m : Nat) : digs (l.drop m) = true := by
  unfold digs at *; rw [List.all_eq_true] at *; exact fun x hx => h x (List.mem_of_mem_drop hx)
/-- The number of the peak of n leaves that has leaf i; the peak; its level. -/
def pkIdx (n i : Nat) : Nat := (trees 0 n).findIdx (fun t => decide (i < t.1 + t.2))
def pkT (n i : Nat) : Nat × Nat := (trees 0 n).getD (pkIdx n i) (0, 0)
def lev (n i : Nat) : Nat := (pkT n i).2.log2
theorem pk_ok : ∀ n, n < 17 → ∀ i, i < n → pkIdx n i < (trees 0 n).length ∧ (pkT n i).2 = 2 ^ lev n i ∧ lev n i ≤ 4 ∧ (pkT n i).1 ≤ i ∧ i < (pkT n i).1 + (pkT n i).2 ∧ (pkT n i).1 + (pkT n i).2 ≤ n ∧
    (trees 0 n).eraseIdx (pkIdx n i) = (trees 0 n).filter (fun t => t.1 != (pkT n i).1) ∧ (pkT n i).2 = sz (pkT n i).1 n ∧ (pkT n i).1 = (pkT n i).1 / (pkT n i).2 * (pkT n i).2 := by decide +kernel
/-- The start of the sibling of leaf i's tree of level j. -/
def sib (i j : Nat) : Nat := if i / 2 ^ j % 2 = 0 then i / 2 ^ j * 2 ^ j + 2 ^ j else i / 2 ^ j * 2 ^ j - 2 ^ j
theorem sib_xor : ∀ i, i < 16 → ∀ j, j < 4 → (i / 2 ^ j * 2 ^ j) ^^^ 2 ^ j = sib i j := by decide +kernel
theorem sib_ok : ∀ n, n < 17 → ∀ i, i < n → ∀ j, j < lev n i → sib i j + 2 ^ j ≤ n := by decide +kernel
def sibs (l : List Int) (i k : Nat) : List Int := (List.range k).map fun j => rootN l j (sib i j)
theorem sibs_snoc (l : List Int) (i k : Nat) : sibs l i (k + 1) = sibs l i k ++ [rootN l k (sib i k)] := by simp [sibs, List.range_succ]
def others (l : List Int) (i : Nat) : List Int := ((trees 0 l.length).eraseIdx (pkIdx l.length i)).map (rootT l)
/-- TreeProof for an existing leaf of valid leaves. -/
def proofAt (l : List Int) (i : Nat) : List Int := sibs l i (lev l.length i) ++ others l i
def proofOf (l : List Int) (i : Int) : List Int := if leavesOk l && inB i 0 (l.length - 1) then proofAt l i.toNat else []
/-- The root on the way up from level j. -/
def pathR (i : Nat) : Nat → Int → List Int → Int
  | _, r, [] => r
  | j, r, x :: xs => pathR i (j + 1) (if i / 2 ^ j % 2 = 0 then pair r x else pair x r) xs
theorem pathR_snoc (i : Nat) : ∀ (xs : List Int) (j : Nat) (r x : Int), pathR i j r (xs ++ [x]) = if i / 2 ^ (j + xs.length) % 2 = 0 then pair (pathR i j r xs) x else pair x (pathR i j r xs)
  | [], j, r, x => by simp [pathR]
  | y :: xs, j, r, x => by
    simp only [List.cons_append, pathR]
    rw [pathR_snoc i xs (j + 1)]
    simp only [List.length_cons]
    rw [show j + 1 + xs.length = j + (xs.length + 1) by omega]
theorem pathR_dig (i : Nat) : ∀ (xs : List Int) (j : Nat) (r : Int), dig r = true → dig (pathR i j r xs) = true
  | [], _, _, h => h
  | x :: xs, j, r, _ => by
    unfold pathR
    refine pathR_dig i xs (j + 1) _ ?_
    split <;> exact pair_dig _ _
/-- TreeCheck for n, i, leaf and proof in their ranges. -/
def checkAt (digest : Int) (n i : Nat) (leaf : Int) (proof : List Int) : Bool :=
  decide (proof.length = lev n i + ((trees 0 n).length - 1)) &&
  (fold n ((proof.drop (lev n i)).take (pkIdx n i) ++ [pathR i 0 leaf (proof.take (lev n i))] ++ (proof.drop (lev n i)).drop (pkIdx n i)) == digest)
def checkOf (digest n i leaf : Int) (proof : List Int) : Bool :=
  inB n 1 16 && inB i 0 (n - 1) && dig leaf && digs proof && checkAt digest n.toNat i.toNat leaf proof
theorem erase_take {α : Type} (l : List α) (k j : Nat) (hj : j < l.length) : (l.take (j + 1)).eraseIdx k = (l.take j).eraseIdx k ++ if j = k then [] else [l[j]] := by
  rw [take_snocI hj]
  have hl : (l.take j).length = j := by simp; omega
  by_cases h : k < j
  · rw [List.eraseIdx_append_of_lt_length (by omega), if_neg (by omega)]
  · rw [List.eraseIdx_append_of_length_le (by omega), List.eraseIdx_of_length_le (l := l.take j) (by omega), hl]
    by_cases h2 : j = k
    · subst h2; simp
    · rw [if_neg h2, List.eraseIdx_of_length_le (by simp; omega)]
/-- The start of the tree of leaf i, found from p on. -/
def pkF : Nat → Nat → Nat → Nat → Nat
  | 0, _, _, p => p
  | f + 1, n, i, p => if p + sz p n ≤ i then pkF f n i (p + sz p n) else p
theorem pkF_ok : ∀ n, n < 17 → ∀ i, i < n → pkF 17 n i 0 = (pkT n i).1 := by decide +kernel
theorem pkF_stop {n i p : Nat} (h : ¬ p + sz p n ≤ i) : ∀ f, pkF f n i p = p
  | 0 => rfl
  | f + 1 => by unfold pkF; rw [if_neg h]
theorem pkF_go {f n i p : Nat} (h : p + sz p n ≤ i) : pkF (f + 1) n i p = pkF f n i (p + sz p n) := by
  conv => lhs; unfold pkF
  rw [if_pos h]
/-- The trees other than that of leaf i, from p on. -/
def othersFrom (n i p : Nat) : List (Nat × Nat) := (trees p n).filter (fun t => t.1 != (pkT n i).1)
theorem othersFrom_step {n i p : Nat} (h : p < n) (hn : n ≤ 16) : othersFrom n i p = (if p = (pkT n i).1 then [] else [(p, sz p n)]) ++ othersFrom n i (p + sz p n) := by
  unfold othersFrom
  rw [trees_cons h hn, List.filter_cons]
  by_cases hp : p = (pkT n i).1
  · simp [hp]
  · simp [hp]
theorem othersFrom_nil {n i p : Nat} (h : n ≤ p) : othersFrom n i p = [] := by unfold othersFrom; rw [trees_nil h]; rfl
theorem others_len (n i p : Nat) : (othersFrom n i p).length ≤ 17 := Nat.le_trans (List.length_filter_le _ _) (trees_len p n)
theorem div_step : ∀ i, i < 16 → ∀ j, j < 4 → i / 2 ^ j * 2 ^ j / 2 ^ j = i / 2 ^ j := by decide +kernel
/-- What is left of a check: flags say which peak is the leaf's. -/
def run2 (dg root : Int) : List Bool → Int → List Int → Bool
  | [], out, rest => rest.isEmpty && (out == dg)
  | true :: bs, out, rest => run2 dg root bs (pair out root) rest
  | false :: bs, out, x :: xs => run2 dg root bs (pair out x) xs
  | false :: _, _, [] => false
def flags (n i p : Nat) : List Bool := (trees p n).map fun t => t.1 == (pkT n i).1
theorem flags_ok : ∀ n, n < 17 → ∀ i, i < n → flags n i 0 = List.replicate (pkIdx n i) false ++ true :: List.replicate ((trees 0 n).length - 1 - pkIdx n i) false := by decide +kernel
theorem flags_cons {n i p : Nat} (h : p < n) (hn : n ≤ 16) : flags n i p = (p == (pkT n i).1) :: flags n i (p + sz p n) := by
  unfold flags; rw [trees_cons h hn]; rfl
theorem flags_nil {n i p : Nat} (h : n ≤ p) : flags n i p = [] := by unfold flags; rw [trees_nil h]; rfl
theorem run2_rep (dg root : Int) : ∀ (m : Nat) (out : Int) (rest : List Int), run2 dg root (List.replicate m false) out rest = (decide (rest.length = m) && (fold out rest == dg))
  | 0, out, rest => by cases rest <;> simp [run2, fold]
  | m + 1, out, [] => by simp [List.replicate_succ, run2]
  | m + 1, out, x :: xs => by
    rw [List.replicate_succ, run2, run2_rep dg root m]; simp [fold]
theorem run2_app (dg root : Int) (bs : List Bool) : ∀ (k : Nat) (out : Int) (rest : List Int), run2 dg root (List.replicate k false ++ bs) out rest = (decide (k ≤ rest.length) && run2 dg root bs (fold out (rest.take k)) (rest.drop k))
  | 0, out, rest => by simp [fold]
  | k + 1, out, [] => by simp [List.replicate_succ, run2]
  | k + 1, out, x :: xs => by
    rw [List.replicate_succ, List.cons_append, run2, run2_app dg root bs k]
    simp [fold]
theorem check_run2 {n i : Nat} (hn : n ≤ 16) (hi : i < n) (dg leaf : Int) (proof : List Int) (hp : lev n i ≤ proof.length) :
    run2 dg (pathR i 0 leaf (proof.take (lev n i))) (flags n i 0) n (proof.drop (lev n i)) = checkAt dg n i leaf proof := by
  obtain ⟨p1, _⟩ := pk_ok n (by omega) i hi
  rw [flags_ok n (by omega) i hi, run2_app, run2, run2_rep]
  unfold checkAt
  generalize pathR i 0 leaf (proof.take (lev n i)) = r
  rw [Bool.eq_iff_iff]
  simp only [Bool.and_eq_true, decide_eq_true_eq, List.length_drop, beq_iff_eq, fold, List.foldl_append, List.foldl_cons, List.foldl_nil]
  omega
theorem check_short {n i : Nat} (dg leaf : Int) (proof : List Int) (h : proof.length < lev n i) : checkAt dg n i leaf proof = false := by
  unfold checkAt; rw [decide_eq_false (by omega)]; rfl
/-- A head; a feed. -/
structure Hd where
  len : Int
  dg : Int
  sg : Int
structure Fd where
  pub : Int
  hd : Hd
  bl : List ByteArray
  hv : List Bool
def Hd.zero : Hd := ⟨0, 0, 0⟩
def Hd.isZero (h : Hd) : Bool := h.len == 0 && h.dg == 0 && h.sg == 0
def hcheck (pub : Int) (h : Hd) : Bool := key pub && inB h.len 0 16 && dig h.dg && key h.sg && (h.sg * 5 % 997 == pub * (pair h.len h.dg + 1) % 997)
def cnt (l : List Bool) : Nat := l.count true
def bcount (l : List Bool) : Int := if l.length ≤ 16 then (cnt l : Int) else -1
theorem cnt_le (l : List Bool) : cnt l ≤ l.length := List.count_le_length
theorem cnt_snoc (l : List Bool) (b : Bool) : cnt (l ++ [b]) = cnt l + if b then 1 else 0 := by
  unfold cnt; rw [List.count_append]; cases b <;> simp
def wholeB (l : List Bool) : Bool := bcount l == (l.length : Int)
def lvs (bl : List ByteArray) : List Int := bl.map fun s => textD s.data.toList
theorem lvs_dig (bl : List ByteArray) : digs (lvs bl) = true := by
  unfold digs lvs; rw [List.all_map, List.all_eq_true]; intro x _; exact textD_dig _
theorem lvs_len (bl : List ByteArray) : (lvs bl).length = bl.length := by simp [lvs]
/-- Are a block's text and mark in order? -/
def blockOk (s : ByteArray) (b : Bool) : Bool := decide (s.size ≤ 8) && (b || s.size == 0)
def blocksOk : List ByteArray → List Bool → Bool
  | s :: bl, b :: hv => blockOk s b && blocksOk bl hv
  | _, _ => true
def fvalid (f : Fd) : Bool :=
  key f.pub && (f.hd.isZero || hcheck f.pub f.hd) && ((f.bl.length : Int) == f.hd.len) && ((f.hv.length : Int) == f.hd.len) && blocksOk f.bl f.hv &&
  (f.bl.length == 0 || !wholeB f.hv || treeD (lvs f.bl) == f.hd.dg)

end Go.Proofs.YtcplnfmcefkehaaGreat
namespace Go.Proofs.YtcplnfmcefkehaaGreat
theorem blocksOk_snoc {bl : List ByteArray} {hv : List Bool} {k : Nat} (h1 : k < bl.length) (h2 : k < hv.length) (h : blocksOk (bl.take k) (hv.take k) = true) (hb : blockOk bl[k] hv[k] = true) :
    blocksOk (bl.take (k + 1)) (hv.take (k + 1)) = true := by
  induction bl generalizing hv k with
  | nil => simp at h1
  | cons s bl ih =>
    cases hv with
    | nil => simp at h2
    | cons b hv =>
      cases k with
      | zero => simp [blocksOk] at *; exact hb
      | succ k =>
        simp only [List.take_succ_cons, blocksOk, Bool.and_eq_true] at h ⊢
        exact ⟨h.1, ih (by simpa using h1) (by simpa using h2) h.2 (by simpa using hb)⟩
theorem blocksOk_no {bl : List ByteArray} {hv : List Bool} {k : Nat} (h1 : k < bl.length) (h2 : k < hv.length) (hb : blockOk bl[k] hv[k] = false) : blocksOk bl hv = false := by
  induction bl generalizing hv k with
  | nil => simp at h1
  | cons s bl ih =>
    cases hv with
    | nil => simp at h2
    | cons b hv =>
      cases k with
      | zero => simp at hb; simp [blocksOk, hb]
      | succ k =>
        simp only [blocksOk]
        rw [ih (k := k) (by simpa using h1) (by simpa using h2) (by simpa using hb), Bool.and_false]
theorem blocksOk_all {bl : List ByteArray} {hv : List Bool} {k : Nat} (h1 : bl.length ≤ k) (h2 : hv.length ≤ k) (h : blocksOk (bl.take k) (hv.take k) = true) : blocksOk bl hv = true := by
  rwa [List.take_of_length_le h1, List.take_of_length_le h2] at h
theorem blocksOk_size {bl : List ByteArray} {hv : List Bool} (hl : bl.length = hv.length) (h : blocksOk bl hv = true) : ∀ s ∈ bl, s.size ≤ 8 := by
  induction bl generalizing hv with
  | nil => simp
  | cons s bl ih =>
    cases hv with
    | nil => simp at hl
    | cons b hv =>
      simp only [blocksOk, Bool.and_eq_true, blockOk, decide_eq_true_eq] at h
      intro x hx
      rcases List.mem_cons.1 hx with rfl | hx
      · exact h.1.1
      · exact ih (by simpa using hl) h.2 x hx
theorem data_len (s : ByteArray) : s.data.toList.length = s.size := rfl
theorem toList_data (s : ByteArray) : s.toList = s.data.toList := by
  have key : ∀ (n : Nat) (i : Nat) (r : List UInt8), s.size - i = n → ByteArray.toList.loop s i r = r.reverse ++ s.data.toList.drop i := by
    intro n
    induction n with
    | zero =>
      intro i r h
      unfold ByteArray.toList.loop
      rw [if_neg (by omega), List.drop_of_length_le (by rw [data_len]; omega), List.append_nil]
    | succ n ih =>
      intro i r h
      unfold ByteArray.toList.loop
      have hi : i < s.data.toList.length := by rw [data_len]; omega
      rw [if_pos (by omega), ih (i + 1) _ (by omega), List.drop_eq_getElem_cons hi]
      have hg : s.get! i = s.data.toList[i] := by
        show s.data[i]! = _
        rw [getElem!_pos s.data i (by simpa using hi)]; simp
      simp [hg]
  have := key s.size 0 [] (by omega)
  simpa [ByteArray.toList] using this
theorem toList_nil {s : ByteArray} (h : s.size = 0) : s.toList.isEmpty = true := by
  rw [toList_data, List.isEmpty_iff, List.eq_nil_iff_length_eq_zero, data_len]; exact h
theorem toList_cons {s : ByteArray} (h : ¬ s.size = 0) : s.toList.isEmpty = false := by
  rw [toList_data, List.isEmpty_eq_false_iff]; intro h2
  exact h (by have := congrArg List.length h2; rw [data_len] at this; exact this)
theorem blockOk_empty {s : ByteArray} (h : s.size = 0) : blockOk s false = true := by unfold blockOk; rw [h]; rfl
theorem blockOk_full {s : ByteArray} (h : ¬ s.size = 0) : blockOk s false = false := by
  unfold blockOk; rw [show (s.size == 0) = false by simpa only [beq_eq_false_iff_ne] using h]; simp
end Go.Proofs.YtcplnfmcefkehaaGreat
namespace Go.Proofs.YtcplnfmcefkehaaGreat
open Go.RowKit

section
variable {α : Type} {enc : α → Value} {w w' : World} {v : Value} {l : List α}

/-- The slice value v reads as the list l, one cell an element. -/
def R1 (enc : α → Value) (w : World) (v : Value) (l : List α) : Prop :=
  ∃ (A : Option Addr) (c : Nat), v = .slice A l.length c ∧ (l.length ≤ c ∧ (A = none → c = 0)) ∧ c ≤ maxLen ∧
    (0 < l.length → ∃ b o, A = some ⟨b, o, none⟩ ∧ b < w.heap.size ∧ ∀ j (hj : j < l.length), w.cell? ⟨b, o + j, none⟩ = some (enc l[j]))

abbrev RI := R1 (Value.int .i64)
abbrev RB := R1 Value.bool
abbrev RS := R1 Value.string
theorem R1.keep (h : R1 enc w v l) (hs : w.heap.size ≤ w'.heap.size) (hk : ∀ p : Addr, p.block < w.heap.size → w'.cell? p = w.cell? p) : R1 enc w' v l := by
  obtain ⟨A, c, hv, h1, h2, h3⟩ := h
  refine ⟨A, c, hv, h1, h2, fun hl => ?_⟩
  obtain ⟨b, o, hA, hb, hc⟩ := h3 hl
  exact ⟨b, o, hA, by omega, fun j hj => (hk _ hb).trans (hc j hj)⟩
theorem R1.below (h : R1 enc w v l) (hb : Below w.heap.size w w') : R1 enc w' v l := h.keep hb.size fun _ hp => hb.cell hp
theorem R1.alloc (h : R1 enc w v l) (o : Obj) : R1 enc (w.alloc o) v l := h.below ((Below.refl _ _).alloc (Nat.le_refl _) o)
theorem R1.drew (h : R1 enc w v l) : R1 enc w.drew v l := h
theorem R1.take {A : Option Addr} {c n : Nat} (h : R1 enc w (.slice A n c) l) {m : Nat} (hm : m ≤ l.length) : R1 enc w (.slice A m c) (l.take m) := by
  obtain ⟨A', c', he, h1, h2, h3⟩ := h
  obtain ⟨rfl, rfl, rfl⟩ : A = A' ∧ n = l.length ∧ c = c' := by injection he with a b c; exact ⟨a, b, c⟩
  have hml : (l.take m).length = m := by simp; omega
  refine ⟨A, c, by rw [hml], ⟨by omega, h1.2⟩, h2, fun hl => ?_⟩
  obtain ⟨b, o, hA, hb, hc⟩ := h3 (by omega)
  exact ⟨b, o, hA, hb, fun j hj => by rw [hc j (by omega)]; simp⟩
theorem R1.drop {b o : Nat} {c n : Nat} (h : R1 enc w (.slice (some ⟨b, o, none⟩) n c) l) {m : Nat} (hm : m ≤ l.length) : R1 enc w (.slice (some ⟨b, o + m, none⟩) (n - m) (c - m)) (l.drop m) := by
  obtain ⟨A', c', he, h1, h2, h3⟩ := h
  obtain ⟨rfl, rfl, rfl⟩ : some ⟨b, o, none⟩ = A' ∧ n = l.length ∧ c = c' := by injection he with a b c; exact ⟨a, b, c⟩
  have hml : (l.drop m).length = l.length - m := by simp
  refine ⟨_, c - m, by rw [hml], ⟨by omega, fun h => by cases h⟩, by omega, fun hl => ?_⟩
  obtain ⟨b', o', hA, hb, hc⟩ := h3 (by omega)
  cases hA
  exact ⟨b, o + m, rfl, hb, fun j hj => by rw [Nat.add_assoc, hc (m + j) (by omega)]; simp⟩
theorem R1.len (h : R1 enc w v l) : l.length ≤ maxLen := by obtain ⟨_, _, _, h1, h2, _⟩ := h; omega
theorem R1.nil (enc : α → Value) (w : World) : R1 enc w (.slice none 0 0) [] := ⟨none, 0, rfl, ⟨Nat.le_refl _, fun _ => rfl⟩, by unfold maxLen; omega, fun h => by simp at h⟩

/-- The slice value v owns a row from block B on that reads as the list l. -/
def O1 (enc : α → Value) (B : Nat) (e : TypeId) (w : World) (v : Value) (l : List α) : Prop := w.ownsRow B e 1 v l.length (l.map enc)

theorem O1.r1 {B : Nat} {e : TypeId} (h : O1 enc B e w v l) : R1 enc w v l := by
  obtain ⟨h1, h2⟩ := h
  rcases h2 with ⟨rfl, h0⟩ | ⟨g, cap, cur, rfl, hg, hh, hn, hc, hs, ht⟩
  · have : l = [] := List.eq_nil_of_length_eq_zero h0
    subst this
    exact R1.nil enc w
  · refine ⟨_, cap, rfl, ⟨hn, fun h => by cases h⟩, hc, fun _ => ⟨g, 0, rfl, (Array.getElem?_eq_some_iff.1 hh).1, fun j hj => ?_⟩⟩
    rw [Nat.zero_add, cell_of_row w g j cur e (0, 0) hh]
    have h3 : (l.map enc)[j]? = some (enc l[j]) := by simp [hj]
    rw [← ht, List.getElem?_take] at h3
    split at h3
    · simpa using h3
    · cases h3
theorem O1.below {B : Nat} {e : TypeId} (h : O1 enc B e w v l) (hb : Below w.heap.size w w') : O1 enc B e w' v l := by
  refine ⟨h.1, ?_⟩
  rcases h.2 with hn | ⟨g, cap, cur, hv, hg, hh, r⟩
  · exact .inl hn
  · exact .inr ⟨g, cap, cur, hv, hg, (hb.block g (Array.getElem?_eq_some_iff.1 hh).1).trans hh, r⟩
theorem O1.mono {B B' : Nat} {e : TypeId} (h : O1 enc B e w v l) (hB : B' ≤ B) : O1 enc B' e w v l := by
  refine ⟨h.1, ?_⟩
  rcases h.2 with hn | ⟨g, cap, cur, hv, hg, hh, r⟩
  · exact .inl hn
  · exact .inr ⟨g, cap, cur, hv, by omega, hh, r⟩
theorem O1.nil (enc : α → Value) (B : Nat) (e : TypeId) (w : World) : O1 enc B e w (.slice none 0 0) [] := ⟨by simp, .inl ⟨rfl, rfl⟩⟩
theorem O1.made (enc : α → Value) (w : World) (e : TypeId) : O1 enc w.heap.size e (w.alloc (.cells #[] e)) (.slice (some ⟨w.heap.size, 0, none⟩) 0 0) [] :=
  World.ownsRow_made w #[] 0 (Nat.le_refl _) (by unfold maxLen; omega) (by simp)
theorem O1.alloc {B : Nat} {e : TypeId} (h : O1 enc B e w v l) (o : Obj) : O1 enc B e (w.alloc o) v l := h.below ((Below.refl _ _).alloc (Nat.le_refl _) o)
theorem O1.len {B : Nat} {e : TypeId} (h : O1 enc B e w v l) : l.length ≤ maxLen := h.r1.len
end

theorem flat_get {α : Type} {enc : α → List Value} {m : Nat} (hm : ∀ a, (enc a).length = m) : ∀ (l : List α) (j t : Nat) (hj : j < l.length), t < m → (l.flatMap enc)[j * m + t]? = (enc l[j])[t]?
  | [], j, _, hj, _ => by simp at hj
  | x :: l, 0, t, _, ht => by
    rw [List.flatMap_cons, Nat.zero_mul, Nat.zero_add, List.getElem?_append_left (by rw [hm]; exact ht)]; rfl
  | x :: l, j + 1, t, hj, ht => by
    rw [List.flatMap_cons, List.getElem?_append_right (by rw [hm, Nat.succ_mul]; omega), hm]
    have : (j + 1) * m + t - m = j * m + t := by rw [Nat.succ_mul]; omega
    rw [this, flat_get hm l j t (by simpa using hj) ht]; rfl
theorem flat_len {α : Type} {enc : α → List Value} {m : Nat} (hm : ∀ a, (enc a).length = m) : ∀ (l : List α), (l.flatMap enc).length = l.length * m
  | [] => by simp
  | x :: l => by rw [List.flatMap_cons, List.length_append, hm, flat_len hm l, List.length_cons, Nat.succ_mul]; omega

section
variable {α : Type} {e1 e2 : α → Value} {w w' : World} {v : Value} {l : List α}
/-- The slice value v reads as the list l, two cells an element. -/
def R2 (e1 e2 : α → Value) (w : World) (v : Value) (l : List α) : Prop :=
  ∃ (A : Option Addr) (c : Nat), v = .slice A l.length c ∧ (l.length ≤ c ∧ (A = none → c = 0)) ∧ c ≤ maxLen ∧
    (0 < l.length → ∃ b o, A = some ⟨b, o, none⟩ ∧ b < w.heap.size ∧ ∀ j (hj : j < l.length), w.cell? ⟨b, o + j * 2, none⟩ = some (e1 l[j]) ∧ w.cell? ⟨b, o + j * 2 + 1, none⟩ = some (e2 l[j]))
theorem R2.keep (h : R2 e1 e2 w v l) (hs : w.heap.size ≤ w'.heap.size) (hk : ∀ p : Addr, p.block < w.heap.size → w'.cell? p = w.cell? p) : R2 e1 e2 w' v l := by
  obtain ⟨A, c, hv, h1, h2, h3⟩ := h
  refine ⟨A, c, hv, h1, h2, fun hl => ?_⟩
  obtain ⟨b, o, hA, hb, hc⟩ := h3 hl
  exact ⟨b, o, hA, by omega, fun j hj => ⟨(hk _ hb).trans (hc j hj).1, (hk _ hb).trans (hc j hj).2⟩⟩
theorem R2.below (h : R2 e1 e2 w v l) (hb : Below w.heap.size w w') : R2 e1 e2 w' v l := h.keep hb.size fun _ hp => hb.cell hp
theorem R2.alloc (h : R2 e1 e2 w v l) (o : Obj) : R2 e1 e2 (w.alloc o) v l := h.below ((Below.refl _ _).alloc (Nat.le_refl _) o)
theorem R2.len (h : R2 e1 e2 w v l) : l.length ≤ maxLen := by obtain ⟨_, _, _, h1, h2, _⟩ := h; omega
def O2 (e1 e2 : α → Value) (B : Nat) (e : TypeId) (w : World) (v : Value) (l : List α) : Prop := w.ownsRow B e 2 v l.length (l.flatMap fun a => [e1 a, e2 a])
theorem O2.r2 {B : Nat} {e : TypeId} (h : O2 e1 e2 B e w v l) : R2 e1 e2 w v l := by
  obtain ⟨h1, h2⟩ := h
  rcases h2 with ⟨rfl, h0⟩ | ⟨g, cap, cur, rfl, hg, hh, hn, hc, hs, ht⟩
  · have : l = [] := List.eq_nil_of_length_eq_zero h0
    subst this
    exact ⟨none, 0, rfl, ⟨Nat.le_refl _, fun _ => rfl⟩, by unfold maxLen; omega, fun h => by simp at h⟩
  · refine ⟨_, cap, rfl, ⟨hn, fun h => by cases h⟩, hc, fun _ => ⟨g, 0, rfl, (Array.getElem?_eq_some_iff.1 hh).1, fun j hj => ?_⟩⟩
    have key : ∀ t, t < 2 → cur[j * 2 + t]? = [e1 l[j], e2 l[j]][t]? := by
      intro t ht2
      have h3 := flat_get (enc := fun a => [e1 a, e2 a]) (m := 2) (fun _ => rfl) l j t hj ht2
      rw [← ht, List.getElem?_take, if_pos (by omega)] at h3
      simpa using h3
    rw [cell_of_row w g _ cur e (0, 0) hh, cell_of_row w g _ cur e (0, 0) hh, Nat.zero_add]
    exact ⟨key 0 (by omega), key 1 (by omega)⟩
theorem O2.below {B : Nat} {e : TypeId} (h : O2 e1 e2 B e w v l) (hb : Below w.heap.size w w') : O2 e1 e2 B e w' v l := by
  refine ⟨h.1, ?_⟩
  rcases h.2 with hn | ⟨g, cap, cur, hv, hg, hh, r⟩
  · exact .inl hn
  · exact .inr ⟨g, cap, cur, hv, hg, (hb.block g (Array.getElem?_eq_some_iff.1 hh).1).trans hh, r⟩
end

theorem below_bb {a b c : World} (h : Below a.heap.size a b) (k : Below b.heap.size b c) : Below a.heap.size a c := h.trans (k.mono h.size)
theorem below_drew {a b : World} (h : Below a.heap.size a b) : Below a.heap.size a b.drew := h.drew
theorem below_alloc {a b : World} (h : Below a.heap.size a b) (o : Obj) : Below a.heap.size a (b.alloc o) := h.alloc h.size o
/-- All old cells and marks read as before. -/
theorem bcell {W w1 : World} {B : Nat} (hb : Below B W w1) : (∀ b o, b < B → w1.cell? ⟨b, o, none⟩ = W.cell? ⟨b, o, none⟩) ∧ (∀ b o, b < B → w1.frozen? ⟨b, o, none⟩ = W.frozen? ⟨b, o, none⟩) :=
  ⟨fun b o h => hb.cell (p := ⟨b, o, none⟩) h, fun b o h => hb.frozen (p := ⟨b, o, none⟩) h⟩

theorem retb {a b : Bool} (h : a = b) : Ending.returned (.bool a) = Ending.returned (.bool b) := by rw [h]
theorem reti {k : IntKind} {a b : Int} (h : a = b) : Ending.returned (.int k a) = Ending.returned (.int k b) := by rw [h]

/-- W, with whatever X has laid above it. -/
def up (W X : World) : World := { W with heap := W.heap ++ X.heap.extract W.heap.size X.heap.size, drawn := X.drawn }
theorem up_below (W X : World) : Below W.heap.size W (up W X) :=
  ⟨rfl, rfl, rfl, by simp [up], fun k hk => by simp only [up]; rw [Array.getElem?_append_left hk]⟩
theorem below_up {W w' : World} (h : Below W.heap.size W w') : w' = up W w' := by
  obtain ⟨h1, h2, h3, h4, h5⟩ := h
  have hh : w'.heap = W.heap ++ w'.heap.extract W.heap.size w'.heap.size := by
    apply Array.ext_getElem?
    intro k
    by_cases hk : k < W.heap.size
    · rw [h5 k hk, Array.getElem?_append_left hk]
    · rw [Array.getElem?_append_right (by omega)]
      rw [Array.getElem?_extract]
      by_cases h6 : k < w'.heap.size
      · rw [if_pos (by omega)]; congr 1; omega
      · rw [if_neg (by omega), Array.getElem?_eq_none (by omega)]
  obtain ⟨a, b, c, d, e⟩ := w'
  simp only at h1 h2 h3 hh
  simp only [up]
  rw [← hh, h1, h2, h3]
theorem up_cell (W : World) : ∀ (X : World) (b o : Nat), b < W.heap.size → (up W X).cell? ⟨b, o, none⟩ = W.cell? ⟨b, o, none⟩ := fun X b o h => (up_below W X).cell (p := ⟨b, o, none⟩) h
/-- A region that draws its order, whose operations read, and whose callees may make memory but hand back plain values: walked once. -/
theorem wp_region_up {P : Program} {id : Nat} {Q : Exit → Act → World → Prop} {a : Act} {w : World} {l : List Oper} (hm : P.follows .mixedOrders = true) (hB : Region.lexB .any l.toArray = true)
    (h : wpQuiet P l.toArray (fun w' => ∃ X, w' = up w X) (fun a' => ∀ w', (∃ X, w' = up w X) → Q .normal a' w') l a) : (Code.region id l.toArray true).wp P Q a w :=
  wp_region_quiet (C := fun w' => ∃ X, w' = up w X) hm hB ⟨_, below_up (W := w) (w' := { w with drawn := w.drawn + 1 }) ⟨rfl, rfl, rfl, Nat.le_refl _, fun _ _ => rfl⟩⟩ (by simpa using h)
theorem up_call {P : Program} {f : FuncId} {args : Array Value} {W X : World} {v : Value}
    (h : Calls P f args (up W X) fun e w' => e = .returned v ∧ Below (up W X).heap.size (up W X) w') : Calls P f args (up W X) fun e w'' => e = .returned v ∧ ∃ X', w'' = up W X' :=
  h.mono fun _ _ ⟨he, hb⟩ => ⟨he, _, below_up (below_bb (up_below W X) hb)⟩
theorem up_same {P : Program} {f : FuncId} {args : Array Value} {W X : World} {v : Value}
    (h : Calls P f args (up W X) fun e w' => e = .returned v ∧ up W X = w') : Calls P f args (up W X) fun e w'' => e = .returned v ∧ ∃ X', w'' = up W X' :=
  h.mono fun _ _ ⟨he, hb⟩ => ⟨he, X, hb.symm⟩
theorem R1.up {α : Type} {enc : α → Value} {w : World} {v : Value} {l : List α} (h : R1 enc w v l) (X : World) : R1 enc (up w X) v l := h.below (up_below w X)
theorem of_up {W w' : World} (h : ∃ X, w' = Go.Proofs.YtcplnfmcefkehaaGreat.up W X) : Below W.heap.size W w' := by obtain ⟨X, rfl⟩ := h; exact up_below W X

/-- append of ONE element, that has just been laid into a block of its own, onto a row of the call's own. -/
theorem app_one {P : Program} {ops : Array Oper} {rest : List Oper} {o : Oper} {a : Act} {Q : Exit → Act → World → Prop} {w : World} (t e size bytes : Nat) (i : TypeInfo) (z : Value)
    (ht : P.underlying t = some (.slice e)) (hi : P.info? e = some i) (hz : i.zero = some z) (hsize : i.size = size) (hby : i.bytes = bytes) (hzs : z.cells.size = size) (hsz : 0 < size) (hb100 : bytes ≤ 1000)
    {base : Nat} {v : Value} {n : Nat} {xs : List Value} (hown : w.ownsRow base e size v n xs) (hn : n ≤ 100000000000) (hbase : base ≤ w.heap.size)
    {cur : Array Value} (hgd : o.guard = none) {s x : Operand} (ho : o.op = .call { callee := .builtin .append, args := #[s, x], argTypes := #[t, t] })
    (hs : a.eval s = v) (hx : a.eval x = .slice (some ⟨w.heap.size, 0, none⟩) 1 1) (hl : cur.size = size) (h1 : ∀ u ∈ cur.toList, u.oneCell' = true)
    (h : ∀ v' w', w'.ownsRow base e size v' (n + 1) (xs ++ cur.toList) → Below base w w' → wpList P ops Q rest (a.put o.dst v') w') : wpList P ops Q (o :: rest) a (w.alloc (.cells cur e)) := by
  have hbd : (n + 1) * bytes ≤ 100000000001 * 1000 := Nat.mul_le_mul (by omega) hb100
  refine wpList_append_own _ hgd s x t ho base e i z size bytes ht hi hz hsize hby hzs hsz v n xs hs
    (hown.alloc _) ⟨w.heap.size, 0, none⟩ 1 1 cur.toList hx (by simp [hl]) (fun j u hu => ?_) h1 (by unfold maxLen; omega) (by omega) (by simp; omega) ?_
  · have hadd : (⟨w.heap.size, 0, none⟩ : Addr).add j = ⟨w.heap.size, j, none⟩ := by unfold Addr.add; split <;> simp_all
    rw [hadd, cell_of_row _ w.heap.size j cur e (0, 0) (heap_alloc_new w _)]
    simpa using hu
  · intro v' w' h2 h3 _
    exact h v' w' h2 (((Below.refl _ _).alloc hbase _).grown h3 (by simp; omega) (fun k hk => ((hown.alloc (.cells cur e)).lt k hk).1))

/-- append of a WHOLE slice onto a row of the call's own. -/
theorem app_all {α : Type} {enc : α → Value} (h1 : ∀ x, (enc x).oneCell' = true) {P : Program} {ops : Array Oper} {rest : List Oper} {o : Oper} {a : Act} {Q : Exit → Act → World → Prop} {w : World} (t e bytes : Nat) (i : TypeInfo) (z : Value)
    (ht : P.underlying t = some (.slice e)) (hi : P.info? e = some i) (hz : i.zero = some z) (hsize : i.size = 1) (hby : i.bytes = bytes) (hzs : z.cells.size = 1) (hb100 : bytes ≤ 1000)
    {base : Nat} {v x : Value} {l l2 : List α} (hown : O1 enc base e w v l) (hr : R1 enc w x l2) (hn : l.length + l2.length ≤ 100000000000) (hbase : base ≤ w.heap.size)
    (hgd : o.guard = none) {s y : Operand} (ho : o.op = .call { callee := .builtin .append, args := #[s, y], argTypes := #[t, t] })
    (hs : a.eval s = v) (hx : a.eval y = x)
    (h : ∀ v' w', O1 enc base e w' v' (l ++ l2) → Below base w w' → wpList P ops Q rest (a.put o.dst v') w') : wpList P ops Q (o :: rest) a w := by
  obtain ⟨A, c, rfl, h2, h3, h4⟩ := hr
  have hbd : (l.length + l2.length) * bytes ≤ 100000000000 * 1000 := Nat.mul_le_mul hn hb100
  rcases A with _ | ad
  · have hc0 : c = 0 := h2.2 rfl
    have hl0 : l2 = [] := List.eq_nil_of_length_eq_zero (by omega)
    subst hc0 hl0
    exact wpList_append_own_none hgd s y t ho base e i 1 ht hi v l.length _ hs hown hx (h v w (by rw [List.append_nil]; exact hown) (Below.refl _ _))
  · refine wpList_append_own _ hgd s y t ho base e i z 1 bytes ht hi hz hsize hby hzs (by omega) v l.length _ hs hown ad l2.length c (l2.map enc) hx (by simp) (fun j u hu => ?_) (by simp; intro x _; exact h1 x) (by unfold maxLen; omega) (by omega) hbase ?_
    · have hj : j < l2.length := by have := (List.getElem?_eq_some_iff.1 hu).1; simpa using this
      obtain ⟨b, o', hA, hb, hcell⟩ := h4 (by omega)
      cases hA
      have hadd : (⟨b, o', none⟩ : Addr).add j = ⟨b, o' + j, none⟩ := by unfold Addr.add; split <;> simp_all
      rw [hadd, hcell j hj]
      simp [hj] at hu
      rw [hu]
    · intro v' w' h5 h6 _
      exact h v' w' (by unfold O1; simpa using h5) ((Below.refl _ _).grown h6 hbase (fun k hk => (World.ownsRow.lt hown k hk).1))

/-- Infos of the types whose rows are appended to. -/
theorem info_int : (Tryz.prog.info? 3).map (fun i => (i.zero, i.size, i.bytes)) = some (some (.int .i64 0), 1, 8) := by kernel_rfl
theorem info_tree : (Tryz.prog.info? 167).map (fun i => (i.zero, i.size, i.bytes)) = some (some (.agg #[.int .i64 0, .int .i64 0]), 2, 16) := by kernel_rfl

section
variable {ops : Array Oper} {rest : List Oper} {o : Oper} {a : Act} {Q : Exit → Act → World → Prop} {w : World} {base : Nat} {v : Value}
theorem app_int {l : List Int} (hown : O1 (Value.int .i64) base 3 w v l) (hn : l.length ≤ 100000000000) (hbase : base ≤ w.heap.size) {y : Int} (hgd : o.guard = none) {s x : Operand}
    (ho : o.op = .call { callee := .builtin .append, args := #[s, x], argTypes := #[39, 39] }) (hs : a.eval s = v) (hx : a.eval x = .slice (some ⟨w.heap.size, 0, none⟩) 1 1)
    (h : ∀ v' w', O1 (Value.int .i64) base 3 w' v' (l ++ [y]) → Below base w w' → wpList Tryz.prog ops Q rest (a.put o.dst v') w') : wpList Tryz.prog ops Q (o :: rest) a (w.alloc (.cells #[.int .i64 y] 3)) := by
  obtain ⟨i0, hi, hz0, hz1, hz2⟩ := info_parts info_int
  exact app_one 39 3 1 8 i0 _ Tryz.underlying39 hi hz0 hz1 hz2 rfl (by omega) (by omega) hown hn hbase hgd ho hs hx rfl (by simp; rfl) fun v' w' h2 h3 => h v' w' (by unfold O1; simpa using h2) h3
theorem app_ints {l l2 : List Int} {x : Value} (hown : O1 (Value.int .i64) base 3 w v l) (hr : RI w x l2) (hn : l.length + l2.length ≤ 100000000000) (hbase : base ≤ w.heap.size)
    (hgd : o.guard = none) {s y : Operand} (ho : o.op = .call { callee := .builtin .append, args := #[s, y], argTypes := #[39, 39] }) (hs : a.eval s = v) (hx : a.eval y = x)
    (h : ∀ v' w', O1 (Value.int .i64) base 3 w' v' (l ++ l2) → Below base w w' → wpList Tryz.prog ops Q rest (a.put o.dst v') w') : wpList Tryz.prog ops Q (o :: rest) a w := by
  obtain ⟨i0, hi, hz0, hz1, hz2⟩ := info_parts info_int
  exact app_all (fun _ => rfl) 39 3 8 i0 _ Tryz.underlying39 hi hz0 hz1 hz2 rfl (by omega) hown hr hn hbase hgd ho hs hx h
theorem app_tree {n : Nat} {xs : List Value} (hown : w.ownsRow base 167 2 v n xs) (hn : n ≤ 100000000000) (hbase : base ≤ w.heap.size) {y z : Int} (hgd : o.guard = none) {s x : Operand}
    (ho : o.op = .call { callee := .builtin .append, args := #[s, x], argTypes := #[163, 163] }) (hs : a.eval s = v) (hx : a.eval x = .slice (some ⟨w.heap.size, 0, none⟩) 1 1)
    (h : ∀ v' w', w'.ownsRow base 167 2 v' (n + 1) (xs ++ [.int .i64 y, .int .i64 z]) → Below base w w' → wpList Tryz.prog ops Q rest (a.put o.dst v') w') :
    wpList Tryz.prog ops Q (o :: rest) a (w.alloc (.cells #[.int .i64 y, .int .i64 z] 167)) := by
  obtain ⟨i0, hi, hz0, hz1, hz2⟩ := info_parts info_tree
  exact app_one 163 167 2 16 i0 _ Tryz.underlying163 hi hz0 hz1 hz2 rfl (by omega) (by omega) hown hn hbase hgd ho hs hx rfl (by simp; exact ⟨rfl, rfl⟩) h
end
end Go.Proofs.YtcplnfmcefkehaaGreat
namespace Go.Proofs.YtcplnfmcefkehaaGreat
open Go.RowKit

theorem l6In_any (n a b : Int) (w : World) :
    Calls Tryz.prog 85 #[.int .i64 n, .int .i64 a, .int .i64 b] w fun e w' => e = .returned (.bool (inB n a b)) ∧ w = w' := by
  go_enter Tryz.func85, Tryz.ntmps85
  go_wp2
  all_goals (go_ret; exact ⟨retb (by unfold inB; simp <;> omega), rfl⟩)
theorem within_any (n a b : Int) (w : World) :
    Calls Tryz.prog 107 #[.int .i64 n, .int .i64 a, .int .i64 b] w fun e w' => e = .returned (.bool (inB n a b)) ∧ w = w' := by
  go_enter Tryz.func107, Tryz.ntmps107
  go_wp2
  all_goals (go_ret; exact ⟨retb (by unfold inB; simp <;> omega), rfl⟩)
theorem l1Digest_any (n : Int) (w : World) :
    Calls Tryz.prog 152 #[.int .i64 n] w fun e w' => e = .returned (.bool (dig n)) ∧ w = w' := by
  go_enter Tryz.func152, Tryz.ntmps152
  go_wp2_with (go_at_call 85; refine (l6In_any _ _ _ _).mono ?_; rintro e w' ⟨rfl, rfl⟩)
  go_ret; exact ⟨rfl, rfl⟩
theorem isDigest_any (n : Int) (w : World) :
    Calls Tryz.prog 165 #[.int .i64 n] w fun e w' => e = .returned (.bool (dig n)) ∧ w = w' := by
  go_enter Tryz.func165, Tryz.ntmps165
  go_wp2_with (go_at_call 107; refine (within_any _ _ _ _).mono ?_; rintro e w' ⟨rfl, rfl⟩)
  go_ret; exact ⟨rfl, rfl⟩
theorem l3Key_any (n : Int) (w : World) :
    Calls Tryz.prog 84 #[.int .i64 n] w fun e w' => e = .returned (.bool (key n)) ∧ w = w' := by
  go_enter Tryz.func84, Tryz.ntmps84
  go_wp2_with (go_at_call 85; refine (l6In_any _ _ _ _).mono ?_; rintro e w' ⟨rfl, rfl⟩)
  go_ret; exact ⟨rfl, rfl⟩
theorem isKey_any (n : Int) (w : World) :
    Calls Tryz.prog 106 #[.int .i64 n] w fun e w' => e = .returned (.bool (key n)) ∧ w = w' := by
  go_enter Tryz.func106, Tryz.ntmps106
  go_wp2_with (go_at_call 107; refine (within_any _ _ _ _).mono ?_; rintro e w' ⟨rfl, rfl⟩)
  go_ret; exact ⟨rfl, rfl⟩

theorem l1Text_any (s : ByteArray) (w : World) (hs : s.size ≤ maxLen) :
    Calls Tryz.prog 93 #[.string s] w fun e w' => e = .returned (.int .i64 (textD s.data.toList)) ∧ w = w' := by
  unfold maxLen at hs
  go_enter Tryz.func93, Tryz.ntmps93
  go_wp2
  go_loop [3, 4] (fun n i => ∃ k : Nat, k ≤ s.size ∧ i = .int .i64 k ∧ n = .int .i64 (textD (s.data.toList.take k))) (fun _ i => s.size - (intOf i).toNat)
  case atStart => exact ⟨0, Nat.zero_le _, rfl, rfl⟩
  case round =>
    obtain ⟨k, hk, rfl, rfl⟩ := hrel
    have hd := textD_bd (s.data.toList.take k)
    by_cases hlt : k < s.size
    · have hb : (s[k].toNat : Int) < 256 := by have := s[k].toNat_lt; omega
      have HS := Lib.hid (textD_snoc (s.data.toList.take k) s[k])
      have HT := Lib.hid (take_snoc hlt)
      generalize textD (s.data.toList.take k) = t at *
      go_wp2
      go_round
      case rel => exact ⟨k + 1, by omega, by go_num, by rw [HT.out, HS.out]⟩
      case measure => simp [intOf]; omega
    · go_wp2
      go_ret
      exact ⟨reti (by rw [List.take_of_length_le (by simp; omega)]), rfl⟩
theorem DigestText_ok (s : ByteArray) (w : World) (hs : s.size ≤ 8) :
    Calls Tryz.prog 76 #[.string s] w fun e w' => e = .returned (.int .i64 (textD s.data.toList)) ∧ w = w' := by
  go_enter Tryz.func76, Tryz.ntmps76
  go_wp2
  go_loop [3, 4] (fun n i => ∃ k : Nat, k ≤ s.size ∧ i = .int .i64 k ∧ n = .int .i64 (textD (s.data.toList.take k))) (fun _ i => s.size - (intOf i).toNat)
  case atStart => exact ⟨0, Nat.zero_le _, rfl, rfl⟩
  case round =>
    obtain ⟨k, hk, rfl, rfl⟩ := hrel
    have hd := textD_bd (s.data.toList.take k)
    by_cases hlt : k < s.size
    · have hb : (s[k].toNat : Int) < 256 := by have := s[k].toNat_lt; omega
      have HS := Lib.hid (textD_snoc (s.data.toList.take k) s[k])
      have HT := Lib.hid (take_snoc hlt)
      generalize textD (s.data.toList.take k) = t at *
      go_wp2
      go_round
      case rel => exact ⟨k + 1, by omega, by go_num, by rw [HT.out, HS.out]⟩
      case measure => simp [intOf]; omega
    · go_wp2
      go_ret
      exact ⟨reti (by rw [List.take_of_length_le (by simp; omega)]), rfl⟩
theorem l1Pair_any (a b : Int) (w : World) (ha : dig a = true) (hb : dig b = true) :
    Calls Tryz.prog 197 #[.int .i64 a, .int .i64 b] w fun e w' => e = .returned (.int .i64 (pair a b)) ∧ w = w' := by
  have ⟨ha0, ha1⟩ := dig_true.1 ha; clear ha
  have ⟨hb0, hb1⟩ := dig_true.1 hb; clear hb
  go_enter Tryz.func197, Tryz.ntmps197
  go_wp2
  go_ret; exact ⟨reti (by unfold pair; omega), rfl⟩
theorem DigestPair_any (a b : Int) (w : World) (ha : dig a = true) (hb : dig b = true) :
    Calls Tryz.prog 198 #[.int .i64 a, .int .i64 b] w fun e w' => e = .returned (.int .i64 (pair a b)) ∧ w = w' := by
  have ⟨ha0, ha1⟩ := dig_true.1 ha
  have ⟨hb0, hb1⟩ := dig_true.1 hb
  go_enter Tryz.func198, Tryz.ntmps198
  go_wp2_with (go_at_call 165; refine (isDigest_any _ _).mono ?_; rintro e w' ⟨rfl, rfl⟩)
  go_ret; exact ⟨reti (by unfold pair; omega), rfl⟩
theorem l3Message_any (a b : Int) (w : World) (ha : dig a = true) (hb : dig b = true) :
    Calls Tryz.prog 153 #[.int .i64 a, .int .i64 b] w fun e w' => e = .returned (.int .i64 (pair a b + 1)) ∧ w = w' := by
  have ⟨hp0, hp1⟩ := pair_bd a b
  go_enter Tryz.func153, Tryz.ntmps153
  go_wp2_with (go_at_call 197; refine (l1Pair_any _ _ _ ha hb).mono ?_; rintro e w' ⟨rfl, rfl⟩)
  go_ret; exact ⟨rfl, rfl⟩
theorem HeadPublic_i (s : Int) (w : World) :
    Calls Tryz.prog 113 #[.int .i64 s] w fun e w' => e = .returned (.int .i64 (if key s then s * 5 % 997 else 0)) ∧ w = w' := by
  cases hk : key s
  · go_enter Tryz.func113, Tryz.ntmps113
    go_wp2_with (go_at_call 106; refine (isKey_any _ _).mono ?_; rintro e w' ⟨rfl, rfl⟩)
    go_ret; exact ⟨rfl, rfl⟩
  · have ⟨h0, h1⟩ := key_true.1 hk
    go_enter Tryz.func113, Tryz.ntmps113
    go_wp2_with (go_at_call 106; refine (isKey_any _ _).mono ?_; rintro e w' ⟨rfl, rfl⟩)
    go_ret; exact ⟨rfl, rfl⟩
theorem HeadPublic_s (s : Int) (w : World) :
    Calls Tryz.prog 87 #[.int .i64 s] w fun e w' => e = .returned (.int .i64 (if key s then s * 5 % 997 else 0)) ∧ w = w' := by
  cases hk : key s
  · go_enter Tryz.func87, Tryz.ntmps87
    go_wp2_with (go_at_call 84; refine (l3Key_any _ _).mono ?_; rintro e w' ⟨rfl, rfl⟩)
    go_ret; exact ⟨rfl, rfl⟩
  · have ⟨h0, h1⟩ := key_true.1 hk
    go_enter Tryz.func87, Tryz.ntmps87
    go_wp2_with (go_at_call 84; refine (l3Key_any _ _).mono ?_; rintro e w' ⟨rfl, rfl⟩)
    go_ret; exact ⟨rfl, rfl⟩
end Go.Proofs.YtcplnfmcefkehaaGreat

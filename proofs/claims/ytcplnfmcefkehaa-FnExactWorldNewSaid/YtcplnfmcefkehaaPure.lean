/- The plain functions: digests, trees, heads. No program in sight. No condition. -/
import Derived.Below
namespace Go.Proofs.Ytcplnfmcefkehaa

def inB (n a b : Int) : Bool := decide (a ≤ n ∧ n ≤ b)
def dig (n : Int) : Bool := inB n 0 990
def key (n : Int) : Bool := inB n 1 996
/-- The digest of two digests. -/
def pair (a b : Int) : Int := (31 * a + 17 * b + 5) % 991
/-- The digest of a text. -/
def textD (s : List UInt8) : Int := s.foldl (fun n c => (257 * n + (c.toNat : Int) + 1) % 991) 11

theorem inB_true {n a b : Int} : inB n a b = true ↔ a ≤ n ∧ n ≤ b := by simp [inB]
theorem inB_false {n a b : Int} : inB n a b = false ↔ n < a ∨ b < n := by simp [inB]; omega
theorem dig_true {n : Int} : dig n = true ↔ 0 ≤ n ∧ n ≤ 990 := by simp [dig, inB]
theorem key_true {n : Int} : key n = true ↔ 1 ≤ n ∧ n ≤ 996 := by simp [key, inB]
theorem pair_bd (a b : Int) : 0 ≤ pair a b ∧ pair a b ≤ 990 := by unfold pair; omega
theorem pair_dig (a b : Int) : dig (pair a b) = true := dig_true.2 (pair_bd a b)
theorem textD_snoc (s : List UInt8) (c : UInt8) : textD (s ++ [c]) = (257 * textD s + (c.toNat : Int) + 1) % 991 := by simp [textD]
theorem textD_bd (s : List UInt8) : 0 ≤ textD s ∧ textD s ≤ 990 := by
  rcases List.eq_nil_or_concat s with rfl | ⟨l, c, rfl⟩
  · simp [textD]
  · rw [List.concat_eq_append, textD_snoc]; omega
theorem textD_dig (s : List UInt8) : dig (textD s) = true := dig_true.2 (textD_bd s)
theorem take_snoc {s : ByteArray} {k : Nat} (h : k < s.size) : s.data.toList.take (k + 1) = s.data.toList.take k ++ [s[k]] := by
  rw [List.take_succ_eq_append_getElem (by simpa using h)]; rfl

/-- The size of the largest complete tree from a place on: over Nat, by fuel. -/
def szF (p n : Nat) : Nat → Nat → Nat
  | 0, s => s
  | f + 1, s => if 2 * s ≤ n - p ∧ p % (2 * s) = 0 then szF p n f (2 * s) else s
def sz (p n : Nat) : Nat := szF p n 5 1
/-- The trees into which the leaves from p to n are divided: (start, size). -/
def treesF : Nat → Nat → Nat → List (Nat × Nat)
  | 0, _, _ => []
  | f + 1, p, n => if p < n then (p, sz p n) :: treesF f (p + sz p n) n else []
def trees (p n : Nat) : List (Nat × Nat) := treesF 17 p n
theorem szF_le (p n : Nat) (h : p < n) : ∀ f s, 1 ≤ s → s ≤ n - p → szF p n f s ≤ n - p ∧ 1 ≤ szF p n f s
  | 0, s, h1, h2 => ⟨h2, h1⟩
  | f + 1, s, h1, h2 => by
    unfold szF
    split
    · rename_i hc; exact szF_le p n h f (2 * s) (by omega) hc.1
    · exact ⟨h2, h1⟩
theorem szF_stop {p n s : Nat} (h : ¬ (2 * s ≤ n - p ∧ p % (2 * s) = 0)) : ∀ f, szF p n f s = s
  | 0 => rfl
  | f + 1 => by unfold szF; rw [if_neg h]
theorem szF_go {p n s f : Nat} (h : 2 * s ≤ n - p ∧ p % (2 * s) = 0) : szF p n (f + 1) s = szF p n f (2 * s) := by
  conv => lhs; unfold szF
  rw [if_pos h]
theorem sz_bd {p n : Nat} (h : p < n) : 1 ≤ sz p n ∧ sz p n ≤ n - p := by
  have := szF_le p n h 5 1 (by omega) (by omega); unfold sz; omega
theorem treesF_fuel : ∀ f g p n, n - p ≤ f → n - p ≤ g → treesF f p n = treesF g p n
  | 0, 0, _, _, _, _ => rfl
  | 0, g + 1, p, n, h, _ => by unfold treesF; rw [if_neg (by omega)]
  | f + 1, 0, p, n, _, h => by unfold treesF; rw [if_neg (by omega)]
  | f + 1, g + 1, p, n, h1, h2 => by
    unfold treesF
    by_cases hp : p < n
    · rw [if_pos hp, if_pos hp, treesF_fuel f g _ _ (by have := sz_bd hp; omega) (by have := sz_bd hp; omega)]
    · rw [if_neg hp, if_neg hp]
theorem trees_cons {p n : Nat} (h : p < n) (hn : n ≤ 16) : trees p n = (p, sz p n) :: trees (p + sz p n) n := by
  unfold trees
  conv => lhs; unfold treesF
  rw [if_pos h, treesF_fuel 16 17 _ _ (by have := sz_bd h; omega) (by have := sz_bd h; omega)]
theorem trees_nil {p n : Nat} (h : n ≤ p) : trees p n = [] := by
  unfold trees treesF; rw [if_neg (by omega)]
theorem treesF_len : ∀ f p n, (treesF f p n).length ≤ f
  | 0, _, _ => by simp [treesF]
  | f + 1, p, n => by
    unfold treesF; split
    · have := treesF_len f (p + sz p n) n; simp; omega
    · simp
theorem trees_len (p n : Nat) : (trees p n).length ≤ 17 := treesF_len 17 p n
theorem trees_pre {p0 p n : Nat} {out : List (Nat × Nat)} (h : out ++ trees p n = trees p0 n) : out.length ≤ 17 := by
  have h1 := congrArg List.length h
  have h2 := trees_len p0 n
  simp at h1; omega
/-- The root of the tree of level k from start s on. -/
def rootN (l : List Int) : Nat → Nat → Int
  | 0, s => l.getD s 0
  | k + 1, s => pair (rootN l k s) (rootN l k (s + 2 ^ k))
def digs (l : List Int) : Bool := l.all dig
theorem digs_get {l : List Int} (h : digs l = true) {j : Nat} (hj : j < l.length) : dig l[j] = true := by
  unfold digs at h; rw [List.all_eq_true] at h; exact h _ (List.getElem_mem hj)
theorem rootN_dig {l : List Int} (h : digs l = true) : ∀ k s, s + 2 ^ k ≤ l.length → dig (rootN l k s) = true
  | 0, s, hs => by unfold rootN; rw [List.getD_eq_getElem?_getD, List.getElem?_eq_getElem (by omega)]; exact digs_get h _
  | k + 1, s, _ => pair_dig _ _
theorem digs_no {l : List Int} {j : Nat} (hj : j < l.length) (h : dig l[j] = false) : digs l = false := by
  unfold digs; rw [List.all_eq_false]; exact ⟨_, List.getElem_mem hj, by simp [h]⟩
theorem digs_snoc {l : List Int} {k : Nat} (hk : k < l.length) (h : digs (l.take k) = true) (hd : dig l[k] = true) : digs (l.take (k + 1)) = true := by
  unfold digs at *; rw [List.take_succ_eq_append_getElem hk, List.all_append, h]; simp [hd]
theorem digs_all {l : List Int} {k : Nat} (hk : l.length ≤ k) (h : digs (l.take k) = true) : digs l = true := by rwa [List.take_of_length_le hk] at h
def leavesOk (l : List Int) : Bool := decide (l.length ≤ 16) && digs l
theorem leavesOk_true {l : List Int} : leavesOk l = true ↔ l.length ≤ 16 ∧ digs l = true := by simp [leavesOk]
/-- The digest of a number with peaks. -/
def fold (n : Int) (peaks : List Int) : Int := peaks.foldl pair n
theorem fold_snoc (n : Int) (l : List Int) (x : Int) : fold n (l ++ [x]) = pair (fold n l) x := by simp [fold]
theorem fold_dig {n : Int} (hn : dig n = true) (l : List Int) : dig (fold n l) = true := by
  rcases List.eq_nil_or_concat l with rfl | ⟨l, c, rfl⟩
  · exact hn
  · rw [List.concat_eq_append, fold_snoc]; exact pair_dig _ _
theorem take_snocI {α : Type} {l : List α} {k : Nat} (h : k < l.length) : l.take (k + 1) = l.take k ++ [l[k]] := List.take_succ_eq_append_getElem h
def rootT (l : List Int) (t : Nat × Nat) : Int := rootN l t.2.log2 t.1
theorem trees_ok : ∀ n, n < 17 → ∀ p, p < 17 → ∀ t ∈ trees p n, t.1 + t.2 ≤ n ∧ 2 ^ t.2.log2 = t.2 ∧ t.2.log2 ≤ 4 := by decide +kernel
def peaksOf (l : List Int) : List Int := (trees 0 l.length).map (rootT l)
def treeD (l : List Int) : Int := if leavesOk l then fold l.length (peaksOf l) else -1
theorem rootT_dig {l : List Int} (h : digs l = true) (hl : l.length ≤ 16) {p : Nat} (hp : p ≤ 16) {t : Nat × Nat} (ht : t ∈ trees p l.length) : dig (rootT l t) = true := by
  obtain ⟨h1, h2, _⟩ := trees_ok l.length (by omega) p (by omega) t ht
  exact rootN_dig h _ _ (by rw [h2]; exact h1)
theorem peaks_dig {l : List Int} (h : digs l = true) (hl : l.length ≤ 16) : digs (peaksOf l) = true := by
  unfold digs peaksOf; rw [List.all_map, List.all_eq_true]; intro t ht; exact rootT_dig h hl (Nat.zero_le _) ht
theorem rootN_take {l : List Int} {m : Nat} : ∀ k s, s + 2 ^ k ≤ m → rootN (l.take m) k s = rootN l k s
  | 0, s, h => by unfold rootN; rw [List.getD_eq_getElem?_getD, List.getD_eq_getElem?_getD, List.getElem?_take, if_pos (by omega)]
  | k + 1, s, h => by
    have : (2 : Nat) ^ (k + 1) = 2 ^ k + 2 ^ k := by rw [Nat.pow_succ]; omega
    have h1 : 1 ≤ 2 ^ k := Nat.one_le_two_pow
    unfold rootN; rw [rootN_take k s (by omega), rootN_take k _ (by omega)]
theorem rootN_drop {l : List Int} {m : Nat} : ∀ k s, rootN (l.drop m) k s = rootN l k (m + s)
  | 0, s => by unfold rootN; rw [List.getD_eq_getElem?_getD, List.getD_eq_getElem?_getD, List.getElem?_drop]
  | k + 1, s => by unfold rootN; rw [rootN_drop k s, rootN_drop k _, Nat.add_assoc]
theorem digs_take {l : List Int} (h : digs l = true) (m : Nat) : digs (l.take m) = true := by
  unfold digs at *; rw [List.all_eq_true] at *; exact fun x hx => h x (List.mem_of_mem_take hx)
theorem digs_drop {l : List Int} (h : digs l = true) (m : Nat) : digs (l.drop m) = true := by
  unfold digs at *; rw [List.all_eq_true] at *; exact fun x hx => h x (List.mem_of_mem_drop hx)
/-- The number of the peak of n leaves that has leaf i; the peak; its level. -/
def pkIdx (n i : Nat) : Nat := (trees 0 n).findIdx (fun t => decide (i < t.1 + t.2))
def pkT (n i : Nat) : Nat × Nat := (trees 0 n).getD (pkIdx n i) (0, 0)
def lev (n i : Nat) : Nat := (pkT n i).2.log2
theorem pk_ok : ∀ n, n < 17 → ∀ i, i < n → pkIdx n i < (trees 0 n).length ∧ (pkT n i).2 = 2 ^ lev n i ∧ lev n i ≤ 4 ∧ (pkT n i).1 ≤ i ∧ i < (pkT n i).1 + (pkT n i).2 ∧ (pkT n i).1 + (pkT n i).2 ≤ n ∧
    (trees 0 n).eraseIdx (pkIdx n i) = (trees 0 n).filter (fun t => t.1 != (pkT n i).1) ∧ (pkT n i).2 = sz (pkT n i).1 n ∧ (pkT n i).1 = (pkT n i).1 / (pkT n i).2 * (pkT n i).2 := by decide +kernel
/-- The start of the sibling of leaf i's tree of level j. -/
def sib (i j : Nat) : Nat := if i / 2 ^ j % 2 = 0 then i / 2 ^ j * 2 ^ j + 2 ^ j else i / 2 ^ j * 2 ^ j - 2 ^ j
theorem sib_xor : ∀ i, i < 16 → ∀ j, j < 4 → (i / 2 ^ j * 2 ^ j) ^^^ 2 ^ j = sib i j := by decide +kernel
theorem and_bit : ∀ i, i < 16 → ∀ j, j < 4 → (i &&& 2 ^ j = 0 ↔ i / 2 ^ j % 2 = 0) := by decide +kernel
theorem sib_ok : ∀ n, n < 17 → ∀ i, i < n → ∀ j, j < lev n i → sib i j + 2 ^ j ≤ n := by decide +kernel
def sibs (l : List Int) (i k : Nat) : List Int := (List.range k).map fun j => rootN l j (sib i j)
theorem sibs_snoc (l : List Int) (i k : Nat) : sibs l i (k + 1) = sibs l i k ++ [rootN l k (sib i k)] := by simp [sibs, List.range_succ]
def others (l : List Int) (i : Nat) : List Int := ((trees 0 l.length).eraseIdx (pkIdx l.length i)).map (rootT l)
/-- TreeProof for an existing leaf of valid leaves. -/
def proofAt (l : List Int) (i : Nat) : List Int := sibs l i (lev l.length i) ++ others l i
def proofOf (l : List Int) (i : Int) : List Int := if leavesOk l && inB i 0 (l.length - 1) then proofAt l i.toNat else []
/-- The root on the way up from level j. -/
def pathR (i : Nat) : Nat → Int → List Int → Int
  | _, r, [] => r
  | j, r, x :: xs => pathR i (j + 1) (if i / 2 ^ j % 2 = 0 then pair r x else pair x r) xs
theorem pathR_snoc (i : Nat) : ∀ (xs : List Int) (j : Nat) (r x : Int), pathR i j r (xs ++ [x]) = if i / 2 ^ (j + xs.length) % 2 = 0 then pair (pathR i j r xs) x else pair x (pathR i j r xs)
  | [], j, r, x => by simp [pathR]
  | y :: xs, j, r, x => by
    simp only [List.cons_append, pathR]
    rw [pathR_snoc i xs (j + 1)]
    simp only [List.length_cons]
    rw [show j + 1 + xs.length = j + (xs.length + 1) by omega]
theorem pathR_dig (i : Nat) : ∀ (xs : List Int) (j : Nat) (r : Int), dig r = true → dig (pathR i j r xs) = true
  | [], _, _, h => h
  | x :: xs, j, r, _ => by
    unfold pathR
    refine pathR_dig i xs (j + 1) _ ?_
    split <;> exact pair_dig _ _
/-- TreeCheck for n, i, leaf and proof in their ranges. -/
def checkAt (digest : Int) (n i : Nat) (leaf : Int) (proof : List Int) : Bool :=
  decide (proof.length = lev n i + ((trees 0 n).length - 1)) &&
  (fold n ((proof.drop (lev n i)).take (pkIdx n i) ++ [pathR i 0 leaf (proof.take (lev n i))] ++ (proof.drop (lev n i)).drop (pkIdx n i)) == digest)
def checkOf (digest n i leaf : Int) (proof : List Int) : Bool :=
  inB n 1 16 && inB i 0 (n - 1) && dig leaf && digs proof && checkAt digest n.toNat i.toNat leaf proof
theorem erase_take {α : Type} (l : List α) (k j : Nat) (hj : j < l.length) : (l.take (j + 1)).eraseIdx k = (l.take j).eraseIdx k ++ if j = k then [] else [l[j]] := by
  rw [take_snocI hj]
  have hl : (l.take j).length = j := by simp; omega
  by_cases h : k < j
  · rw [List.eraseIdx_append_of_lt_length (by omega), if_neg (by omega)]
  · rw [List.eraseIdx_append_of_length_le (by omega), List.eraseIdx_of_length_le (l := l.take j) (by omega), hl]
    by_cases h2 : j = k
    · subst h2; simp
    · rw [if_neg h2, List.eraseIdx_of_length_le (by simp; omega)]
/-- The start of the tree of leaf i, found from p on. -/
def pkF : Nat → Nat → Nat → Nat → Nat
  | 0, _, _, p => p
  | f + 1, n, i, p => if p + sz p n ≤ i then pkF f n i (p + sz p n) else p
theorem pkF_ok : ∀ n, n < 17 → ∀ i, i < n → pkF 17 n i 0 = (pkT n i).1 := by decide +kernel
theorem pkF_stop {n i p : Nat} (h : ¬ p + sz p n ≤ i) : ∀ f, pkF f n i p = p
  | 0 => rfl
  | f + 1 => by unfold pkF; rw [if_neg h]
theorem pkF_go {f n i p : Nat} (h : p + sz p n ≤ i) : pkF (f + 1) n i p = pkF f n i (p + sz p n) := by
  conv => lhs; unfold pkF
  rw [if_pos h]
/-- The trees other than that of leaf i, from p on. -/
def othersFrom (n i p : Nat) : List (Nat × Nat) := (trees p n).filter (fun t => t.1 != (pkT n i).1)
theorem othersFrom_step {n i p : Nat} (h : p < n) (hn : n ≤ 16) : othersFrom n i p = (if p = (pkT n i).1 then [] else [(p, sz p n)]) ++ othersFrom n i (p + sz p n) := by
  unfold othersFrom
  rw [trees_cons h hn, List.filter_cons]
  by_cases hp : p = (pkT n i).1
  · simp [hp]
  · simp [hp]
theorem othersFrom_nil {n i p : Nat} (h : n ≤ p) : othersFrom n i p = [] := by unfold othersFrom; rw [trees_nil h]; rfl
theorem others_len (n i p : Nat) : (othersFrom n i p).length ≤ 17 := Nat.le_trans (List.length_filter_le _ _) (trees_len p n)
theorem div_step : ∀ i, i < 16 → ∀ j, j < 4 → i / 2 ^ j * 2 ^ j / 2 ^ j = i / 2 ^ j := by decide +kernel
/-- What is left of a check: flags say which peak is the leaf's. -/
def run2 (dg root : Int) : List Bool → Int → List Int → Bool
  | [], out, rest => rest.isEmpty && (out == dg)
  | true :: bs, out, rest => run2 dg root bs (pair out root) rest
  | false :: bs, out, x :: xs => run2 dg root bs (pair out x) xs
  | false :: _, _, [] => false
def flags (n i p : Nat) : List Bool := (trees p n).map fun t => t.1 == (pkT n i).1
theorem flags_ok : ∀ n, n < 17 → ∀ i, i < n → flags n i 0 = List.replicate (pkIdx n i) false ++ true :: List.replicate ((trees 0 n).length - 1 - pkIdx n i) false := by decide +kernel
theorem flags_cons {n i p : Nat} (h : p < n) (hn : n ≤ 16) : flags n i p = (p == (pkT n i).1) :: flags n i (p + sz p n) := by
  unfold flags; rw [trees_cons h hn]; rfl
theorem flags_nil {n i p : Nat} (h : n ≤ p) : flags n i p = [] := by unfold flags; rw [trees_nil h]; rfl
theorem run2_rep (dg root : Int) : ∀ (m : Nat) (out : Int) (rest : List Int), run2 dg root (List.replicate m false) out rest = (decide (rest.length = m) && (fold out rest == dg))
  | 0, out, rest => by cases rest <;> simp [run2, fold]
  | m + 1, out, [] => by simp [List.replicate_succ, run2]
  | m + 1, out, x :: xs => by
    rw [List.replicate_succ, run2, run2_rep dg root m]; simp [fold]
theorem run2_app (dg root : Int) (bs : List Bool) : ∀ (k : Nat) (out : Int) (rest : List Int), run2 dg root (List.replicate k false ++ bs) out rest = (decide (k ≤ rest.length) && run2 dg root bs (fold out (rest.take k)) (rest.drop k))
  | 0, out, rest => by simp [fold]
  | k + 1, out, [] => by simp [List.replicate_succ, run2]
  | k + 1, out, x :: xs => by
    rw [List.replicate_succ, List.cons_append, run2, run2_app dg root bs k]
    simp [fold]
theorem check_run2 {n i : Nat} (hn : n ≤ 16) (hi : i < n) (dg leaf : Int) (proof : List Int) (hp : lev n i ≤ proof.length) :
    run2 dg (pathR i 0 leaf (proof.take (lev n i))) (flags n i 0) n (proof.drop (lev n i)) = checkAt dg n i leaf proof := by
  obtain ⟨p1, _⟩ := pk_ok n (by omega) i hi
  rw [flags_ok n (by omega) i hi, run2_app, run2, run2_rep]
  unfold checkAt
  generalize pathR i 0 leaf (proof.take (lev n i)) = r
  rw [Bool.eq_iff_iff]
  simp only [Bool.and_eq_true, decide_eq_true_eq, List.length_drop, beq_iff_eq, fold, List.foldl_append, List.foldl_cons, List.foldl_nil]
  omega
theorem check_short {n i : Nat} (dg leaf : Int) (proof : List Int) (h : proof.length < lev n i) : checkAt dg n i leaf proof = false := by
  unfold checkAt; rw [decide_eq_false (by omega)]; rfl
/-- A head; a feed. -/
structure Hd where
  len : Int
  dg : Int
  sg : Int
structure Fd where
  pub : Int
  hd : Hd
  bl : List ByteArray
  hv : List Bool
def Hd.zero : Hd := ⟨0, 0, 0⟩
def Hd.isZero (h : Hd) : Bool := h.len == 0 && h.dg == 0 && h.sg == 0
def hcheck (pub : Int) (h : Hd) : Bool := key pub && inB h.len 0 16 && dig h.dg && key h.sg && (h.sg * 5 % 997 == pub * (pair h.len h.dg + 1) % 997)
def cnt (l : List Bool) : Nat := l.count true
def bcount (l : List Bool) : Int := if l.length ≤ 16 then (cnt l : Int) else -1
theorem cnt_le (l : List Bool) : cnt l ≤ l.length := List.count_le_length
theorem cnt_snoc (l : List Bool) (b : Bool) : cnt (l ++ [b]) = cnt l + if b then 1 else 0 := by
  unfold cnt; rw [List.count_append]; cases b <;> simp
def wholeB (l : List Bool) : Bool := bcount l == (l.length : Int)
def lvs (bl : List ByteArray) : List Int := bl.map fun s => textD s.data.toList
theorem lvs_dig (bl : List ByteArray) : digs (lvs bl) = true := by
  unfold digs lvs; rw [List.all_map, List.all_eq_true]; intro x _; exact textD_dig _
theorem lvs_len (bl : List ByteArray) : (lvs bl).length = bl.length := by simp [lvs]
/-- Are a block's text and mark in order? -/
def blockOk (s : ByteArray) (b : Bool) : Bool := decide (s.size ≤ 8) && (b || s.size == 0)
def blocksOk : List ByteArray → List Bool → Bool
  | s :: bl, b :: hv => blockOk s b && blocksOk bl hv
  | _, _ => true
def fvalid (f : Fd) : Bool :=
  key f.pub && (f.hd.isZero || hcheck f.pub f.hd) && ((f.bl.length : Int) == f.hd.len) && ((f.hv.length : Int) == f.hd.len) && blocksOk f.bl f.hv &&
  (f.bl.length == 0 || !wholeB f.hv || treeD (lvs f.bl) == f.hd.dg)

end Go.Proofs.Ytcplnfmcefkehaa

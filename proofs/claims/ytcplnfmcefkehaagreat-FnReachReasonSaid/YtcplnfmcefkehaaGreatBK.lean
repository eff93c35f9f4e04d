/- Plain functions: worlds. No program in sight. No condition. | Words for worlds in memory: rows of pairs, rows of such rows, rows of blocks in transit. No condition. | Words for worlds that own their memory. No condition. | Walks: sizes of worlds; worlds are made of the laws' own. -/
import Derived.Test.YtcplnfmcefkehaaGreatBI
import Derived.Test.YtcplnfmcefkehaaGreatBG
import Derived.Test.YtcplnfmcefkehaaGreatBH
import Derived.Test.YtcplnfmcefkehaaGreatBJ
namespace Go.Proofs.YtcplnfmcefkehaaGreat

/-- Does p hold of all numbers below n? -/
def allB (n : Nat) (p : Nat → Bool) : Bool := (List.range n).all p
theorem allB_iff {n : Nat} {p : Nat → Bool} : allB n p = true ↔ ∀ j, j < n → p j = true := by simp [allB]
theorem allB_zero {p : Nat → Bool} : allB 0 p = true := rfl
theorem allB_snoc {k : Nat} {p : Nat → Bool} (h : allB k p = true) (hp : p k = true) : allB (k + 1) p = true := by
  rw [allB_iff] at h ⊢
  intro j hj
  by_cases hjk : j = k
  · rw [hjk]; exact hp
  · exact h j (by omega)
theorem allB_no {n k : Nat} {p : Nat → Bool} (hk : k < n) (hp : p k = false) : allB n p = false := by
  cases h : allB n p
  · rfl
  · rw [allB_iff] at h; rw [h k hk] at hp; cases hp

/-- A link of a world of n peers. -/
def linkOk (n : Nat) (l : Int × Int) : Bool := inB l.1 0 ((n : Int) - 1) && inB l.2 (l.1 + 1) ((n : Int) - 1)
def ltL (a b : Int × Int) : Bool := decide (a.1 < b.1 ∨ (a.1 = b.1 ∧ a.2 < b.2))
def linkAt (n : Nat) (l : List (Int × Int)) (j : Nat) : Bool := linkOk n (l.getD j (0, 0)) && (j == 0 || ltL (l.getD (j - 1) (0, 0)) (l.getD j (0, 0)))
def linksOk (n : Nat) (l : List (Int × Int)) : Bool := allB l.length (linkAt n l)

def askOk (a : Int × Int) : Bool := inB a.1 0 5 && inB a.2 0 15
def cntP (l : List (Int × Int)) (p : Int) : Nat := l.countP fun a => a.1 == p
def cntB (l : List (Int × Int)) (b : Int) : Nat := l.countP fun a => a.2 == b
def hasA (l : List (Int × Int)) (a : Int × Int) : Bool := l.any fun x => x.1 == a.1 && x.2 == a.2
/-- The checks of one request of a window, as the reference makes them: over the whole list. -/
def askAt (l : List (Int × Int)) (i : Nat) : Bool :=
  askOk (l.getD i (0, 0)) && !hasA (l.take i) (l.getD i (0, 0)) && decide (cntP l (l.getD i (0, 0)).1 ≤ 3) && decide (cntB l (l.getD i (0, 0)).2 ≤ 2)
/-- As the program makes them: over the list up to there. -/
def askAtI (l : List (Int × Int)) (i : Nat) : Bool :=
  askOk (l.getD i (0, 0)) && !hasA (l.take i) (l.getD i (0, 0)) && decide (cntP (l.take (i + 1)) (l.getD i (0, 0)).1 ≤ 3) && decide (cntB (l.take (i + 1)) (l.getD i (0, 0)).2 ≤ 2)
def windowOk (l : List (Int × Int)) : Bool := allB l.length (askAt l)
theorem count_pre {α β : Type} [BEq β] [LawfulBEq β] (f : α → β) (m : Nat) (d : α) (l : List α) : ∀ k, k ≤ l.length → (∀ i, i < k → (l.take (i + 1)).countP (fun a => f a == f (l.getD i d)) ≤ m) → ∀ i, i < k → (l.take k).countP (fun a => f a == f (l.getD i d)) ≤ m
  | 0, _, _, i, hi => by omega
  | k + 1, hk, h, i, hi => by
    by_cases he : f l[k] = f (l.getD i d)
    · have h1 := h k (Nat.lt_succ_self k)
      rw [List.getD_eq_getElem?_getD, List.getElem?_eq_getElem (by omega), Option.getD_some, he] at h1
      exact h1
    · have hik : i < k := by
        rcases Nat.lt_or_ge i k with h2 | h2
        · exact h2
        · exfalso
          obtain rfl : i = k := by omega
          exact he (by rw [List.getD_eq_getElem?_getD, List.getElem?_eq_getElem (by omega), Option.getD_some])
      have h1 := count_pre f m d l k (by omega) (fun j hj => h j (by omega)) i hik
      rw [List.take_succ_eq_append_getElem (by omega), List.countP_append]
      have h2 : ([l[k]] : List α).countP (fun a => f a == f (l.getD i d)) = 0 := by rw [List.countP_cons_of_neg (by simpa only [beq_iff_eq] using he), List.countP_nil]
      omega
theorem count_all {α β : Type} [BEq β] [LawfulBEq β] (f : α → β) (m : Nat) (d : α) (l : List α) : (∀ i, i < l.length → (l.take (i + 1)).countP (fun a => f a == f (l.getD i d)) ≤ m) ↔ ∀ i, i < l.length → l.countP (fun a => f a == f (l.getD i d)) ≤ m := by
  constructor
  · intro h i hi
    have := count_pre f m d l l.length (Nat.le_refl _) h i hi
    rwa [List.take_length] at this
  · intro h i hi
    exact Nat.le_trans (List.Sublist.countP_le (List.take_sublist _ _)) (h i hi)
theorem windowOk_i (l : List (Int × Int)) : allB l.length (askAtI l) = windowOk l := by
  have hP := count_all (fun a : Int × Int => a.1) 3 (0, 0) l
  have hB := count_all (fun a : Int × Int => a.2) 2 (0, 0) l
  unfold windowOk
  rw [Bool.eq_iff_iff, allB_iff, allB_iff]
  unfold askAtI askAt cntP cntB
  simp only [Bool.and_eq_true, decide_eq_true_eq, Bool.not_eq_true']
  constructor
  · intro h i hi
    exact ⟨⟨(h i hi).1.1, hP.1 (fun j hj => (h j hj).1.2) i hi⟩, hB.1 (fun j hj => (h j hj).2) i hi⟩
  · intro h i hi
    exact ⟨⟨(h i hi).1.1, hP.2 (fun j hj => (h j hj).1.2) i hi⟩, hB.2 (fun j hj => (h j hj).2) i hi⟩

def hdEq (a b : Hd) : Bool := a.len == b.len && a.dg == b.dg && a.sg == b.sg
def blockAt (f0 f : Fd) (i : Nat) : Bool := !f.hv.getD i false || textD (f.bl.getD i ⟨#[]⟩).data.toList == textD (f0.bl.getD i ⟨#[]⟩).data.toList
/-- Does a feed agree with that of the writer? -/
def feedOk (sec : Int) (f0 f : Fd) : Bool :=
  fvalid f && f.pub == hpub sec && decide (f.hd.len ≤ f0.hd.len) && (f.hd.len == 0 || hdEq f.hd (hmake sec ((lvs f0.bl).take f.hd.len.toNat)).1) && allB f.bl.length (blockAt f0 f)
/-- A block in transit. -/
structure Pc where
  fr : Int
  to_ : Int
  len : Int
  idx : Int
  txt : ByteArray
  prf : List Int
def pieceOk (n : Nat) (f0 : Fd) (p : Pc) : Bool :=
  inB p.fr 0 ((n : Int) - 1) && inB p.to_ 0 ((n : Int) - 1) && inB p.len 1 f0.hd.len && inB p.idx 0 (p.len - 1) && decide (p.txt.size ≤ 8) && (p.prf == proofOf ((lvs f0.bl).take p.len.toNat) p.idx)
/-- A world. -/
structure Wd where
  sec : Int
  bad : Int
  feeds : List Fd
  links : List (Int × Int)
  asked : List (List (Int × Int))
  net : List Pc
def Fd.none : Fd := ⟨0, Hd.zero, [], []⟩
def Pc.none : Pc := ⟨0, 0, 0, 0, ⟨#[]⟩, []⟩
def Wd.f0 (x : Wd) : Fd := x.feeds.getD 0 Fd.none
def peerAt (x : Wd) (i : Nat) : Bool := feedOk x.sec x.f0 (x.feeds.getD i Fd.none) && windowOk (x.asked.getD i [])
def netAt (x : Wd) (i : Nat) : Bool := pieceOk x.feeds.length x.f0 (x.net.getD i Pc.none)
def wvalid (x : Wd) : Bool :=
  setOk x.sec x.feeds.length x.bad && fvalid x.f0 && wholeB x.f0.hv && linksOk x.feeds.length x.links && x.asked.length == x.feeds.length && decide (x.net.length ≤ 12) &&
    allB x.feeds.length (peerAt x) && allB x.net.length (netAt x)
theorem getD_lt {α : Type} {l : List α} {j : Nat} (h : j < l.length) (d : α) : l.getD j d = l[j] := by rw [List.getD_eq_getElem?_getD, List.getElem?_eq_getElem h, Option.getD_some]
theorem take_snoc_ {α : Type} {l : List α} {j : Nat} (h : j < l.length) : l.take (j + 1) = l.take j ++ [l[j]] := List.take_succ_eq_append_getElem h
theorem cntP_snoc {l : List (Int × Int)} {j : Nat} (h : j < l.length) (p : Int) : cntP (l.take (j + 1)) p = cntP (l.take j) p + if l[j].1 == p then 1 else 0 := by
  unfold cntP; rw [take_snoc_ h, List.countP_append]; simp [List.countP_cons]
theorem cntB_snoc {l : List (Int × Int)} {j : Nat} (h : j < l.length) (p : Int) : cntB (l.take (j + 1)) p = cntB (l.take j) p + if l[j].2 == p then 1 else 0 := by
  unfold cntB; rw [take_snoc_ h, List.countP_append]; simp [List.countP_cons]
theorem cntP_le (l : List (Int × Int)) (p : Int) : cntP l p ≤ l.length := List.countP_le_length
theorem cntB_le (l : List (Int × Int)) (p : Int) : cntB l p ≤ l.length := List.countP_le_length
theorem hasA_snoc {l : List (Int × Int)} {j : Nat} (h : j < l.length) (a : Int × Int) : hasA (l.take (j + 1)) a = (hasA (l.take j) a || (l[j].1 == a.1 && l[j].2 == a.2)) := by
  unfold hasA; rw [take_snoc_ h, List.any_append]; simp
theorem hasA_at {l : List (Int × Int)} {j : Nat} (h : j < l.length) {a : Int × Int} (h1 : (l[j].1 == a.1 && l[j].2 == a.2) = true) : hasA l a = true := by
  unfold hasA; rw [List.any_eq_true]; exact ⟨_, List.getElem_mem h, h1⟩
end Go.Proofs.YtcplnfmcefkehaaGreat
namespace Go.Proofs.YtcplnfmcefkehaaGreat
open Go.RowKit

section
variable {α : Type} {e1 e2 : α → Value} {w w' : World} {v : Value} {l : List α}
theorem R2.sl (h : R2 e1 e2 w v l) : ∃ A c, v = .slice A l.length c := by obtain ⟨A, c, h, _⟩ := h; exact ⟨A, c, h⟩
theorem R2.up (h : R2 e1 e2 w v l) (X : World) : R2 e1 e2 (up w X) v l := h.below (up_below w X)
theorem R2.nil (e1 e2 : α → Value) (w : World) : R2 e1 e2 w (.slice none 0 0) [] := ⟨none, 0, rfl, ⟨Nat.le_refl _, fun _ => rfl⟩, by unfold maxLen; omega, fun h => by simp at h⟩
theorem R2.take {A : Option Addr} {c n : Nat} (h : R2 e1 e2 w (.slice A n c) l) {m : Nat} (hm : m ≤ l.length) : R2 e1 e2 w (.slice A m c) (l.take m) := by
  obtain ⟨A', c', he, h1, h2, h3⟩ := h
  obtain ⟨rfl, rfl, rfl⟩ : A = A' ∧ n = l.length ∧ c = c' := by injection he with a b c; exact ⟨a, b, c⟩
  have hlen : (l.take m).length = m := by rw [List.length_take]; omega
  refine ⟨A, c, by rw [hlen], ⟨by omega, h1.2⟩, h2, fun hl => ?_⟩
  obtain ⟨b, o, hA, hb, hc⟩ := h3 (by omega)
  exact ⟨b, o, hA, hb, fun j hj => by rw [List.getElem_take]; exact hc j (by omega)⟩
theorem R2.at_ {A : Option Addr} {c n : Nat} (h : R2 e1 e2 w (.slice A n c) l) {j : Nat} (hj : j < l.length) :
    ∃ b o, A = some ⟨b, o, none⟩ ∧ b < w.heap.size ∧ w.cell? ⟨b, o + j * 2, none⟩ = some (e1 l[j]) ∧ w.cell? ⟨b, o + j * 2 + 1, none⟩ = some (e2 l[j]) := by
  obtain ⟨A', c', he, h1, h2, h3⟩ := h
  obtain ⟨rfl, rfl, rfl⟩ : A = A' ∧ n = l.length ∧ c = c' := by injection he with a b c; exact ⟨a, b, c⟩
  obtain ⟨b, o, hA, hb, hc⟩ := h3 (by omega)
  exact ⟨b, o, hA, hb, (hc j hj).1, (hc j hj).2⟩
end
theorem R1.sl' {α : Type} {enc : α → Value} {w : World} {v : Value} {l : List α} (h : R1 enc w v l) : ∃ A c, v = .slice A l.length c := by obtain ⟨A, c, h, _⟩ := h; exact ⟨A, c, h⟩
/-- A slice of pairs of ints. -/
abbrev RP := R2 (fun a : Int × Int => .int .i64 a.1) (fun a : Int × Int => .int .i64 a.2)
section
variable {N n : Nat} {w w' : World} {v : Value} {F : Nat → Value}
theorem RN.cell {A : Option Addr} {m c : Nat} (h : RN N w (.slice A m c) n F) (hn : 0 < n) : ∃ b o, A = some ⟨b, o, none⟩ ∧ b < w.heap.size ∧ m = n ∧ ∀ t, t < n * N → w.cell? ⟨b, o + t, none⟩ = some (F t) := by
  obtain ⟨A', c', he, h1, h2, h3⟩ := h
  obtain ⟨rfl, rfl, rfl⟩ : A = A' ∧ m = n ∧ c = c' := by injection he with a b c; exact ⟨a, b, c⟩
  obtain ⟨b, o, hA, hb, hc⟩ := h3 hn
  exact ⟨b, o, hA, hb, rfl, hc⟩
end
/-- A slice of slices of pairs. -/
def AsksR (w : World) (v : Value) (ls : List (List (Int × Int))) : Prop := ∃ F, RN 1 w v ls.length F ∧ ∀ j (hj : j < ls.length), RP w (F j) ls[j]
section
variable {w w' : World} {v : Value} {ls : List (List (Int × Int))}
theorem AsksR.below (h : AsksR w v ls) (hb : Below w.heap.size w w') : AsksR w' v ls := by
  obtain ⟨F, h1, h2⟩ := h
  exact ⟨F, h1.below hb, fun j hj => (h2 j hj).below hb⟩
theorem AsksR.sl (h : AsksR w v ls) : ∃ A c, v = .slice A ls.length c := by obtain ⟨F, h1, _⟩ := h; exact h1.sl
theorem AsksR.len (h : AsksR w v ls) : ls.length ≤ maxLen := by obtain ⟨F, h1, _⟩ := h; exact h1.len
theorem AsksR.at_ {A : Option Addr} {n c : Nat} (h : AsksR w (.slice A n c) ls) {j : Nat} (hj : j < ls.length) :
    ∃ b o x, A = some ⟨b, o, none⟩ ∧ b < w.heap.size ∧ w.cell? ⟨b, o + j, none⟩ = some x ∧ RP w x ls[j] := by
  obtain ⟨F, h1, h2⟩ := h
  obtain ⟨b, o, hA, hb, _, hc⟩ := h1.cell (by omega)
  exact ⟨b, o, _, hA, hb, hc j (by omega), h2 j hj⟩
end
/-- A slice of blocks in transit. -/
def PiecesR (w : World) (v : Value) (ps : List Pc) : Prop :=
  ∃ F, RN 6 w v ps.length F ∧ ∀ j (hj : j < ps.length), F (j * 6) = .int .i64 ps[j].fr ∧ F (j * 6 + 1) = .int .i64 ps[j].to_ ∧ F (j * 6 + 2) = .int .i64 ps[j].len ∧ F (j * 6 + 3) = .int .i64 ps[j].idx ∧ F (j * 6 + 4) = .string ps[j].txt ∧ RI w (F (j * 6 + 5)) ps[j].prf
section
variable {w w' : World} {v : Value} {ps : List Pc}
theorem PiecesR.below (h : PiecesR w v ps) (hb : Below w.heap.size w w') : PiecesR w' v ps := by
  obtain ⟨F, h1, h2⟩ := h
  exact ⟨F, h1.below hb, fun j hj => ⟨(h2 j hj).1, (h2 j hj).2.1, (h2 j hj).2.2.1, (h2 j hj).2.2.2.1, (h2 j hj).2.2.2.2.1, (h2 j hj).2.2.2.2.2.below hb⟩⟩
theorem PiecesR.sl (h : PiecesR w v ps) : ∃ A c, v = .slice A ps.length c := by obtain ⟨F, h1, _⟩ := h; exact h1.sl
theorem PiecesR.len (h : PiecesR w v ps) : ps.length ≤ maxLen := by obtain ⟨F, h1, _⟩ := h; exact h1.len
theorem PiecesR.at_ {A : Option Addr} {n c : Nat} (h : PiecesR w (.slice A n c) ps) {j : Nat} (hj : j < ps.length) :
    ∃ b o x, A = some ⟨b, o, none⟩ ∧ b < w.heap.size ∧ w.cell? ⟨b, o + j * 6, none⟩ = some (.int .i64 ps[j].fr) ∧ w.cell? ⟨b, o + j * 6 + 1, none⟩ = some (.int .i64 ps[j].to_) ∧ w.cell? ⟨b, o + j * 6 + 2, none⟩ = some (.int .i64 ps[j].len) ∧
      w.cell? ⟨b, o + j * 6 + 3, none⟩ = some (.int .i64 ps[j].idx) ∧ w.cell? ⟨b, o + j * 6 + 4, none⟩ = some (.string ps[j].txt) ∧ w.cell? ⟨b, o + j * 6 + 5, none⟩ = some x ∧ RI w x ps[j].prf := by
  obtain ⟨F, h1, h2⟩ := h
  obtain ⟨b, o, hA, hb, _, hc⟩ := h1.cell (by omega)
  obtain ⟨f0, f1, f2, f3, f4, f5⟩ := h2 j hj
  refine ⟨b, o, _, hA, hb, ?_, ?_, ?_, ?_, ?_, ?_, f5⟩
  · rw [hc _ (by omega), f0]
  · rw [Nat.add_assoc, hc _ (by omega), f1]
  · rw [Nat.add_assoc, hc _ (by omega), f2]
  · rw [Nat.add_assoc, hc _ (by omega), f3]
  · rw [Nat.add_assoc, hc _ (by omega), f4]
  · rw [Nat.add_assoc, hc _ (by omega)]
end
/-- The parts of a world. -/
structure WdR (w : World) (x : Wd) (vF vL vA vN : Value) : Prop where
  feeds : FeedsR w vF x.feeds
  links : RP w vL x.links
  asked : AsksR w vA x.asked
  net : PiecesR w vN x.net
theorem WdR.below {w w' : World} {x : Wd} {vF vL vA vN : Value} (h : WdR w x vF vL vA vN) (hb : Below w.heap.size w w') : WdR w' x vF vL vA vN := ⟨h.feeds.below hb, h.links.below hb, h.asked.below hb, h.net.below hb⟩
end Go.Proofs.YtcplnfmcefkehaaGreat
namespace Go.Proofs.YtcplnfmcefkehaaGreat
open Go.RowKit

section
variable {N B n g cap : Nat} {e : TypeId} {w : World} {F : Nat → Value}
theorem ON.put6 (h : ON 6 B e w (.slice (some ⟨g, 0, none⟩) n cap) n F) {k : Nat} (hk : k < n) (x0 x1 x2 x3 x4 x5 : Value) :
    ON 6 B e ((((((w.setCell ⟨g, k * 6, none⟩ x0).setCell ⟨g, k * 6 + 1, none⟩ x1).setCell ⟨g, k * 6 + 2, none⟩ x2).setCell ⟨g, k * 6 + 3, none⟩ x3).setCell ⟨g, k * 6 + 4, none⟩ x4).setCell ⟨g, k * 6 + 5, none⟩ x5) (.slice (some ⟨g, 0, none⟩) n cap) n
        (fun s => if s = k * 6 + 5 then x5 else if s = k * 6 + 4 then x4 else if s = k * 6 + 3 then x3 else if s = k * 6 + 2 then x2 else if s = k * 6 + 1 then x1 else if s = k * 6 then x0 else F s) ∧
      w.grownBy ((((((w.setCell ⟨g, k * 6, none⟩ x0).setCell ⟨g, k * 6 + 1, none⟩ x1).setCell ⟨g, k * 6 + 2, none⟩ x2).setCell ⟨g, k * 6 + 3, none⟩ x3).setCell ⟨g, k * 6 + 4, none⟩ x4).setCell ⟨g, k * 6 + 5, none⟩ x5) (some g) := by
  have a0 := h.setAt (t := k * 6) (by omega) x0
  have a1 := a0.1.setAt (t := k * 6 + 1) (by omega) x1
  have a2 := a1.1.setAt (t := k * 6 + 2) (by omega) x2
  have a3 := a2.1.setAt (t := k * 6 + 3) (by omega) x3
  have a4 := a3.1.setAt (t := k * 6 + 4) (by omega) x4
  have a5 := a4.1.setAt (t := k * 6 + 5) (by omega) x5
  exact ⟨a5.1, grow_trans (grow_trans (grow_trans (grow_trans (grow_trans a0.2 a1.2) a2.2) a3.2) a4.2) a5.2⟩
end
/-- Nothing of a feed's rows lies in a block below its base. -/
theorem FeedO.far {B g : Nat} {w w' : World} {f : Fd} {a b : Value} (h : FeedO B w f a b) (hg : w.grownBy w' (some g)) (hB : g < B) : FeedO B w' f a b :=
  ⟨h.bl.grown hg (.inr fun e => by have := (h.bl.lt _ e).1; omega), h.hv.grown hg (.inr fun e => by have := (h.hv.lt _ e).1; omega)⟩
theorem O1.far {α : Type} {enc : α → Value} {B g : Nat} {e : TypeId} {w w' : World} {v : Value} {l : List α} (h : O1 enc B e w v l) (hg : w.grownBy w' (some g)) (hB : g < B) : O1 enc B e w' v l :=
  h.grown hg (.inr fun e => by have := (h.lt _ e).1; omega)
theorem ON.far {N B n g : Nat} {e : TypeId} {w w' : World} {v : Value} {F : Nat → Value} (h : ON N B e w v n F) (hg : w.grownBy w' (some g)) (hB : g < B) : ON N B e w' v n F :=
  h.grown hg (.inr fun e => by have := (h.lt _ e).1; omega)
/-- What v owns lies below block C. -/
def Up (C : Nat) (v : Value) : Prop := ∀ k, v.ownBlock = some k → k < C
theorem Up.mono {C C' : Nat} {v : Value} (h : Up C v) (hC : C ≤ C') : Up C' v := fun k hk => Nat.lt_of_lt_of_le (h k hk) hC
theorem O1.up_ {α : Type} {enc : α → Value} {B : Nat} {e : TypeId} {w : World} {v : Value} {l : List α} (h : O1 enc B e w v l) : Up w.heap.size v := fun k hk => (h.lt k hk).2
/-- The first n values own different blocks. -/
def Dis (n : Nat) (G : Nat → Value) : Prop := ∀ i j, i < j → j < n → ∀ k, (G i).ownBlock = some k → (G j).ownBlock ≠ some k
theorem Dis.zero {G : Nat → Value} : Dis 0 G := fun _ _ _ h => by omega
/-- The slice value v owns a row of feeds. -/
def FeedsO (B C : Nat) (w : World) (v : Value) (fs : List Fd) : Prop :=
  Up C v ∧ ∃ F, ON 6 B 59 w v fs.length F ∧ (∀ j (hj : j < fs.length), F (j * 6) = .int .i64 fs[j].pub ∧ F (j * 6 + 1) = .int .i64 fs[j].hd.len ∧ F (j * 6 + 2) = .int .i64 fs[j].hd.dg ∧ F (j * 6 + 3) = .int .i64 fs[j].hd.sg ∧ FeedO B w fs[j] (F (j * 6 + 4)) (F (j * 6 + 5)) ∧ Up C (F (j * 6 + 4)) ∧ Up C (F (j * 6 + 5))) ∧
    Dis fs.length (fun j => F (j * 6 + 4)) ∧ Dis fs.length (fun j => F (j * 6 + 5))
def PairsO (B C : Nat) (e : TypeId) (w : World) (v : Value) (l : List (Int × Int)) : Prop :=
  Up C v ∧ ∃ F, ON 2 B e w v l.length F ∧ ∀ j (hj : j < l.length), F (j * 2) = .int .i64 l[j].1 ∧ F (j * 2 + 1) = .int .i64 l[j].2
def AsksO (B C : Nat) (w : World) (v : Value) (ls : List (List (Int × Int))) : Prop :=
  Up C v ∧ ∃ F, ON 1 B 50 w v ls.length F ∧ (∀ j (hj : j < ls.length), PairsO B C 118 w (F j) ls[j]) ∧ Dis ls.length F
def PiecesO (B C : Nat) (w : World) (v : Value) (ps : List Pc) : Prop :=
  Up C v ∧ ∃ F, ON 6 B 72 w v ps.length F ∧ (∀ j (hj : j < ps.length), F (j * 6) = .int .i64 ps[j].fr ∧ F (j * 6 + 1) = .int .i64 ps[j].to_ ∧ F (j * 6 + 2) = .int .i64 ps[j].len ∧ F (j * 6 + 3) = .int .i64 ps[j].idx ∧ F (j * 6 + 4) = .string ps[j].txt ∧ O1 (Value.int .i64) B 3 w (F (j * 6 + 5)) ps[j].prf ∧ Up C (F (j * 6 + 5))) ∧
    Dis ps.length (fun j => F (j * 6 + 5))
section
variable {B B' C C' : Nat} {e : TypeId} {w w' : World} {v : Value}
theorem FeedsO.below {fs : List Fd} (h : FeedsO B C w v fs) (hb : Below w.heap.size w w') : FeedsO B C w' v fs := by
  obtain ⟨h0, F, h1, h2, h3⟩ := h
  exact ⟨h0, F, h1.below hb, fun j hj => ⟨(h2 j hj).1, (h2 j hj).2.1, (h2 j hj).2.2.1, (h2 j hj).2.2.2.1, (h2 j hj).2.2.2.2.1.below hb, (h2 j hj).2.2.2.2.2⟩, h3⟩
theorem FeedsO.mono {fs : List Fd} (h : FeedsO B C w v fs) (hB : B' ≤ B) (hC : C ≤ C') : FeedsO B' C' w v fs := by
  obtain ⟨h0, F, h1, h2, h3⟩ := h
  exact ⟨h0.mono hC, F, h1.mono hB, fun j hj => ⟨(h2 j hj).1, (h2 j hj).2.1, (h2 j hj).2.2.1, (h2 j hj).2.2.2.1, (h2 j hj).2.2.2.2.1.mono hB, (h2 j hj).2.2.2.2.2.1.mono hC, (h2 j hj).2.2.2.2.2.2.mono hC⟩, h3⟩
theorem FeedsO.r {fs : List Fd} (h : FeedsO B C w v fs) : FeedsR w v fs := by
  obtain ⟨h0, F, h1, h2, h3⟩ := h
  exact ⟨F, h1.rn, fun j hj => ⟨(h2 j hj).1, (h2 j hj).2.1, (h2 j hj).2.2.1, (h2 j hj).2.2.2.1, (h2 j hj).2.2.2.2.1.r⟩⟩
theorem PairsO.below {l : List (Int × Int)} (h : PairsO B C e w v l) (hb : Below w.heap.size w w') : PairsO B C e w' v l := by
  obtain ⟨h0, F, h1, h2⟩ := h
  exact ⟨h0, F, h1.below hb, h2⟩
theorem PairsO.mono {l : List (Int × Int)} (h : PairsO B C e w v l) (hB : B' ≤ B) (hC : C ≤ C') : PairsO B' C' e w v l := by
  obtain ⟨h0, F, h1, h2⟩ := h
  exact ⟨h0.mono hC, F, h1.mono hB, h2⟩
theorem PairsO.far {g : Nat} {l : List (Int × Int)} (h : PairsO B C e w v l) (hg : w.grownBy w' (some g)) (hB : g < B) : PairsO B C e w' v l := by
  obtain ⟨h0, F, h1, h2⟩ := h
  exact ⟨h0, F, h1.far hg hB, h2⟩
theorem PairsO.r {l : List (Int × Int)} (h : PairsO B C e w v l) : RP w v l := by
  obtain ⟨_, F, h1, h2⟩ := h
  obtain ⟨A, c, hv, q1, q2, q3⟩ := h1.rn
  refine ⟨A, c, hv, q1, q2, fun hl => ?_⟩
  obtain ⟨b, o, hA, hb, hc⟩ := q3 hl
  refine ⟨b, o, hA, hb, fun j hj => ⟨?_, ?_⟩⟩
  · rw [hc _ (by omega), (h2 j hj).1]
  · rw [Nat.add_assoc, hc _ (by omega), (h2 j hj).2]
theorem PairsO.lt {l : List (Int × Int)} (h : PairsO B C e w v l) : ∀ k, v.ownBlock = some k → B ≤ k ∧ k < w.heap.size := by obtain ⟨_, F, h1, _⟩ := h; exact h1.lt
theorem AsksO.below {ls : List (List (Int × Int))} (h : AsksO B C w v ls) (hb : Below w.heap.size w w') : AsksO B C w' v ls := by
  obtain ⟨h0, F, h1, h2, h3⟩ := h
  exact ⟨h0, F, h1.below hb, fun j hj => (h2 j hj).below hb, h3⟩
theorem AsksO.mono {ls : List (List (Int × Int))} (h : AsksO B C w v ls) (hB : B' ≤ B) (hC : C ≤ C') : AsksO B' C' w v ls := by
  obtain ⟨h0, F, h1, h2, h3⟩ := h
  exact ⟨h0.mono hC, F, h1.mono hB, fun j hj => (h2 j hj).mono hB hC, h3⟩
theorem AsksO.r {ls : List (List (Int × Int))} (h : AsksO B C w v ls) : AsksR w v ls := by
  obtain ⟨_, F, h1, h2, _⟩ := h
  exact ⟨F, h1.rn, fun j hj => (h2 j hj).r⟩
theorem PiecesO.below {ps : List Pc} (h : PiecesO B C w v ps) (hb : Below w.heap.size w w') : PiecesO B C w' v ps := by
  obtain ⟨h0, F, h1, h2, h3⟩ := h
  exact ⟨h0, F, h1.below hb, fun j hj => ⟨(h2 j hj).1, (h2 j hj).2.1, (h2 j hj).2.2.1, (h2 j hj).2.2.2.1, (h2 j hj).2.2.2.2.1, (h2 j hj).2.2.2.2.2.1.below hb, (h2 j hj).2.2.2.2.2.2⟩, h3⟩
theorem PiecesO.mono {ps : List Pc} (h : PiecesO B C w v ps) (hB : B' ≤ B) (hC : C ≤ C') : PiecesO B' C' w v ps := by
  obtain ⟨h0, F, h1, h2, h3⟩ := h
  exact ⟨h0.mono hC, F, h1.mono hB, fun j hj => ⟨(h2 j hj).1, (h2 j hj).2.1, (h2 j hj).2.2.1, (h2 j hj).2.2.2.1, (h2 j hj).2.2.2.2.1, (h2 j hj).2.2.2.2.2.1.mono hB, (h2 j hj).2.2.2.2.2.2.mono hC⟩, h3⟩
theorem PiecesO.r {ps : List Pc} (h : PiecesO B C w v ps) : PiecesR w v ps := by
  obtain ⟨_, F, h1, h2, _⟩ := h
  exact ⟨F, h1.rn, fun j hj => ⟨(h2 j hj).1, (h2 j hj).2.1, (h2 j hj).2.2.1, (h2 j hj).2.2.2.1, (h2 j hj).2.2.2.2.1, (h2 j hj).2.2.2.2.2.1.r1⟩⟩
end
/-- The parts of a world that owns its memory: each part in a stretch of blocks of its own. -/
def WdO (B C : Nat) (w : World) (x : Wd) (vF vL vA vN : Value) : Prop :=
  ∃ b1 b2 b3, B ≤ b1 ∧ b1 ≤ b2 ∧ b2 ≤ b3 ∧ b3 ≤ C ∧ FeedsO B b1 w vF x.feeds ∧ PairsO b1 b2 52 w vL x.links ∧ AsksO b2 b3 w vA x.asked ∧ PiecesO b3 C w vN x.net
theorem WdO.below {B C : Nat} {w w' : World} {x : Wd} {vF vL vA vN : Value} (h : WdO B C w x vF vL vA vN) (hb : Below w.heap.size w w') : WdO B C w' x vF vL vA vN := by
  obtain ⟨b1, b2, b3, h1, h2, h3, h4, p1, p2, p3, p4⟩ := h
  exact ⟨b1, b2, b3, h1, h2, h3, h4, p1.below hb, p2.below hb, p3.below hb, p4.below hb⟩
theorem WdO.mono {B B' C C' : Nat} {w : World} {x : Wd} {vF vL vA vN : Value} (h : WdO B C w x vF vL vA vN) (hB : B' ≤ B) (hC : C ≤ C') : WdO B' C' w x vF vL vA vN := by
  obtain ⟨b1, b2, b3, h1, h2, h3, h4, p1, p2, p3, p4⟩ := h
  exact ⟨b1, b2, b3, Nat.le_trans hB h1, h2, h3, Nat.le_trans h4 hC, p1.mono hB (Nat.le_refl _), p2, p3, p4.mono (Nat.le_refl _) hC⟩
theorem WdO.r {B C : Nat} {w : World} {x : Wd} {vF vL vA vN : Value} (h : WdO B C w x vF vL vA vN) : WdR w x vF vL vA vN := by
  obtain ⟨b1, b2, b3, _, _, _, _, p1, p2, p3, p4⟩ := h
  exact ⟨p1.r, p2.r, p3.r, p4.r⟩
end Go.Proofs.YtcplnfmcefkehaaGreat
namespace Go.Proofs.YtcplnfmcefkehaaGreat
open Go.RowKit

end Go.Proofs.YtcplnfmcefkehaaGreat

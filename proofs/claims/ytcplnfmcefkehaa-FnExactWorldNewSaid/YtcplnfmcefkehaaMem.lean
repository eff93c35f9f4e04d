/- Words for memory: slices that read as lists, rows that a call owns, and an append onto them. No condition. -/
import Derived.Test.YtcplnfmcefkehaaRows
import Derived.WalkKit
import Derived.Deep.QuietTactic
import Derived.BigQuiet
import Derived.Lib.Hide
import Derived.Maps.AppendAt
import Derived.Deep.AppendLies
import Derived.Laws.AppendOwnNone
import Derived.Deep.RegionHeld3
namespace Go.Proofs.Ytcplnfmcefkehaa
open Go.RowKit

section
variable {α : Type} {enc : α → Value} {w w' : World} {v : Value} {l : List α}

/-- The slice value v reads as the list l, one cell an element. -/
def R1 (enc : α → Value) (w : World) (v : Value) (l : List α) : Prop :=
  ∃ (A : Option Addr) (c : Nat), v = .slice A l.length c ∧ (l.length ≤ c ∧ (A = none → c = 0)) ∧ c ≤ maxLen ∧
    (0 < l.length → ∃ b o, A = some ⟨b, o, none⟩ ∧ b < w.heap.size ∧ ∀ j (hj : j < l.length), w.cell? ⟨b, o + j, none⟩ = some (enc l[j]))

abbrev RI := R1 (Value.int .i64)
abbrev RB := R1 Value.bool
abbrev RS := R1 Value.string
theorem R1.keep (h : R1 enc w v l) (hs : w.heap.size ≤ w'.heap.size) (hk : ∀ p : Addr, p.block < w.heap.size → w'.cell? p = w.cell? p) : R1 enc w' v l := by
  obtain ⟨A, c, hv, h1, h2, h3⟩ := h
  refine ⟨A, c, hv, h1, h2, fun hl => ?_⟩
  obtain ⟨b, o, hA, hb, hc⟩ := h3 hl
  exact ⟨b, o, hA, by omega, fun j hj => (hk _ hb).trans (hc j hj)⟩
theorem R1.below (h : R1 enc w v l) (hb : Below w.heap.size w w') : R1 enc w' v l := h.keep hb.size fun _ hp => hb.cell hp
theorem R1.alloc (h : R1 enc w v l) (o : Obj) : R1 enc (w.alloc o) v l := h.below ((Below.refl _ _).alloc (Nat.le_refl _) o)
theorem R1.drew (h : R1 enc w v l) : R1 enc w.drew v l := h
theorem R1.drewN (h : R1 enc w v l) (n : Nat) : R1 enc (w.drewN n) v l := h
theorem R1.take {A : Option Addr} {c n : Nat} (h : R1 enc w (.slice A n c) l) {m : Nat} (hm : m ≤ l.length) : R1 enc w (.slice A m c) (l.take m) := by
  obtain ⟨A', c', he, h1, h2, h3⟩ := h
  obtain ⟨rfl, rfl, rfl⟩ : A = A' ∧ n = l.length ∧ c = c' := by injection he with a b c; exact ⟨a, b, c⟩
  have hml : (l.take m).length = m := by simp; omega
  refine ⟨A, c, by rw [hml], ⟨by omega, h1.2⟩, h2, fun hl => ?_⟩
  obtain ⟨b, o, hA, hb, hc⟩ := h3 (by omega)
  exact ⟨b, o, hA, hb, fun j hj => by rw [hc j (by omega)]; simp⟩
theorem R1.drop {b o : Nat} {c n : Nat} (h : R1 enc w (.slice (some ⟨b, o, none⟩) n c) l) {m : Nat} (hm : m ≤ l.length) : R1 enc w (.slice (some ⟨b, o + m, none⟩) (n - m) (c - m)) (l.drop m) := by
  obtain ⟨A', c', he, h1, h2, h3⟩ := h
  obtain ⟨rfl, rfl, rfl⟩ : some ⟨b, o, none⟩ = A' ∧ n = l.length ∧ c = c' := by injection he with a b c; exact ⟨a, b, c⟩
  have hml : (l.drop m).length = l.length - m := by simp
  refine ⟨_, c - m, by rw [hml], ⟨by omega, fun h => by cases h⟩, by omega, fun hl => ?_⟩
  obtain ⟨b', o', hA, hb, hc⟩ := h3 (by omega)
  cases hA
  exact ⟨b, o + m, rfl, hb, fun j hj => by rw [Nat.add_assoc, hc (m + j) (by omega)]; simp⟩
theorem R1.len (h : R1 enc w v l) : l.length ≤ maxLen := by obtain ⟨_, _, _, h1, h2, _⟩ := h; omega
theorem R1.nil (enc : α → Value) (w : World) : R1 enc w (.slice none 0 0) [] := ⟨none, 0, rfl, ⟨Nat.le_refl _, fun _ => rfl⟩, by unfold maxLen; omega, fun h => by simp at h⟩

/-- The slice value v owns a row from block B on that reads as the list l. -/
def O1 (enc : α → Value) (B : Nat) (e : TypeId) (w : World) (v : Value) (l : List α) : Prop := w.ownsRow B e 1 v l.length (l.map enc)

theorem O1.r1 {B : Nat} {e : TypeId} (h : O1 enc B e w v l) : R1 enc w v l := by
  obtain ⟨h1, h2⟩ := h
  rcases h2 with ⟨rfl, h0⟩ | ⟨g, cap, cur, rfl, hg, hh, hn, hc, hs, ht⟩
  · have : l = [] := List.eq_nil_of_length_eq_zero h0
    subst this
    exact R1.nil enc w
  · refine ⟨_, cap, rfl, ⟨hn, fun h => by cases h⟩, hc, fun _ => ⟨g, 0, rfl, (Array.getElem?_eq_some_iff.1 hh).1, fun j hj => ?_⟩⟩
    rw [Nat.zero_add, cell_of_row w g j cur e (0, 0) hh]
    have h3 : (l.map enc)[j]? = some (enc l[j]) := by simp [hj]
    rw [← ht, List.getElem?_take] at h3
    split at h3
    · simpa using h3
    · cases h3
theorem O1.below {B : Nat} {e : TypeId} (h : O1 enc B e w v l) (hb : Below w.heap.size w w') : O1 enc B e w' v l := by
  refine ⟨h.1, ?_⟩
  rcases h.2 with hn | ⟨g, cap, cur, hv, hg, hh, r⟩
  · exact .inl hn
  · exact .inr ⟨g, cap, cur, hv, hg, (hb.block g (Array.getElem?_eq_some_iff.1 hh).1).trans hh, r⟩
theorem O1.mono {B B' : Nat} {e : TypeId} (h : O1 enc B e w v l) (hB : B' ≤ B) : O1 enc B' e w v l := by
  refine ⟨h.1, ?_⟩
  rcases h.2 with hn | ⟨g, cap, cur, hv, hg, hh, r⟩
  · exact .inl hn
  · exact .inr ⟨g, cap, cur, hv, by omega, hh, r⟩
theorem O1.nil (enc : α → Value) (B : Nat) (e : TypeId) (w : World) : O1 enc B e w (.slice none 0 0) [] := ⟨by simp, .inl ⟨rfl, rfl⟩⟩
theorem O1.made (enc : α → Value) (w : World) (e : TypeId) : O1 enc w.heap.size e (w.alloc (.cells #[] e)) (.slice (some ⟨w.heap.size, 0, none⟩) 0 0) [] :=
  World.ownsRow_made w #[] 0 (Nat.le_refl _) (by unfold maxLen; omega) (by simp)
theorem O1.alloc {B : Nat} {e : TypeId} (h : O1 enc B e w v l) (o : Obj) : O1 enc B e (w.alloc o) v l := h.below ((Below.refl _ _).alloc (Nat.le_refl _) o)
theorem O1.len {B : Nat} {e : TypeId} (h : O1 enc B e w v l) : l.length ≤ maxLen := h.r1.len
end

theorem flat_get {α : Type} {enc : α → List Value} {m : Nat} (hm : ∀ a, (enc a).length = m) : ∀ (l : List α) (j t : Nat) (hj : j < l.length), t < m → (l.flatMap enc)[j * m + t]? = (enc l[j])[t]?
  | [], j, _, hj, _ => by simp at hj
  | x :: l, 0, t, _, ht => by
    rw [List.flatMap_cons, Nat.zero_mul, Nat.zero_add, List.getElem?_append_left (by rw [hm]; exact ht)]; rfl
  | x :: l, j + 1, t, hj, ht => by
    rw [List.flatMap_cons, List.getElem?_append_right (by rw [hm, Nat.succ_mul]; omega), hm]
    have : (j + 1) * m + t - m = j * m + t := by rw [Nat.succ_mul]; omega
    rw [this, flat_get hm l j t (by simpa using hj) ht]; rfl
theorem flat_len {α : Type} {enc : α → List Value} {m : Nat} (hm : ∀ a, (enc a).length = m) : ∀ (l : List α), (l.flatMap enc).length = l.length * m
  | [] => by simp
  | x :: l => by rw [List.flatMap_cons, List.length_append, hm, flat_len hm l, List.length_cons, Nat.succ_mul]; omega

section
variable {α : Type} {e1 e2 : α → Value} {w w' : World} {v : Value} {l : List α}
/-- The slice value v reads as the list l, two cells an element. -/
def R2 (e1 e2 : α → Value) (w : World) (v : Value) (l : List α) : Prop :=
  ∃ (A : Option Addr) (c : Nat), v = .slice A l.length c ∧ (l.length ≤ c ∧ (A = none → c = 0)) ∧ c ≤ maxLen ∧
    (0 < l.length → ∃ b o, A = some ⟨b, o, none⟩ ∧ b < w.heap.size ∧ ∀ j (hj : j < l.length), w.cell? ⟨b, o + j * 2, none⟩ = some (e1 l[j]) ∧ w.cell? ⟨b, o + j * 2 + 1, none⟩ = some (e2 l[j]))
theorem R2.keep (h : R2 e1 e2 w v l) (hs : w.heap.size ≤ w'.heap.size) (hk : ∀ p : Addr, p.block < w.heap.size → w'.cell? p = w.cell? p) : R2 e1 e2 w' v l := by
  obtain ⟨A, c, hv, h1, h2, h3⟩ := h
  refine ⟨A, c, hv, h1, h2, fun hl => ?_⟩
  obtain ⟨b, o, hA, hb, hc⟩ := h3 hl
  exact ⟨b, o, hA, by omega, fun j hj => ⟨(hk _ hb).trans (hc j hj).1, (hk _ hb).trans (hc j hj).2⟩⟩
theorem R2.below (h : R2 e1 e2 w v l) (hb : Below w.heap.size w w') : R2 e1 e2 w' v l := h.keep hb.size fun _ hp => hb.cell hp
theorem R2.alloc (h : R2 e1 e2 w v l) (o : Obj) : R2 e1 e2 (w.alloc o) v l := h.below ((Below.refl _ _).alloc (Nat.le_refl _) o)
theorem R2.len (h : R2 e1 e2 w v l) : l.length ≤ maxLen := by obtain ⟨_, _, _, h1, h2, _⟩ := h; omega
def O2 (e1 e2 : α → Value) (B : Nat) (e : TypeId) (w : World) (v : Value) (l : List α) : Prop := w.ownsRow B e 2 v l.length (l.flatMap fun a => [e1 a, e2 a])
theorem O2.r2 {B : Nat} {e : TypeId} (h : O2 e1 e2 B e w v l) : R2 e1 e2 w v l := by
  obtain ⟨h1, h2⟩ := h
  rcases h2 with ⟨rfl, h0⟩ | ⟨g, cap, cur, rfl, hg, hh, hn, hc, hs, ht⟩
  · have : l = [] := List.eq_nil_of_length_eq_zero h0
    subst this
    exact ⟨none, 0, rfl, ⟨Nat.le_refl _, fun _ => rfl⟩, by unfold maxLen; omega, fun h => by simp at h⟩
  · refine ⟨_, cap, rfl, ⟨hn, fun h => by cases h⟩, hc, fun _ => ⟨g, 0, rfl, (Array.getElem?_eq_some_iff.1 hh).1, fun j hj => ?_⟩⟩
    have key : ∀ t, t < 2 → cur[j * 2 + t]? = [e1 l[j], e2 l[j]][t]? := by
      intro t ht2
      have h3 := flat_get (enc := fun a => [e1 a, e2 a]) (m := 2) (fun _ => rfl) l j t hj ht2
      rw [← ht, List.getElem?_take, if_pos (by omega)] at h3
      simpa using h3
    rw [cell_of_row w g _ cur e (0, 0) hh, cell_of_row w g _ cur e (0, 0) hh, Nat.zero_add]
    exact ⟨key 0 (by omega), key 1 (by omega)⟩
theorem O2.below {B : Nat} {e : TypeId} (h : O2 e1 e2 B e w v l) (hb : Below w.heap.size w w') : O2 e1 e2 B e w' v l := by
  refine ⟨h.1, ?_⟩
  rcases h.2 with hn | ⟨g, cap, cur, hv, hg, hh, r⟩
  · exact .inl hn
  · exact .inr ⟨g, cap, cur, hv, hg, (hb.block g (Array.getElem?_eq_some_iff.1 hh).1).trans hh, r⟩
end

theorem below_bb {a b c : World} (h : Below a.heap.size a b) (k : Below b.heap.size b c) : Below a.heap.size a c := h.trans (k.mono h.size)
theorem below_drew {a b : World} (h : Below a.heap.size a b) : Below a.heap.size a b.drew := h.drew
theorem below_drewN {B : Nat} {a w : World} (h : Below B a w) (n : Nat) : Below B a (w.drewN n) := ⟨h.os, h.tape, h.output, h.size, h.block⟩
theorem below_alloc {a b : World} (h : Below a.heap.size a b) (o : Obj) : Below a.heap.size a (b.alloc o) := h.alloc h.size o
/-- All old cells and marks read as before. -/
theorem bcell {W w1 : World} {B : Nat} (hb : Below B W w1) : (∀ b o, b < B → w1.cell? ⟨b, o, none⟩ = W.cell? ⟨b, o, none⟩) ∧ (∀ b o, b < B → w1.frozen? ⟨b, o, none⟩ = W.frozen? ⟨b, o, none⟩) :=
  ⟨fun b o h => hb.cell (p := ⟨b, o, none⟩) h, fun b o h => hb.frozen (p := ⟨b, o, none⟩) h⟩

theorem retb {a b : Bool} (h : a = b) : Ending.returned (.bool a) = Ending.returned (.bool b) := by rw [h]
theorem reti {k : IntKind} {a b : Int} (h : a = b) : Ending.returned (.int k a) = Ending.returned (.int k b) := by rw [h]

/-- W, with whatever X has laid above it. -/
def up (W X : World) : World := { W with heap := W.heap ++ X.heap.extract W.heap.size X.heap.size, drawn := X.drawn }
theorem up_below (W X : World) : Below W.heap.size W (up W X) :=
  ⟨rfl, rfl, rfl, by simp [up], fun k hk => by simp only [up]; rw [Array.getElem?_append_left hk]⟩
theorem below_up {W w' : World} (h : Below W.heap.size W w') : w' = up W w' := by
  obtain ⟨h1, h2, h3, h4, h5⟩ := h
  have hh : w'.heap = W.heap ++ w'.heap.extract W.heap.size w'.heap.size := by
    apply Array.ext_getElem?
    intro k
    by_cases hk : k < W.heap.size
    · rw [h5 k hk, Array.getElem?_append_left hk]
    · rw [Array.getElem?_append_right (by omega)]
      rw [Array.getElem?_extract]
      by_cases h6 : k < w'.heap.size
      · rw [if_pos (by omega)]; congr 1; omega
      · rw [if_neg (by omega), Array.getElem?_eq_none (by omega)]
  obtain ⟨a, b, c, d, e⟩ := w'
  simp only at h1 h2 h3 hh
  simp only [up]
  rw [← hh, h1, h2, h3]
theorem up_cell (W : World) : ∀ (X : World) (b o : Nat), b < W.heap.size → (up W X).cell? ⟨b, o, none⟩ = W.cell? ⟨b, o, none⟩ := fun X b o h => (up_below W X).cell (p := ⟨b, o, none⟩) h
/-- A region that draws its order, whose operations read, and whose callees may make memory but hand back plain values: walked once. -/
theorem wp_region_up {P : Program} {id : Nat} {Q : Exit → Act → World → Prop} {a : Act} {w : World} {l : List Oper} (hm : P.follows .mixedOrders = true) (hB : Region.lexB .any l.toArray = true)
    (h : wpQuiet P l.toArray (fun w' => ∃ X, w' = up w X) (fun a' => ∀ w', (∃ X, w' = up w X) → Q .normal a' w') l a) : (Code.region id l.toArray true).wp P Q a w :=
  wp_region_quiet (C := fun w' => ∃ X, w' = up w X) hm hB ⟨_, below_up (W := w) (w' := { w with drawn := w.drawn + 1 }) ⟨rfl, rfl, rfl, Nat.le_refl _, fun _ _ => rfl⟩⟩ (by simpa using h)
theorem up_call {P : Program} {f : FuncId} {args : Array Value} {W X : World} {v : Value}
    (h : Calls P f args (up W X) fun e w' => e = .returned v ∧ Below (up W X).heap.size (up W X) w') : Calls P f args (up W X) fun e w'' => e = .returned v ∧ ∃ X', w'' = up W X' :=
  h.mono fun _ _ ⟨he, hb⟩ => ⟨he, _, below_up (below_bb (up_below W X) hb)⟩
theorem up_same {P : Program} {f : FuncId} {args : Array Value} {W X : World} {v : Value}
    (h : Calls P f args (up W X) fun e w' => e = .returned v ∧ up W X = w') : Calls P f args (up W X) fun e w'' => e = .returned v ∧ ∃ X', w'' = up W X' :=
  h.mono fun _ _ ⟨he, hb⟩ => ⟨he, X, hb.symm⟩
theorem R1.up {α : Type} {enc : α → Value} {w : World} {v : Value} {l : List α} (h : R1 enc w v l) (X : World) : R1 enc (up w X) v l := h.below (up_below w X)
theorem of_up {W w' : World} (h : ∃ X, w' = Go.Proofs.Ytcplnfmcefkehaa.up W X) : Below W.heap.size W w' := by obtain ⟨X, rfl⟩ := h; exact up_below W X

/-- append of ONE element, that has just been laid into a block of its own, onto a row of the call's own. -/
theorem app_one {P : Program} {ops : Array Oper} {rest : List Oper} {o : Oper} {a : Act} {Q : Exit → Act → World → Prop} {w : World} (t e size bytes : Nat) (i : TypeInfo) (z : Value)
    (ht : P.underlying t = some (.slice e)) (hi : P.info? e = some i) (hz : i.zero = some z) (hsize : i.size = size) (hby : i.bytes = bytes) (hzs : z.cells.size = size) (hsz : 0 < size) (hb100 : bytes ≤ 1000)
    {base : Nat} {v : Value} {n : Nat} {xs : List Value} (hown : w.ownsRow base e size v n xs) (hn : n ≤ 100000000000) (hbase : base ≤ w.heap.size)
    {cur : Array Value} (hgd : o.guard = none) {s x : Operand} (ho : o.op = .call { callee := .builtin .append, args := #[s, x], argTypes := #[t, t] })
    (hs : a.eval s = v) (hx : a.eval x = .slice (some ⟨w.heap.size, 0, none⟩) 1 1) (hl : cur.size = size) (h1 : ∀ u ∈ cur.toList, u.oneCell' = true)
    (h : ∀ v' w', w'.ownsRow base e size v' (n + 1) (xs ++ cur.toList) → Below base w w' → wpList P ops Q rest (a.put o.dst v') w') : wpList P ops Q (o :: rest) a (w.alloc (.cells cur e)) := by
  have hbd : (n + 1) * bytes ≤ 100000000001 * 1000 := Nat.mul_le_mul (by omega) hb100
  refine wpList_append_own _ hgd s x t ho base e i z size bytes ht hi hz hsize hby hzs hsz v n xs hs
    (hown.alloc _) ⟨w.heap.size, 0, none⟩ 1 1 cur.toList hx (by simp [hl]) (fun j u hu => ?_) h1 (by unfold maxLen; omega) (by omega) (by simp; omega) ?_
  · have hadd : (⟨w.heap.size, 0, none⟩ : Addr).add j = ⟨w.heap.size, j, none⟩ := by unfold Addr.add; split <;> simp_all
    rw [hadd, cell_of_row _ w.heap.size j cur e (0, 0) (heap_alloc_new w _)]
    simpa using hu
  · intro v' w' h2 h3 _
    exact h v' w' h2 (((Below.refl _ _).alloc hbase _).grown h3 (by simp; omega) (fun k hk => ((hown.alloc (.cells cur e)).lt k hk).1))

/-- append of a WHOLE slice onto a row of the call's own. -/
theorem app_all {α : Type} {enc : α → Value} (h1 : ∀ x, (enc x).oneCell' = true) {P : Program} {ops : Array Oper} {rest : List Oper} {o : Oper} {a : Act} {Q : Exit → Act → World → Prop} {w : World} (t e bytes : Nat) (i : TypeInfo) (z : Value)
    (ht : P.underlying t = some (.slice e)) (hi : P.info? e = some i) (hz : i.zero = some z) (hsize : i.size = 1) (hby : i.bytes = bytes) (hzs : z.cells.size = 1) (hb100 : bytes ≤ 1000)
    {base : Nat} {v x : Value} {l l2 : List α} (hown : O1 enc base e w v l) (hr : R1 enc w x l2) (hn : l.length + l2.length ≤ 100000000000) (hbase : base ≤ w.heap.size)
    (hgd : o.guard = none) {s y : Operand} (ho : o.op = .call { callee := .builtin .append, args := #[s, y], argTypes := #[t, t] })
    (hs : a.eval s = v) (hx : a.eval y = x)
    (h : ∀ v' w', O1 enc base e w' v' (l ++ l2) → Below base w w' → wpList P ops Q rest (a.put o.dst v') w') : wpList P ops Q (o :: rest) a w := by
  obtain ⟨A, c, rfl, h2, h3, h4⟩ := hr
  have hbd : (l.length + l2.length) * bytes ≤ 100000000000 * 1000 := Nat.mul_le_mul hn hb100
  rcases A with _ | ad
  · have hc0 : c = 0 := h2.2 rfl
    have hl0 : l2 = [] := List.eq_nil_of_length_eq_zero (by omega)
    subst hc0 hl0
    exact wpList_append_own_none hgd s y t ho base e i 1 ht hi v l.length _ hs hown hx (h v w (by rw [List.append_nil]; exact hown) (Below.refl _ _))
  · refine wpList_append_own _ hgd s y t ho base e i z 1 bytes ht hi hz hsize hby hzs (by omega) v l.length _ hs hown ad l2.length c (l2.map enc) hx (by simp) (fun j u hu => ?_) (by simp; intro x _; exact h1 x) (by unfold maxLen; omega) (by omega) hbase ?_
    · have hj : j < l2.length := by have := (List.getElem?_eq_some_iff.1 hu).1; simpa using this
      obtain ⟨b, o', hA, hb, hcell⟩ := h4 (by omega)
      cases hA
      have hadd : (⟨b, o', none⟩ : Addr).add j = ⟨b, o' + j, none⟩ := by unfold Addr.add; split <;> simp_all
      rw [hadd, hcell j hj]
      simp [hj] at hu
      rw [hu]
    · intro v' w' h5 h6 _
      exact h v' w' (by unfold O1; simpa using h5) ((Below.refl _ _).grown h6 hbase (fun k hk => (World.ownsRow.lt hown k hk).1))

/-- Infos of the types whose rows are appended to. -/
theorem info_int : (Try.prog.info? 3).map (fun i => (i.zero, i.size, i.bytes)) = some (some (.int .i64 0), 1, 8) := by kernel_rfl
section
variable {ops : Array Oper} {rest : List Oper} {o : Oper} {a : Act} {Q : Exit → Act → World → Prop} {w : World} {base : Nat} {v : Value}
theorem app_int {l : List Int} (hown : O1 (Value.int .i64) base 3 w v l) (hn : l.length ≤ 100000000000) (hbase : base ≤ w.heap.size) {y : Int} (hgd : o.guard = none) {s x : Operand}
    (ho : o.op = .call { callee := .builtin .append, args := #[s, x], argTypes := #[59, 59] }) (hs : a.eval s = v) (hx : a.eval x = .slice (some ⟨w.heap.size, 0, none⟩) 1 1)
    (h : ∀ v' w', O1 (Value.int .i64) base 3 w' v' (l ++ [y]) → Below base w w' → wpList Try.prog ops Q rest (a.put o.dst v') w') : wpList Try.prog ops Q (o :: rest) a (w.alloc (.cells #[.int .i64 y] 3)) := by
  obtain ⟨i0, hi, hz0, hz1, hz2⟩ := info_parts info_int
  exact app_one 59 3 1 8 i0 _ Try.underlying59 hi hz0 hz1 hz2 rfl (by omega) (by omega) hown hn hbase hgd ho hs hx rfl (by simp; rfl) fun v' w' h2 h3 => h v' w' (by unfold O1; simpa using h2) h3
theorem app_ints {l l2 : List Int} {x : Value} (hown : O1 (Value.int .i64) base 3 w v l) (hr : RI w x l2) (hn : l.length + l2.length ≤ 100000000000) (hbase : base ≤ w.heap.size)
    (hgd : o.guard = none) {s y : Operand} (ho : o.op = .call { callee := .builtin .append, args := #[s, y], argTypes := #[59, 59] }) (hs : a.eval s = v) (hx : a.eval y = x)
    (h : ∀ v' w', O1 (Value.int .i64) base 3 w' v' (l ++ l2) → Below base w w' → wpList Try.prog ops Q rest (a.put o.dst v') w') : wpList Try.prog ops Q (o :: rest) a w := by
  obtain ⟨i0, hi, hz0, hz1, hz2⟩ := info_parts info_int
  exact app_all (fun _ => rfl) 59 3 8 i0 _ Try.underlying59 hi hz0 hz1 hz2 rfl (by omega) hown hr hn hbase hgd ho hs hx h
theorem make_ints {n : Nat} {lo co : Operand} (hgd : o.guard = none) (ho : o.op = Op.makeSlice 59 lo co) (hl : a.eval lo = .int .i64 0) (hc : a.eval co = .int .i64 (n : Int)) (hn : n ≤ 1000000000000)
    (h : ∀ v' w', O1 (Value.int .i64) w.heap.size 3 w' v' [] → Below w.heap.size w w' → wpList Try.prog ops Q rest (a.put o.dst v') w') : wpList Try.prog ops Q (o :: rest) a w := by
  obtain ⟨i0, hi, hz0, hz1, hz2⟩ := info_parts info_int
  exact wpList_make_own w hgd lo co _ ho w.heap.size _ i0 _ 1 Try.underlying59 hi hz0 hz1 .i64 .i64 _ n hl hc rfl (by rw [hz2]; omega) (by unfold maxLen; omega) (Nat.le_refl _)
    fun w' h1 h2 => h _ w' h1 ((Below.refl _ _).grown h2 (Nat.le_refl _) (fun k hk => by cases hk))

end
end Go.Proofs.Ytcplnfmcefkehaa

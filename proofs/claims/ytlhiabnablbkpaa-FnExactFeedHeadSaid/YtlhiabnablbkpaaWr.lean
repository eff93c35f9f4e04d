/- Walks: the exact laws' conversions, marks and what is held. -/
import Derived.Test.YtlhiabnablbkpaaWp
import Derived.Deep.OwnRows
namespace Go.Proofs.Ytlhiabnablbkpaa
open Go.RowKit

/-- Of the blocks that there were, only those from B1 up to B2 may have turned. -/
structure Mid (B1 B2 : Nat) (w w' : World) : Prop where
  os : w'.os = w.os
  tape : w'.tape = w.tape
  output : w'.output = w.output
  size : w.heap.size ≤ w'.heap.size
  block : ∀ k, k < w.heap.size → (k < B1 ∨ B2 ≤ k) → w'.heap[k]? = w.heap[k]?
theorem Mid.refl (B1 B2 : Nat) (w : World) : Mid B1 B2 w w := ⟨rfl, rfl, rfl, Nat.le_refl _, fun _ _ _ => rfl⟩
theorem Mid.trans {B1 B2 : Nat} {a b c : World} (h : Mid B1 B2 a b) (k : Mid B1 B2 b c) : Mid B1 B2 a c :=
  ⟨k.os.trans h.os, k.tape.trans h.tape, k.output.trans h.output, Nat.le_trans h.size k.size, fun i hi hd => (k.block i (Nat.lt_of_lt_of_le hi h.size) hd).trans (h.block i hi hd)⟩
theorem Mid.of_below {B1 B2 : Nat} {a b : World} (h : Below a.heap.size a b) : Mid B1 B2 a b := ⟨h.os, h.tape, h.output, h.size, fun k hk _ => h.block k hk⟩
theorem Mid.below {B1 B2 B : Nat} {a b : World} (h : Mid B1 B2 a b) (hB : B ≤ B1) (hs : B ≤ a.heap.size) : Below B a b := ⟨h.os, h.tape, h.output, h.size, fun k hk => h.block k (by omega) (.inl (by omega))⟩
theorem Mid.grown {B1 B2 : Nat} {a b : World} {row : Option Nat} (h : a.grownBy b row) (hr : ∀ k, row = some k → B1 ≤ k ∧ k < B2) : Mid B1 B2 a b :=
  ⟨h.os, h.tape, h.output, h.size, fun k hk hd => h.block k hk (fun e => by have := hr k e.symm; omega)⟩
theorem Mid.setCell {B1 B2 : Nat} {a w : World} (h : Mid B1 B2 a w) {p : Addr} (h1 : B1 ≤ p.block) (h2 : p.block < B2) (u : Value) : Mid B1 B2 a (w.setCell p u) :=
  h.trans ⟨rfl, rfl, rfl, by simp [World.setCell], fun k _ hd => Below.heap_setCell _ _ _ _ (by omega)⟩
theorem O1.mid {α : Type} {enc : α → Value} {B B1 B2 : Nat} {e : TypeId} {w w' : World} {v : Value} {l : List α} (h : O1 enc B e w v l) (hb : Mid B1 B2 w w') (hB : B2 ≤ B) : O1 enc B e w' v l := by
  refine ⟨h.1, ?_⟩
  rcases h.2 with hn | ⟨k, cap, cur, hv, hk, hh, r⟩
  · exact .inl hn
  · exact .inr ⟨k, cap, cur, hv, hk, (hb.block k (Array.getElem?_eq_some_iff.1 hh).1 (.inr (by omega))).trans hh, r⟩
theorem O1.grown {α : Type} {enc : α → Value} {B : Nat} {e : TypeId} {w w' : World} {v : Value} {l : List α} {row : Option Nat} (h : O1 enc B e w v l) (hb : w.grownBy w' row) (hne : v.ownBlock = none ∨ v.ownBlock ≠ row) : O1 enc B e w' v l := World.ownsRow.kept h hb hne
/-- Rows of different element types are different. -/
theorem O1.ne_ {α β : Type} {e1 : α → Value} {e2 : β → Value} {B1 B2 : Nat} {t1 t2 : TypeId} {w : World} {v1 v2 : Value} {l1 : List α} {l2 : List β} (h1 : O1 e1 B1 t1 w v1 l1) (h2 : O1 e2 B2 t2 w v2 l2) (ht : t1 ≠ t2) : v1.ownBlock = none ∨ v1.ownBlock ≠ v2.ownBlock := by
  rcases h1.2 with ⟨rfl, _⟩ | ⟨k, cap, cur, rfl, hk, hh, r⟩
  · exact .inl rfl
  · refine .inr fun he => ?_
    rcases h2.2 with ⟨rfl, _⟩ | ⟨k2, cap2, cur2, rfl, hk2, hh2, r2⟩
    · simp [Value.ownBlock] at he
    · simp only [Value.ownBlock, Option.some.injEq] at he
      subst he
      rw [hh] at hh2
      injection hh2 with hh2
      injection hh2 with _ h3
      exact ht h3
theorem O1.lt {α : Type} {enc : α → Value} {B : Nat} {e : TypeId} {w : World} {v : Value} {l : List α} (h : O1 enc B e w v l) : ∀ k, v.ownBlock = some k → B ≤ k ∧ k < w.heap.size := World.ownsRow.lt h

/-- Block g holds a row of n cells of which the first k are given. -/
def Fill {α : Type} (enc : α → Value) (e : TypeId) (g : Nat) (w : World) (l : List α) (k : Nat) : Prop :=
  ∃ cur : Array Value, w.heap[g]? = some (.cells cur e (0, 0)) ∧ cur.size = l.length ∧ ∀ j (hj : j < l.length), j < k → cur[j]? = some (enc l[j])
theorem Fill.own {α : Type} {enc : α → Value} {e : TypeId} {g : Nat} {w : World} {l : List α} (h : Fill enc e g w l l.length) (hm : l.length ≤ maxLen) : O1 enc g e w (.slice (some ⟨g, 0, none⟩) l.length l.length) l := by
  obtain ⟨cur, h1, h2, h3⟩ := h
  refine ⟨by simp, .inr ⟨g, l.length, cur, rfl, Nat.le_refl _, h1, Nat.le_refl _, hm, by rw [h2]; simp, ?_⟩⟩
  rw [Nat.mul_one, List.take_of_length_le (by rw [Array.length_toList, h2]; exact Nat.le_refl _)]
  apply List.ext_getElem?
  intro j
  by_cases hj : j < l.length
  · have := h3 j hj hj
    simp [hj] at this ⊢
    exact this
  · rw [List.getElem?_eq_none (by rw [Array.length_toList, h2]; omega), List.getElem?_eq_none (by simp; omega)]
theorem Fill.step {α : Type} {enc : α → Value} {e : TypeId} {g : Nat} {w : World} {l : List α} {k : Nat} (h : Fill enc e g w l k) (hk : k < l.length) : Fill enc e g (w.setCell ⟨g, k, none⟩ (enc l[k])) l (k + 1) := by
  obtain ⟨cur, h1, h2, h3⟩ := h
  refine ⟨cur.setIfInBounds k (enc l[k]), ?_, by simp [h2], fun j hj hjk => ?_⟩
  · simp [World.setCell, Array.getElem?_modify, h1]
  · by_cases hjk2 : j = k
    · subst hjk2; simp [h2, hj]
    · rw [Array.getElem?_setIfInBounds_ne (by omega)]; exact h3 j hj (by omega)
theorem Fill.cell {α : Type} {enc : α → Value} {e : TypeId} {g : Nat} {w : World} {l : List α} {k : Nat} (h : Fill enc e g w l k) {j : Nat} (hj : j < l.length) : (∃ u, w.cell? ⟨g, j, none⟩ = some u) ∧ w.frozen? ⟨g, j, none⟩ = false := by
  obtain ⟨cur, h1, h2, h3⟩ := h
  exact ⟨⟨cur[j]'(by omega), by rw [cell_of_row w g j cur e (0, 0) h1]; simp [h2, hj]⟩, by simp [World.frozen?, h1]⟩
theorem Fill.made {α : Type} (enc : α → Value) (e : TypeId) (w : World) (z : Value) (l : List α) : Fill enc e w.heap.size (w.alloc (.cells (madeCells #[z] l.length) e)) l 0 :=
  ⟨_, heap_alloc_new w _, by simp [madeCells], fun j _ h => by omega⟩
theorem info_str : (Try.prog.info? 9).map (fun i => (i.zero, i.size, i.bytes)) = some (some (.string ⟨#[]⟩), 1, 16) := by kernel_rfl
theorem info_bool : (Try.prog.info? 4).map (fun i => (i.zero, i.size, i.bytes)) = some (some (.bool false), 1, 1) := by kernel_rfl

theorem szStringS_any (l : List ByteArray) (v : Value) (k : Int) (w : World) (hv : RS w v l) (hs : ∀ s ∈ l, s.size ≤ maxLen) (h0 : 0 ≤ k) (h1 : k ≤ 1048576) :
    Calls Try.prog 62 #[v, .int .i64 k] w fun e w' => (∃ r : Int, e = .returned (.int .i64 r) ∧ r ≤ 1048576 ∧ (0 ≤ r → l.length ≤ 1048576)) ∧ w = w' := by
  have HS := Lib.hid hs; clear hs
  have hm := hv.len
  obtain ⟨A, c, rfl, q1, q2, q3⟩ := hv
  unfold maxLen at hm
  clear q1 q2
  by_cases hl : k - (l.length : Int) < 0
  · go_enter Try.func62, Try.ntmps62
    go_wp2
    go_ret; exact ⟨⟨-1, rfl, by omega, by omega⟩, rfl⟩
  · have hl' : ¬ (k < (l.length : Int)) := by omega
    go_enter Try.func62, Try.ntmps62
    go_wp2
    go_loop [1, 5] (fun t i => ∃ (j : Nat) (r : Int), j ≤ l.length ∧ i = .int .i64 j ∧ t = .int .i64 r ∧ 0 ≤ r ∧ r ≤ 1048576) (fun _ i => l.length - (intOf i).toNat)
    case atStart => exact ⟨0, _, Nat.zero_le _, rfl, rfl, by omega, by omega⟩
    case round =>
      obtain ⟨j, r, hj, rfl, rfl, hr0, hr1⟩ := hrel
      by_cases hlt : j < l.length
      · obtain ⟨b, o, rfl, hb, hc⟩ := q3 (by omega)
        have hcell := hc j hlt
        have hsz := HS.out _ (List.getElem_mem hlt)
        unfold maxLen at hsz
        clear hc q3
        generalize l[j] = s at *
        by_cases hx : r < (s.size : Int)
        · go_wp2
          go_ret; exact ⟨⟨-1, rfl, by omega, by omega⟩, rfl⟩
        · go_wp2
          go_round
          case rel => exact ⟨j + 1, _, by omega, by go_num, rfl, by omega, by omega⟩
          case measure => simp [intOf]; omega
      · go_wp2
        go_ret; exact ⟨⟨r, rfl, hr1, fun _ => by omega⟩, rfl⟩
theorem szBoolS_any (l : List Bool) (v : Value) (k : Int) (w : World) (hv : RB w v l) (h0 : 0 ≤ k) (h1 : k ≤ 1048576) :
    Calls Try.prog 63 #[v, .int .i64 k] w fun e w' => (∃ r : Int, e = .returned (.int .i64 r) ∧ r ≤ 1048576 ∧ (0 ≤ r → l.length ≤ 1048576)) ∧ w = w' := by
  have hm := hv.len
  obtain ⟨A, c, rfl, q1, q2, q3⟩ := hv
  unfold maxLen at hm
  clear q1 q2 q3
  by_cases hl : k < (l.length : Int)
  · go_enter Try.func63, Try.ntmps63
    go_wp2
    go_ret; exact ⟨⟨-1, rfl, by omega, by omega⟩, rfl⟩
  · go_enter Try.func63, Try.ntmps63
    go_wp2
    go_ret; exact ⟨⟨k - l.length, rfl, by omega, by omega⟩, rfl⟩
def SzPost (f : Fd) (w : World) (e : Ending) (w' : World) : Prop := ∃ r : Int, e = .returned (.int .i64 r) ∧ r ≤ 1048576 ∧ (0 ≤ r → f.bl.length ≤ 1048576 ∧ f.hv.length ≤ 1048576) ∧ Below w.heap.size w w'
theorem szFeed_any (f : Fd) (vb vh : Value) (k : Int) (w : World) (hf : FeedR w f vb vh) (hs : ∀ s ∈ f.bl, s.size ≤ maxLen) (h0 : 0 ≤ k) (h1 : k ≤ 1048576) :
    Calls Try.prog 23 #[.agg #[.int .i64 f.pub, .int .i64 f.hd.len, .int .i64 f.hd.dg, .int .i64 f.hd.sg, vb, vh], .int .i64 k] w (SzPost f w) := by
  have HS := Lib.hid hs; clear hs
  have hfa := hf.alloc (.cells #[.int .i64 f.pub, .int .i64 f.hd.len, .int .i64 f.hd.dg, .int .i64 f.hd.sg, vb, vh] 27)
  have hbA : Below w.heap.size w (w.alloc (.cells #[.int .i64 f.pub, .int .i64 f.hd.len, .int .i64 f.hd.dg, .int .i64 f.hd.sg, vb, vh] 27)) := (Below.refl _ _).alloc (Nat.le_refl _) _
  have HB := Lib.hid hbA
  clear hbA
  go_enter Try.func23, Try.ntmps23
  go_wp2_with fail
  refine (szStringS_any f.bl _ _ _ hfa.bl HS.out h0 h1).mono ?_
  rintro e w' ⟨⟨r, rfl, hr1, hr2⟩, rfl⟩
  by_cases hr : r < 0
  · go_wp2
    go_ret; exact ⟨-1, rfl, by omega, by omega, HB.out⟩
  · have HR2 := Lib.hid (hr2 (by omega))
    clear hr2
    have hr0 : 0 ≤ r := by omega
    go_wp2_with fail
    refine (szBoolS_any f.hv _ _ _ hfa.hv hr0 hr1).mono ?_
    rintro e w' ⟨⟨r', rfl, hs1, hs2⟩, rfl⟩
    by_cases hr' : r' < 0
    · go_wp2
      go_ret; exact ⟨-1, rfl, by omega, by omega, HB.out⟩
    · have HS2 := Lib.hid (hs2 (by omega))
      clear hs2
      go_wp2
      go_ret; exact ⟨r', rfl, hs1, fun _ => ⟨HR2.out, HS2.out⟩, HB.out⟩

theorem toStringS_any (l : List ByteArray) (v : Value) (w : World) (hv : R1 (Value.string) w v l) (hl : l.length ≤ 1048576) :
    Calls Try.prog 69 #[v] w fun e w' => e = .returned (.slice (some ⟨w.heap.size, 0, none⟩) l.length l.length) ∧ O1 (Value.string) w.heap.size 9 w' (.slice (some ⟨w.heap.size, 0, none⟩) l.length l.length) l ∧ Below w.heap.size w w' := by
  have HV := Lib.hid hv
  obtain ⟨A, c, rfl, h1, h2, h3⟩ := hv
  clear h1 h2 h3
  obtain ⟨i0, hi, hz0, hz1, hz2⟩ := info_parts info_str
  have hmk := fun W => run_make_row (P := Try.prog) 24 9 i0 (.string ⟨#[]⟩) Try.underlying24 hi hz0 hz1 rfl .i64 .i64 l.length (by rw [hz2]; omega) (by omega) W
  have hF0 := Fill.made (Value.string) 9 w (.string ⟨#[]⟩) l
  have HF0 := Lib.hid hF0
  clear hF0
  go_enter Try.func69, Try.ntmps69
  go_wp2
  clear hmk
  go_loopw [4] (fun i wr => ∃ k : Nat, k ≤ l.length ∧ i = .int .i64 k ∧ Fill (Value.string) 9 w.heap.size wr l k ∧ Below w.heap.size w wr) (fun i _ => l.length - (intOf i).toNat)
  case atStart => exact ⟨0, Nat.zero_le _, rfl, HF0.out, (Below.refl _ _).alloc (Nat.le_refl _) _⟩
  case round =>
    obtain ⟨k, hk, rfl, hF, hb⟩ := hrel
    by_cases hlt : k < l.length
    · obtain ⟨_, _, hA, _, _, hc⟩ := HV.out.below hb
      cases hA
      obtain ⟨b, o, rfl, hbs, hc⟩ := hc (by omega)
      have e1 := hc k hlt
      obtain ⟨⟨u, e2⟩, e3⟩ := hF.cell hlt
      have HST := Lib.hid (hF.step hlt)
      clear hc
      generalize l[k] = x at *
      go_wp2
      go_roundw
      case rel => exact ⟨k + 1, by omega, by go_num, HST.out, hb.setCell (Nat.le_refl _) _⟩
      case measure => simp [intOf]; omega
    · obtain rfl : k = l.length := by omega
      go_wp2
      go_ret
      exact ⟨rfl, hF.own (by unfold maxLen; omega), hb⟩

theorem toBoolS_any (l : List Bool) (v : Value) (w : World) (hv : R1 (Value.bool) w v l) (hl : l.length ≤ 1048576) :
    Calls Try.prog 70 #[v] w fun e w' => e = .returned (.slice (some ⟨w.heap.size, 0, none⟩) l.length l.length) ∧ O1 (Value.bool) w.heap.size 4 w' (.slice (some ⟨w.heap.size, 0, none⟩) l.length l.length) l ∧ Below w.heap.size w w' := by
  have HV := Lib.hid hv
  obtain ⟨A, c, rfl, h1, h2, h3⟩ := hv
  clear h1 h2 h3
  obtain ⟨i0, hi, hz0, hz1, hz2⟩ := info_parts info_bool
  have hmk := fun W => run_make_row (P := Try.prog) 25 4 i0 (.bool false) Try.underlying25 hi hz0 hz1 rfl .i64 .i64 l.length (by rw [hz2]; omega) (by omega) W
  have hF0 := Fill.made (Value.bool) 4 w (.bool false) l
  have HF0 := Lib.hid hF0
  clear hF0
  go_enter Try.func70, Try.ntmps70
  go_wp2
  clear hmk
  go_loopw [4] (fun i wr => ∃ k : Nat, k ≤ l.length ∧ i = .int .i64 k ∧ Fill (Value.bool) 4 w.heap.size wr l k ∧ Below w.heap.size w wr) (fun i _ => l.length - (intOf i).toNat)
  case atStart => exact ⟨0, Nat.zero_le _, rfl, HF0.out, (Below.refl _ _).alloc (Nat.le_refl _) _⟩
  case round =>
    obtain ⟨k, hk, rfl, hF, hb⟩ := hrel
    by_cases hlt : k < l.length
    · obtain ⟨_, _, hA, _, _, hc⟩ := HV.out.below hb
      cases hA
      obtain ⟨b, o, rfl, hbs, hc⟩ := hc (by omega)
      have e1 := hc k hlt
      obtain ⟨⟨u, e2⟩, e3⟩ := hF.cell hlt
      have HST := Lib.hid (hF.step hlt)
      clear hc
      generalize l[k] = x at *
      go_wp2
      go_roundw
      case rel => exact ⟨k + 1, by omega, by go_num, HST.out, hb.setCell (Nat.le_refl _) _⟩
      case measure => simp [intOf]; omega
    · obtain rfl : k = l.length := by omega
      go_wp2
      go_ret
      exact ⟨rfl, hF.own (by unfold maxLen; omega), hb⟩

theorem toIntS_any (l : List Int) (v : Value) (w : World) (hv : R1 (Value.int .i64) w v l) (hl : l.length ≤ 1048576) :
    Calls Try.prog 48 #[v] w fun e w' => e = .returned (.slice (some ⟨w.heap.size, 0, none⟩) l.length l.length) ∧ O1 (Value.int .i64) w.heap.size 3 w' (.slice (some ⟨w.heap.size, 0, none⟩) l.length l.length) l ∧ Below w.heap.size w w' := by
  have HV := Lib.hid hv
  obtain ⟨A, c, rfl, h1, h2, h3⟩ := hv
  clear h1 h2 h3
  obtain ⟨i0, hi, hz0, hz1, hz2⟩ := info_parts info_int
  have hmk := fun W => run_make_row (P := Try.prog) 29 3 i0 (.int .i64 0) Try.underlying29 hi hz0 hz1 rfl .i64 .i64 l.length (by rw [hz2]; omega) (by omega) W
  have hF0 := Fill.made (Value.int .i64) 3 w (.int .i64 0) l
  have HF0 := Lib.hid hF0
  clear hF0
  go_enter Try.func48, Try.ntmps48
  go_wp2
  clear hmk
  go_loopw [4] (fun i wr => ∃ k : Nat, k ≤ l.length ∧ i = .int .i64 k ∧ Fill (Value.int .i64) 3 w.heap.size wr l k ∧ Below w.heap.size w wr) (fun i _ => l.length - (intOf i).toNat)
  case atStart => exact ⟨0, Nat.zero_le _, rfl, HF0.out, (Below.refl _ _).alloc (Nat.le_refl _) _⟩
  case round =>
    obtain ⟨k, hk, rfl, hF, hb⟩ := hrel
    by_cases hlt : k < l.length
    · obtain ⟨_, _, hA, _, _, hc⟩ := HV.out.below hb
      cases hA
      obtain ⟨b, o, rfl, hbs, hc⟩ := hc (by omega)
      have e1 := hc k hlt
      obtain ⟨⟨u, e2⟩, e3⟩ := hF.cell hlt
      have HST := Lib.hid (hF.step hlt)
      clear hc
      generalize l[k] = x at *
      go_wp2
      go_roundw
      case rel => exact ⟨k + 1, by omega, by go_num, HST.out, hb.setCell (Nat.le_refl _) _⟩
      case measure => simp [intOf]; omega
    · obtain rfl : k = l.length := by omega
      go_wp2
      go_ret
      exact ⟨rfl, hF.own (by unfold maxLen; omega), hb⟩

theorem toHead_any (a b c : Int) (w : World) : Calls Try.prog 60 #[.agg #[.int .i64 a, .int .i64 b, .int .i64 c]] w fun e w' => e = .returned (.agg #[.int .i64 a, .int .i64 b, .int .i64 c]) ∧ Below w.heap.size w w' := by
  go_enter Try.func60, Try.ntmps60
  go_wp2
  exact bodyPost_ret (v := .agg #[.int .i64 a, .int .i64 b, .int .i64 c]) (by simp [results, Try.results60, go_sem]) rfl ⟨rfl, by repeat (first | exact Below.refl _ _ | refine Below.setCell ?_ (by first | (simp; done) | (simp; omega)) _ | refine Below.alloc ?_ (by first | (simp; done) | (simp; omega)) _)⟩
end Go.Proofs.Ytlhiabnablbkpaa

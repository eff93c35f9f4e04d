/- Walks: what is held of a feed. | Walks: what equality, marks and holds do with empty lists. | Words for rows of several cells an element; walks: what the parts of a World do with lists of new feeds, and with lists of empty lists. | Walks: marks and holds of lists of feeds without blocks, and of lists of empty lists. -/
import Derived.Test.YtcplnfmcefkehaaGreatBG
set_option linter.unusedVariables false
set_option linter.unusedSimpArgs false
namespace Go.Proofs.YtcplnfmcefkehaaGreat
open Go.RowKit

theorem qp2 {k : Nat} {x : ByteArray} (h : Hid (mtx k = x)) (w : World) (hk : k ≤ 1000000000000) : Calls Tryz.prog 129 #[.int .i64 k] w fun e w' => e = .returned (.string x) ∧ Below w.heap.size w w' := by
 rw [← h.out]; exact qpH k w hk
set_option maxHeartbeats 800000 in
theorem qpT (n : Nat) (v : Value) (k : Nat) (w : World) (hv : RS w v ((List.range n).map fun j => mtx (k + j))) (hl : n ≤ 2000000) (hk : k ≤ 1000000000) :
 Calls Tryz.prog 146 #[v, .int .i64 k] w (qp3 k n w) := by
 have HV := hI_ hv
 obtain ⟨A, c, rfl, h1, h2, h3⟩ := hv
 simp only [List.length_map, List.length_range] at h1 HV ⊢
 clear h1 h2 h3
 go_enter Tryz.func146, Tryz.ntmps146
 go_wp2
 go_loopw [1, 5] (fun t i wr => ∃ j : Nat, j ≤ n ∧ i = .int .i64 j ∧ t = .int .i64 ((k + j : Nat) : Int) ∧ Below w.heap.size w wr) (fun _ i _ => n - (intOf i).toNat)
 case atStart => exact ⟨0, Nat.zero_le _, rfl, rfl, bR_ _ _⟩
 case round =>
  obtain ⟨j, hj, rfl, rfl, hb⟩ := hrel
  by_cases hlt : j < n
  · have hlt' : (j : Int) < (n : Int) := by omega
    obtain ⟨A', c', hA, _, _, hc⟩ := HV.out.below hb
    simp only [List.length_map, List.length_range] at hA hc
    cases hA
    obtain ⟨b, o, rfl, hbs, hc⟩ := hc (by omega)
    have hcell : wr.cell? ⟨b, o + j, none⟩ = some (.string (mtx (k + j))) := by
     have := hc j hlt
     simpa using this
    clear hc
    obtain ⟨x, HX⟩ : ∃ x, Hid (mtx (k + j) = x) := ⟨_, hI_ rfl⟩
    rw [HX.out] at hcell
    obtain ⟨kj, HKJ⟩ : ∃ kj : Nat, Hid (k + j = kj) := ⟨_, hI_ rfl⟩
    rw [HKJ.out] at HX
    have hkj : kj ≤ 1000000000000 := by have := HKJ.out; omega
    simp only [HKJ.out]
    go_wp2_with fail
    have hup := qap wr
    refine qoH ?_
    repeat (go_big_quiet_step ((go_at_call 129; exact qal (qp2 HX _ hkj))))
    refine wpQuiet_nil ?_
    intro w1 hw1
    have hb1 := qay hw1
    clear hw1 hup
    go_wp2
    go_roundw
    case rel => exact ⟨j + 1, by omega, by go_num, by have := HKJ.out; go_num, hb.trans (hb1.mono hb.size)⟩
    case measure => simp [intOf]; omega
  · have hlt' : ¬ (j : Int) < (n : Int) := by omega
    obtain rfl : j = n := by omega
    go_wp2
    go_ret
    exact ⟨rfl, hb⟩
theorem qp7 (n : Nat) (v : Value) (k : Nat) (w : World) (hv : RB w v ((List.range n).map fun j => ((k + j) % 3 == 0))) (hl : n ≤ 2000000) (hk : k ≤ 1000000000) :
 Calls Tryz.prog 147 #[v, .int .i64 k] w (qp3 k n w) := by
 obtain ⟨A, c, rfl, h1, h2, h3⟩ := hv
 simp only [List.length_map, List.length_range] at h1 h3 ⊢
 clear h1 h2
 go_enter Tryz.func147, Tryz.ntmps147
 go_wp2
 go_loop [1, 5] (fun t i => ∃ j : Nat, j ≤ n ∧ i = .int .i64 j ∧ t = .int .i64 ((k + j : Nat) : Int)) (fun _ i => n - (intOf i).toNat)
 case atStart => exact ⟨0, Nat.zero_le _, rfl, rfl⟩
 case round =>
  obtain ⟨j, hj, rfl, rfl⟩ := hrel
  by_cases hlt : j < n
  · obtain ⟨b, o, rfl, hb, hc⟩ := h3 (by omega)
    have hcell : w.cell? ⟨b, o + j, none⟩ = some (.bool ((k + j) % 3 == 0)) := by
     have := hc j hlt
     simpa using this
    clear hc h3
    by_cases h3 : (k + j) % 3 = 0
    · have h3' : ((k : Int) + (j : Int)) % 3 = 0 := by omega
      have h4 : ((k + j) % 3 == 0) = true := by simp [h3]
      rw [h4] at hcell
      clear h3 h4
      go_wp2
      go_round
      case rel => exact ⟨j + 1, by omega, by go_num, by go_num⟩
      case measure => simp [intOf]; omega
    · have h3' : (((k : Int) + (j : Int)) % 3 == 0) = false := by simp; omega
      have h4 : ((k + j) % 3 == 0) = false := by simpa using h3
      rw [h4] at hcell
      clear h3 h4
      go_wp2
      go_round
      case rel => exact ⟨j + 1, by omega, by go_num, by go_num⟩
      case measure => simp [intOf]; omega
  · obtain rfl : j = n := by omega
    go_wp2
    go_ret
    exact ⟨rfl, bR_ _ _⟩
section
variable {N n : Nat} {w w' : World} {v : Value} {F : Nat → Value}
def RN (N : Nat) (w : World) (v : Value) (n : Nat) (F : Nat → Value) : Prop :=
 ∃ (A : Option Addr) (c : Nat), v = .slice A n c ∧ (n ≤ c ∧ (A = none → c = 0)) ∧ c ≤ maxLen ∧
  (0 < n → ∃ b o, A = some ⟨b, o, none⟩ ∧ b < w.heap.size ∧ ∀ t, t < n * N → w.cell? ⟨b, o + t, none⟩ = some (F t))
theorem RN.keep (h : RN N w v n F) (hs : w.heap.size ≤ w'.heap.size) (hk : ∀ p : Addr, p.block < w.heap.size → w'.cell? p = w.cell? p) : RN N w' v n F := by
 obtain ⟨A, c, hv, h1, h2, h3⟩ := h
 refine ⟨A, c, hv, h1, h2, fun hl => ?_⟩
 obtain ⟨b, o, hA, hb, hc⟩ := h3 hl
 exact ⟨b, o, hA, by omega, fun t ht => (hk _ hb).trans (hc t ht)⟩
theorem RN.below (h : RN N w v n F) (hb : Below w.heap.size w w') : RN N w' v n F := h.keep hb.size fun _ hp => hb.cell hp
theorem RN.up (h : RN N w v n F) (X : World) : RN N (up w X) v n F := h.below (qao w X)
theorem RN.len (h : RN N w v n F) : n ≤ maxLen := by obtain ⟨_, _, _, h1, h2, _⟩ := h; omega
theorem RN.sl (h : RN N w v n F) : ∃ A c, v = .slice A n c := by obtain ⟨A, c, h, _⟩ := h; exact ⟨A, c, h⟩
theorem RN.nil (w : World) : RN N w (.slice none 0 0) 0 F := ⟨none, 0, rfl, ⟨nr_ _, fun _ => rfl⟩, by unfold maxLen; omega, fun h => by simp at h⟩
def ON (N B : Nat) (e : TypeId) (w : World) (v : Value) (n : Nat) (F : Nat → Value) : Prop := w.ownsRow B e N v n ((List.range (n * N)).map F)
variable {B : Nat} {e : TypeId}
theorem ON.nil : ON N B e w (.slice none 0 0) 0 F := ⟨by simp, .inl ⟨rfl, rfl⟩⟩
theorem ON.congr {F' : Nat → Value} (h : ON N B e w v n F) (hF : ∀ t, t < n * N → F t = F' t) : ON N B e w v n F' := by
 unfold ON at h ⊢
 rwa [List.map_congr_left (fun t ht => hF t (List.mem_range.1 ht))] at h
theorem ON.below (h : ON N B e w v n F) (hb : Below w.heap.size w w') : ON N B e w' v n F := by
 refine ⟨h.1, ?_⟩
 rcases h.2 with hn | ⟨g, cap, cur, hv, hg, hh, r⟩
 · exact .inl hn
 · exact .inr ⟨g, cap, cur, hv, hg, (hb.block g (Array.getElem?_eq_some_iff.1 hh).1).trans hh, r⟩
theorem ON.mono {B' : Nat} (h : ON N B e w v n F) (hB : B' ≤ B) : ON N B' e w v n F := by
 refine ⟨h.1, ?_⟩
 rcases h.2 with hn | ⟨g, cap, cur, hv, hg, hh, r⟩
 · exact .inl hn
 · exact .inr ⟨g, cap, cur, hv, by omega, hh, r⟩
theorem ON.lt (h : ON N B e w v n F) : ∀ k, v.ownBlock = some k → B ≤ k ∧ k < w.heap.size := World.ownsRow.lt h
theorem ON.grown {row : Option Nat} (h : ON N B e w v n F) (hg : w.grownBy w' row) (hd : v.ownBlock = none ∨ v.ownBlock ≠ row) : ON N B e w' v n F := World.ownsRow.kept h hg hd
theorem ON.form (h : ON N B e w v n F) (hn : 0 < n) : ∃ g cap, v = .slice (some ⟨g, 0, none⟩) n cap ∧ B ≤ g ∧ g < w.heap.size := by
 rcases h.2 with ⟨_, h0⟩ | ⟨g, cap, cur, hv, hg, hh, _⟩
 · omega
 · exact ⟨g, cap, hv, hg, (Array.getElem?_eq_some_iff.1 hh).1⟩
theorem ON.rn (h : ON N B e w v n F) : RN N w v n F := by
 obtain ⟨h1, h2⟩ := h
 rcases h2 with ⟨rfl, rfl⟩ | ⟨g, cap, cur, rfl, hg, hh, hn, hc, hs, ht⟩
 · exact RN.nil w
 · refine ⟨_, cap, rfl, ⟨hn, fun h => by cases h⟩, hc, fun _ => ⟨g, 0, rfl, (Array.getElem?_eq_some_iff.1 hh).1, fun t hlt => ?_⟩⟩
   rw [Nat.zero_add, cell_of_row w g t cur e (0, 0) hh]
   have h3 : ((List.range (n * N)).map F)[t]? = some (F t) := by simp [hlt]
   rw [← ht, List.getElem?_take] at h3
   split at h3
   · simpa using h3
   · exact absurd hlt (by assumption)
theorem ON.at_ {g cap : Nat} (h : ON N B e w (.slice (some ⟨g, 0, none⟩) n cap) n F) {t : Nat} (hlt : t < n * N) : w.cell? ⟨g, t, none⟩ = some (F t) ∧ w.frozen? ⟨g, t, none⟩ = false := by
 obtain ⟨h1, h2⟩ := h
 rcases h2 with ⟨hv, _⟩ | ⟨g', cap', cur, hv, hg, hh, hn, hc, hs, ht⟩
 · cases hv
 · cases hv
   refine ⟨?_, by simp [World.frozen?, hh]⟩
   rw [cell_of_row w g t cur e (0, 0) hh]
   have h3 : ((List.range (n * N)).map F)[t]? = some (F t) := by simp [hlt]
   rw [← ht, List.getElem?_take] at h3
   split at h3
   · simpa using h3
   · exact absurd hlt (by assumption)
theorem ON.setAt {g cap : Nat} (h : ON N B e w (.slice (some ⟨g, 0, none⟩) n cap) n F) {t : Nat} (hlt : t < n * N) (x : Value) :
 ON N B e (w.setCell ⟨g, t, none⟩ x) (.slice (some ⟨g, 0, none⟩) n cap) n (fun s => if s = t then x else F s) ∧ w.grownBy (w.setCell ⟨g, t, none⟩ x) (some g) := by
 refine ⟨?_, ⟨rfl, rfl, rfl, by simp [World.setCell], fun k _ hk => Below.heap_setCell w ⟨g, t, none⟩ _ k (fun e => hk (by rw [e]))⟩⟩
 obtain ⟨h1, h2⟩ := h
 rcases h2 with ⟨hv, _⟩ | ⟨g', cap', cur, hv, hg, hh, hn, hc, hs, ht⟩
 · cases hv
 · injection hv with e1 e2 e3
   injection e1 with e1
   injection e1 with e1 _ _
   subst e1 e3
   refine ⟨by simp, .inr ⟨g, cap, cur.setIfInBounds t x, by simp, hg, ?_, by simpa using hn, hc, by simpa using hs, ?_⟩⟩
   · simp [World.setCell, Array.getElem?_modify, hh]
   · rw [Array.toList_setIfInBounds, List.take_set, ht]
     apply List.ext_getElem?
     intro s
     rw [List.getElem?_set]
     by_cases hst : t = s
     · subst hst; simp [hlt]
     · rw [if_neg hst]
       by_cases hs2 : s < n * N
       · simp [hs2, if_neg (fun h : s = t => hst h.symm)]
       · simp [hs2]
end

def Em (v : Value) : Prop := ∃ A c, v = .slice A 0 c ∧ (A = none → c = 0) ∧ c ≤ maxLen
theorem Em.none : Em (.slice none 0 0) := ⟨_, _, rfl, fun _ => rfl, by unfold maxLen; omega⟩
theorem Em.r1 {α : Type} {enc : α → Value} {v : Value} (h : Em v) (w : World) : R1 enc w v [] := by
 obtain ⟨A, c, rfl, h1, h2⟩ := h
 exact ⟨A, c, rfl, ⟨Nat.zero_le _, h1⟩, h2, fun h => by simp at h⟩
theorem R1.em {α : Type} {enc : α → Value} {v : Value} {w : World} (h : R1 enc w v []) : Em v := by
 obtain ⟨A, c, rfl, h1, h2, _⟩ := h
 exact ⟨A, c, rfl, h1.2, h2⟩

def qa6 (w : World) (v : Value) (fs : List Fd) : Prop :=
 ∃ F, RN 6 w v fs.length F ∧ ∀ j (hj : j < fs.length), F (j * 6) = .int .i64 fs[j].pub ∧ F (j * 6 + 1) = .int .i64 fs[j].hd.len ∧ F (j * 6 + 2) = .int .i64 fs[j].hd.dg ∧ F (j * 6 + 3) = .int .i64 fs[j].hd.sg ∧ qaU w fs[j] (F (j * 6 + 4)) (F (j * 6 + 5))
theorem qaU.below' {w w' : World} {f : Fd} {a b : Value} (h : qaU w f a b) (hb : Below w.heap.size w w') : qaU w' f a b := ⟨h.bl.below hb, h.hv.below hb⟩
theorem qa6.below {w w' : World} {v : Value} {fs : List Fd} (h : qa6 w v fs) (hb : Below w.heap.size w w') : qa6 w' v fs := by
 obtain ⟨F, h1, h2⟩ := h
 exact ⟨F, h1.below hb, fun j hj => ⟨(h2 j hj).1, (h2 j hj).2.1, (h2 j hj).2.2.1, (h2 j hj).2.2.2.1, (h2 j hj).2.2.2.2.below' hb⟩⟩
theorem qa6.sl {w : World} {v : Value} {fs : List Fd} (h : qa6 w v fs) : ∃ A c, v = .slice A fs.length c := by obtain ⟨F, h1, _⟩ := h; exact h1.sl
theorem qa6.len {w : World} {v : Value} {fs : List Fd} (h : qa6 w v fs) : fs.length ≤ maxLen := by obtain ⟨F, h1, _⟩ := h; exact h1.len
theorem qa6.at_ {w : World} {A : Option Addr} {n c : Nat} {fs : List Fd} (h : qa6 w (.slice A n c) fs) {j : Nat} (hj : j < fs.length) :
 ∃ b o x y, A = some ⟨b, o, none⟩ ∧ b < w.heap.size ∧ w.cell? ⟨b, o + j * 6, none⟩ = some (.int .i64 fs[j].pub) ∧ w.cell? ⟨b, o + j * 6 + 1, none⟩ = some (.int .i64 fs[j].hd.len) ∧ w.cell? ⟨b, o + j * 6 + 2, none⟩ = some (.int .i64 fs[j].hd.dg) ∧ w.cell? ⟨b, o + j * 6 + 3, none⟩ = some (.int .i64 fs[j].hd.sg) ∧ w.cell? ⟨b, o + j * 6 + 4, none⟩ = some x ∧ w.cell? ⟨b, o + j * 6 + 5, none⟩ = some y ∧ qaU w fs[j] x y := by
 obtain ⟨F, ⟨A', c', he, h1, h2, h3⟩, h4⟩ := h
 obtain ⟨rfl, rfl, rfl⟩ : A = A' ∧ n = fs.length ∧ c = c' := by injection he with a b c; exact ⟨a, b, c⟩
 obtain ⟨b, o, hA, hb, hc⟩ := h3 (by omega)
 obtain ⟨f0, f1, f2, f3, f4⟩ := h4 j hj
 refine ⟨b, o, _, _, hA, hb, ?_, ?_, ?_, ?_, ?_, ?_, f4⟩
 · rw [hc _ (by omega), f0]
 · rw [Nat.add_assoc, hc _ (by omega), f1]
 · rw [Nat.add_assoc, hc _ (by omega), f2]
 · rw [Nat.add_assoc, hc _ (by omega), f3]
 · rw [Nat.add_assoc, hc _ (by omega)]
 · rw [Nat.add_assoc, hc _ (by omega)]

set_option maxHeartbeats 800000 in
theorem qqj (l : List Fd) (va vb : Value) (w : World) (ha : qa6 w va l) (hb : qa6 w vb l) :
 Calls Tryz.prog 57 #[va, vb] w fun e w' => e = .returned (.bool true) ∧ Below w.heap.size w w' := by
 have HA := hI_ ha
 have HB := hI_ hb
 have hm := ha.len
 obtain ⟨A, c, rfl⟩ := ha.sl
 obtain ⟨A2, c2, rfl⟩ := hb.sl
 unfold maxLen at hm
 clear ha hb
 have hnn : ((l.length : Int) != (l.length : Int)) = false := by simp
 go_enter Tryz.func57, Tryz.ntmps57
 go_wp2
 go_loopw [5] (fun i wr => ∃ k : Nat, k ≤ l.length ∧ i = .int .i64 k ∧ Below w.heap.size w wr) (fun i _ => l.length - (intOf i).toNat)
 case atStart => exact ⟨0, Nat.zero_le _, rfl, bR_ _ _⟩
 case round =>
  obtain ⟨k, hk, rfl, hbw⟩ := hrel
  by_cases hlt : k < l.length
  · obtain ⟨b, o, x, y, rfl, hbs, e0, e1, e2, e3, e4, e5, e6⟩ := (HA.out.below hbw).at_ hlt
    obtain ⟨b', o', x', y', rfl, hbs', d0, d1, d2, d3, d4, d5, d6⟩ := (HB.out.below hbw).at_ hlt
    have HE := hI_ e6
    have HD := hI_ d6
    clear e6 d6
    generalize l[k] = f at *
    have hup := qap wr
    have hki : (k : Int) < (l.length : Int) := by omega
    have hk0 : (0 : Int) ≤ (k : Int) := by omega
    go_wp2
    refine qoH ?_
    repeat (go_big_quiet_step ((go_at_call 122; exact qal (qnE f _ _ _ _ _ (HE.out.below' (qao _ _)) (HD.out.below' (qao _ _))))))
    refine wpQuiet_nil ?_
    intro w1 hw1
    have hb1 := qay hw1
    clear hw1 hup
    go_wp2
    go_roundw
    case rel => exact ⟨k + 1, by omega, by go_num, hbw.trans (hb1.mono hbw.size)⟩
    case measure => simp [intOf]; omega
  · go_wp2
    go_ret
    exact ⟨rfl, hbw⟩
end Go.Proofs.YtcplnfmcefkehaaGreat

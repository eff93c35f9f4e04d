/- Walks: what is held of a feed. | Walks: what equality, marks and holds do with empty lists. | Words for rows of several cells an element; walks: what the parts of a World do with lists of new feeds, and with lists of empty lists. | Walks: marks and holds of lists of feeds without blocks, and of lists of empty lists. -/
import Derived.Test.YtcplnfmcefkehaaGreatBG
import Derived.Test.YtcplnfmcefkehaaGreatBF
namespace Go.Proofs.YtcplnfmcefkehaaGreat
open Go.RowKit

theorem markText_b {k : Nat} {x : ByteArray} (h : Hid (mtx k = x)) (w : World) (hk : k ≤ 1000000000000) : Calls Tryz.prog 129 #[.int .i64 k] w fun e w' => e = .returned (.string x) ∧ Below w.heap.size w w' := by
  rw [← h.out]; exact markText_any k w hk
set_option maxHeartbeats 800000 in
theorem heldStringS_any (n : Nat) (v : Value) (k : Nat) (w : World) (hv : RS w v ((List.range n).map fun j => mtx (k + j))) (hl : n ≤ 2000000) (hk : k ≤ 1000000000) :
    Calls Tryz.prog 146 #[v, .int .i64 k] w (HeldPost k n w) := by
  have HV := Lib.hid hv
  obtain ⟨A, c, rfl, h1, h2, h3⟩ := hv
  simp only [List.length_map, List.length_range] at h1 HV ⊢
  clear h1 h2 h3
  go_enter Tryz.func146, Tryz.ntmps146
  go_wp2
  go_loopw [1, 5] (fun t i wr => ∃ j : Nat, j ≤ n ∧ i = .int .i64 j ∧ t = .int .i64 ((k + j : Nat) : Int) ∧ Below w.heap.size w wr) (fun _ i _ => n - (intOf i).toNat)
  case atStart => exact ⟨0, Nat.zero_le _, rfl, rfl, Below.refl _ _⟩
  case round =>
    obtain ⟨j, hj, rfl, rfl, hb⟩ := hrel
    by_cases hlt : j < n
    · have hlt' : (j : Int) < (n : Int) := by omega
      obtain ⟨A', c', hA, _, _, hc⟩ := HV.out.below hb
      simp only [List.length_map, List.length_range] at hA hc
      cases hA
      obtain ⟨b, o, rfl, hbs, hc⟩ := hc (by omega)
      have hcell : wr.cell? ⟨b, o + j, none⟩ = some (.string (mtx (k + j))) := by
        have := hc j hlt
        simpa using this
      clear hc
      obtain ⟨x, HX⟩ : ∃ x, Hid (mtx (k + j) = x) := ⟨_, Lib.hid rfl⟩
      rw [HX.out] at hcell
      obtain ⟨kj, HKJ⟩ : ∃ kj : Nat, Hid (k + j = kj) := ⟨_, Lib.hid rfl⟩
      rw [HKJ.out] at HX
      have hkj : kj ≤ 1000000000000 := by have := HKJ.out; omega
      simp only [HKJ.out]
      go_wp2_with fail
      have hup := up_cell wr
      refine wp_region_up (by kernel_rfl) (by kernel_rfl) ?_
      repeat (go_big_quiet_step ((go_at_call 129; exact up_call (markText_b HX _ hkj))))
      refine wpQuiet_nil ?_
      intro w1 hw1
      have hb1 := of_up hw1
      clear hw1 hup
      go_wp2
      go_roundw
      case rel => exact ⟨j + 1, by omega, by go_num, by have := HKJ.out; go_num, hb.trans (hb1.mono hb.size)⟩
      case measure => simp [intOf]; omega
    · have hlt' : ¬ (j : Int) < (n : Int) := by omega
      obtain rfl : j = n := by omega
      go_wp2
      go_ret
      exact ⟨rfl, hb⟩
theorem heldBoolS_any (n : Nat) (v : Value) (k : Nat) (w : World) (hv : RB w v ((List.range n).map fun j => ((k + j) % 3 == 0))) (hl : n ≤ 2000000) (hk : k ≤ 1000000000) :
    Calls Tryz.prog 147 #[v, .int .i64 k] w (HeldPost k n w) := by
  obtain ⟨A, c, rfl, h1, h2, h3⟩ := hv
  simp only [List.length_map, List.length_range] at h1 h3 ⊢
  clear h1 h2
  go_enter Tryz.func147, Tryz.ntmps147
  go_wp2
  go_loop [1, 5] (fun t i => ∃ j : Nat, j ≤ n ∧ i = .int .i64 j ∧ t = .int .i64 ((k + j : Nat) : Int)) (fun _ i => n - (intOf i).toNat)
  case atStart => exact ⟨0, Nat.zero_le _, rfl, rfl⟩
  case round =>
    obtain ⟨j, hj, rfl, rfl⟩ := hrel
    by_cases hlt : j < n
    · obtain ⟨b, o, rfl, hb, hc⟩ := h3 (by omega)
      have hcell : w.cell? ⟨b, o + j, none⟩ = some (.bool ((k + j) % 3 == 0)) := by
        have := hc j hlt
        simpa using this
      clear hc h3
      by_cases h3 : (k + j) % 3 = 0
      · have h3' : ((k : Int) + (j : Int)) % 3 = 0 := by omega
        have h4 : ((k + j) % 3 == 0) = true := by simp [h3]
        rw [h4] at hcell
        clear h3 h4
        go_wp2
        go_round
        case rel => exact ⟨j + 1, by omega, by go_num, by go_num⟩
        case measure => simp [intOf]; omega
      · have h3' : (((k : Int) + (j : Int)) % 3 == 0) = false := by simp; omega
        have h4 : ((k + j) % 3 == 0) = false := by simpa using h3
        rw [h4] at hcell
        clear h3 h4
        go_wp2
        go_round
        case rel => exact ⟨j + 1, by omega, by go_num, by go_num⟩
        case measure => simp [intOf]; omega
    · obtain rfl : j = n := by omega
      go_wp2
      go_ret
      exact ⟨rfl, Below.refl _ _⟩
end Go.Proofs.YtcplnfmcefkehaaGreat
namespace Go.Proofs.YtcplnfmcefkehaaGreat
open Go.RowKit

theorem eqLinkS_e (A A2 : Option Addr) (c c2 : Nat) (w : World) : Calls Tryz.prog 58 #[.slice A 0 c, .slice A2 0 c2] w fun e w' => e = .returned (.bool true) ∧ w = w' := by
  go_enter Tryz.func58, Tryz.ntmps58
  go_wp2
  go_loop [5] (fun i => i = .int .i64 0) (fun _ => 0)
  case atStart => rfl
  case round =>
    obtain rfl := hrel
    go_wp2
    go_ret
    exact ⟨rfl, rfl⟩
theorem eqPieceS_e (A A2 : Option Addr) (c c2 : Nat) (w : World) : Calls Tryz.prog 60 #[.slice A 0 c, .slice A2 0 c2] w fun e w' => e = .returned (.bool true) ∧ w = w' := by
  go_enter Tryz.func60, Tryz.ntmps60
  go_wp2
  go_loop [5] (fun i => i = .int .i64 0) (fun _ => 0)
  case atStart => rfl
  case round =>
    obtain rfl := hrel
    go_wp2
    go_ret
    exact ⟨rfl, rfl⟩
theorem eqAskS_e (A A2 : Option Addr) (c c2 : Nat) (w : World) : Calls Tryz.prog 124 #[.slice A 0 c, .slice A2 0 c2] w fun e w' => e = .returned (.bool true) ∧ w = w' := by
  go_enter Tryz.func124, Tryz.ntmps124
  go_wp2
  go_loop [5] (fun i => i = .int .i64 0) (fun _ => 0)
  case atStart => rfl
  case round =>
    obtain rfl := hrel
    go_wp2
    go_ret
    exact ⟨rfl, rfl⟩
theorem markStringS_e (A : Option Addr) (c : Nat) (k : Int) (w : World) : Calls Tryz.prog 126 #[.slice A 0 c, .int .i64 k] w fun e w' => e = .returned (.int .i64 k) ∧ w = w' := by
  go_enter Tryz.func126, Tryz.ntmps126
  go_wp2
  go_loop [1, 5] (fun t i => t = .int .i64 k ∧ i = .int .i64 0) (fun _ _ => 0)
  case atStart => exact ⟨rfl, rfl⟩
  case round =>
    obtain ⟨rfl, rfl⟩ := hrel
    go_wp2
    go_ret
    exact ⟨rfl, rfl⟩
theorem markBoolS_e (A : Option Addr) (c : Nat) (k : Int) (w : World) : Calls Tryz.prog 127 #[.slice A 0 c, .int .i64 k] w fun e w' => e = .returned (.int .i64 k) ∧ w = w' := by
  go_enter Tryz.func127, Tryz.ntmps127
  go_wp2
  go_loop [1, 5] (fun t i => t = .int .i64 k ∧ i = .int .i64 0) (fun _ _ => 0)
  case atStart => exact ⟨rfl, rfl⟩
  case round =>
    obtain ⟨rfl, rfl⟩ := hrel
    go_wp2
    go_ret
    exact ⟨rfl, rfl⟩
theorem heldStringS_e (A : Option Addr) (c : Nat) (k : Int) (w : World) : Calls Tryz.prog 146 #[.slice A 0 c, .int .i64 k] w fun e w' => e = .returned (.int .i64 k) ∧ w = w' := by
  go_enter Tryz.func146, Tryz.ntmps146
  go_wp2
  go_loop [1, 5] (fun t i => t = .int .i64 k ∧ i = .int .i64 0) (fun _ _ => 0)
  case atStart => exact ⟨rfl, rfl⟩
  case round =>
    obtain ⟨rfl, rfl⟩ := hrel
    go_wp2
    go_ret
    exact ⟨rfl, rfl⟩
theorem heldBoolS_e (A : Option Addr) (c : Nat) (k : Int) (w : World) : Calls Tryz.prog 147 #[.slice A 0 c, .int .i64 k] w fun e w' => e = .returned (.int .i64 k) ∧ w = w' := by
  go_enter Tryz.func147, Tryz.ntmps147
  go_wp2
  go_loop [1, 5] (fun t i => t = .int .i64 k ∧ i = .int .i64 0) (fun _ _ => 0)
  case atStart => exact ⟨rfl, rfl⟩
  case round =>
    obtain ⟨rfl, rfl⟩ := hrel
    go_wp2
    go_ret
    exact ⟨rfl, rfl⟩
theorem markLinkS_e (A : Option Addr) (c : Nat) (k : Int) (w : World) : Calls Tryz.prog 62 #[.slice A 0 c, .int .i64 k] w fun e w' => e = .returned (.int .i64 k) ∧ w = w' := by
  go_enter Tryz.func62, Tryz.ntmps62
  go_wp2
  go_loop [1, 5] (fun t i => t = .int .i64 k ∧ i = .int .i64 0) (fun _ _ => 0)
  case atStart => exact ⟨rfl, rfl⟩
  case round =>
    obtain ⟨rfl, rfl⟩ := hrel
    go_wp2
    go_ret
    exact ⟨rfl, rfl⟩
theorem markPieceS_e (A : Option Addr) (c : Nat) (k : Int) (w : World) : Calls Tryz.prog 64 #[.slice A 0 c, .int .i64 k] w fun e w' => e = .returned (.int .i64 k) ∧ w = w' := by
  go_enter Tryz.func64, Tryz.ntmps64
  go_wp2
  go_loop [1, 5] (fun t i => t = .int .i64 k ∧ i = .int .i64 0) (fun _ _ => 0)
  case atStart => exact ⟨rfl, rfl⟩
  case round =>
    obtain ⟨rfl, rfl⟩ := hrel
    go_wp2
    go_ret
    exact ⟨rfl, rfl⟩
theorem heldLinkS_e (A : Option Addr) (c : Nat) (k : Int) (w : World) : Calls Tryz.prog 78 #[.slice A 0 c, .int .i64 k] w fun e w' => e = .returned (.int .i64 k) ∧ w = w' := by
  go_enter Tryz.func78, Tryz.ntmps78
  go_wp2
  go_loop [1, 5] (fun t i => t = .int .i64 k ∧ i = .int .i64 0) (fun _ _ => 0)
  case atStart => exact ⟨rfl, rfl⟩
  case round =>
    obtain ⟨rfl, rfl⟩ := hrel
    go_wp2
    go_ret
    exact ⟨rfl, rfl⟩
theorem heldPieceS_e (A : Option Addr) (c : Nat) (k : Int) (w : World) : Calls Tryz.prog 80 #[.slice A 0 c, .int .i64 k] w fun e w' => e = .returned (.int .i64 k) ∧ w = w' := by
  go_enter Tryz.func80, Tryz.ntmps80
  go_wp2
  go_loop [1, 5] (fun t i => t = .int .i64 k ∧ i = .int .i64 0) (fun _ _ => 0)
  case atStart => exact ⟨rfl, rfl⟩
  case round =>
    obtain ⟨rfl, rfl⟩ := hrel
    go_wp2
    go_ret
    exact ⟨rfl, rfl⟩
theorem markAskS_e (A : Option Addr) (c : Nat) (k : Int) (w : World) : Calls Tryz.prog 128 #[.slice A 0 c, .int .i64 k] w fun e w' => e = .returned (.int .i64 k) ∧ w = w' := by
  go_enter Tryz.func128, Tryz.ntmps128
  go_wp2
  go_loop [1, 5] (fun t i => t = .int .i64 k ∧ i = .int .i64 0) (fun _ _ => 0)
  case atStart => exact ⟨rfl, rfl⟩
  case round =>
    obtain ⟨rfl, rfl⟩ := hrel
    go_wp2
    go_ret
    exact ⟨rfl, rfl⟩
theorem heldAskS_e (A : Option Addr) (c : Nat) (k : Int) (w : World) : Calls Tryz.prog 148 #[.slice A 0 c, .int .i64 k] w fun e w' => e = .returned (.int .i64 k) ∧ w = w' := by
  go_enter Tryz.func148, Tryz.ntmps148
  go_wp2
  go_loop [1, 5] (fun t i => t = .int .i64 k ∧ i = .int .i64 0) (fun _ _ => 0)
  case atStart => exact ⟨rfl, rfl⟩
  case round =>
    obtain ⟨rfl, rfl⟩ := hrel
    go_wp2
    go_ret
    exact ⟨rfl, rfl⟩
end Go.Proofs.YtcplnfmcefkehaaGreat
namespace Go.Proofs.YtcplnfmcefkehaaGreat
open Go.RowKit

section
variable {N n : Nat} {w w' : World} {v : Value} {F : Nat → Value}
/-- The slice value v has n elements of N cells; cell t of them all is F t. -/
def RN (N : Nat) (w : World) (v : Value) (n : Nat) (F : Nat → Value) : Prop :=
  ∃ (A : Option Addr) (c : Nat), v = .slice A n c ∧ (n ≤ c ∧ (A = none → c = 0)) ∧ c ≤ maxLen ∧
    (0 < n → ∃ b o, A = some ⟨b, o, none⟩ ∧ b < w.heap.size ∧ ∀ t, t < n * N → w.cell? ⟨b, o + t, none⟩ = some (F t))
theorem RN.keep (h : RN N w v n F) (hs : w.heap.size ≤ w'.heap.size) (hk : ∀ p : Addr, p.block < w.heap.size → w'.cell? p = w.cell? p) : RN N w' v n F := by
  obtain ⟨A, c, hv, h1, h2, h3⟩ := h
  refine ⟨A, c, hv, h1, h2, fun hl => ?_⟩
  obtain ⟨b, o, hA, hb, hc⟩ := h3 hl
  exact ⟨b, o, hA, by omega, fun t ht => (hk _ hb).trans (hc t ht)⟩
theorem RN.below (h : RN N w v n F) (hb : Below w.heap.size w w') : RN N w' v n F := h.keep hb.size fun _ hp => hb.cell hp
theorem RN.up (h : RN N w v n F) (X : World) : RN N (up w X) v n F := h.below (up_below w X)
theorem RN.len (h : RN N w v n F) : n ≤ maxLen := by obtain ⟨_, _, _, h1, h2, _⟩ := h; omega
theorem RN.sl (h : RN N w v n F) : ∃ A c, v = .slice A n c := by obtain ⟨A, c, h, _⟩ := h; exact ⟨A, c, h⟩
theorem RN.nil (w : World) : RN N w (.slice none 0 0) 0 F := ⟨none, 0, rfl, ⟨Nat.le_refl _, fun _ => rfl⟩, by unfold maxLen; omega, fun h => by simp at h⟩
/-- The slice value v owns such a row, from block B on. -/
def ON (N B : Nat) (e : TypeId) (w : World) (v : Value) (n : Nat) (F : Nat → Value) : Prop := w.ownsRow B e N v n ((List.range (n * N)).map F)
variable {B : Nat} {e : TypeId}
theorem ON.nil : ON N B e w (.slice none 0 0) 0 F := ⟨by simp, .inl ⟨rfl, rfl⟩⟩
theorem ON.congr {F' : Nat → Value} (h : ON N B e w v n F) (hF : ∀ t, t < n * N → F t = F' t) : ON N B e w v n F' := by
  unfold ON at h ⊢
  rwa [List.map_congr_left (fun t ht => hF t (List.mem_range.1 ht))] at h
theorem ON.below (h : ON N B e w v n F) (hb : Below w.heap.size w w') : ON N B e w' v n F := by
  refine ⟨h.1, ?_⟩
  rcases h.2 with hn | ⟨g, cap, cur, hv, hg, hh, r⟩
  · exact .inl hn
  · exact .inr ⟨g, cap, cur, hv, hg, (hb.block g (Array.getElem?_eq_some_iff.1 hh).1).trans hh, r⟩
theorem ON.mono {B' : Nat} (h : ON N B e w v n F) (hB : B' ≤ B) : ON N B' e w v n F := by
  refine ⟨h.1, ?_⟩
  rcases h.2 with hn | ⟨g, cap, cur, hv, hg, hh, r⟩
  · exact .inl hn
  · exact .inr ⟨g, cap, cur, hv, by omega, hh, r⟩
theorem ON.lt (h : ON N B e w v n F) : ∀ k, v.ownBlock = some k → B ≤ k ∧ k < w.heap.size := World.ownsRow.lt h
theorem ON.grown {row : Option Nat} (h : ON N B e w v n F) (hg : w.grownBy w' row) (hd : v.ownBlock = none ∨ v.ownBlock ≠ row) : ON N B e w' v n F := World.ownsRow.kept h hg hd
theorem ON.form (h : ON N B e w v n F) (hn : 0 < n) : ∃ g cap, v = .slice (some ⟨g, 0, none⟩) n cap ∧ B ≤ g ∧ g < w.heap.size := by
  rcases h.2 with ⟨_, h0⟩ | ⟨g, cap, cur, hv, hg, hh, _⟩
  · omega
  · exact ⟨g, cap, hv, hg, (Array.getElem?_eq_some_iff.1 hh).1⟩
theorem ON.rn (h : ON N B e w v n F) : RN N w v n F := by
  obtain ⟨h1, h2⟩ := h
  rcases h2 with ⟨rfl, rfl⟩ | ⟨g, cap, cur, rfl, hg, hh, hn, hc, hs, ht⟩
  · exact RN.nil w
  · refine ⟨_, cap, rfl, ⟨hn, fun h => by cases h⟩, hc, fun _ => ⟨g, 0, rfl, (Array.getElem?_eq_some_iff.1 hh).1, fun t hlt => ?_⟩⟩
    rw [Nat.zero_add, cell_of_row w g t cur e (0, 0) hh]
    have h3 : ((List.range (n * N)).map F)[t]? = some (F t) := by simp [hlt]
    rw [← ht, List.getElem?_take] at h3
    split at h3
    · simpa using h3
    · exact absurd hlt (by assumption)
theorem ON.at_ {g cap : Nat} (h : ON N B e w (.slice (some ⟨g, 0, none⟩) n cap) n F) {t : Nat} (hlt : t < n * N) : w.cell? ⟨g, t, none⟩ = some (F t) ∧ w.frozen? ⟨g, t, none⟩ = false := by
  obtain ⟨h1, h2⟩ := h
  rcases h2 with ⟨hv, _⟩ | ⟨g', cap', cur, hv, hg, hh, hn, hc, hs, ht⟩
  · cases hv
  · cases hv
    refine ⟨?_, by simp [World.frozen?, hh]⟩
    rw [cell_of_row w g t cur e (0, 0) hh]
    have h3 : ((List.range (n * N)).map F)[t]? = some (F t) := by simp [hlt]
    rw [← ht, List.getElem?_take] at h3
    split at h3
    · simpa using h3
    · exact absurd hlt (by assumption)
theorem ON.setAt {g cap : Nat} (h : ON N B e w (.slice (some ⟨g, 0, none⟩) n cap) n F) {t : Nat} (hlt : t < n * N) (x : Value) :
    ON N B e (w.setCell ⟨g, t, none⟩ x) (.slice (some ⟨g, 0, none⟩) n cap) n (fun s => if s = t then x else F s) ∧ w.grownBy (w.setCell ⟨g, t, none⟩ x) (some g) := by
  refine ⟨?_, ⟨rfl, rfl, rfl, by simp [World.setCell], fun k _ hk => Below.heap_setCell w ⟨g, t, none⟩ _ k (fun e => hk (by rw [e]))⟩⟩
  obtain ⟨h1, h2⟩ := h
  rcases h2 with ⟨hv, _⟩ | ⟨g', cap', cur, hv, hg, hh, hn, hc, hs, ht⟩
  · cases hv
  · injection hv with e1 e2 e3
    injection e1 with e1
    injection e1 with e1 _ _
    subst e1 e3
    refine ⟨by simp, .inr ⟨g, cap, cur.setIfInBounds t x, by simp, hg, ?_, by simpa using hn, hc, by simpa using hs, ?_⟩⟩
    · simp [World.setCell, Array.getElem?_modify, hh]
    · rw [Array.toList_setIfInBounds, List.take_set, ht]
      apply List.ext_getElem?
      intro s
      rw [List.getElem?_set]
      by_cases hst : t = s
      · subst hst; simp [hlt]
      · rw [if_neg hst]
        by_cases hs2 : s < n * N
        · simp [hs2, if_neg (fun h : s = t => hst h.symm)]
        · simp [hs2]
end

/-- A slice value that reads as the empty list. -/
def Em (v : Value) : Prop := ∃ A c, v = .slice A 0 c ∧ (A = none → c = 0) ∧ c ≤ maxLen
theorem Em.none : Em (.slice none 0 0) := ⟨_, _, rfl, fun _ => rfl, by unfold maxLen; omega⟩
theorem Em.r1 {α : Type} {enc : α → Value} {v : Value} (h : Em v) (w : World) : R1 enc w v [] := by
  obtain ⟨A, c, rfl, h1, h2⟩ := h
  exact ⟨A, c, rfl, ⟨Nat.zero_le _, h1⟩, h2, fun h => by simp at h⟩
theorem R1.em {α : Type} {enc : α → Value} {v : Value} {w : World} (h : R1 enc w v []) : Em v := by
  obtain ⟨A, c, rfl, h1, h2, _⟩ := h
  exact ⟨A, c, rfl, h1.2, h2⟩

/-- The slice value v reads as the list of feeds fs. -/
def FeedsR (w : World) (v : Value) (fs : List Fd) : Prop :=
  ∃ F, RN 6 w v fs.length F ∧ ∀ j (hj : j < fs.length), F (j * 6) = .int .i64 fs[j].pub ∧ F (j * 6 + 1) = .int .i64 fs[j].hd.len ∧ F (j * 6 + 2) = .int .i64 fs[j].hd.dg ∧ F (j * 6 + 3) = .int .i64 fs[j].hd.sg ∧ FeedR w fs[j] (F (j * 6 + 4)) (F (j * 6 + 5))
theorem FeedR.below' {w w' : World} {f : Fd} {a b : Value} (h : FeedR w f a b) (hb : Below w.heap.size w w') : FeedR w' f a b := ⟨h.bl.below hb, h.hv.below hb⟩
theorem FeedsR.below {w w' : World} {v : Value} {fs : List Fd} (h : FeedsR w v fs) (hb : Below w.heap.size w w') : FeedsR w' v fs := by
  obtain ⟨F, h1, h2⟩ := h
  exact ⟨F, h1.below hb, fun j hj => ⟨(h2 j hj).1, (h2 j hj).2.1, (h2 j hj).2.2.1, (h2 j hj).2.2.2.1, (h2 j hj).2.2.2.2.below' hb⟩⟩
theorem FeedsR.sl {w : World} {v : Value} {fs : List Fd} (h : FeedsR w v fs) : ∃ A c, v = .slice A fs.length c := by obtain ⟨F, h1, _⟩ := h; exact h1.sl
theorem FeedsR.len {w : World} {v : Value} {fs : List Fd} (h : FeedsR w v fs) : fs.length ≤ maxLen := by obtain ⟨F, h1, _⟩ := h; exact h1.len
theorem FeedsR.at_ {w : World} {A : Option Addr} {n c : Nat} {fs : List Fd} (h : FeedsR w (.slice A n c) fs) {j : Nat} (hj : j < fs.length) :
    ∃ b o x y, A = some ⟨b, o, none⟩ ∧ b < w.heap.size ∧ w.cell? ⟨b, o + j * 6, none⟩ = some (.int .i64 fs[j].pub) ∧ w.cell? ⟨b, o + j * 6 + 1, none⟩ = some (.int .i64 fs[j].hd.len) ∧ w.cell? ⟨b, o + j * 6 + 2, none⟩ = some (.int .i64 fs[j].hd.dg) ∧ w.cell? ⟨b, o + j * 6 + 3, none⟩ = some (.int .i64 fs[j].hd.sg) ∧ w.cell? ⟨b, o + j * 6 + 4, none⟩ = some x ∧ w.cell? ⟨b, o + j * 6 + 5, none⟩ = some y ∧ FeedR w fs[j] x y := by
  obtain ⟨F, ⟨A', c', he, h1, h2, h3⟩, h4⟩ := h
  obtain ⟨rfl, rfl, rfl⟩ : A = A' ∧ n = fs.length ∧ c = c' := by injection he with a b c; exact ⟨a, b, c⟩
  obtain ⟨b, o, hA, hb, hc⟩ := h3 (by omega)
  obtain ⟨f0, f1, f2, f3, f4⟩ := h4 j hj
  refine ⟨b, o, _, _, hA, hb, ?_, ?_, ?_, ?_, ?_, ?_, f4⟩
  · rw [hc _ (by omega), f0]
  · rw [Nat.add_assoc, hc _ (by omega), f1]
  · rw [Nat.add_assoc, hc _ (by omega), f2]
  · rw [Nat.add_assoc, hc _ (by omega), f3]
  · rw [Nat.add_assoc, hc _ (by omega)]
  · rw [Nat.add_assoc, hc _ (by omega)]

set_option maxHeartbeats 800000 in
theorem eqFeedS_same (l : List Fd) (va vb : Value) (w : World) (ha : FeedsR w va l) (hb : FeedsR w vb l) :
    Calls Tryz.prog 57 #[va, vb] w fun e w' => e = .returned (.bool true) ∧ Below w.heap.size w w' := by
  have HA := Lib.hid ha
  have HB := Lib.hid hb
  have hm := ha.len
  obtain ⟨A, c, rfl⟩ := ha.sl
  obtain ⟨A2, c2, rfl⟩ := hb.sl
  unfold maxLen at hm
  clear ha hb
  have hnn : ((l.length : Int) != (l.length : Int)) = false := by simp
  go_enter Tryz.func57, Tryz.ntmps57
  go_wp2
  go_loopw [5] (fun i wr => ∃ k : Nat, k ≤ l.length ∧ i = .int .i64 k ∧ Below w.heap.size w wr) (fun i _ => l.length - (intOf i).toNat)
  case atStart => exact ⟨0, Nat.zero_le _, rfl, Below.refl _ _⟩
  case round =>
    obtain ⟨k, hk, rfl, hbw⟩ := hrel
    by_cases hlt : k < l.length
    · obtain ⟨b, o, x, y, rfl, hbs, e0, e1, e2, e3, e4, e5, e6⟩ := (HA.out.below hbw).at_ hlt
      obtain ⟨b', o', x', y', rfl, hbs', d0, d1, d2, d3, d4, d5, d6⟩ := (HB.out.below hbw).at_ hlt
      have HE := Lib.hid e6
      have HD := Lib.hid d6
      clear e6 d6
      generalize l[k] = f at *
      have hup := up_cell wr
      have hki : (k : Int) < (l.length : Int) := by omega
      have hk0 : (0 : Int) ≤ (k : Int) := by omega
      go_wp2
      refine wp_region_up (by kernel_rfl) (by kernel_rfl) ?_
      repeat (go_big_quiet_step ((go_at_call 122; exact up_call (eqFeed_same f _ _ _ _ _ (HE.out.below' (up_below _ _)) (HD.out.below' (up_below _ _))))))
      refine wpQuiet_nil ?_
      intro w1 hw1
      have hb1 := of_up hw1
      clear hw1 hup
      go_wp2
      go_roundw
      case rel => exact ⟨k + 1, by omega, by go_num, hbw.trans (hb1.mono hbw.size)⟩
      case measure => simp [intOf]; omega
    · go_wp2
      go_ret
      exact ⟨rfl, hbw⟩
end Go.Proofs.YtcplnfmcefkehaaGreat
namespace Go.Proofs.YtcplnfmcefkehaaGreat
open Go.RowKit

/-- A row of feeds whose first j are marked. -/
def mF (k j : Nat) (F : Nat → Value) (t : Nat) : Value := if t / 6 < j ∧ t % 6 < 4 then .int .i64 ((k + 4 * (t / 6) + t % 6 : Nat) : Int) else F t
theorem ON.mark4 {B k j n g cap : Nat} {e : TypeId} {w : World} {F : Nat → Value} (h : ON 6 B e w (.slice (some ⟨g, 0, none⟩) n cap) n (mF k j F)) (hj : j < n) {y0 y1 y2 y3 : Int}
    (e0 : y0 = ((k + 4 * j : Nat) : Int)) (e1 : y1 = ((k + 4 * j : Nat) : Int) + 1) (e2 : y2 = ((k + 4 * j : Nat) : Int) + 2) (e3 : y3 = ((k + 4 * j : Nat) : Int) + 3) :
    ON 6 B e ((((w.setCell ⟨g, j * 6, none⟩ (.int .i64 y0)).setCell ⟨g, j * 6 + 1, none⟩ (.int .i64 y1)).setCell ⟨g, j * 6 + 2, none⟩ (.int .i64 y2)).setCell ⟨g, j * 6 + 3, none⟩ (.int .i64 y3)) (.slice (some ⟨g, 0, none⟩) n cap) n (mF k (j + 1) F)
    ∧ w.grownBy ((((w.setCell ⟨g, j * 6, none⟩ (.int .i64 y0)).setCell ⟨g, j * 6 + 1, none⟩ (.int .i64 y1)).setCell ⟨g, j * 6 + 2, none⟩ (.int .i64 y2)).setCell ⟨g, j * 6 + 3, none⟩ (.int .i64 y3)) (some g) := by
  obtain ⟨a0, g0⟩ := h.setAt (t := j * 6) (by omega) (.int .i64 y0)
  obtain ⟨a1, g1⟩ := a0.setAt (t := j * 6 + 1) (by omega) (.int .i64 y1)
  obtain ⟨a2, g2⟩ := a1.setAt (t := j * 6 + 2) (by omega) (.int .i64 y2)
  obtain ⟨a3, g3⟩ := a2.setAt (t := j * 6 + 3) (by omega) (.int .i64 y3)
  refine ⟨a3.congr fun t ht => ?_, grow_trans (grow_trans (grow_trans g0 g1) g2) g3⟩
  clear a0 a1 a2 a3 g0 g1 g2 g3 h
  subst e0 e1 e2 e3
  unfold mF
  by_cases h3 : t = j * 6 + 3
  · subst h3; rw [if_pos rfl, if_pos (by omega)]; congr 1; omega
  rw [if_neg h3]
  by_cases h2 : t = j * 6 + 2
  · subst h2; rw [if_pos rfl, if_pos (by omega)]; congr 1; omega
  rw [if_neg h2]
  by_cases h1 : t = j * 6 + 1
  · subst h1; rw [if_pos rfl, if_pos (by omega)]; congr 1; omega
  rw [if_neg h1]
  by_cases h0 : t = j * 6
  · subst h0; rw [if_pos rfl, if_pos (by omega)]; congr 1; omega
  rw [if_neg h0]
  by_cases hc : t / 6 < j ∧ t % 6 < 4
  · rw [if_pos hc, if_pos (by omega)]
  · rw [if_neg hc, if_neg (by omega)]
theorem mF_zero (k : Nat) (F : Nat → Value) : mF k 0 F = F := by funext t; unfold mF; rw [if_neg (by omega)]
theorem mF_high {k j i t : Nat} {F : Nat → Value} (h4 : 4 ≤ t) (h6 : t < 6) : mF k j F (i * 6 + t) = F (i * 6 + t) := by unfold mF; rw [if_neg (by omega)]
theorem mF_low {k j i t : Nat} {F : Nat → Value} (h4 : t < 4) (hi : i < j) : mF k j F (i * 6 + t) = .int .i64 (((k + 4 * i : Nat) : Int) + (t : Int)) := by
  unfold mF; rw [if_pos (by omega)]; congr 1; omega

set_option maxHeartbeats 800000 in
theorem markFeedS_e (n : Nat) (F : Nat → Value) (v : Value) (k B : Nat) (w : World) (hv : ON 6 B 59 w v n F) (hF : ∀ j, j < n → Em (F (j * 6 + 4)) ∧ Em (F (j * 6 + 5))) (hl : n ≤ 1000000) (hk : k ≤ 1000000) :
    Calls Tryz.prog 61 #[v, .int .i64 k] w fun e w' => e = .returned (.int .i64 ((k + 4 * n : Nat) : Int)) ∧ ON 6 B 59 w' v n (mF k n F) ∧ w.grownBy w' v.ownBlock := by
  have HV := Lib.hid hv
  have HF := Lib.hid hF
  obtain ⟨A, c, rfl⟩ := hv.rn.sl
  clear hv hF
  go_enter Tryz.func61, Tryz.ntmps61
  go_wp2
  go_loopw [1, 5] (fun t i wr => ∃ j : Nat, j ≤ n ∧ i = .int .i64 j ∧ t = .int .i64 ((k + 4 * j : Nat) : Int) ∧ ON 6 B 59 wr (.slice A n c) n (mF k j F) ∧ w.grownBy wr (Value.slice A n c).ownBlock) (fun _ i _ => n - (intOf i).toNat)
  case atStart => exact ⟨0, Nat.zero_le _, rfl, rfl, by rw [mF_zero]; exact HV.out, grow_refl _ _⟩
  case round =>
    obtain ⟨j, hj, rfl, rfl, ho, hg⟩ := hrel
    obtain ⟨K, HK⟩ : ∃ K : Int, Hid (((k + 4 * j : Nat) : Int) = K) := ⟨_, Lib.hid rfl⟩
    have hK0 : 0 ≤ K := by rw [← HK.out]; omega
    have hK1 : K ≤ 1000000000 := by rw [← HK.out]; omega
    by_cases hlt : j < n
    · obtain ⟨g, cap, hA, hgB, hgs⟩ := ho.form (by omega)
      cases hA
      obtain ⟨⟨u0, e0⟩, f0⟩ : (∃ u, wr.cell? ⟨g, j * 6, none⟩ = some u) ∧ wr.frozen? ⟨g, j * 6, none⟩ = false := by have := ho.at_ (t := j * 6) (by omega); exact ⟨⟨_, this.1⟩, this.2⟩
      obtain ⟨⟨u1, e1⟩, f1⟩ : (∃ u, wr.cell? ⟨g, j * 6 + 1, none⟩ = some u) ∧ wr.frozen? ⟨g, j * 6 + 1, none⟩ = false := by have := ho.at_ (t := j * 6 + 1) (by omega); exact ⟨⟨_, this.1⟩, this.2⟩
      obtain ⟨⟨u2, e2⟩, f2⟩ : (∃ u, wr.cell? ⟨g, j * 6 + 2, none⟩ = some u) ∧ wr.frozen? ⟨g, j * 6 + 2, none⟩ = false := by have := ho.at_ (t := j * 6 + 2) (by omega); exact ⟨⟨_, this.1⟩, this.2⟩
      obtain ⟨⟨u3, e3⟩, f3⟩ : (∃ u, wr.cell? ⟨g, j * 6 + 3, none⟩ = some u) ∧ wr.frozen? ⟨g, j * 6 + 3, none⟩ = false := by have := ho.at_ (t := j * 6 + 3) (by omega); exact ⟨⟨_, this.1⟩, this.2⟩
      have e4 := (ho.at_ (t := j * 6 + 4) (by omega)).1
      have e5 := (ho.at_ (t := j * 6 + 5) (by omega)).1
      rw [mF_high (by omega) (by omega)] at e4 e5
      obtain ⟨⟨x4, c4, h4, -, -⟩, ⟨x5, c5, h5, -, -⟩⟩ := HF.out j hlt
      rw [h4] at e4
      rw [h5] at e5
      have HX5 := Lib.hid h5
      clear h4 h5
      rw [HK.out]
      have HO := Lib.hid ho
      have HG := Lib.hid hg
      clear ho hg
      have hm := HO.out.mark4 hlt (y0 := K) (y1 := K + 1) (y2 := K + 1 + 1) (y3 := K + 1 + 1 + 1) HK.out.symm (by rw [HK.out]) (by rw [HK.out]; omega) (by rw [HK.out]; omega)
      have k5 := (hm.1.at_ (t := j * 6 + 5) (by omega)).1
      rw [mF_high (by omega) (by omega), HX5.out] at k5
      have HM := Lib.hid hm
      clear hm
      go_wp2_with fail
      obtain ⟨W4, HW4⟩ : ∃ W4, Hid ((((wr.setCell ⟨g, j * 6, none⟩ (.int .i64 K)).setCell ⟨g, j * 6 + 1, none⟩ (.int .i64 (K + 1))).setCell ⟨g, j * 6 + 1 + 1, none⟩ (.int .i64 (K + 1 + 1))).setCell ⟨g, j * 6 + 1 + 2, none⟩ (.int .i64 (K + 1 + 1 + 1)) = W4) := ⟨_, Lib.hid rfl⟩
      have k5' : W4.cell? ⟨g, j * 6 + 5, none⟩ = some (.slice x5 0 c5) := by rw [← HW4.out]; exact k5
      rw [HW4.out]
      clear k5 e0 e1 e2 e3 e4 e5 f0 f1 f2 f3
      refine (markStringS_e _ _ _ _).mono ?_
      rintro e w' ⟨rfl, rfl⟩
      go_wp2_with fail
      refine (markBoolS_e _ _ _ _).mono ?_
      rintro e w' ⟨rfl, rfl⟩
      go_wp2
      go_roundw
      case rel =>
        have hm := HM.out
        rw [show j * 6 + 2 = j * 6 + 1 + 1 from rfl, show j * 6 + 3 = j * 6 + 1 + 2 from rfl, HW4.out] at hm
        exact ⟨j + 1, by omega, by go_num, by have := HK.out; go_num, hm.1, grow_trans HG.out hm.2⟩
      case measure => simp [intOf]; omega
    · obtain rfl : j = n := by omega
      go_wp2
      go_ret
      exact ⟨rfl, ho, hg⟩
set_option maxHeartbeats 800000 in
theorem heldFeedS_e (n : Nat) (F : Nat → Value) (v : Value) (k : Nat) (w : World) (hv : RN 6 w v n (mF k n F)) (hF : ∀ j, j < n → Em (F (j * 6 + 4)) ∧ Em (F (j * 6 + 5))) (hl : n ≤ 1000000) (hk : k ≤ 1000000) :
    Calls Tryz.prog 77 #[v, .int .i64 k] w fun e w' => e = .returned (.int .i64 ((k + 4 * n : Nat) : Int)) ∧ w = w' := by
  have HF := Lib.hid hF
  obtain ⟨A, c, rfl, n1, n2, n3⟩ := hv
  have HV := Lib.hid n3
  clear n1 n2 n3 hF
  go_enter Tryz.func77, Tryz.ntmps77
  go_wp2
  go_loop [1, 5] (fun t i => ∃ j : Nat, j ≤ n ∧ i = .int .i64 j ∧ t = .int .i64 ((k + 4 * j : Nat) : Int)) (fun _ i => n - (intOf i).toNat)
  case atStart => exact ⟨0, Nat.zero_le _, rfl, rfl⟩
  case round =>
    obtain ⟨j, hj, rfl, rfl⟩ := hrel
    obtain ⟨K, HK⟩ : ∃ K : Int, Hid (((k + 4 * j : Nat) : Int) = K) := ⟨_, Lib.hid rfl⟩
    have hK0 : 0 ≤ K := by rw [← HK.out]; omega
    have hK1 : K ≤ 1000000000 := by rw [← HK.out]; omega
    by_cases hlt : j < n
    · obtain ⟨b, o, rfl, hb, hc⟩ := HV.out (by omega)
      have e0 : w.cell? ⟨b, o + j * 6, none⟩ = some (.int .i64 K) := by rw [hc (j * 6) (by omega), show j * 6 = j * 6 + 0 from rfl, mF_low (by omega) hlt, HK.out]; simp
      have e1 : w.cell? ⟨b, o + j * 6 + 1, none⟩ = some (.int .i64 (K + 1)) := by rw [Nat.add_assoc, hc (j * 6 + 1) (by omega), mF_low (by omega) hlt, HK.out]; simp
      have e2 : w.cell? ⟨b, o + j * 6 + 1 + 1, none⟩ = some (.int .i64 (K + 1 + 1)) := by rw [Nat.add_assoc, Nat.add_assoc, hc (j * 6 + 2) (by omega), mF_low (by omega) hlt, HK.out]; congr 2; omega
      have e3 : w.cell? ⟨b, o + j * 6 + 1 + 2, none⟩ = some (.int .i64 (K + 1 + 1 + 1)) := by rw [Nat.add_assoc, Nat.add_assoc, hc (j * 6 + 3) (by omega), mF_low (by omega) hlt, HK.out]; congr 2; omega
      have e4 := hc (j * 6 + 4) (by omega)
      have e5 := hc (j * 6 + 5) (by omega)
      rw [mF_high (by omega) (by omega)] at e4 e5
      obtain ⟨⟨x4, c4, h4, -, -⟩, ⟨x5, c5, h5, -, -⟩⟩ := HF.out j hlt
      rw [h4] at e4
      rw [h5] at e5
      clear h4 h5 hc
      rw [← Nat.add_assoc] at e4 e5
      rw [HK.out]
      go_wp2_with (first
        | (go_at_call 146; refine (heldStringS_e _ _ _ _).mono ?_; rintro e w' ⟨rfl, rfl⟩)
        | (go_at_call 147; refine (heldBoolS_e _ _ _ _).mono ?_; rintro e w' ⟨rfl, rfl⟩))
      go_round
      case rel => exact ⟨j + 1, by omega, by go_num, by have := HK.out; go_num⟩
      case measure => simp [intOf]; omega
    · obtain rfl : j = n := by omega
      go_wp2
      go_ret
      exact ⟨rfl, rfl⟩
end Go.Proofs.YtcplnfmcefkehaaGreat

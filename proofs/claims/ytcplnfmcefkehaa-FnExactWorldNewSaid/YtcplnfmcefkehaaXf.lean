/- Walks: new worlds, of the reference and of the program. -/
import Derived.Test.YtcplnfmcefkehaaXe
namespace Go.Proofs.Ytcplnfmcefkehaa
open Go.RowKit

/-- What WorldNew leaves. -/
def WPost (ok : Bool) (n : Nat) (s b p : Int) (w : World) (e : Ending) (w' : World) : Prop :=
  ∃ vF vL vA vN F G, e = .returned (.tuple #[.agg #[.int .i64 s, .int .i64 b, vF, vL, vA, vN], .bool ok]) ∧ ON 6 w.heap.size 39 w' vF n F ∧ NewF p n F ∧ ON 1 w.heap.size 43 w' vA n G ∧ EmsF n G ∧ Em vL ∧ Em vN ∧ Below w.heap.size w w'
theorem below_set6w {B q : Nat} {a w : World} (h : Below B a w) (hq : B ≤ q) (x0 x1 x2 x3 x4 x5 : Value) : Below B a ((((((w.setCell ⟨q, 0, none⟩ x0).setCell ⟨q, 1, none⟩ x1).setCell ⟨q, 2, none⟩ x2).setCell ⟨q, 3, none⟩ x3).setCell ⟨q, 4, none⟩ x4).setCell ⟨q, 5, none⟩ x5) :=
  below_set6 h hq x0 x1 x2 x3 x4 x5
set_option maxHeartbeats 800000 in
theorem WorldNew_s_no {s n b : Int} (h : Hid (setOk s n b = false)) (w : World) : Calls Try.prog 4 #[.int .i64 s, .int .i64 n, .int .i64 b] w (WPost false 0 0 0 0 w) := by
  obtain ⟨b1, H1⟩ : ∃ b, Hid (key s = b) := ⟨_, Lib.hid rfl⟩
  obtain ⟨b2, H2⟩ : ∃ b, Hid (inB n 1 6 = b) := ⟨_, Lib.hid rfl⟩
  obtain ⟨b3, H3⟩ : ∃ r, Hid (inB b 1 (n - 1) = r) := ⟨_, Lib.hid rfl⟩
  have hr : (b1 && b2 && (b == -1 || b3)) = false := by rw [← H1.out, ← H2.out, ← H3.out, ← h.out]; rfl
  have fin : ∀ e w', (e = .returned (.tuple #[.agg #[.int .i64 0, .int .i64 0, .slice none 0 0, .slice none 0 0, .slice none 0 0, .slice none 0 0], .bool false]) ∧ Below w.heap.size w w') → WPost false 0 0 0 0 w e w' := by
    rintro e w' ⟨rfl, hb⟩
    exact ⟨_, _, _, _, fun _ => .int .i64 0, fun _ => .int .i64 0, rfl, ON.nil, NewF.zero, ON.nil, EmsF.zero, Em.none, Em.none, hb⟩
  have HFI := Lib.hid fin
  clear fin
  cases b1
  · go_enter Try.func4, Try.ntmps4
    go_wp2_with (go_at_call 9; refine (l3Key_b H1 _).mono ?_; rintro e w' ⟨rfl, rfl⟩)
    exact bodyPost_ret (v := .tuple #[.agg #[.int .i64 0, .int .i64 0, .slice none 0 0, .slice none 0 0, .slice none 0 0, .slice none 0 0], .bool false]) (by simp [results, Try.results4, go_sem]) rfl
      (HFI.out _ _ ⟨rfl, by repeat (first | exact Below.refl _ _ | refine Below.setCell ?_ (Nat.le_refl _) _ | refine Below.alloc ?_ (Nat.le_refl _) _)⟩)
  cases b2
  · go_enter Try.func4, Try.ntmps4
    go_wp2_with (first
      | (go_at_call 9; refine (l3Key_b H1 _).mono ?_; rintro e w' ⟨rfl, rfl⟩)
      | (go_at_call 10; refine (l6In_b H2 _).mono ?_; rintro e w' ⟨rfl, rfl⟩))
    exact bodyPost_ret (v := .tuple #[.agg #[.int .i64 0, .int .i64 0, .slice none 0 0, .slice none 0 0, .slice none 0 0, .slice none 0 0], .bool false]) (by simp [results, Try.results4, go_sem]) rfl
      (HFI.out _ _ ⟨rfl, by repeat (first | exact Below.refl _ _ | refine Below.setCell ?_ (Nat.le_refl _) _ | refine Below.alloc ?_ (Nat.le_refl _) _)⟩)
  have hn := inB_true.1 H2.out
  have hb' : (b == -1) = false := by cases h1 : (b == -1) <;> simp_all
  have hbn : (b != -1) = true := by unfold bne; rw [hb']; rfl
  have hb3 : b3 = false := by cases b3 <;> simp_all
  subst hb3
  go_enter Try.func4, Try.ntmps4
  go_wp2_with (first
    | (go_at_call 9; refine (l3Key_b H1 _).mono ?_; rintro e w' ⟨rfl, rfl⟩)
    | (go_at_call_of 10 (Value.int .i64 b); refine (l6In_b H3 _).mono ?_; rintro e w' ⟨rfl, rfl⟩)
    | (go_at_call 10; refine (l6In_b H2 _).mono ?_; rintro e w' ⟨rfl, rfl⟩))
  exact bodyPost_ret (v := .tuple #[.agg #[.int .i64 0, .int .i64 0, .slice none 0 0, .slice none 0 0, .slice none 0 0, .slice none 0 0], .bool false]) (by simp [results, Try.results4, go_sem]) rfl
    (HFI.out _ _ ⟨rfl, by repeat (first | exact Below.refl _ _ | refine Below.setCell ?_ (Nat.le_refl _) _ | refine Below.alloc ?_ (Nat.le_refl _) _)⟩)
set_option maxHeartbeats 800000 in
theorem WorldNew_i_no {s n b : Int} (h : Hid (setOk s n b = false)) (w : World) : Calls Try.prog 5 #[.int .i64 s, .int .i64 n, .int .i64 b] w (WPost false 0 0 0 0 w) := by
  go_enter Try.func5, Try.ntmps5
  go_wp2_with (go_at_call 13; refine (settingValid_b h _).mono ?_; rintro e w' ⟨rfl, rfl⟩)
  exact bodyPost_ret (v := .tuple #[.agg #[.int .i64 0, .int .i64 0, .slice none 0 0, .slice none 0 0, .slice none 0 0, .slice none 0 0], .bool false]) (by simp [results, Try.results5, go_sem]) rfl
    ⟨_, _, _, _, fun _ => .int .i64 0, fun _ => .int .i64 0, rfl, ON.nil, NewF.zero, ON.nil, EmsF.zero, Em.none, Em.none, by repeat (first | exact Below.refl _ _ | refine Below.setCell ?_ (Nat.le_refl _) _ | refine Below.alloc ?_ (Nat.le_refl _) _)⟩
end Go.Proofs.Ytcplnfmcefkehaa

/- Walks: a code is opened; numbers are drawn. -/
import Derived.Test.YtlhiabnablbkpaaWq
namespace Go.Proofs.Ytlhiabnablbkpaa
open Go.RowKit

abbrev RU := R1 (fun b : UInt8 => Value.int .u8 (b.toNat : Int))
/-- What l6Open leaves. -/
def OpenPost (w : World) (e : Ending) (w' : World) : Prop := ∃ g, e = .returned (.pointer (some ⟨g, 0, none⟩)) ∧ w.heap.size ≤ g ∧ Rdr w' g 0 ∧ Below w.heap.size w w'
theorem l6Open_any (bs : List UInt8) (v : Value) (w : World) (hv : RU w v bs) : Calls Try.prog 80 #[v] w (OpenPost w) := by
  have HV := Lib.hid hv
  obtain ⟨A, c, rfl, h1, h2, h3⟩ := hv
  unfold maxLen at h2
  by_cases hl : 2000 < bs.length
  · obtain ⟨b, o, rfl, hb, hc⟩ := h3 (by omega)
    have HC := Lib.hid hc
    clear hc h3
    have hl' : (2000 : Int) < (bs.length : Int) := by omega
    have hcc : (2000 : Int) ≤ (c : Int) := by omega
    go_enter Try.func80, Try.ntmps80
    go_wp2
    go_ret
    refine ⟨w.heap.size, rfl, Nat.le_refl _, ⟨bs.take 2000, some ⟨b, o, none⟩, c, 0, ?_, Nat.le_refl _, by simp; omega, by simp; omega, fun _ => ⟨b, o, rfl, hb, fun j hj => ?_⟩⟩, (Below.refl _ _).alloc (Nat.le_refl _) _⟩
    · rw [heap_alloc_new]; simp [Nat.min_eq_left (Nat.le_of_lt hl)]
    · have hj2 : j < bs.length := by simp at hj; omega
      rw [((Below.refl w.heap.size w).alloc (Nat.le_refl _) _).cell (p := ⟨b, o + j, none⟩) hb, HC.out j hj2]; simp
  · have hl' : ¬ (2000 : Int) < (bs.length : Int) := by omega
    have H3 := Lib.hid h3
    clear h3
    go_enter Try.func80, Try.ntmps80
    go_wp2
    go_ret
    refine ⟨w.heap.size, rfl, Nat.le_refl _, ⟨bs, A, c, 0, ?_, Nat.le_refl _, by omega, h1.1, fun hp => ?_⟩, (Below.refl _ _).alloc (Nat.le_refl _) _⟩
    · rw [heap_alloc_new]; rfl
    · obtain ⟨b, o, hA, hb, hc⟩ := H3.out hp
      exact ⟨b, o, hA, hb, fun j hj => (((Below.refl w.heap.size w).alloc (Nat.le_refl _) _).cell (p := ⟨b, o + j, none⟩) hb).trans (hc j hj)⟩

/-- What a draw of a number leaves. -/
def NumPost (lo hi : Int) (g P : Nat) (w : World) (e : Ending) (w' : World) : Prop :=
  ∃ x : Int, e = .returned (.int .i64 x) ∧ lo ≤ x ∧ x ≤ hi ∧ Rdr w' g P ∧ Only g w w'
theorem l91Good_any (g P : Nat) (w : World) (hr : Rdr w g P) (hP : P ≤ 1000000) : Calls Try.prog 81 #[.pointer (some ⟨g, 0, none⟩)] w (NumPost 1 986 g (P + 2) w) := by
  go_enter Try.func81, Try.ntmps81
  go_wp2_with fail
  refine (pick_any g P 99 _ hr (by omega) (by omega) (by omega)).mono ?_
  rintro e w1 ⟨x, rfl, x1, x2, r1, o1⟩
  go_wp2_with fail
  refine (pick_any g (P + 1) 6 _ r1 (by omega) (by omega) (by omega)).mono ?_
  rintro e w2 ⟨y, rfl, y1, y2, r2, o2⟩
  go_wp2
  go_ret
  exact ⟨_, rfl, by omega, by omega, r2, o1.trans o2⟩

theorem l91Digest_any (g P : Nat) (w : World) (hr : Rdr w g P) (hP : P ≤ 1000000) : Calls Try.prog 127 #[.pointer (some ⟨g, 0, none⟩)] w (NumPost (-1) 991 g (P + 3) w) := by
  have hgl := hr.lt
  go_enter Try.func127, Try.ntmps127
  go_wp2_with fail
  refine (pick_any g P 20 _ hr (by omega) (by omega) (by omega)).mono ?_
  rintro e w1 ⟨x, rfl, x1, x2, r1, o1⟩
  by_cases hx : x = 0
  · subst hx
    have r1a : Rdr (w1.alloc (.cells #[.int .i64 (-1), .int .i64 0, .int .i64 990, .int .i64 991] 3)) g (P + 1) := r1.below ((Below.refl _ _).alloc (Nat.le_refl _) _)
    have hgl1 := r1.lt
    go_wp2_with fail
    refine (pick_any g (P + 1) 4 _ r1a (by omega) (by omega) (by omega)).mono ?_
    rintro e w2 ⟨y, rfl, y1, y2, r2, o2⟩
    have hb2 := o2.block w1.heap.size (by simp) (fun e => by have : w1.heap.size = g := Option.some.inj e; omega)
    rw [heap_alloc_new] at hb2
    have k0 := cell_of_row w2 w1.heap.size 0 _ _ _ hb2
    have k1 := cell_of_row w2 w1.heap.size 1 _ _ _ hb2
    have k2 := cell_of_row w2 w1.heap.size 2 _ _ _ hb2
    have k3 := cell_of_row w2 w1.heap.size 3 _ _ _ hb2
    have H02 : Hid (Only g w w2) := Lib.hid (o1.trans ((Only.of_below ((Below.refl _ _).alloc (Nat.le_refl _) _)).trans o2))
    clear hb2
    have hy : y = 0 ∨ y = 1 ∨ y = 2 ∨ y = 3 := by omega
    rcases hy with rfl | rfl | rfl | rfl <;>
    · go_wp2
      go_ret
      exact ⟨_, rfl, by omega, by omega, r2.mono (by omega), H02.out⟩
  · have hx' : (x == 0) = false := by rw [beq_eq_false_iff_ne]; exact hx
    go_wp2_with fail
    refine (pick_any g (P + 1) 99 _ r1 (by omega) (by omega) (by omega)).mono ?_
    rintro e w2 ⟨y, rfl, y1, y2, r2, o2⟩
    go_wp2_with fail
    refine (pick_any g (P + 2) 10 _ r2 (by omega) (by omega) (by omega)).mono ?_
    rintro e w3 ⟨z, rfl, z1, z2, r3, o3⟩
    go_wp2
    go_ret
    exact ⟨_, rfl, by omega, by omega, r3, (o1.trans o2).trans o3⟩

theorem l91Secret_any (g P : Nat) (w : World) (hr : Rdr w g P) (hP : P ≤ 1000000) : Calls Try.prog 142 #[.pointer (some ⟨g, 0, none⟩)] w (NumPost (-1) 997 g (P + 3) w) := by
  have hgl := hr.lt
  go_enter Try.func142, Try.ntmps142
  go_wp2_with fail
  refine (pick_any g P 20 _ hr (by omega) (by omega) (by omega)).mono ?_
  rintro e w1 ⟨x, rfl, x1, x2, r1, o1⟩
  by_cases hx : x = 0
  · subst hx
    have r1a : Rdr (w1.alloc (.cells #[.int .i64 0, .int .i64 996, .int .i64 997, .int .i64 (-1)] 3)) g (P + 1) := r1.below ((Below.refl _ _).alloc (Nat.le_refl _) _)
    have hgl1 := r1.lt
    go_wp2_with fail
    refine (pick_any g (P + 1) 4 _ r1a (by omega) (by omega) (by omega)).mono ?_
    rintro e w2 ⟨y, rfl, y1, y2, r2, o2⟩
    have hb2 := o2.block w1.heap.size (by simp) (fun e => by have : w1.heap.size = g := Option.some.inj e; omega)
    rw [heap_alloc_new] at hb2
    have k0 := cell_of_row w2 w1.heap.size 0 _ _ _ hb2
    have k1 := cell_of_row w2 w1.heap.size 1 _ _ _ hb2
    have k2 := cell_of_row w2 w1.heap.size 2 _ _ _ hb2
    have k3 := cell_of_row w2 w1.heap.size 3 _ _ _ hb2
    have H02 : Hid (Only g w w2) := Lib.hid (o1.trans ((Only.of_below ((Below.refl _ _).alloc (Nat.le_refl _) _)).trans o2))
    clear hb2
    have hy : y = 0 ∨ y = 1 ∨ y = 2 ∨ y = 3 := by omega
    rcases hy with rfl | rfl | rfl | rfl <;>
    · go_wp2
      go_ret
      exact ⟨_, rfl, by omega, by omega, r2.mono (by omega), H02.out⟩
  · have hx' : (x == 0) = false := by rw [beq_eq_false_iff_ne]; exact hx
    go_wp2_with fail
    refine (pick_any g (P + 1) 99 _ r1 (by omega) (by omega) (by omega)).mono ?_
    rintro e w2 ⟨y, rfl, y1, y2, r2, o2⟩
    go_wp2_with fail
    refine (pick_any g (P + 2) 10 _ r2 (by omega) (by omega) (by omega)).mono ?_
    rintro e w3 ⟨z, rfl, z1, z2, r3, o3⟩
    go_wp2
    go_ret
    exact ⟨_, rfl, by omega, by omega, r3, (o1.trans o2).trans o3⟩
end Go.Proofs.Ytlhiabnablbkpaa

/- Walks: the trees into which leaves are divided. -/
import Derived.Test.YtlhiabnablbkpaaWa
namespace Go.Proofs.Ytlhiabnablbkpaa
open Go.RowKit

def t1 (t : Nat × Nat) : Value := .int .i64 t.1
def t2 (t : Nat × Nat) : Value := .int .i64 t.2
def encT (t : Nat × Nat) : List Value := [t1 t, t2 t]
abbrev OT (B : Nat) (w : World) (v : Value) (l : List (Nat × Nat)) : Prop := O2 t1 t2 B 103 w v l
abbrev RT (w : World) (v : Value) (l : List (Nat × Nat)) : Prop := R2 t1 t2 w v l

theorem szRel {p n s f : Nat} (hc : 2 * (s : Int) ≤ (n : Int) - p) (h3 : p % (2 * s) = 0) (HF : Hid (s * 2 ^ f = 32 ∧ szF p n f s = sz p n)) (h1' : 1 ≤ s) (hn : n ≤ 16) :
    ∃ f' s' : Nat, Value.int .i64 ((s : Int) * 2) = .int .i64 s' ∧ 1 ≤ s' ∧ s' ≤ 16 ∧ Hid (s' * 2 ^ f' = 32 ∧ szF p n f' s' = sz p n) := by
  obtain ⟨h1, h2⟩ := HF.out
  cases f with
  | zero => omega
  | succ f =>
    have hpow : 2 * s * 2 ^ f = 32 := by rw [← h1, Nat.pow_succ, Nat.mul_comm 2 s, Nat.mul_assoc, Nat.mul_comm 2]
    have hlast : 2 * s ≤ 16 := by omega
    exact ⟨f, 2 * s, by congr 1; omega, by omega, hlast, Lib.hid ⟨hpow, by rw [← h2, szF_go ⟨by omega, h3⟩]⟩⟩
theorem treesFrom_rel {p0 p n s f B : Nat} {out : List (Nat × Nat)} {w w1 : World} {v1 : Value} (hlt : p < n) (hn : n ≤ 16)
    (hown : w1.ownsRow B 103 2 v1 (out.length + 1) (out.flatMap encT ++ [.int .i64 p, .int .i64 s])) (Hx : Hid (out ++ trees p n = trees p0 n)) (hb : Below B w w1)
    (hs : szF p n f s = sz p n) (hc : ¬ (2 * s ≤ n - p ∧ p % (2 * s) = 0)) :
    ∃ (p' : Nat) (out' : List (Nat × Nat)), p' ≤ 16 + 16 ∧ Value.int .i64 ((p : Int) + s) = .int .i64 p' ∧ w1.ownsRow B 103 2 v1 out'.length (out'.flatMap encT) ∧ Hid (out' ++ trees p' n = trees p0 n) ∧ Below B w w1 := by
  rw [szF_stop hc] at hs
  have hz := sz_bd hlt
  refine ⟨p + s, out ++ [(p, s)], by omega, by congr 1, by simpa [encT, t1, t2, List.flatMap_append] using hown, Lib.hid ?_, hb⟩
  rw [← Hx.out, trees_cons hlt hn, List.append_assoc, hs]; rfl

set_option maxHeartbeats 400000 in
set_option maxRecDepth 100000 in
theorem treesFrom_any (p0 n : Nat) (w : World) (hp : p0 ≤ 16) (hn : n ≤ 16) :
    Calls Try.prog 89 #[.int .i64 p0, .int .i64 n] w fun e w' => ∃ v, e = .returned v ∧
      OT w.heap.size w' v (trees p0 n) ∧ Below w.heap.size w w' := by
  go_enter Try.func89, Try.ntmps89
  go_wp2
  go_loopw [0, 5] (fun q v wr => ∃ (p : Nat) (out : List (Nat × Nat)), p ≤ 16 + 16 ∧ q = .int .i64 p ∧ wr.ownsRow w.heap.size 103 2 v out.length (out.flatMap encT) ∧
      Hid (out ++ trees p n = trees p0 n) ∧ Below w.heap.size w wr) (fun q _ _ => 64 - (intOf q).toNat)
  case atStart => exact ⟨p0, [], by omega, rfl, World.ownsRow_made w #[] 0 (Nat.le_refl _) (by unfold maxLen; omega) (by simp), Lib.hid (by simp), (Below.refl _ _).alloc (Nat.le_refl _) _⟩
  case round =>
    obtain ⟨p, out, hpl, rfl, hown, Hx, hb⟩ := hrel
    obtain ⟨wo, rfl⟩ : ∃ wo : World, wo = wr := ⟨_, rfl⟩
    by_cases hlt : p < n
    · have hol := trees_pre Hx.out
      go_wp2
      go_loop [6] (fun q => ∃ f s : Nat, q = .int .i64 s ∧ 1 ≤ s ∧ s ≤ 16 ∧ Hid (s * 2 ^ f = 32 ∧ szF p n f s = sz p n)) (fun q => 64 - (intOf q).toNat)
      case atStart => exact ⟨5, 1, rfl, by omega, by omega, Lib.hid ⟨rfl, rfl⟩⟩
      case round =>
        obtain ⟨f, s, rfl, h1, h16, HF⟩ := hrel
        have em : (p : Int) % (2 * (s : Int)) = ((p % (2 * s) : Nat) : Int) := by simp
        by_cases h2 : 2 * s ≤ n - p
        · by_cases h3 : p % (2 * s) = 0
          · have hc3 : (p : Int) % (2 * (s : Int)) = 0 := by omega
            have hc4 : 2 * (s : Int) ≤ (n : Int) - p := by omega
            clear em
            go_wp2
            go_round
            case rel => exact szRel hc4 h3 HF h1 hn
            case measure => simp [intOf]; omega
          · have hc3 : ((p : Int) % (2 * (s : Int)) == 0) = false := by rw [em]; simp; omega
            have hc4 : 2 * (s : Int) ≤ (n : Int) - p := by omega
            clear em
            go_wp2_with (at_builtin; refine app_tree hown (by omega) hb.size rfl rfl rfl rfl ?_; intro v1 w1 hown1 hb1)
            go_roundw
            case rel => exact treesFrom_rel hlt hn hown1 Hx (hb.trans hb1) HF.out.2 (by omega)
            case measure => simp [intOf]; omega
        · have hc4 : ¬ (2 * (s : Int) ≤ (n : Int) - p) := by omega
          clear em
          go_wp2_with (at_builtin; refine app_tree hown (by omega) hb.size rfl rfl rfl rfl ?_; intro v1 w1 hown1 hb1)
          go_roundw
          case rel => exact treesFrom_rel hlt hn hown1 Hx (hb.trans hb1) HF.out.2 (by omega)
          case measure => simp [intOf]; omega
    · go_wp2
      go_ret
      refine ⟨u5, rfl, ?_, hb⟩
      have := Hx.out
      rw [trees_nil (by omega), List.append_nil] at this
      rw [← this]; exact hown
end Go.Proofs.Ytlhiabnablbkpaa

/- The row's last step: a code, a slice of bytes, among the arguments. No condition. -/
import Derived.Test.YtcplnfmcefkehaaGreatBR
import Derived.Test.YtcplnfmcefkehaaGreatBG
set_option linter.unusedVariables false
set_option linter.unusedSimpArgs false
namespace Go.Proofs.YtcplnfmcefkehaaGreat
open Go.RowKit Go.ChangeShapes Go.WideShapes Go.Deep

theorem qnx {n : Int} (h : (Lit.int .u8 n).wf = true) : ((UInt8.ofNat n.toNat).toNat : Int) = n := by
 have h1 : 0 ≤ n ∧ n ≤ 255 := by
  simp [Lit.wf, IntKind.min, IntKind.max, IntKind.signed, IntKind.bits] at h
  omega
 rw [UInt8.toNat_ofNat']
 omega
set_option maxRecDepth 100000 in
theorem qiE {H : Type} {enc : TypeId × Value → H} {w : World} {base : Nat} {held : Bool} {v : Value} {d : DataW H} {p : List MemPlace} {r : Reach} {b0 : Nat} (hv : Value.okWide Tryz.prog w r b0 44 v) (h : DataW.Trod enc Tryz.prog w base (fun _ => true) held 44 v d p) : ∃ bs, RU w v bs := by
 obtain ⟨a, n, c, rfl⟩ := okWide_slice Tryz.underlying44 hv
 obtain ⟨fuel, hf⟩ := h
 obtain ⟨l, h1, _⟩ := qnO (α := UInt8) (Enc := fun b => Value.int .u8 (b.toNat : Int)) (Q := fun _ => True) Tryz.underlying44 (by kernel_rfl) (fun n V y hy => by
  obtain ⟨s, h1, _, h3⟩ := DataW.trod_int Tryz.underlying5 hy
  refine ⟨UInt8.ofNat s.toNat, ?_, trivial⟩
  rw [qnx h3]
  simpa using h1) hf
 exact ⟨l, h1⟩
end Go.Proofs.YtcplnfmcefkehaaGreat

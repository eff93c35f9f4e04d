/- The row's last step: a Feed among the arguments, opened to what the walks take. No condition. -/
import Derived.Test.YtlhiabnablbkpaaOpen
import Derived.Test.YtlhiabnablbkpaaWm
namespace Go.Proofs.Ytlhiabnablbkpaa
open Go.RowKit Go.ChangeShapes Go.WideShapes Go.Deep

theorem own : ownKnob Try.prog.godebug = none := by kernel_rfl
theorem laid : laidOutB Try.prog = true := by kernel_rfl
section
variable {H : Type} {enc : TypeId × Value → H} {w : World} {base : Nat} {held : Bool}
set_option maxRecDepth 100000 in
theorem open_feed {r : Reach} {b0 : Nat} {v : Value} {d : DataW H} {p : List MemPlace} (hv : Value.okWide Try.prog w r b0 27 v) (h : DataW.Trod enc Try.prog w base (fun _ => true) held 27 v d p) :
    ∃ (f : Fd) (va vh : Value), v = .agg #[.int .i64 f.pub, .int .i64 f.hd.len, .int .i64 f.hd.dg, .int .i64 f.hd.sg, va, vh] ∧ FeedR w f va vh ∧ ∀ s ∈ f.bl, s.size ≤ maxLen := by
  have C1 : Try.prog.cellsOf 3 = 1 := by kernel_rfl
  have C3 : Try.prog.cellsOf 23 = 3 := by kernel_rfl
  have CS : Try.prog.cellsOf 24 = 1 := by kernel_rfl
  have CB : Try.prog.cellsOf 25 = 1 := by kernel_rfl
  have C6 : Try.prog.cellsOf 27 = 6 := by kernel_rfl
  obtain ⟨cs, n, rfl, hl, hf⟩ := open_struct Try.underlying27 hv h
  rw [C6] at hl
  match cs, hl with
  | [c0, c1, c2, c3, c4, c5], _ =>
    obtain ⟨y0, h0⟩ := hf 0 _ rfl
    obtain ⟨y1, h1⟩ := hf 1 _ rfl
    obtain ⟨y2, h2⟩ := hf 2 _ rfl
    obtain ⟨y3, h3⟩ := hf 3 _ rfl
    simp [C1, C3, CS, CB] at h0 h1 h2 h3
    obtain ⟨n0, e0, -, -⟩ := DataW.trod_int Try.underlying3 h0
    obtain ⟨m, hm⟩ := open_struct_in Try.underlying23 h1
    obtain ⟨z0, k0⟩ := hm 0 _ rfl
    obtain ⟨z1, k1⟩ := hm 1 _ rfl
    obtain ⟨z2, k2⟩ := hm 2 _ rfl
    simp [C1] at k0 k1 k2
    obtain ⟨n1, e1, -, -⟩ := DataW.trod_int Try.underlying3 k0
    obtain ⟨n2, e2, -, -⟩ := DataW.trod_int Try.underlying3 k1
    obtain ⟨n3, e3, -, -⟩ := DataW.trod_int Try.underlying3 k2
    obtain ⟨bl, hb, hbs⟩ := open_RS Try.underlying24 Try.underlying9 (by kernel_rfl) h2
    obtain ⟨hvs, hh⟩ := open_RB Try.underlying25 Try.underlying4 (by kernel_rfl) h3
    obtain rfl : c0 = .int .i64 n0 := by simpa using e0
    obtain rfl : c1 = .int .i64 n1 := by simpa using e1
    obtain rfl : c2 = .int .i64 n2 := by simpa using e2
    obtain rfl : c3 = .int .i64 n3 := by simpa using e3
    exact ⟨⟨n0, ⟨n1, n2, n3⟩, bl, hvs⟩, c4, c5, rfl, ⟨hb, hh⟩, hbs⟩
set_option maxRecDepth 100000 in
theorem open_i64 {r : Reach} {b0 : Nat} {v : Value} {d : DataW H} {p : List MemPlace} {spare : Nat → Bool} (h : DataW.Trod enc Try.prog w base spare held 3 v d p) (hv : Value.okWide Try.prog w r b0 3 v) : ∃ n : Int, v = .int .i64 n ∧ (Lit.int .i64 n).wf = true := by
  obtain ⟨n, h1, _, _, h2⟩ := open_int Try.underlying3 hv h
  exact ⟨n, h1, h2⟩
end
end Go.Proofs.Ytlhiabnablbkpaa

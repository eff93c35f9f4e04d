/- Walks: toFeed; marks; what is held. -/
import Derived.Test.YtlhiabnablbkpaaWr
namespace Go.Proofs.Ytlhiabnablbkpaa
open Go.RowKit

/-- A fresh feed value: its slices are rows from block B on. -/
structure FeedO (B : Nat) (w : World) (f : Fd) (vb vh : Value) : Prop where
  bl : O1 Value.string B 9 w vb f.bl
  hv : O1 Value.bool B 4 w vh f.hv
theorem FeedO.r {B : Nat} {w : World} {f : Fd} {vb vh : Value} (h : FeedO B w f vb vh) : FeedR w f vb vh := ⟨h.bl.r1, h.hv.r1⟩
theorem FeedO.below {B : Nat} {w w' : World} {f : Fd} {vb vh : Value} (h : FeedO B w f vb vh) (hb : Below w.heap.size w w') : FeedO B w' f vb vh := ⟨h.bl.below hb, h.hv.below hb⟩
theorem FeedO.mono {B B' : Nat} {w : World} {f : Fd} {vb vh : Value} (h : FeedO B w f vb vh) (hB : B' ≤ B) : FeedO B' w f vb vh := ⟨h.bl.mono hB, h.hv.mono hB⟩
theorem FeedO.mid {B B1 B2 : Nat} {w w' : World} {f : Fd} {vb vh : Value} (h : FeedO B w f vb vh) (hb : Mid B1 B2 w w') (hB : B2 ≤ B) : FeedO B w' f vb vh := ⟨h.bl.mid hb hB, h.hv.mid hb hB⟩

theorem toFeed_any (f : Fd) (vb vh : Value) (w : World) (hf : FeedR w f vb vh) (h1 : f.bl.length ≤ 1048576) (h2 : f.hv.length ≤ 1048576) :
    Calls Try.prog 25 #[.agg #[.int .i64 f.pub, .int .i64 f.hd.len, .int .i64 f.hd.dg, .int .i64 f.hd.sg, vb, vh]] w fun e w' => ∃ ub uh, e = .returned (.agg #[.int .i64 f.pub, .int .i64 f.hd.len, .int .i64 f.hd.dg, .int .i64 f.hd.sg, ub, uh]) ∧ FeedO w.heap.size w' f ub uh ∧ Below w.heap.size w w' := by
  have HFA := Lib.hid hf
  go_enter Try.func25, Try.ntmps25
  go_wp2_with fail
  refine (toHead_any _ _ _ _).mono ?_
  rintro e w1 ⟨rfl, hb1⟩
  have hcc1 := bcell hb1
  have hs1 := hb1.size
  simp at hs1
  have HQ1 : Hid (Below w.heap.size w w1) := (by repeat (first | exact Below.refl _ _ | refine Below.setCell ?_ (by first | (simp; done) | (simp; omega)) _ | refine Below.alloc ?_ (by first | (simp; done) | (simp; omega)) _ | refine Below.trans ?_ (hb1.mono (by first | (simp; done) | (simp; omega) | omega)) ))
  have l10 : w.heap.size < w1.heap.size := by omega
  have l11 : w.heap.size + 1 < w1.heap.size := by omega
  have l12 : w.heap.size + 1 + 1 < w1.heap.size := by omega
  go_wp2_with fail
  refine (toStringS_any f.bl _ _ (HFA.out.bl.below ?hbx) h1).mono ?_
  case hbx => exact (by repeat (first | exact Below.refl _ _ | refine Below.setCell ?_ (by first | (simp; done) | (simp; omega)) _ | refine Below.alloc ?_ (by first | (simp; done) | (simp; omega)) _ | exact HQ1.out ))
  rintro e w2 ⟨rfl, ho2, hb2⟩
  have HQ2 : Hid (Below w.heap.size w w2) := Lib.hid (Below.trans (by repeat (first | exact Below.refl _ _ | refine Below.setCell ?_ (by first | (simp; done) | (simp; omega)) _ | refine Below.alloc ?_ (by first | (simp; done) | (simp; omega)) _ | exact HQ1.out )) (hb2.mono (by simp; omega)))
  have hcc2 := bcell hb2
  have hs2 := hb2.size
  simp at hs2
  have l20 : w.heap.size < w2.heap.size := by omega
  have l21 : w.heap.size + 1 < w2.heap.size := by omega
  have l22 : w.heap.size + 1 + 1 < w2.heap.size := by omega
  have HO2 := Lib.hid (ho2.mono (B' := w.heap.size) (by simp; omega))
  go_wp2_with fail
  refine (toBoolS_any f.hv _ _ (HFA.out.hv.below ?hbx) h2).mono ?_
  case hbx => exact (by repeat (first | exact Below.refl _ _ | refine Below.setCell ?_ (by first | (simp; done) | (simp; omega)) _ | refine Below.alloc ?_ (by first | (simp; done) | (simp; omega)) _ | exact HQ2.out ))
  rintro e w3 ⟨rfl, ho3, hb3⟩
  have HQ3 : Hid (Below w.heap.size w w3) := Lib.hid (Below.trans (by repeat (first | exact Below.refl _ _ | refine Below.setCell ?_ (by first | (simp; done) | (simp; omega)) _ | refine Below.alloc ?_ (by first | (simp; done) | (simp; omega)) _ | exact HQ2.out )) (hb3.mono (by simp; omega)))
  have hcc3 := bcell hb3
  have hs3 := hb3.size
  simp at hs3
  have l30 : w.heap.size < w3.heap.size := by omega
  have l31 : w.heap.size + 1 < w3.heap.size := by omega
  have l32 : w.heap.size + 1 + 1 < w3.heap.size := by omega
  have HO3 := Lib.hid (ho3.mono (B' := w.heap.size) (by simp; omega))
  go_wp2
  refine bodyPost_ret (v := .agg #[.int .i64 f.pub, .int .i64 f.hd.len, .int .i64 f.hd.dg, .int .i64 f.hd.sg, .slice (some ⟨w1.heap.size, 0, none⟩) f.bl.length f.bl.length, .slice (some ⟨w2.heap.size, 0, none⟩) f.hv.length f.hv.length]) (by simp [results, Try.results25, go_sem, hcc1, hcc2, hcc3, l11, l21, l30, l31, l32]) rfl ?_
  refine ⟨_, _, rfl, ⟨?_, ?_⟩, ?_⟩
  · have ho := ho2
    simp only [World.size_setCell] at ho
    exact O1.mono (O1.mid (B1 := w.heap.size) (B2 := w.heap.size + 3) ho (by repeat (first | refine Mid.setCell ?_ (by first | (simp; done) | (simp; omega) | omega) (by first | (simp; done) | (simp; omega) | omega) _ | refine Mid.trans ?_ (Mid.of_below hb3) | exact Mid.refl _ _ _)) (by omega)) (by omega)
  · have ho := ho3
    simp only [World.size_setCell] at ho
    exact O1.mono (O1.mid (B1 := w.heap.size) (B2 := w.heap.size + 3) ho (by repeat (first | refine Mid.setCell ?_ (by first | (simp; done) | (simp; omega) | omega) (by first | (simp; done) | (simp; omega) | omega) _ | exact Mid.refl _ _ _)) (by omega)) (by omega)
  · exact (by repeat (first | refine Below.setCell ?_ (by first | (simp; done) | (simp; omega) | omega) _ | exact HQ3.out))
end Go.Proofs.Ytlhiabnablbkpaa

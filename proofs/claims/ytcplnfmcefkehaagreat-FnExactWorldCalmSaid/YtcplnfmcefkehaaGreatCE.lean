/- Words: drawn worlds that are spoilt. Walk: a feed is spoilt, and what its head is then. No condition. -/
import Derived.Test.YtcplnfmcefkehaaGreatCB
set_option linter.unusedVariables false
set_option linter.unusedSimpArgs false
namespace Go.Proofs.YtcplnfmcefkehaaGreat
open Go.RowKit

structure qhP (x : Wd) : Prop where
 t : ∀ j (hj : j < x.net.length), x.net[j].txt.size ≤ maxLen
 z : qcc x = true → NZ x
theorem DW.drawn {x : Wd} (h : DW x) : qhP x := ⟨fun j hj => Nat.le_trans (h.v.wi.pcs j hj).2.2.1 (by unfold maxLen; omega), fun _ => h.z⟩
structure qi4 (g P : Nat) (w : World) (q y : Nat) (x : Wd) (vF vL vA vN : Value) (wr : World) : Prop where
 z : wr.heap[q]? = some (.cells #[.int .i64 0, .int .i64 0, .slice none 0 0, .slice none 0 0, .slice none 0 0, .slice none 0 0] 35 (0, 0))
 b : wr.heap[y]? = some (.cells #[.int .i64 x.sec, .int .i64 x.bad, vF, vL, vA, vN] 35 (0, 0))
 s : WdS wr x vF vL vA vN
 r : Rdr wr g P
 o : qbb g w wr
 d : qhP x
 hq : w.heap.size = q
 hg : g < q
theorem qi4.mono {g P P' q y : Nat} {w wr : World} {x : Wd} {vF vL vA vN : Value} (h : qi4 g P w q y x vF vL vA vN wr) (hP : P ≤ P') : qi4 g P' w q y x vF vL vA vN wr := ⟨h.z, h.b, h.s, h.r.mono hP, h.o, h.d, h.hq, h.hg⟩
structure WrW (g P : Nat) (w : World) (q y B : Nat) (x : Wd) (vF vL vA vN : Value) (wr : World) : Prop where
 z : wr.heap[q]? = some (.cells #[.int .i64 0, .int .i64 0, .slice none 0 0, .slice none 0 0, .slice none 0 0, .slice none 0 0] 35 (0, 0))
 b : wr.heap[y]? = some (.cells #[.int .i64 x.sec, .int .i64 x.bad, vF, vL, vA, vN] 35 (0, 0))
 c : WdC B wr x vF vL vA vN
 r : Rdr wr g P
 o : qbb g w wr
 d : DW x
 hq : w.heap.size = q
 hqy : q < y
 hg : g < q
 hB : q ≤ B
 hBw : B ≤ wr.heap.size
def LWd : List TypeId := [35]
theorem qa1.next' {B : Nat} {w w' : World} {v : Value} {fs : List Fd} (h : qa1 B w v fs) (hk : qaA [9, 4, 59] w w') : qa1 B w' v fs := by
 obtain ⟨C, F, h1, h3, h4, h2⟩ := h
 exact ⟨C, F, h1.keepT hk (by decide), h3, Nat.le_trans h4 hk.1, fun j hj => ⟨(h2 j hj).1, (h2 j hj).2.1, (h2 j hj).2.2.1, (h2 j hj).2.2.2.1, (h2 j hj).2.2.2.2.1.keep hk (by decide) (by decide), (h2 j hj).2.2.2.2.2⟩⟩
theorem qbB.next' {B : Nat} {w w' : World} {v : Value} {ls : List (List (Int × Int))} (h : qbB B w v ls) (hk : qaA [118, 50] w w') : qbB B w' v ls := by
 obtain ⟨F, h1, h2⟩ := h
 exact ⟨F, h1.keepT hk (by decide), fun j hj => (h2 j hj).next (hk.mono (by decide))⟩
section
variable {g P P' q y B n cap gr : Nat} {w wr w2 : World} {x : Wd} {vF vL vA vN : Value}
theorem WrW.mono (h : WrW g P w q y B x vF vL vA vN wr) (hP : P ≤ P') : WrW g P' w q y B x vF vL vA vN wr := ⟨h.z, h.b, h.c, h.r.mono hP, h.o, h.d, h.hq, h.hqy, h.hg, h.hB, h.hBw⟩
theorem WrW.only (h : WrW g P w q y B x vF vL vA vN wr) (ho : qbb g wr w2) (hr : Rdr w2 g P') : WrW g P' w q y B x vF vL vA vN w2 :=
 ⟨(ho.block _ (qai h.z) (fun e => by have := Option.some.inj e; have := h.hg; omega)).trans h.z, (ho.block _ (qai h.b) (fun e => by have := Option.some.inj e; have := h.hg; have := h.hqy; omega)).trans h.b,
   h.c.keep (qf7 ho h.r), hr, h.o.trans ho, h.d, h.hq, h.hqy, h.hg, h.hB, Nat.le_trans h.hBw ho.size⟩
theorem WrW.below (h : WrW g P w q y B x vF vL vA vN wr) (hb : Below wr.heap.size wr w2) : WrW g P w q y B x vF vL vA vN w2 := h.only (qbb.of_below hb) (h.r.below hb)
theorem WrW.gy (h : WrW g P w q y B x vF vL vA vN wr) : g < y ∧ w.heap.size ≤ y := by have := h.hg; have := h.hqy; have := h.hq; omega
theorem WrW.sec (h : WrW g P w q y B x vF vL vA vN wr) (s : Int) : qi4 g P w q y { x with sec := s } vF vL vA vN (wr.setCell ⟨y, 0, none⟩ (.int .i64 s)) :=
 ⟨(Below.heap_setCell _ _ _ _ (by have := h.hqy; show q ≠ y; omega)).trans h.z, qas (i := 0) h.b _, fun w' hk => let k := h.c.s.keep (qaA.set (p := ⟨y, 0, none⟩) h.b (by decide) (.int .i64 s)) w' hk; ⟨k.feeds, k.links, k.asked, k.net⟩,
   h.r.set (p := ⟨y, 0, none⟩) h.gy.1 _, h.o.set (p := ⟨y, 0, none⟩) h.gy.2 _, ⟨h.d.drawn.t, fun _ => h.d.z⟩, h.hq, h.hg⟩
theorem WrW.bad (h : WrW g P w q y B x vF vL vA vN wr) (s : Int) : qi4 g P w q y { x with bad := s } vF vL vA vN (wr.setCell ⟨y, 1, none⟩ (.int .i64 s)) :=
 ⟨(Below.heap_setCell _ _ _ _ (by have := h.hqy; show q ≠ y; omega)).trans h.z, qas (i := 1) h.b _, fun w' hk => let k := h.c.s.keep (qaA.set (p := ⟨y, 1, none⟩) h.b (by decide) (.int .i64 s)) w' hk; ⟨k.feeds, k.links, k.asked, k.net⟩,
   h.r.set (p := ⟨y, 1, none⟩) h.gy.1 _, h.o.set (p := ⟨y, 1, none⟩) h.gy.2 _, ⟨h.d.drawn.t, fun _ => h.d.z⟩, h.hq, h.hg⟩
theorem WrW.links (h : WrW g P w q y B x vF vL vA vN wr) {v : Value} {l : List (Int × Int)} (hg : wr.grownBy w2 vL.ownBlock) (hv : qav B 52 w2 v l) : qi4 g P w q y { x with links := l } vF v vA vN (w2.setCell ⟨y, 3, none⟩ v) := by
 obtain ⟨F, h1, _⟩ := h.c.links
 have hk : qaA LWd wr w2 := h1.grew hg (by decide)
 have keepT : ∀ T : List TypeId, 52 ∉ T → qaA T wr w2 := fun T hT => h1.grew hg hT
 have hb2 := (hk.2 y _ _ _ h.b (by decide)).trans h.b
 have ks : ∀ T : List TypeId, 35 ∉ T → qaA T w2 (w2.setCell ⟨y, 3, none⟩ v) := fun T hT => qaA.set (p := ⟨y, 3, none⟩) hb2 hT v
 have hrd := h.r.grown hg (fun r e => by have := (h1.lt r e).1; have := h.hB; have := h.hg; omega)
 have hon := h.o.grown hg (fun r e => by have := (h1.lt r e).1; have := h.hB; have := h.hq; omega)
 refine ⟨(Below.heap_setCell _ _ _ _ (by have := h.hqy; show q ≠ y; omega)).trans ((hk.2 q _ _ _ h.z (by decide)).trans h.z), qas (i := 3) hb2 _, ?_, hrd.set (p := ⟨y, 3, none⟩) h.gy.1 _, hon.set (p := ⟨y, 3, none⟩) h.gy.2 _, ⟨h.d.drawn.t, fun _ => h.d.z⟩, h.hq, h.hg⟩
 have k1 : qaA [9, 4, 59] wr w2 := keepT _ (by decide)
 have k2 : qaA [118, 50] wr w2 := keepT _ (by decide)
 exact WdS.of ((h.c.feeds.next' (k1.trans (ks _ (by decide)))).stb) ((hv.next (T := LT2) (ks _ (by decide)) (by decide)).stb (by decide)) ((h.c.asked.next' (k2.trans (ks _ (by decide)))).stb) (h.c.net.next ((keepT LTP (by decide)).trans (ks _ (by decide)))).stb
theorem WrW.net (h : WrW g P w q y B x vF vL vA vN wr) {v : Value} {l : List Pc} (hg : wr.grownBy w2 vN.ownBlock) (hv : qaW B w2 v l) (ht : ∀ j (hj : j < l.length), l[j].txt.size ≤ maxLen) : qi4 g P w q y { x with net := l } vF vL vA v (w2.setCell ⟨y, 5, none⟩ v) := by
 obtain ⟨F, h1, _⟩ := h.c.net
 have hk : qaA LWd wr w2 := h1.grew hg (by decide)
 have keepT : ∀ T : List TypeId, 72 ∉ T → qaA T wr w2 := fun T hT => h1.grew hg hT
 have hb2 := (hk.2 y _ _ _ h.b (by decide)).trans h.b
 have ks : ∀ T : List TypeId, 35 ∉ T → qaA T w2 (w2.setCell ⟨y, 5, none⟩ v) := fun T hT => qaA.set (p := ⟨y, 5, none⟩) hb2 hT v
 have hrd := h.r.grown hg (fun r e => by have := (h1.lt r e).1; have := h.hB; have := h.hg; omega)
 have hon := h.o.grown hg (fun r e => by have := (h1.lt r e).1; have := h.hB; have := h.hq; omega)
 refine ⟨(Below.heap_setCell _ _ _ _ (by have := h.hqy; show q ≠ y; omega)).trans ((hk.2 q _ _ _ h.z (by decide)).trans h.z), qas (i := 5) hb2 _, ?_, hrd.set (p := ⟨y, 5, none⟩) h.gy.1 _, hon.set (p := ⟨y, 5, none⟩) h.gy.2 _, ⟨ht, fun _ => h.d.z⟩, h.hq, h.hg⟩
 exact WdS.of ((h.c.feeds.next ((keepT LTF (by decide)).trans (ks _ (by decide)))).stb) ((h.c.links.next ((keepT LT1 (by decide)).trans (ks _ (by decide))) (by decide)).stb (by decide)) ((h.c.asked.next ((keepT LTA (by decide)).trans (ks _ (by decide)))).stb) (hv.next (ks _ (by decide))).stb
theorem WrW.prf (h : WrW g P w q y B x vF vL vA (.slice (some ⟨gr, 0, none⟩) n cap) wr) {m : Nat} {l : List Int} {u : Value} (hm : m < x.net.length) (hu : Stb LP (fun w => RI w u l) wr) :
 qi4 g P w q y { x with net := x.net.set m { x.net[m] with prf := l } } vF vL vA (.slice (some ⟨gr, 0, none⟩) n cap) (wr.setCell ⟨gr, m * 6 + 5, none⟩ u) := by
 obtain ⟨F, h1, h2⟩ := h.c.net
 have hlt := h1.lt gr rfl
 have hB := h.hB
 have hgq := h.hg
 have hqw := h.hq
 obtain ⟨cur, hty⟩ := h1.row0 gr rfl
 obtain ⟨_, _, he⟩ := h1.rn.sl
 obtain rfl : n = x.net.length := by injection he
 obtain ⟨h3, h4⟩ := h1.setAt (t := m * 6 + 5) (by omega) u
 have kT : ∀ T : List TypeId, 72 ∉ T → qaA T wr (wr.setCell ⟨gr, m * 6 + 5, none⟩ u) := fun T hT => qaA.set1 hty hT u
 have hk := kT LWd (by decide)
 refine ⟨(hk.2 q _ _ _ h.z (by decide)).trans h.z, (hk.2 y _ _ _ h.b (by decide)).trans h.b, ?_, h.r.set (p := ⟨gr, m * 6 + 5, none⟩) (by show g < gr; omega) _, h.o.set (p := ⟨gr, m * 6 + 5, none⟩) (by show w.heap.size ≤ gr; omega) _, ⟨fun j hj => ?_, fun _ => h.d.z⟩, h.hq, h.hg⟩
 · refine WdS.of (h.c.feeds.next (kT LTF (by decide))).stb ((h.c.links.next (kT LT1 (by decide)) (by decide)).stb (by decide)) (h.c.asked.next (kT LTA (by decide))).stb ?_
   intro w' hk'
   refine ⟨_, by rw [List.length_set]; exact (h3.keepT hk' (by decide)).rn, fun j hj => ?_⟩
   have hj' : j < x.net.length := by simpa using hj
   obtain ⟨f0, f1, f2, f3, f4, f5⟩ := h2 j hj'
   by_cases hjm : j = m
   · subst hjm
     simp only [List.getElem_set_self]
     rw [if_neg (by omega), if_neg (by omega), if_neg (by omega), if_neg (by omega), if_neg (by omega), if_pos trivial]
     exact ⟨f0, f1, f2, f3, f4, (hu.next (kT LP (by decide))) w' (hk'.mono (by decide))⟩
   · simp only [List.getElem_set_ne (Ne.symm hjm)]
     rw [if_neg (by omega), if_neg (by omega), if_neg (by omega), if_neg (by omega), if_neg (by omega), if_neg (by omega)]
     exact ⟨f0, f1, f2, f3, f4, (f5.next (kT LP (by decide))) w' (hk'.mono (by decide))⟩
 · have hj' : j < x.net.length := by simpa using hj
   by_cases hjm : j = m
   · subst hjm
     simp only [List.getElem_set_self]; exact h.d.drawn.t j hj'
   · simp only [List.getElem_set_ne (Ne.symm hjm)]; exact h.d.drawn.t j hj'
end

end Go.Proofs.YtcplnfmcefkehaaGreat

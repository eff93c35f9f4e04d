/- Words and walks of the law. -/
import Derived.Test.YtekaaekpdebloaaGreatDoorCU
set_option linter.unusedVariables false
set_option linter.unusedSimpArgs false
namespace Go.Proofs.YtekaaekpdebloaaGreatDoor
open Go.RowKit
attribute [local go_sem ↓] Go.wp_at_zero Go.wp_at_succ

def qda(B:Nat)(w:World)(v:Value)(fs:List Fd):Prop:=
 ∃ F,ON 6 B 50 w v fs.length F∧∀ j (hj:j<fs.length),F (j*6)=.int .i64 fs[j].pub∧F (j*6+1)=.int .i64 fs[j].hd.len∧F (j*6+2)=.int .i64 fs[j].hd.dg∧F (j*6+3)=.int .i64 fs[j].hd.sg∧Stb LB (fun w=>qaU w fs[j] (F (j*6+4)) (F (j*6+5))) w
section
variable {B g n cap:Nat} {w w':World} {v:Value} {fs:List Fd}
theorem qda.next(h:qda B w v fs)(hk:qaA LTF w w'):qda B w' v fs:=by
 obtain⟨F,h1,h2⟩:=h;exact⟨F,h1.keepT hk e_,fun j hj=>⟨(h2 j hj).1,(h2 j hj).2.1,(h2 j hj).2.2.1,(h2 j hj).2.2.2.1,(h2 j hj).2.2.2.2.next (hk.mono LBF)⟩⟩
theorem qa1.toP(h:qa1 B w v fs):qda B w v fs:=by
 obtain⟨C,F,h1,_,_,h2⟩:=h;exact⟨F,h1,fun j hj=>⟨(h2 j hj).1,(h2 j hj).2.1,(h2 j hj).2.2.1,(h2 j hj).2.2.2.1,(h2 j hj).2.2.2.2.1.stb e_ e_⟩⟩
theorem qda.r(h:qda B w v fs):qa6 w v fs:=by
 obtain⟨F,h1,h2⟩:=h;exact⟨F,h1.rn,fun j hj=>⟨(h2 j hj).1,(h2 j hj).2.1,(h2 j hj).2.2.1,(h2 j hj).2.2.2.1,(h2 j hj).2.2.2.2.self⟩⟩
theorem qda.stb(h:qda B w v fs):Stb LT2 (fun w=>qa6 w v fs) w:=fun _ hk=>(h.next (hk.mono qi1)).r
theorem qda.cells(h:qda B w (.slice (some ⟨g,0,none⟩) n cap) fs):(∃ F:Nat→Value,∀ t,t<fs.length*6→w.cell? ⟨g,t,none⟩=some (F t))∧(∀ i,w.frozen? ⟨g,i,none⟩=false)∧∃ cur,w.heap[g]? =some (.cells cur 50 (0,0)):=by
 obtain⟨F,h1,h2⟩:=h;obtain⟨_,_,he⟩:=h1.rn.sl;obtain rfl:n=fs.length:=J_;obtain⟨cur,hr⟩:=h1.row0 g rfl;exact⟨⟨F,fun t ht=>(h1.at_ a_).1⟩,fun i=>qgI hr i,cur,hr⟩
end
structure WdQ (B:Nat) (w:World) (x:Wd) (vF vL vA vN:Value):Prop where
 feeds:qda B w vF x.feeds
 links:qav B 99 w vL x.links
 asked:qbB B w vA x.asked
 net:qaW B w vN x.net
section
variable {B:Nat} {w w':World} {x:Wd} {vF vL vA vN:Value}
theorem WdC.q(h:WdC B w x vF vL vA vN):WdQ B w x vF vL vA vN:=⟨h.feeds.toP,h.links,h.asked,h.net⟩
theorem WdQ.keep(h:WdQ B w x vF vL vA vN)(hk:qaA LT2 w w'):WdQ B w' x vF vL vA vN:=
 ⟨h.feeds.next (hk.mono qi1),h.links.next hk e_,h.asked.next (hk.mono qkm),h.net.next (hk.mono qk1)⟩
theorem WdQ.below(h:WdQ B w x vF vL vA vN)(hb:Below w.heap.size w w'):WdQ B w' x vF vL vA vN:=h.keep (qaA.of_below hb)
end
structure qk7 (B gF cF:Nat) (y:Wd) (w0 w:World) (vL vA vN:Value):Prop where
 box:w.heap[w0.heap.size]? =some (.cells #[.int .i64 y.sec,.int .i64 y.bad,.slice (some ⟨gF,0,none⟩) y.feeds.length cF,vL,vA,vN] 28 (0,0))
 z:w.heap[w0.heap.size+1]? =some (.cells #[.int .i64 0,.int .i64 0,.slice none 0 0,.slice none 0 0,.slice none 0 0,.slice none 0 0] 28 (0,0))
 q:WdQ B w y (.slice (some ⟨gF,0,none⟩) y.feeds.length cF) vL vA vN
 b:Below w0.heap.size w0 w
 gB:w0.heap.size≤gF
section
variable {B gF cF:Nat} {y:Wd} {w0 w w':World} {vL vA vN:Value}
theorem qk7.below(h:qk7 B gF cF y w0 w vL vA vN)(hb:Below w.heap.size w w'):qk7 B gF cF y w0 w' vL vA vN:=
 ⟨(hb.block _ (qai h.box)).trans h.box,(hb.block _ (qai h.z)).trans h.z,h.q.below hb,h.b.trans (hb.mono h.b.size),h.gB⟩
end
structure qla (y:Wd) (w0 w:World) (vF vL vA vN:Value):Prop where
 box:w.heap[w0.heap.size]? =some (.cells #[.int .i64 y.sec,.int .i64 y.bad,vF,vL,vA,vN] 28 (0,0))
 z:w.heap[w0.heap.size+1]? =some (.cells #[.int .i64 0,.int .i64 0,.slice none 0 0,.slice none 0 0,.slice none 0 0,.slice none 0 0] 28 (0,0))
 s:WdS w y vF vL vA vN
 b:Below w0.heap.size w0 w
theorem qla.below{y:Wd}{w0 w w':World}{vF vL vA vN:Value}(h:qla y w0 w vF vL vA vN)(hb:Below w.heap.size w w'):qla y w0 w' vF vL vA vN:=
 ⟨(hb.block _ (qai h.box)).trans h.box,(hb.block _ (qai h.z)).trans h.z,h.s.below hb,h.b.trans (hb.mono h.b.size)⟩
structure qng (B gA cA:Nat) (x:Wd) (ls:List (List (Int×Int))) (w0 w:World) (vF vL vN:Value):Prop where
 box:w.heap[w0.heap.size]? =some (.cells #[.int .i64 x.sec,.int .i64 x.bad,vF,vL,.slice (some ⟨gA,0,none⟩) x.asked.length cA,vN] 28 (0,0))
 z:w.heap[w0.heap.size+1]? =some (.cells #[.int .i64 0,.int .i64 0,.slice none 0 0,.slice none 0 0,.slice none 0 0,.slice none 0 0] 28 (0,0))
 F:qa1 B w vF x.feeds
 L:qav B 99 w vL x.links
 A:qbB B w (.slice (some ⟨gA,0,none⟩) x.asked.length cA) ls
 N:qaW B w vN []
 b:Below w0.heap.size w0 w
 n:ls.length=x.asked.length
 gB:w0.heap.size≤gA
 Bs:B≤w.heap.size
section
variable {B gA cA:Nat} {x:Wd} {ls:List (List (Int×Int))} {w0 w w':World} {vF vL vN:Value}
theorem qng.below(h:qng B gA cA x ls w0 w vF vL vN)(hb:Below w.heap.size w w'):qng B gA cA x ls w0 w' vF vL vN:=by
 have hk:=qaA.of_below (T:=LT2) hb;exact⟨(hb.block _ (qai h.box)).trans h.box,(hb.block _ (qai h.z)).trans h.z,h.F.next (hk.mono qi1),h.L.next hk e_,h.A.next (hk.mono qkm),h.N.next (hk.mono qk1),h.b.trans (hb.mono h.b.size),h.n,h.gB,Nat.le_trans h.Bs hb.size⟩
end
structure qnp (w:World) (q p:Nat) (x y:Wd) (vF vL vA vN uF uL uA uN:Value) (wr:World):Prop where
 bx:wr.heap[q]? =some (.cells #[.int .i64 x.sec,.int .i64 x.bad,vF,vL,vA,vN] 28 (0,0))
 by_:wr.heap[p]? =some (.cells #[.int .i64 y.sec,.int .i64 y.bad,uF,uL,uA,uN] 28 (0,0))
 sx:WdS wr x vF vL vA vN
 sy:WdS wr y uF uL uA uN
 o:Below w.heap.size w wr
theorem qnp.below{w wr w2:World}{q p:Nat}{x y:Wd}{vF vL vA vN uF uL uA uN:Value}(h:qnp w q p x y vF vL vA vN uF uL uA uN wr)(hb:Below wr.heap.size wr w2):qnp w q p x y vF vL vA vN uF uL uA uN w2:=
 ⟨(hb.block _ (qai h.bx)).trans h.bx,(hb.block _ (qai h.by_)).trans h.by_,h.sx.below hb,h.sy.below hb,h.o.trans (hb.mono h.o.size)⟩
end Go.Proofs.YtekaaekpdebloaaGreatDoor

/- Words and walks of the law. -/
import Derived.Test.YtekaaekpdebloaaGreatDoorCJ5
import Derived.Test.YtekaaekpdebloaaGreatDoorCQ5
set_option linter.unusedVariables false
set_option linter.unusedSimpArgs false
set_option maxHeartbeats 12800000
set_option maxRecDepth 100000
namespace Go.Proofs.YtekaaekpdebloaaGreatDoor
open Go.RowKit
attribute [local go_sem ↓] Go.wp_at_zero Go.wp_at_succ

def quj(x:Wd)(e:Ev):Wd:=if qcc x=true then wdo x e else Wd.zero
theorem qr7{x:Wd}{e:Ev}(h:qcc x=true):quj x e=wdo x e:=by unfold quj;rw[if_pos h]
theorem qtM{x:Wd}{e:Ev}(h:qcc x=false):quj x e=Wd.zero:=by unfold quj;rw[h];rfl
theorem qum(x:Wd)(e:Ev)(q B:Nat)(vF vL vA vN:Value)(w:World)(h:MI B q 2 x w vF vL vA vN)(hv:WV x)(m0:w.cell? ⟨q,0,none⟩=some (.int .i32 0))(ht:e.txt.size≤maxLen)(he:qsC w)(h1B:1≤B):
 Calls Tryz.prog 52 #[.pointer (some ⟨q,0,none⟩),.agg (evC e)] w (qrH B q 2 w (wdo x e)):=by
 by_cases h1:e.kind=1
 · have:=qtj x e q B vF vL vA vN w h hv m0 h1 ht;have e2:wdo x e=qd1 x e.txt:=by unfold wdo;rw[if_pos h1]
   rw[e2];exact this
 by_cases h2:e.kind=2∨e.kind=3
 · have:=qtk x e q B vF vL vA vN w h hv m0 h2;have e2:wdo x e=qeh x e.a e.b (e.kind==2):=by
    obtain⟨k,a,b,c,t⟩:=e;simp only at h2 ⊢;rcases h2 with rfl|rfl <;> rfl
   rw[e2];exact this
 by_cases h4:e.kind=4∨e.kind=5∨e.kind=6
 · exact qtm x e q B vF vL vA vN w h hv m0 h4 ht
 by_cases h7:e.kind=7∨e.kind=8
 · have:=qtF x e q B vF vL vA vN w h hv m0 h7 he h1B;have e2:wdo x e=qgz x e.a (e.kind==8):=by
    obtain⟨k,a,b,c,t⟩:=e;simp only at h7 ⊢;rcases h7 with rfl|rfl <;> rfl
   rw[e2];exact this
 · have hk:qt0 e=.nilIface:=by
    unfold qt0;rw[if_neg h1,if_neg h2,if_neg h4,if_neg h7]
   have:=qtl x e q B vF vL vA vN w h hv m0 hk;rw[qna h1 a_ a_ a_ a_ a_ a_ a_];exact this
theorem qtD(x:Wd)(ev:Ev)(vF vL vA vN:Value)(w:World)(hx:WdR w x vF vL vA vN)(ht:∀ j (hj:j<x.net.length),x.net[j].txt.size≤maxLen)(hte:ev.txt.size≤maxLen)(he:qsC w):
 Calls Tryz.prog 15 #[.agg #[.int .i64 x.sec,.int .i64 x.bad,vF,vL,vA,vN],.agg (evC ev)] w (qk3 w (quj x ev)):=by
 obtain⟨k,a,b,c,t⟩:=ev;unfold evC;simp only;have HTE:=hI_ hte;have HER:=hI_ he;obtain⟨W0,HW0⟩:=nm_ (((w.alloc (.cells #[.int .i64 x.sec,.int .i64 x.bad,vF,vL,vA,vN] 28)).alloc (.cells #[.int .i64 k,.int .i64 a,.int .i64 b,.int .i64 c,.string t] 30)).alloc (.cells #[.int .i64 0,.int .i64 0,.slice none 0 0,.slice none 0 0,.slice none 0 0,.slice none 0 0] 28));have HB0:Hid (bB w W0):=hI_ R_;have hs0:w.heap.size+3=W0.heap.size:=by rw[←HW0.out];simp
 have HP0:Hid (W0.heap[w.heap.size]? =some (.cells #[.int .i64 x.sec,.int .i64 x.bad,vF,vL,vA,vN] 28 (0,0))):=hI_ T_;have HE0:Hid (W0.heap[w.heap.size+1]? =some (.cells #[.int .i64 k,.int .i64 a,.int .i64 b,.int .i64 c,.string t] 30 (0,0))):=hI_ ad_;have HZ0:Hid (W0.heap[w.heap.size+1+1]? =some (.cells #[.int .i64 0,.int .i64 0,.slice none 0 0,.slice none 0 0,.slice none 0 0,.slice none 0 0] 28 (0,0))):=hI_ D_;have hl0:w.heap.size<W0.heap.size:=a_;have hl1:w.heap.size+1<W0.heap.size:=a_;have hl2:w.heap.size+1+1<W0.heap.size:=a_;have HX0:Hid (WdR W0 x vF vL vA vN):=hI_ (hx.below HB0.out);have HT:=hI_ ht;have HLT:=hI_ he.lt;clear hs0 hx ht he hte;obtain⟨p0,p1,p2,p3,p4,p5,pf⟩:=qaa HP0.out;go_enter Tryz.func15,Tryz.ntmps15
 go_upto_region 1 with fail
 rw[HW0.out];go_wp2_with fail
 refine(qfi x _ _ _ _ W0 HX0.out HT.out).mono ?_;rintro e w1 ⟨rfl,hb1⟩;clear p0 p1 p2 p3 p4 p5 pf;have HP1:=hI_ ((hb1.block _ hl0).trans HP0.out);have HE1:=hI_ ((hb1.block _ hl1).trans HE0.out);have HZ1:=hI_ ((hb1.block _ hl2).trans HZ0.out);have hm0:=nL_ hl0 hb1.size;have hm1:=nL_ hl1 hb1.size;have hm2:=nL_ hl2 hb1.size;have HB1:=hI_ (HB0.out.trans (hb1.mono HB0.out.size));have HX1:=hI_ (HX0.out.below hb1);clear hb1;obtain⟨bv,HBV⟩:=nm_ (qcc x);rw[HBV.out];cases bv
 · obtain⟨y0,y1,y2,y3,y4,y5,yf⟩:=qaa HZ1.out;have HR:=hI_ (qtM (e:=⟨k,a,b,c,t⟩) HBV.out);go_wp2_with fail
   refine bodyPost_ret (v:=.agg #[.int .i64 0,.int .i64 0,.slice none 0 0,.slice none 0 0,.slice none 0 0,.slice none 0 0]) (by simp[results,Tryz.results15,go_sem,y0,y1,y2,y3,y4,y5]) rfl ?_;rw[HR.out];exact⟨_,_,_,_,rfl,WdP.zero,qae HB1.out a_ _ _ _ _ _ _⟩
 have hwv:WV x:=qcq.1 HBV.out;have HWV:=hI_ hwv;have HR:=hI_ (qr7 (e:=⟨k,a,b,c,t⟩) HBV.out);clear hwv;obtain⟨p0,p1,p2,p3,p4,p5,pf⟩:=qaa HP1.out;go_wp2_with fail
 refine(qjf x _ _ _ _ w1 HX1.out (HWV.out.wi.sml a_)).mono ?_;rintro e w2 ⟨uF,uL,uA,uN,rfl,hp2,hb2⟩;obtain⟨FB_,Fd_,rfl⟩:=hp2.F.r.sl;obtain⟨LB_,Ld,rfl⟩:=hp2.L.r.sl;obtain⟨AB,Ad,rfl⟩:=hp2.A.r.sl;obtain⟨NB,Nd,rfl⟩:=hp2.N.r.sl;clear p0 p1 p2 p3 p4 p5 pf;have HC2:=hI_ hp2;have HB2:=hI_ hb2;clear hp2 hb2;go_upto_region 4 with fail
 obtain⟨W3,HW3⟩:=nm_ (w2.alloc (.cells #[.int .i32 0,.int .u32 0,.int .i64 x.sec,.int .i64 x.bad,.slice FB_ x.feeds.length Fd_,.slice LB_ x.links.length Ld,.slice AB x.asked.length Ad,.slice NB x.net.length Nd] 96));rw[HW3.out];obtain⟨g,HG⟩:=nm_ w2.heap.size;rw[HG.out];have hg3:W3.heap[g]? =some (.cells #[.int .i32 0,.int .u32 0,.int .i64 x.sec,.int .i64 x.bad,.slice FB_ x.feeds.length Fd_,.slice LB_ x.links.length Ld,.slice AB x.asked.length Ad,.slice NB x.net.length Nd] 96 (0,0)):=by rw[←HW3.out,←HG.out];exact heap_alloc_new _ _
 have hb3:bB w1 W3:=by rw[←HW3.out];exact qab HB2.out _
 have hgw:w1.heap.size≤g:=by rw[←HG.out];exact HB2.out.size
 have hc3:WdP w1.heap.size w2.heap.size W3 x (.slice FB_ x.feeds.length Fd_) (.slice LB_ x.links.length Ld) (.slice AB x.asked.length Ad) (.slice NB x.net.length Nd):=by rw[←HW3.out];exact HC2.out.below (qab (bR_ _ _) _)
 have hs23:w2.heap.size≤W3.heap.size:=by rw[←HW3.out];simp
 have HMI:Hid (MI w1.heap.size g 2 x W3 (.slice FB_ x.feeds.length Fd_) (.slice LB_ x.links.length Ld) (.slice AB x.asked.length Ad) (.slice NB x.net.length Nd)):=hI_ ⟨⟨cell_of_row _ _ 2 _ _ _ hg3,cell_of_row _ _ 3 _ _ _ hg3,cell_of_row _ _ 4 _ _ _ hg3,cell_of_row _ _ 5 _ _ _ hg3,cell_of_row _ _ 6 _ _ _ hg3,cell_of_row _ _ 7 _ _ _ hg3,_,_,hg3,e_⟩,hc3.mono (nr_ _) hs23,hgw⟩;have HAP:=hI_ (qum x ⟨k,a,b,c,t⟩ g w1.heap.size _ _ _ _ W3 HMI.out HWV.out (cell_of_row _ _ 0 _ _ _ hg3) HTE.out (HER.out.next HLT.out (HB1.out.trans (hb3.mono HB1.out.size))) (by have:=HB1.out.size;have:=HLT.out;omega));have HE3:=hI_ ((hb3.block _ hm1).trans HE1.out);have HZ3:=hI_ ((hb3.block _ hm2).trans HZ1.out);have HB3:=hI_ (HB1.out.trans (hb3.mono HB1.out.size));obtain⟨c0,c1,c2,c3,c4,cf⟩:=qrL HE3.out;clear hg3 hb3 hc3 hs23;go_wp2_with fail
 refine HAP.out.mono ?_;rintro e w4 ⟨rfl,vF4,vL4,vA4,vN4,hm4,hb4,_⟩;obtain⟨y,HY⟩:=nm_ (wdo x ⟨k,a,b,c,t⟩);rw[HY.out] at hm4 HR;obtain⟨AF4,cF4,rfl⟩:=hm4.p.F.r.sl;obtain⟨AL4,cL4,rfl⟩:=hm4.p.L.r.sl;obtain⟨AA4,cA4,rfl⟩:=hm4.p.A.r.sl;obtain⟨AN4,cN4,rfl⟩:=hm4.p.N.r.sl;have hz4:=(hb4.block _ hm2).trans HZ3.out;have HP4:=hI_ hm4.p;have HZ4:=hI_ hz4;have HB4:Hid (bB w w4):=hI_ (HB3.out.trans (hb4.mono HB1.out.size));obtain⟨y0,y1,y2,y3,y4,y5,yf⟩:=qaa hz4;have z0:=hm4.bx.c0;have z1:=hm4.bx.c1;have z2:=hm4.bx.c2;have z3:=hm4.bx.c3;have z4:=hm4.bx.c4;have z5:=hm4.bx.c5;clear c0 c1 c2 c3 c4 cf hm4 hb4 hz4;go_wp2_with fail
 refine bodyPost_ret (v:=.agg #[.int .i64 y.sec,.int .i64 y.bad,.slice AF4 y.feeds.length cF4,.slice AL4 y.links.length cL4,.slice AA4 y.asked.length cA4,.slice AN4 y.net.length cN4]) (by simp[results,Tryz.results15,go_sem,y0,y1,y2,y3,y4,y5]) rfl ?_;rw[HR.out];have hk6:=qaA.set6 (T:=LT2) HZ4.out e_ (.int .i64 y.sec) (.int .i64 y.bad) (.slice AF4 y.feeds.length cF4) (.slice AL4 y.links.length cL4) (.slice AA4 y.asked.length cA4) (.slice AN4 y.net.length cN4);exact⟨_,_,_,_,rfl,(HP4.out.keep hk6).mono HB1.out.size hk6.1,qae HB4.out a_ _ _ _ _ _ _⟩
end Go.Proofs.YtekaaekpdebloaaGreatDoor
namespace Go.Proofs.YtekaaekpdebloaaGreatDoor
open Go.RowKit

structure DoW (w:World) (p q r:Nat) (x y:Wd) (ev:Ev) (vF vL vA vN uF uL uA uN tF tL tA tN:Value) (wr:World):Prop where
 bx:wr.heap[p]? =some (.cells #[.int .i64 x.sec,.int .i64 x.bad,vF,vL,vA,vN] 28 (0,0))
 be:wr.heap[p+1]? =some (.cells (evC ev) 30 (0,0))
 by_:wr.heap[q]? =some (.cells #[.int .i64 y.sec,.int .i64 y.bad,uF,uL,uA,uN] 28 (0,0))
 bz:wr.heap[r]? =some (.cells #[.int .i64 y.sec,.int .i64 y.bad,tF,tL,tA,tN] 28 (0,0))
 sx:WdS wr x vF vL vA vN
 sy:WdS wr y uF uL uA uN
 sz:WdS wr y tF tL tA tN
 o:bB w wr
theorem DoW.below{w wr w2:World}{p q r:Nat}{x y:Wd}{ev:Ev}{vF vL vA vN uF uL uA uN tF tL tA tN:Value}(h:DoW w p q r x y ev vF vL vA vN uF uL uA uN tF tL tA tN wr)(hb:bB wr w2):DoW w p q r x y ev vF vL vA vN uF uL uA uN tF tL tA tN w2:=
 ⟨(hb.block _ (qai h.bx)).trans h.bx,(hb.block _ (qai h.be)).trans h.be,(hb.block _ (qai h.by_)).trans h.by_,(hb.block _ (qai h.bz)).trans h.bz,h.sx.below hb,h.sy.below hb,h.sz.below hb,h.o.trans (hb.mono h.o.size)⟩
end Go.Proofs.YtekaaekpdebloaaGreatDoor
namespace Go.Proofs.YtekaaekpdebloaaGreatDoor
open Go.RowKit
attribute [local go_sem ↓] Go.wp_at_zero Go.wp_at_succ

def EvF(F:Nat→Value)(es:List Ev):Prop:=∀ j (hj:j<es.length),F (j*5)=.int .i64 es[j].kind∧F (j*5+1)=.int .i64 es[j].a∧F (j*5+2)=.int .i64 es[j].b∧F (j*5+3)=.int .i64 es[j].c∧F (j*5+4)=.string es[j].txt
def qu8(w:World)(v:Value)(es:List Ev):Prop:=∃ F,RN 5 w v es.length F∧EvF F es
section
variable {w w':World} {v:Value} {es:List Ev}
theorem qu8.below(h:qu8 w v es)(hb:bB w w'):qu8 w' v es:=by obtain⟨F,h1,h2⟩:=h;exact⟨F,h1.below hb,h2⟩
theorem qu8.sl(h:qu8 w v es):∃ A c,v=.slice A es.length c:=by obtain⟨F,h1,_⟩:=h;exact h1.sl
theorem qu8.at_{A:Option Addr}{n c:Nat}(h:qu8 w (.slice A n c) es){j:Nat}(hj:j<es.length):∃ b o,A=some ⟨b,o,none⟩∧b<w.heap.size∧w.cell? ⟨b,o+j*5,none⟩=some (.int .i64 es[j].kind)∧w.cell? ⟨b,o+j*5+1,none⟩=some (.int .i64 es[j].a)∧
 w.cell? ⟨b,o+j*5+2,none⟩=some (.int .i64 es[j].b)∧w.cell? ⟨b,o+j*5+3,none⟩=some (.int .i64 es[j].c)∧w.cell? ⟨b,o+j*5+4,none⟩=some (.string es[j].txt):=by
 obtain⟨F,h1,h2⟩:=h;obtain⟨b,o,hA,hb,_,hc⟩:=h1.cell a_;obtain⟨f0,f1,f2,f3,f4⟩:=h2 j hj;refine⟨b,o,hA,hb,?_,?_,?_,?_,?_⟩
 · rw[hc _ a_,f0]
 · rw[Nat.add_assoc,hc _ a_,f1]
 · rw[Nat.add_assoc,hc _ a_,f2]
 · rw[Nat.add_assoc,hc _ a_,f3]
 · rw[Nat.add_assoc,hc _ a_,f4]
end
def OwP(B:Nat)(w:World)(y:Wd)(vF vL vA vN:Value):Prop:=∃ C,C≤w.heap.size∧WdP B C w y vF vL vA vN
theorem OwP.st{B:Nat}{w:World}{y:Wd}{vF vL vA vN:Value}(h:OwP B w y vF vL vA vN):WdS w y vF vL vA vN:=by obtain⟨_,_,h⟩:=h;exact h.st
theorem OwP.below{B:Nat}{w w':World}{y:Wd}{vF vL vA vN:Value}(h:OwP B w y vF vL vA vN)(hb:bB w w'):OwP B w' y vF vL vA vN:=by
 obtain⟨C,h1,h2⟩:=h;exact⟨C,Nat.le_trans h1 hb.size,h2.below hb⟩
structure qu1 (g:Nat) (y:Wd) (w0 w:World) (vF vL vA vN:Value):Prop where
 b:w.heap[g]? =some (.cells #[.int .i64 y.sec,.int .i64 y.bad,vF,vL,vA,vN] 28 (0,0))
 z:w.heap[w0.heap.size+1]? =some (.cells #[.int .i64 0,.int .i64 0,.slice none 0 0,.slice none 0 0,.slice none 0 0,.slice none 0 0] 28 (0,0))
 p:OwP w0.heap.size w y vF vL vA vN
 o:bB w0 w
 g:w0.heap.size+1<g
theorem qu1.s{g:Nat}{y:Wd}{w0 w:World}{vF vL vA vN:Value}(h:qu1 g y w0 w vF vL vA vN):WdS w y vF vL vA vN:=h.p.st
theorem qu1.below{g:Nat}{y:Wd}{w0 w w':World}{vF vL vA vN:Value}(h:qu1 g y w0 w vF vL vA vN)(hb:bB w w'):qu1 g y w0 w' vF vL vA vN:=
 ⟨(hb.block _ (qai h.b)).trans h.b,(hb.block _ (qai h.z)).trans h.z,h.p.below hb,h.o.trans (hb.mono h.o.size),h.g⟩
def qu3(B:Nat)(w:World)(v:Value)(es:List Ev):Prop:=∃ F,ON 5 B 30 w v es.length F∧EvF F es
section
variable {B:Nat} {w w':World} {v:Value} {es:List Ev} {T:List TypeId}
theorem qu3.r(h:qu3 B w v es):qu8 w v es:=by obtain⟨F,h1,h2⟩:=h;exact⟨F,h1.rn,h2⟩
theorem qu3.keepT(h:qu3 B w v es)(hk:qaA T w w')(he:30 ∈ T):qu3 B w' v es:=by obtain⟨F,h1,h2⟩:=h;exact⟨F,h1.keepT hk he,h2⟩
theorem qu3.below(h:qu3 B w v es)(hb:bB w w'):qu3 B w' v es:=by obtain⟨F,h1,h2⟩:=h;exact⟨F,h1.below hb,h2⟩
theorem qu3.sl(h:qu3 B w v es):∃ A c,v=.slice A es.length c:=h.r.sl
end
theorem qbb.keepE{g P:Nat}{w w':World}(h:qbb g w w')(hr:Rdr w g P):qaA [30] w w':=
 qaA.of_grown h (fun r hr'=>by
  cases hr'
  obtain⟨bs,A,c,p,h1,_⟩:=hr;exact⟨_,_,_,h1,e_⟩)
structure PlW (g P q y5 y6 B:Nat) (w:World) (x0 x:Wd) (a0 a1 a2 a3 uF uL uA uN:Value) (es:List Ev) (vE:Value) (wr:World):Prop where
 z:wr.heap[q]? =some (.cells #[.int .i64 0,.int .i64 0,.slice none 0 0,.slice none 0 0,.slice none 0 0,.slice none 0 0] 28 (0,0))
 b5:wr.heap[y5]? =some (.cells #[.int .i64 x0.sec,.int .i64 x0.bad,a0,a1,a2,a3] 28 (0,0))
 b6:wr.heap[y6]? =some (.cells #[.int .i64 x.sec,.int .i64 x.bad,uF,uL,uA,uN] 28 (0,0))
 s0:WdS wr x0 a0 a1 a2 a3
 s:WdS wr x uF uL uA uN
 e:qu3 B wr vE es
 r:Rdr wr g P
 o:bB w wr
 d0:DW x0
 d:DW x
 t:∀ j (hj:j<es.length),es[j].txt.size≤10
 hq:w.heap.size≤q
 qg:q<g
 g5:g<y5
 y56:y5<y6
 y6B:y6<B
section
variable {g P P' q y5 y6 B:Nat} {w:World} {x0 x x':Wd} {a0 a1 a2 a3 uF uL uA uN tF tL tA tN:Value} {es es':List Ev} {vE vE':Value} {wr w2:World}
theorem PlW.mono(h:PlW g P q y5 y6 B w x0 x a0 a1 a2 a3 uF uL uA uN es vE wr)(hP:P≤P'):PlW g P' q y5 y6 B w x0 x a0 a1 a2 a3 uF uL uA uN es vE wr:={h with r:=h.r.mono hP}
theorem PlW.only(h:PlW g P q y5 y6 B w x0 x a0 a1 a2 a3 uF uL uA uN es vE wr)(ho:qbb g wr w2)(hr:Rdr w2 g P'):PlW g P' q y5 y6 B w x0 x a0 a1 a2 a3 uF uL uA uN es vE w2:=by
 have ne:∀ k,k≠g→some k≠some g:=fun k hk e=>hk (Option.some.inj e);have h1:=h.hq;have h2:=h.qg;have h3:=h.g5;have h4:=h.y56;exact⟨(ho.block q (qai h.z) (ne _ a_)).trans h.z,(ho.block y5 (qai h.b5) (ne _ a_)).trans h.b5,(ho.block y6 (qai h.b6) (ne _ a_)).trans h.b6,h.s0.keep (ho.keep h.r),h.s.keep (ho.keep h.r),h.e.keepT (ho.keepE h.r) e_,hr,h.o.trans (ho.below a_ h.r.lt),h.d0,h.d,h.t,h1,h2,h3,h4,h.y6B⟩
theorem PlW.below(h:PlW g P q y5 y6 B w x0 x a0 a1 a2 a3 uF uL uA uN es vE wr)(hb:bB wr w2):PlW g P q y5 y6 B w x0 x a0 a1 a2 a3 uF uL uA uN es vE w2:=h.only (qbb.of_below hb) (h.r.below hb)
end
end Go.Proofs.YtekaaekpdebloaaGreatDoor
namespace Go.Proofs.YtekaaekpdebloaaGreatDoor
open Go.RowKit

structure qvf (w:World) (p q r:Nat) (x y:Wd) (vF vL vA vN uF uL uA uN tF tL tA tN:Value) (wr:World):Prop where
 bx:wr.heap[p]? =some (.cells #[.int .i64 x.sec,.int .i64 x.bad,vF,vL,vA,vN] 28 (0,0))
 by_:wr.heap[q]? =some (.cells #[.int .i64 y.sec,.int .i64 y.bad,uF,uL,uA,uN] 28 (0,0))
 bz:wr.heap[r]? =some (.cells #[.int .i64 y.sec,.int .i64 y.bad,tF,tL,tA,tN] 28 (0,0))
 sx:WdS wr x vF vL vA vN
 sy:WdS wr y uF uL uA uN
 sz:WdS wr y tF tL tA tN
 o:bB w wr
theorem qvf.below{w wr w2:World}{p q r:Nat}{x y:Wd}{vF vL vA vN uF uL uA uN tF tL tA tN:Value}(h:qvf w p q r x y vF vL vA vN uF uL uA uN tF tL tA tN wr)(hb:bB wr w2):qvf w p q r x y vF vL vA vN uF uL uA uN tF tL tA tN w2:=
 ⟨(hb.block _ (qai h.bx)).trans h.bx,(hb.block _ (qai h.by_)).trans h.by_,(hb.block _ (qai h.bz)).trans h.bz,h.sx.below hb,h.sy.below hb,h.sz.below hb,h.o.trans (hb.mono h.o.size)⟩
end Go.Proofs.YtekaaekpdebloaaGreatDoor

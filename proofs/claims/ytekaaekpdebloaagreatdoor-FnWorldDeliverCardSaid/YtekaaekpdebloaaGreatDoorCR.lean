/- Words and walks of the law. -/
import Derived.Test.YtekaaekpdebloaaGreatDoorCQ
set_option linter.unusedVariables false
set_option linter.unusedSimpArgs false
namespace Go.Proofs.YtekaaekpdebloaaGreatDoor
open Go.RowKit
attribute [local go_sem ↓] Go.wp_at_zero Go.wp_at_succ

def quj(x:Wd)(e:Ev):Wd:=if qcc x=true then wdo x e else Wd.zero
theorem qr7{x:Wd}{e:Ev}(h:qcc x=true):quj x e=wdo x e:=by unfold quj;rw[if_pos h]
theorem qtM{x:Wd}{e:Ev}(h:qcc x=false):quj x e=Wd.zero:=by unfold quj;rw[h];rfl
set_option maxHeartbeats 12800000 in
set_option maxRecDepth 100000 in
theorem qtE(x:Wd)(ev:Ev)(vF vL vA vN:Value)(w:World)(hx:WdS w x vF vL vA vN)(ht:∀ j (hj:j<x.net.length),x.net[j].txt.size≤maxLen)(hte:ev.txt.size≤maxLen):
 Calls Tryz.prog 16 #[.agg #[.int .i64 x.sec,.int .i64 x.bad,vF,vL,vA,vN],.agg (evC ev)] w (qhd w (quj x ev)):=by
 obtain⟨k,a,b,c,t⟩:=ev;unfold evC;simp only;have HTE:=hI_ hte;obtain⟨W0,HW0⟩:=nm_ (((w.alloc (.cells #[.int .i64 x.sec,.int .i64 x.bad,vF,vL,vA,vN] 28)).alloc (.cells #[.int .i64 k,.int .i64 a,.int .i64 b,.int .i64 c,.string t] 30)).alloc (.cells #[.int .i64 0,.int .i64 0,.slice none 0 0,.slice none 0 0,.slice none 0 0,.slice none 0 0] 28));have HB0:Hid (Below w.heap.size w W0):=hI_ R_;have hs0:w.heap.size+3=W0.heap.size:=by rw[←HW0.out];simp
 have HP0:Hid (W0.heap[w.heap.size]? =some (.cells #[.int .i64 x.sec,.int .i64 x.bad,vF,vL,vA,vN] 28 (0,0))):=hI_ T_;have HE0:Hid (W0.heap[w.heap.size+1]? =some (.cells #[.int .i64 k,.int .i64 a,.int .i64 b,.int .i64 c,.string t] 30 (0,0))):=hI_ ad_;have HZ0:Hid (W0.heap[w.heap.size+1+1]? =some (.cells #[.int .i64 0,.int .i64 0,.slice none 0 0,.slice none 0 0,.slice none 0 0,.slice none 0 0] 28 (0,0))):=hI_ D_;have hl0:w.heap.size<W0.heap.size:=a_;have hl1:w.heap.size+1<W0.heap.size:=a_;have hl2:w.heap.size+1+1<W0.heap.size:=a_;have HX0:Hid (WdS W0 x vF vL vA vN):=hI_ (hx.below HB0.out);have HT:=hI_ ht;clear hs0 hx ht hte;obtain⟨p0,p1,p2,p3,p4,p5,pf⟩:=qaa HP0.out;go_enter Tryz.func16,Tryz.ntmps16
 go_upto_region 1 with fail
 rw[HW0.out];go_wp2_with fail
 refine(qdO x _ _ _ _ W0 HX0.out.r HT.out).mono ?_;rintro e w1 ⟨rfl,hb1⟩;clear p0 p1 p2 p3 p4 p5 pf;have HP1:=hI_ ((hb1.block _ hl0).trans HP0.out);have HE1:=hI_ ((hb1.block _ hl1).trans HE0.out);have HZ1:=hI_ ((hb1.block _ hl2).trans HZ0.out);have hm2:=nL_ hl2 hb1.size;have HB1:=hI_ (HB0.out.trans (hb1.mono HB0.out.size));have HX1:=hI_ (HX0.out.below hb1);clear hb1;obtain⟨bv,HBV⟩:=nm_ (qcc x);rw[HBV.out];cases bv
 · obtain⟨y0,y1,y2,y3,y4,y5,yf⟩:=qaa HZ1.out;have HR:=hI_ (qtM (e:=⟨k,a,b,c,t⟩) HBV.out);have HZP:=(WdP.zero (B:=0) (C:=0) (w:=((((((w1.setCell ⟨w.heap.size+1+1,0,none⟩ (.int .i64 0)).setCell ⟨w.heap.size+1+1,1,none⟩ (.int .i64 0)).setCell ⟨w.heap.size+1+1,2,none⟩ (.slice none 0 0)).setCell ⟨w.heap.size+1+1,3,none⟩ (.slice none 0 0)).setCell ⟨w.heap.size+1+1,4,none⟩ (.slice none 0 0)).setCell ⟨w.heap.size+1+1,5,none⟩ (.slice none 0 0)))).st;have HZP:=hI_ HZP;go_wp2_with fail
   refine bodyPost_ret (v:=.agg #[.int .i64 0,.int .i64 0,.slice none 0 0,.slice none 0 0,.slice none 0 0,.slice none 0 0]) (by simp[results,Tryz.results16,go_sem,y0,y1,y2,y3,y4,y5]) rfl ?_;rw[HR.out];exact⟨_,_,_,_,rfl,HZP.out,qae HB1.out a_ _ _ _ _ _ _⟩
 have HWV:Hid (WV x):=hI_ (qcq.1 HBV.out);have HR:=hI_ (qr7 (e:=⟨k,a,b,c,t⟩) HBV.out);obtain⟨p0,p1,p2,p3,p4,p5,pf⟩:=qaa HP1.out;obtain⟨c0,c1,c2,c3,c4,cf⟩:=qrL HE1.out;have HYV:Hid (WV (wdo x ⟨k,a,b,c,t⟩)):=hI_ (HWV.out.do_ ⟨k,a,b,c,t⟩);have HDO:=hI_ (qnJ x ⟨k,a,b,c,t⟩ vF vL vA vN w1 HX1.out HWV.out.wi a_ HTE.out);obtain⟨y,HY⟩:=nm_ (wdo x ⟨k,a,b,c,t⟩);rw[HY.out] at HYV HDO HR;have HSM:=hI_ (HYV.out.wi.sml a_);go_wp2_with fail
 refine HDO.out.mono ?_;rintro e w2 ⟨uF,uL,uA,uN,rfl,hs2,hb2⟩;have HB2:=hI_ hb2;have HS2:=hI_ hs2;clear hb2 hs2 p0 p1 p2 p3 p4 p5 pf c0 c1 c2 c3 c4 cf;go_wp2_with fail
 refine(qcO y _ _ _ _ w2 HS2.out HSM.out).mono ?_;rintro e w3 ⟨vF',vL',vA',vN',rfl,hc3,hb3⟩;have hs3:=hc3.s;obtain⟨⟨A1,c1,rfl⟩,⟨A2,c2,rfl⟩,⟨A3,c3,rfl⟩,⟨A4,c4,rfl⟩⟩:=hs3.sl;have hb13:Below w1.heap.size w1 w3:=HB2.out.trans (hb3.mono HB2.out.size);have HZ3:=hI_ ((hb13.block _ hm2).trans HZ1.out);have HB3:=hI_ (HB1.out.trans (hb13.mono HB1.out.size));have HS3:=hI_ hs3;obtain⟨y0,y1,y2,y3,y4,y5,yf⟩:=qaa HZ3.out;clear hc3 hs3 hb3 hb13;go_wp2_with fail
 refine bodyPost_ret (v:=.agg #[.int .i64 y.sec,.int .i64 y.bad,.slice A1 y.feeds.length c1,.slice A2 y.links.length c2,.slice A3 y.asked.length c3,.slice A4 y.net.length c4]) (by simp[results,Tryz.results16,go_sem,y0,y1,y2,y3,y4,y5]) rfl ?_;rw[HR.out];exact⟨_,_,_,_,rfl,HS3.out.set6 HZ3.out _ _ _ _ _ _,qae HB3.out a_ _ _ _ _ _ _⟩
theorem qum(x:Wd)(e:Ev)(q B:Nat)(vF vL vA vN:Value)(w:World)(h:MI B q 2 x w vF vL vA vN)(hv:WV x)(m0:w.cell? ⟨q,0,none⟩=some (.int .i32 0))(ht:e.txt.size≤maxLen)(he:qsC w)(h1B:1≤B):
 Calls Tryz.prog 52 #[.pointer (some ⟨q,0,none⟩),.agg (evC e)] w (qrH B q 2 w (wdo x e)):=by
 by_cases h1:e.kind=1
 · have:=qtj x e q B vF vL vA vN w h hv m0 h1 ht;have e2:wdo x e=qd1 x e.txt:=by unfold wdo;rw[if_pos h1]
   rw[e2];exact this
 by_cases h2:e.kind=2∨e.kind=3
 · have:=qtk x e q B vF vL vA vN w h hv m0 h2;have e2:wdo x e=qeh x e.a e.b (e.kind==2):=by
    obtain⟨k,a,b,c,t⟩:=e;simp only at h2 ⊢;rcases h2 with rfl|rfl <;> rfl
   rw[e2];exact this
 by_cases h4:e.kind=4∨e.kind=5∨e.kind=6
 · exact qtm x e q B vF vL vA vN w h hv m0 h4 ht
 by_cases h7:e.kind=7∨e.kind=8
 · have:=qtF x e q B vF vL vA vN w h hv m0 h7 he h1B;have e2:wdo x e=qgz x e.a (e.kind==8):=by
    obtain⟨k,a,b,c,t⟩:=e;simp only at h7 ⊢;rcases h7 with rfl|rfl <;> rfl
   rw[e2];exact this
 · have hk:qt0 e=.nilIface:=by
    unfold qt0;rw[if_neg h1,if_neg h2,if_neg h4,if_neg h7]
   have:=qtl x e q B vF vL vA vN w h hv m0 hk;rw[qna h1 a_ a_ a_ a_ a_ a_ a_];exact this
set_option maxHeartbeats 12800000 in
set_option maxRecDepth 100000 in
theorem qtD(x:Wd)(ev:Ev)(vF vL vA vN:Value)(w:World)(hx:WdR w x vF vL vA vN)(ht:∀ j (hj:j<x.net.length),x.net[j].txt.size≤maxLen)(hte:ev.txt.size≤maxLen)(he:qsC w):
 Calls Tryz.prog 15 #[.agg #[.int .i64 x.sec,.int .i64 x.bad,vF,vL,vA,vN],.agg (evC ev)] w (qk3 w (quj x ev)):=by
 obtain⟨k,a,b,c,t⟩:=ev;unfold evC;simp only;have HTE:=hI_ hte;have HER:=hI_ he;obtain⟨W0,HW0⟩:=nm_ (((w.alloc (.cells #[.int .i64 x.sec,.int .i64 x.bad,vF,vL,vA,vN] 28)).alloc (.cells #[.int .i64 k,.int .i64 a,.int .i64 b,.int .i64 c,.string t] 30)).alloc (.cells #[.int .i64 0,.int .i64 0,.slice none 0 0,.slice none 0 0,.slice none 0 0,.slice none 0 0] 28));have HB0:Hid (Below w.heap.size w W0):=hI_ R_;have hs0:w.heap.size+3=W0.heap.size:=by rw[←HW0.out];simp
 have HP0:Hid (W0.heap[w.heap.size]? =some (.cells #[.int .i64 x.sec,.int .i64 x.bad,vF,vL,vA,vN] 28 (0,0))):=hI_ T_;have HE0:Hid (W0.heap[w.heap.size+1]? =some (.cells #[.int .i64 k,.int .i64 a,.int .i64 b,.int .i64 c,.string t] 30 (0,0))):=hI_ ad_;have HZ0:Hid (W0.heap[w.heap.size+1+1]? =some (.cells #[.int .i64 0,.int .i64 0,.slice none 0 0,.slice none 0 0,.slice none 0 0,.slice none 0 0] 28 (0,0))):=hI_ D_;have hl0:w.heap.size<W0.heap.size:=a_;have hl1:w.heap.size+1<W0.heap.size:=a_;have hl2:w.heap.size+1+1<W0.heap.size:=a_;have HX0:Hid (WdR W0 x vF vL vA vN):=hI_ (hx.below HB0.out);have HT:=hI_ ht;have HLT:=hI_ he.lt;clear hs0 hx ht he hte;obtain⟨p0,p1,p2,p3,p4,p5,pf⟩:=qaa HP0.out;go_enter Tryz.func15,Tryz.ntmps15
 go_upto_region 1 with fail
 rw[HW0.out];go_wp2_with fail
 refine(qfi x _ _ _ _ W0 HX0.out HT.out).mono ?_;rintro e w1 ⟨rfl,hb1⟩;clear p0 p1 p2 p3 p4 p5 pf;have HP1:=hI_ ((hb1.block _ hl0).trans HP0.out);have HE1:=hI_ ((hb1.block _ hl1).trans HE0.out);have HZ1:=hI_ ((hb1.block _ hl2).trans HZ0.out);have hm0:=nL_ hl0 hb1.size;have hm1:=nL_ hl1 hb1.size;have hm2:=nL_ hl2 hb1.size;have HB1:=hI_ (HB0.out.trans (hb1.mono HB0.out.size));have HX1:=hI_ (HX0.out.below hb1);clear hb1;obtain⟨bv,HBV⟩:=nm_ (qcc x);rw[HBV.out];cases bv
 · obtain⟨y0,y1,y2,y3,y4,y5,yf⟩:=qaa HZ1.out;have HR:=hI_ (qtM (e:=⟨k,a,b,c,t⟩) HBV.out);go_wp2_with fail
   refine bodyPost_ret (v:=.agg #[.int .i64 0,.int .i64 0,.slice none 0 0,.slice none 0 0,.slice none 0 0,.slice none 0 0]) (by simp[results,Tryz.results15,go_sem,y0,y1,y2,y3,y4,y5]) rfl ?_;rw[HR.out];exact⟨_,_,_,_,rfl,WdP.zero,qae HB1.out a_ _ _ _ _ _ _⟩
 have hwv:WV x:=qcq.1 HBV.out;have HWV:=hI_ hwv;have HR:=hI_ (qr7 (e:=⟨k,a,b,c,t⟩) HBV.out);clear hwv;obtain⟨p0,p1,p2,p3,p4,p5,pf⟩:=qaa HP1.out;go_wp2_with fail
 refine(qjf x _ _ _ _ w1 HX1.out (HWV.out.wi.sml a_)).mono ?_;rintro e w2 ⟨uF,uL,uA,uN,rfl,hp2,hb2⟩;obtain⟨FB_,Fd_,rfl⟩:=hp2.F.r.sl;obtain⟨LB_,Ld,rfl⟩:=hp2.L.r.sl;obtain⟨AB,Ad,rfl⟩:=hp2.A.r.sl;obtain⟨NB,Nd,rfl⟩:=hp2.N.r.sl;clear p0 p1 p2 p3 p4 p5 pf;have HC2:=hI_ hp2;have HB2:=hI_ hb2;clear hp2 hb2;go_upto_region 4 with fail
 obtain⟨W3,HW3⟩:=nm_ (w2.alloc (.cells #[.int .i32 0,.int .u32 0,.int .i64 x.sec,.int .i64 x.bad,.slice FB_ x.feeds.length Fd_,.slice LB_ x.links.length Ld,.slice AB x.asked.length Ad,.slice NB x.net.length Nd] 96));rw[HW3.out];obtain⟨g,HG⟩:=nm_ w2.heap.size;rw[HG.out];have hg3:W3.heap[g]? =some (.cells #[.int .i32 0,.int .u32 0,.int .i64 x.sec,.int .i64 x.bad,.slice FB_ x.feeds.length Fd_,.slice LB_ x.links.length Ld,.slice AB x.asked.length Ad,.slice NB x.net.length Nd] 96 (0,0)):=by rw[←HW3.out,←HG.out];exact heap_alloc_new _ _
 have hb3:Below w1.heap.size w1 W3:=by rw[←HW3.out];exact qab HB2.out _
 have hgw:w1.heap.size≤g:=by rw[←HG.out];exact HB2.out.size
 have hc3:WdP w1.heap.size w2.heap.size W3 x (.slice FB_ x.feeds.length Fd_) (.slice LB_ x.links.length Ld) (.slice AB x.asked.length Ad) (.slice NB x.net.length Nd):=by rw[←HW3.out];exact HC2.out.below (qab (bR_ _ _) _)
 have hs23:w2.heap.size≤W3.heap.size:=by rw[←HW3.out];simp
 have HMI:Hid (MI w1.heap.size g 2 x W3 (.slice FB_ x.feeds.length Fd_) (.slice LB_ x.links.length Ld) (.slice AB x.asked.length Ad) (.slice NB x.net.length Nd)):=hI_ ⟨⟨cell_of_row _ _ 2 _ _ _ hg3,cell_of_row _ _ 3 _ _ _ hg3,cell_of_row _ _ 4 _ _ _ hg3,cell_of_row _ _ 5 _ _ _ hg3,cell_of_row _ _ 6 _ _ _ hg3,cell_of_row _ _ 7 _ _ _ hg3,_,_,hg3,e_⟩,hc3.mono (nr_ _) hs23,hgw⟩;have HAP:=hI_ (qum x ⟨k,a,b,c,t⟩ g w1.heap.size _ _ _ _ W3 HMI.out HWV.out (cell_of_row _ _ 0 _ _ _ hg3) HTE.out (HER.out.next HLT.out (HB1.out.trans (hb3.mono HB1.out.size))) (by have:=HB1.out.size;have:=HLT.out;omega));have HE3:=hI_ ((hb3.block _ hm1).trans HE1.out);have HZ3:=hI_ ((hb3.block _ hm2).trans HZ1.out);have HB3:=hI_ (HB1.out.trans (hb3.mono HB1.out.size));obtain⟨c0,c1,c2,c3,c4,cf⟩:=qrL HE3.out;clear hg3 hb3 hc3 hs23;go_wp2_with fail
 refine HAP.out.mono ?_;rintro e w4 ⟨rfl,vF4,vL4,vA4,vN4,hm4,hb4,_⟩;obtain⟨y,HY⟩:=nm_ (wdo x ⟨k,a,b,c,t⟩);rw[HY.out] at hm4 HR;obtain⟨AF4,cF4,rfl⟩:=hm4.p.F.r.sl;obtain⟨AL4,cL4,rfl⟩:=hm4.p.L.r.sl;obtain⟨AA4,cA4,rfl⟩:=hm4.p.A.r.sl;obtain⟨AN4,cN4,rfl⟩:=hm4.p.N.r.sl;have hz4:=(hb4.block _ hm2).trans HZ3.out;have HP4:=hI_ hm4.p;have HZ4:=hI_ hz4;have HB4:Hid (Below w.heap.size w w4):=hI_ (HB3.out.trans (hb4.mono HB1.out.size));obtain⟨y0,y1,y2,y3,y4,y5,yf⟩:=qaa hz4;have z0:=hm4.bx.c0;have z1:=hm4.bx.c1;have z2:=hm4.bx.c2;have z3:=hm4.bx.c3;have z4:=hm4.bx.c4;have z5:=hm4.bx.c5;clear c0 c1 c2 c3 c4 cf hm4 hb4 hz4;go_wp2_with fail
 refine bodyPost_ret (v:=.agg #[.int .i64 y.sec,.int .i64 y.bad,.slice AF4 y.feeds.length cF4,.slice AL4 y.links.length cL4,.slice AA4 y.asked.length cA4,.slice AN4 y.net.length cN4]) (by simp[results,Tryz.results15,go_sem,y0,y1,y2,y3,y4,y5]) rfl ?_;rw[HR.out];have hk6:=qaA.set6 (T:=LT2) HZ4.out e_ (.int .i64 y.sec) (.int .i64 y.bad) (.slice AF4 y.feeds.length cF4) (.slice AL4 y.links.length cL4) (.slice AA4 y.asked.length cA4) (.slice AN4 y.net.length cN4);exact⟨_,_,_,_,rfl,(HP4.out.keep hk6).mono HB1.out.size hk6.1,qae HB4.out a_ _ _ _ _ _ _⟩
end Go.Proofs.YtekaaekpdebloaaGreatDoor
namespace Go.Proofs.YtekaaekpdebloaaGreatDoor
open Go.RowKit

structure DoW (w:World) (p q r:Nat) (x y:Wd) (ev:Ev) (vF vL vA vN uF uL uA uN tF tL tA tN:Value) (wr:World):Prop where
 bx:wr.heap[p]? =some (.cells #[.int .i64 x.sec,.int .i64 x.bad,vF,vL,vA,vN] 28 (0,0))
 be:wr.heap[p+1]? =some (.cells (evC ev) 30 (0,0))
 by_:wr.heap[q]? =some (.cells #[.int .i64 y.sec,.int .i64 y.bad,uF,uL,uA,uN] 28 (0,0))
 bz:wr.heap[r]? =some (.cells #[.int .i64 y.sec,.int .i64 y.bad,tF,tL,tA,tN] 28 (0,0))
 sx:WdS wr x vF vL vA vN
 sy:WdS wr y uF uL uA uN
 sz:WdS wr y tF tL tA tN
 o:Below w.heap.size w wr
theorem DoW.below{w wr w2:World}{p q r:Nat}{x y:Wd}{ev:Ev}{vF vL vA vN uF uL uA uN tF tL tA tN:Value}(h:DoW w p q r x y ev vF vL vA vN uF uL uA uN tF tL tA tN wr)(hb:Below wr.heap.size wr w2):DoW w p q r x y ev vF vL vA vN uF uL uA uN tF tL tA tN w2:=
 ⟨(hb.block _ (qai h.bx)).trans h.bx,(hb.block _ (qai h.be)).trans h.be,(hb.block _ (qai h.by_)).trans h.by_,(hb.block _ (qai h.bz)).trans h.bz,h.sx.below hb,h.sy.below hb,h.sz.below hb,h.o.trans (hb.mono h.o.size)⟩
theorem qun{x:Wd}{e:Ev}(h:qcc x=true):WV (quj x e):=by rw[qr7 h];exact(qcq.1 h).do_ e
theorem quF{x:Wd}(h:WV x):∀ j (hj:j<x.net.length),x.net[j].txt.size≤maxLen:=fun _ hj=>Nat.le_trans (h.wi.pcs _ hj).2.2.1 s_
end Go.Proofs.YtekaaekpdebloaaGreatDoor

/- Words and walks of the law. -/
import Derived.Test.YtekaaekpdebloaaGreatDoorCG5
import Derived.Test.YtekaaekpdebloaaGreatDoorCC5
set_option linter.unusedVariables false
set_option linter.unusedSimpArgs false
set_option maxHeartbeats 12800000
set_option maxRecDepth 100000
namespace Go.Proofs.YtekaaekpdebloaaGreatDoor
open Go.RowKit

structure qhP (x:Wd):Prop where
 t:∀ j (hj:j<x.net.length),x.net[j].txt.size≤maxLen
 z:qcc x=true→NZ x
theorem DW.drawn{x:Wd}(h:DW x):qhP x:=⟨fun j hj=>Nat.le_trans (h.v.wi.pcs j hj).2.2.1 s_,fun _=>h.z⟩
structure qi4 (g P:Nat) (w:World) (q y:Nat) (x:Wd) (vF vL vA vN:Value) (wr:World):Prop where
 z:wr.heap[q]? =some (.cells #[.int .i64 0,.int .i64 0,.slice none 0 0,.slice none 0 0,.slice none 0 0,.slice none 0 0] 28 (0,0))
 b:wr.heap[y]? =some (.cells #[.int .i64 x.sec,.int .i64 x.bad,vF,vL,vA,vN] 28 (0,0))
 s:WdS wr x vF vL vA vN
 r:Rdr wr g P
 o:qbb g w wr
 d:qhP x
 hq:w.heap.size=q
 hg:g<q
theorem qi4.mono{g P P' q y:Nat}{w wr:World}{x:Wd}{vF vL vA vN:Value}(h:qi4 g P w q y x vF vL vA vN wr)(hP:P≤P'):qi4 g P' w q y x vF vL vA vN wr:=⟨h.z,h.b,h.s,h.r.mono hP,h.o,h.d,h.hq,h.hg⟩
structure WrW (g P:Nat) (w:World) (q y B:Nat) (x:Wd) (vF vL vA vN:Value) (wr:World):Prop where
 z:wr.heap[q]? =some (.cells #[.int .i64 0,.int .i64 0,.slice none 0 0,.slice none 0 0,.slice none 0 0,.slice none 0 0] 28 (0,0))
 b:wr.heap[y]? =some (.cells #[.int .i64 x.sec,.int .i64 x.bad,vF,vL,vA,vN] 28 (0,0))
 c:WdC B wr x vF vL vA vN
 r:Rdr wr g P
 o:qbb g w wr
 d:DW x
 hq:w.heap.size=q
 hqy:q<y
 hg:g<q
 hB:q≤B
 hBw:B≤wr.heap.size
def LWd:List TypeId:=[28]
theorem qa1.next'{B:Nat}{w w':World}{v:Value}{fs:List Fd}(h:qa1 B w v fs)(hk:qaA [9,4,50] w w'):qa1 B w' v fs:=by
 obtain⟨C,F,h1,h3,h4,h2⟩:=h;exact⟨C,F,h1.keepT hk e_,h3,Nat.le_trans h4 hk.1,fun j hj=>⟨(h2 j hj).1,(h2 j hj).2.1,(h2 j hj).2.2.1,(h2 j hj).2.2.2.1,(h2 j hj).2.2.2.2.1.keep hk e_ e_,(h2 j hj).2.2.2.2.2⟩⟩
theorem qbB.next'{B:Nat}{w w':World}{v:Value}{ls:List (List (Int×Int))}(h:qbB B w v ls)(hk:qaA [109,54] w w'):qbB B w' v ls:=by
 obtain⟨F,h1,h2⟩:=h;exact⟨F,h1.keepT hk e_,fun j hj=>(h2 j hj).next (hk.mono e_)⟩
section
variable {g P P' q y B n cap gr:Nat} {w wr w2:World} {x:Wd} {vF vL vA vN:Value}
theorem WrW.mono(h:WrW g P w q y B x vF vL vA vN wr)(hP:P≤P'):WrW g P' w q y B x vF vL vA vN wr:=⟨h.z,h.b,h.c,h.r.mono hP,h.o,h.d,h.hq,h.hqy,h.hg,h.hB,h.hBw⟩
theorem WrW.only(h:WrW g P w q y B x vF vL vA vN wr)(ho:qbb g wr w2)(hr:Rdr w2 g P'):WrW g P' w q y B x vF vL vA vN w2:=
 ⟨(ho.block _ (qai h.z) (fun e=>by have:=Option.some.inj e;have:=h.hg;omega)).trans h.z,(ho.block _ (qai h.b) (fun e=>by have:=Option.some.inj e;have:=h.hg;have:=h.hqy;omega)).trans h.b,
   h.c.keep (qf7 ho h.r),hr,h.o.trans ho,h.d,h.hq,h.hqy,h.hg,h.hB,Nat.le_trans h.hBw ho.size⟩
theorem WrW.below(h:WrW g P w q y B x vF vL vA vN wr)(hb:bB wr w2):WrW g P w q y B x vF vL vA vN w2:=h.only (qbb.of_below hb) (h.r.below hb)
theorem WrW.gy(h:WrW g P w q y B x vF vL vA vN wr):g<y∧w.heap.size≤y:=by have:=h.hg;have:=h.hqy;have:=h.hq;omega
theorem WrW.sec(h:WrW g P w q y B x vF vL vA vN wr)(s:Int):qi4 g P w q y {x with sec:=s} vF vL vA vN (wr.setCell ⟨y,0,none⟩ (.int .i64 s)):=
 ⟨(Below.heap_setCell _ _ _ _ ao_).trans h.z,qas (i:=0) h.b _,fun w' hk=>let k:=h.c.s.keep (qaA.set (p:=⟨y,0,none⟩) h.b e_ (.int .i64 s)) w' hk;⟨k.feeds,k.links,k.asked,k.net⟩,
   h.r.set (p:=⟨y,0,none⟩) h.gy.1 _,h.o.set (p:=⟨y,0,none⟩) h.gy.2 _,⟨h.d.drawn.t,fun _=>h.d.z⟩,h.hq,h.hg⟩
theorem WrW.bad(h:WrW g P w q y B x vF vL vA vN wr)(s:Int):qi4 g P w q y {x with bad:=s} vF vL vA vN (wr.setCell ⟨y,1,none⟩ (.int .i64 s)):=
 ⟨(Below.heap_setCell _ _ _ _ ao_).trans h.z,qas (i:=1) h.b _,fun w' hk=>let k:=h.c.s.keep (qaA.set (p:=⟨y,1,none⟩) h.b e_ (.int .i64 s)) w' hk;⟨k.feeds,k.links,k.asked,k.net⟩,
   h.r.set (p:=⟨y,1,none⟩) h.gy.1 _,h.o.set (p:=⟨y,1,none⟩) h.gy.2 _,⟨h.d.drawn.t,fun _=>h.d.z⟩,h.hq,h.hg⟩
theorem WrW.links(h:WrW g P w q y B x vF vL vA vN wr){v:Value}{l:List (Int×Int)}(hg:wr.grownBy w2 vL.ownBlock)(hv:qav B 99 w2 v l):qi4 g P w q y {x with links:=l} vF v vA vN (w2.setCell ⟨y,3,none⟩ v):=by
 obtain⟨F,h1,_⟩:=h.c.links;have hk:qaA LWd wr w2:=h1.grew hg e_;have keepT:∀ T:List TypeId,99 ∉ T→qaA T wr w2:=fun T hT=>h1.grew hg hT;have hb2:=(hk.2 y _ _ _ h.b e_).trans h.b;have ks:∀ T:List TypeId,28 ∉ T→qaA T w2 (w2.setCell ⟨y,3,none⟩ v):=fun T hT=>qaA.set (p:=⟨y,3,none⟩) hb2 hT v;have hrd:=h.r.grown hg (fun r e=>by have:=(h1.lt r e).1;have:=h.hB;have:=h.hg;omega);have hon:=h.o.grown hg (fun r e=>by have:=(h1.lt r e).1;have:=h.hB;have:=h.hq;omega);refine⟨(Below.heap_setCell _ _ _ _ ao_).trans ((hk.2 q _ _ _ h.z e_).trans h.z),qas (i:=3) hb2 _,?_,hrd.set (p:=⟨y,3,none⟩) h.gy.1 _,hon.set (p:=⟨y,3,none⟩) h.gy.2 _,⟨h.d.drawn.t,fun _=>h.d.z⟩,h.hq,h.hg⟩;have k1:qaA [9,4,50] wr w2:=keepT _ e_;have k2:qaA [109,54] wr w2:=keepT _ e_;exact WdS.of ((h.c.feeds.next' (k1.trans (ks _ e_))).stb) ((hv.next (T:=LT2) (ks _ e_) e_).stb e_) ((h.c.asked.next' (k2.trans (ks _ e_))).stb) (h.c.net.next ((keepT LTP e_).trans (ks _ e_))).stb
theorem WrW.net(h:WrW g P w q y B x vF vL vA vN wr){v:Value}{l:List Pc}(hg:wr.grownBy w2 vN.ownBlock)(hv:qaW B w2 v l)(ht:∀ j (hj:j<l.length),l[j].txt.size≤maxLen):qi4 g P w q y {x with net:=l} vF vL vA v (w2.setCell ⟨y,5,none⟩ v):=by
 obtain⟨F,h1,_⟩:=h.c.net;have hk:qaA LWd wr w2:=h1.grew hg e_;have keepT:∀ T:List TypeId,57 ∉ T→qaA T wr w2:=fun T hT=>h1.grew hg hT;have hb2:=(hk.2 y _ _ _ h.b e_).trans h.b;have ks:∀ T:List TypeId,28 ∉ T→qaA T w2 (w2.setCell ⟨y,5,none⟩ v):=fun T hT=>qaA.set (p:=⟨y,5,none⟩) hb2 hT v;have hrd:=h.r.grown hg (fun r e=>by have:=(h1.lt r e).1;have:=h.hB;have:=h.hg;omega);have hon:=h.o.grown hg (fun r e=>by have:=(h1.lt r e).1;have:=h.hB;have:=h.hq;omega);refine⟨(Below.heap_setCell _ _ _ _ ao_).trans ((hk.2 q _ _ _ h.z e_).trans h.z),qas (i:=5) hb2 _,?_,hrd.set (p:=⟨y,5,none⟩) h.gy.1 _,hon.set (p:=⟨y,5,none⟩) h.gy.2 _,⟨ht,fun _=>h.d.z⟩,h.hq,h.hg⟩;exact WdS.of ((h.c.feeds.next ((keepT LTF e_).trans (ks _ e_))).stb) ((h.c.links.next ((keepT LT1 e_).trans (ks _ e_)) e_).stb e_) ((h.c.asked.next ((keepT LTA e_).trans (ks _ e_))).stb) (hv.next (ks _ e_)).stb
end

end Go.Proofs.YtekaaekpdebloaaGreatDoor
namespace Go.Proofs.YtekaaekpdebloaaGreatDoor
open Go.RowKit
attribute [local go_sem ↓] Go.wp_at_zero Go.wp_at_succ

theorem qj1(fs:List Fd)(n q o:Nat)(vF:Value)(w:World)(hq:w.cell? ⟨q,o+2,none⟩=some vF)(hF:qa6 w vF fs)(h0:0<fs.length)(hn:n≤(fs.getD 0 Fd.none).bl.length)(h16:(fs.getD 0 Fd.none).bl.length≤16)(hs:∀ t ∈ (fs.getD 0 Fd.none).bl,t.size≤8):
 Calls Tryz.prog 145 #[.pointer (some ⟨q,o,none⟩),.int .i64 n] w fun e w'=>∃ v',e=.returned v'∧O1 (Value.int .i64) w.heap.size 3 w' v' ((lvs (fs.getD 0 Fd.none).bl).take n)∧bB w w':=by
 obtain⟨A,c,rfl⟩:=hF.sl;obtain⟨b0,o',x,y,rfl,hbs,c0,c1,c2,c3,c4,c5,c6⟩:=hF.at0 h0;have hm:=hF.len;unfold maxLen at hm;generalize fs.getD 0 Fd.none=f at*
 have h0i:(0:Int)<(fs.length:Int):=a_;have HT:=hI_ c6.bl;have HS:=hI_ hs;clear c6 hs hF;go_enter Tryz.func145,Tryz.ntmps145
 go_wp2_with fail
 refine(qeb f.pub f.hd x y f.bl w HT.out a_ HS.out).mono ?_;rintro e w1 ⟨v1,rfl,ho,hb1⟩;obtain⟨A1,d1,rfl⟩:=ho.sl;have hll:(lvs f.bl).length=f.bl.length:=qcP _;have hlen:n≤(lvs f.bl).length:=a_;have hcap:(lvs f.bl).length≤d1∧d1≤9223372036854775807:=by
  obtain⟨_,_,e0,q1,q2,_⟩:=ho.r1;cases e0
  unfold maxLen at q2;exact⟨q1.1,q2⟩
 obtain⟨hc1,hc2⟩:=hcap;have hnd:n≤d1:=a_;have HO:=hI_ (ho.takeM hlen);have HB:=hI_ hb1;clear ho hb1 hll;go_wp2
 go_ret;exact⟨_,rfl,HO.out,HB.out⟩

def qk8(B gF cF:Nat)(fs:List Fd)(w:World)(e:Ending)(w':World):Prop:=
 e=.returned (.tuple #[])∧qa7 B w'.heap.size w' (.slice (some ⟨gF,0,none⟩) fs.length cF) fs∧w.grownBy w' (some gF)
def qor(w0 wx:World)(a b:Hd)(s6 s7:Value):Prop:=∃ y z,s6=.pointer (some ⟨y,0,none⟩)∧s7=.pointer (some ⟨z,0,none⟩)∧wx.heap[y]? =some (.cells #[.int .i64 a.len,.int .i64 a.dg,.int .i64 a.sg] 46 (0,0))∧
 wx.heap[z]? =some (.cells #[.int .i64 b.len,.int .i64 b.dg,.int .i64 b.sg] 46 (0,0))∧bB w0 wx
theorem qom(w:World)(a b:Hd):qor w (((w.alloc (.cells #[.int .i64 a.len,.int .i64 a.dg,.int .i64 a.sg] 46)).alloc (.cells #[.int .i64 b.len,.int .i64 b.dg,.int .i64 b.sg] 46)).drew) a b (.pointer (some ⟨w.heap.size,0,none⟩)) (.pointer (some ⟨w.heap.size+1,0,none⟩)):=
 ⟨_,_,rfl,rfl,qbI (qau (at0 _ _)),qbI (at1 _ _ _),qac (qab (qab (bR_ _ _) _) _)⟩
theorem qon(w:World)(a b:Hd):qor w (((w.alloc (.cells #[.int .i64 b.len,.int .i64 b.dg,.int .i64 b.sg] 46)).alloc (.cells #[.int .i64 a.len,.int .i64 a.dg,.int .i64 a.sg] 46)).drew) a b (.pointer (some ⟨w.heap.size+1,0,none⟩)) (.pointer (some ⟨w.heap.size,0,none⟩)):=
 ⟨_,_,rfl,rfl,qbI (at1 _ _ _),qbI (qau (at0 _ _)),qac (qab (qab (bR_ _ _) _) _)⟩
set_option linter.unusedSimpArgs false in
theorem qkB(x:Wd)(i j q o B C gF cF:Nat)(w:World)(hv:WV x)(hi:i<x.feeds.length)(hj:j<x.feeds.length)(hL:qbk x i j=true)
 (t2:w.cell? ⟨q,o+2,none⟩=some (.slice (some ⟨gF,0,none⟩) x.feeds.length cF)) (hql:q<w.heap.size) (hqg:q≠gF)
 (hF:qa7 B C w (.slice (some ⟨gF,0,none⟩) x.feeds.length cF) x.feeds) (hC:C≤w.heap.size):
 Calls Tryz.prog 142 #[.pointer (some ⟨q,o,none⟩),.int .i64 (i:Int),.int .i64 (j:Int)] w (qk8 B gF cF (qa0 x i j).feeds w):=by
 have HWI:=hI_ hv.wi;have HF:=hI_ hF;have HC:=hI_ hC;have hn0:0<x.feeds.length:=a_;have hFr:=hF.r;obtain⟨_,_,va,ha,hA,hgl,f0,f1,f2,f3,f4,f5,hFi⟩:=hFr.at_ hi;cases hA;obtain⟨_,_,vb,hb',hA,_,g0,g1,g2,g3,g4,g5,hFj⟩:=hFr.at_ hj;cases hA;rw[Nat.zero_add] at f0 f1 f2 f3 f4 f5 g0 g1 g2 g3 g4 g5;have hn6:x.feeds.length≤6:=hv.wi.n6;have hi1:(i:Int)<(x.feeds.length:Int):=a_;have hj1:(j:Int)<(x.feeds.length:Int):=a_;have hi0:(0:Int)≤(i:Int):=a_;have hj0:(0:Int)≤(j:Int):=a_;obtain⟨ni,hni,hn1,hn2,hn3,hn4⟩:=HWI.out.hd hi;have HFD:Hid (x.feed i=x.feeds[i]∧x.feed j=x.feeds[j]):=hI_ ⟨HWI.out.fd hi,HWI.out.fd hj⟩;obtain⟨⟨dp,⟨dl,dd,dg⟩,dbl,dhv⟩,HFI⟩:∃ f,Hid (x.feeds[i]=f):=⟨_,hI_ rfl⟩
 obtain⟨fj,HFJ⟩:=nm_ (x.feeds[j]);rw[HFI.out] at f1 f2 f3 hni HFD;rw[HFJ.out] at g0 g1 g2 g3 hFj HFD;simp only at f1 f2 f3 hni;subst hni;have HFj:=hI_ hFj;have HN1:=hI_ hn1;have HWH:Hid (qa0 x i j=if decide (fj.hd.len<ni)&&(qc9 fj ⟨ni,dd,dg⟩ (qcv ((lvs (x.feeds.getD 0 Fd.none).bl).take ni) fj.hd.len)).2==0 then {x with feeds:=x.feeds.set j (qc9 fj ⟨ni,dd,dg⟩ (qcv ((lvs (x.feeds.getD 0 Fd.none).bl).take ni) fj.hd.len)).1} else x):=hI_ (by
  unfold qa0 qdj qet;rw[hL,HFD.out.1,HFD.out.2];simp only[Bool.true_and,Int.toNat_natCast];rfl)
 have HN2:=hI_ hn2;have hnb:(ni:Int)≤1000:=a_;clear hv hF hFr hFi hFj hC hL hn1 hn2 hn3 hn4 f0 f4 f5;go_enter Tryz.func142,Tryz.ntmps142
 go_upto_region 0 with fail
 go_cut [6,7] (fun s6 s7 wx=>qor w wx ⟨ni,dd,dg⟩ fj.hd s6 s7)
 case first=>
  go_region_held3 (fun w'=>w'.cell? ⟨q,o+2,none⟩=some (.slice (some ⟨gF,0,none⟩) x.feeds.length cF)∧w'.cell? ⟨gF,i*6+1,none⟩=some (.int .i64 (ni:Int))∧w'.cell? ⟨gF,i*6+2,none⟩=some (.int .i64 dd)∧w'.cell? ⟨gF,i*6+3,none⟩=some (.int .i64 dg)∧w'.cell? ⟨gF,j*6+1,none⟩=some (.int .i64 fj.hd.len)∧w'.cell? ⟨gF,j*6+2,none⟩=some (.int .i64 fj.hd.dg)∧w'.cell? ⟨gF,j*6+3,none⟩=some (.int .i64 fj.hd.sg))
   (with_reducible refine⟨Eq.trans (Below.cell (B:=w.heap.size) ?_ hql) t2,Eq.trans (Below.cell (B:=w.heap.size) ?_ hgl) f1,Eq.trans (Below.cell (B:=w.heap.size) ?_ hgl) f2,Eq.trans (Below.cell (B:=w.heap.size) ?_ hgl) f3,Eq.trans (Below.cell (B:=w.heap.size) ?_ hgl) g1,Eq.trans (Below.cell (B:=w.heap.size) ?_ hgl) g2,Eq.trans (Below.cell (B:=w.heap.size) ?_ hgl) g3⟩ <;> (repeat(first|with_reducible exact bR_ _ _|with_reducible exact hb04|with_reducible exact hb05|with_reducible exact hb06|with_reducible refine qab ?_ _|with_reducible refine qac ?_|(with_reducible refine qae ?_ ?_ _ _ _ _ _ _;rotate_left;(first|exact nr_ _|omega|(simp;done)|(simp;omega)))));done)
   (fail)
  all_goals
   go_wp2
   go_meet
  · exact qom w ⟨ni,dd,dg⟩ fj.hd
  · exact qon w ⟨ni,dd,dg⟩ fj.hd
 case rest=>
  obtain⟨y,z,rfl,rfl,hy,hz,hb⟩:=hcut;obtain⟨W1,rfl⟩:∃ W,W=wc:=⟨_,rfl⟩
  have HB:=hI_ hb;have ly:=qai hy;have lz:=qai hz;have lq:=nL_ hql hb.size;have lg:=nL_ hgl hb.size;have u2:=(hb.cell (p:=⟨q,o+2,none⟩) hql).trans t2;have r0:=(hb.cell (p:=⟨gF,j*6,none⟩) hgl).trans g0;have r1:=(hb.cell (p:=⟨gF,j*6+1,none⟩) hgl).trans g1;have r2:=(hb.cell (p:=⟨gF,j*6+2,none⟩) hgl).trans g2;have r3:=(hb.cell (p:=⟨gF,j*6+3,none⟩) hgl).trans g3;have r4:=(hb.cell (p:=⟨gF,j*6+4,none⟩) hgl).trans g4;have r5:=(hb.cell (p:=⟨gF,j*6+5,none⟩) hgl).trans g5;obtain⟨x0,x1,x2,xf⟩:=qaS hy;obtain⟨z0,z1,z2,zf⟩:=qaS hz;have HFB:=hI_ (HF.out.below hb);clear t2 f1 f2 f3 g0 g1 g2 g3 g4 g5 hy hz hb xf z1 z2 zf;by_cases hle:(ni:Int)≤fj.hd.len
  · have hlt:decide (fj.hd.len<(ni:Int))=false:=decide_eq_false a_;have HR:Hid (qa0 x i j=x):=hI_ (by rw[HWH.out,hlt];rfl);clear hlt;go_wp2_with fail
    refine bodyPost_ret (results_none Tryz.results142 _ _ _) rfl ?_;rw[HR.out];exact⟨rfl,HFB.out.mono (nr_ _) (Nat.le_trans HC.out HB.out.size),qaP HB.out⟩
  have hlt:fj.hd.len<(ni:Int):=a_;obtain⟨G,HGG⟩:=nm_ (qcv ((lvs (x.feeds.getD 0 Fd.none).bl).take ni) fj.hd.len);obtain⟨gf,c,HG⟩:∃ gf c,Hid (qc9 fj ⟨ni,dd,dg⟩ G=(gf,c)):=⟨_,_,hI_ rfl⟩
  rw[HGG.out,HG.out,decide_eq_true hlt] at HWH;have HCL:Hid (∀ W,bB W1 W→Calls Tryz.prog 145 #[.pointer (some ⟨q,o,none⟩),.int .i64 (ni:Int)] W fun e w'=>∃ v',e=.returned v'∧O1 (Value.int .i64) W.heap.size 3 w' v' ((lvs (x.feeds.getD 0 Fd.none).bl).take ni)∧bB W w'):=
   hI_ fun W hW=>qj1 x.feeds ni q o _ W ((hW.cell (p:=⟨q,o+2,none⟩) lq).trans u2) (HFB.out.r.below hW) hn0 HN1.out HWI.out.len0.2.1 HWI.out.txt
  have HFJ1:=hI_ (HFj.out.below' HB.out);clear hlt;go_upto_region 2 with fail
  go_cut [8,9] (fun s8 s9 wx=>qmq W1.heap.size W1 wx gf c s8 s9)
  case first=>
   go_region_held3 (fun w'=>w'.cell? ⟨q,o+2,none⟩=some (.slice (some ⟨gF,0,none⟩) x.feeds.length cF)∧w'.cell? ⟨gF,j*6,none⟩=some (.int .i64 fj.pub)∧w'.cell? ⟨gF,j*6+1,none⟩=some (.int .i64 fj.hd.len)∧w'.cell? ⟨gF,j*6+2,none⟩=some (.int .i64 fj.hd.dg)∧w'.cell? ⟨gF,j*6+3,none⟩=some (.int .i64 fj.hd.sg)∧w'.cell? ⟨gF,j*6+4,none⟩=some (vb)∧w'.cell? ⟨gF,j*6+5,none⟩=some (hb')∧w'.cell? ⟨y,0,none⟩=some (.int .i64 (ni:Int))∧w'.cell? ⟨y,1,none⟩=some (.int .i64 dd)∧w'.cell? ⟨y,2,none⟩=some (.int .i64 dg)∧w'.cell? ⟨z,0,none⟩=some (.int .i64 fj.hd.len))
    (with_reducible refine⟨Eq.trans (Below.cell (B:=W1.heap.size) ?_ lq) u2,Eq.trans (Below.cell (B:=W1.heap.size) ?_ lg) r0,Eq.trans (Below.cell (B:=W1.heap.size) ?_ lg) r1,Eq.trans (Below.cell (B:=W1.heap.size) ?_ lg) r2,Eq.trans (Below.cell (B:=W1.heap.size) ?_ lg) r3,Eq.trans (Below.cell (B:=W1.heap.size) ?_ lg) r4,Eq.trans (Below.cell (B:=W1.heap.size) ?_ lg) r5,Eq.trans (Below.cell (B:=W1.heap.size) ?_ ly) x0,Eq.trans (Below.cell (B:=W1.heap.size) ?_ ly) x1,Eq.trans (Below.cell (B:=W1.heap.size) ?_ ly) x2,Eq.trans (Below.cell (B:=W1.heap.size) ?_ lz) z0⟩ <;> (repeat(first|with_reducible exact bR_ _ _|with_reducible exact hb04|with_reducible exact hb05|with_reducible exact hb06|with_reducible refine qab ?_ _|with_reducible refine qac ?_|(with_reducible refine qae ?_ ?_ _ _ _ _ _ _;rotate_left;(first|exact nr_ _|omega|(simp;done)|(simp;omega)))));done)
    (first
      |(go_at_call 145;refine(HCL.out _ m_).mono ?_;rintro e w4 ⟨v4,rfl,ho4,hb4⟩;have hb04:bB W1 w4:=qb6 m_ hb4;have hs04:=hb04.size)
      |(go_at_call 210;refine(qhc HGG _ _ (ho4.r1.below i_)).mono ?_;rintro e w5 ⟨v5,rfl,ho5,hb5⟩;have hb05:bB W1 w5:=qb6 m_ hb5;have hs05:=hb05.size)
      |(go_at_call 209;refine(qiU (h:=⟨ni,dd,dg⟩) HG _ _ _ _ (HFJ1.out.below' m_) (ho5.r1.below i_)).mono ?_;rintro e w6 ⟨ub,uh,rfl,ho6,hb6⟩
        obtain⟨uA,uc,rfl⟩:=ho6.bl.sl;obtain⟨hA,hc,rfl⟩:=ho6.hv.sl;have hb06:bB W1 w6:=qb6 m_ hb6;have hs4:=hb4.size;have hs5:=hb5.size;have hs6:=hb6.size;have hs06:=hb06.size;try(first
          |(have hz6:=(hb6.block _ (qaB w5 _)).trans (heap_alloc_new w5 _);obtain⟨k0,k1,k2,k3,k4,k5,kf⟩:=qaa hz6)
          |(have hz6:=(hb6.block _ (nL_ (qaB w4 _) hs5)).trans ((hb5.block _ (qaB w4 _)).trans (heap_alloc_new w4 _));obtain⟨k0,k1,k2,k3,k4,k5,kf⟩:=qaa hz6)
          |(have hz6:=(hb6.block _ (nL_ (nL_ (qaB W1 _) hs4) hs5)).trans ((hb5.block _ (nL_ (qaB W1 _) hs4)).trans ((hb4.block _ (qaB W1 _)).trans (heap_alloc_new W1 _)));obtain⟨k0,k1,k2,k3,k4,k5,kf⟩:=qaa hz6))))
   all_goals
    go_wp2
    go_meet
   · exact qlz ho6 a_ hb06 hs06
   · exact qhj ho6 (qaB _ _) hb06 hz6 hs05
   · exact qhj ho6 (nL_ (qaB _ _) hs5) hb06 hz6 hs04
   · exact qhj ho6 (nL_ (nL_ (qaB _ _) hs4) hs5) hb06 hz6 (nr_ _)
  case rest=>
   obtain⟨y8,vb8,vh8,rfl,rfl,hfb,hb8,hy8⟩:=hcut;obtain⟨Wx,rfl⟩:∃ W,W=wc:=⟨_,rfl⟩
   have HFB8:=hI_ hfb;have HFX:=HFB.out.below hb8;have HBX:=hI_ (HB.out.trans (hb8.mono HB.out.size));have hs8:=hb8.size;have v2:=(hb8.cell (p:=⟨q,o+2,none⟩) lq).trans u2;obtain⟨vA,vc,rfl⟩:=hfb.fo.bl.sl;obtain⟨uA,uc,rfl⟩:=hfb.fo.hv.sl;have c0:=hfb.c0;have c1:=hfb.c1;have c2:=hfb.c2;have c3:=hfb.c3;have c4:=hfb.c4;have c5:=hfb.c5;clear u2 r0 r1 r2 r3 r4 r5 x0 x1 x2 z0;by_cases hc:c=0;rotate_left
   · have hc1:(c==0)=false:=by rw[beq_eq_false_iff_ne];exact hc
     have HR:Hid (qa0 x i j=x):=hI_ (by rw[HWH.out,hc1,Bool.and_false];rfl);have HFXH:=hI_ HFX;clear hc hfb hb8 HFX;go_wp2_with fail
     refine bodyPost_end (results_none Tryz.results142 _ _ _) rfl ?_;rw[HR.out];exact⟨rfl,HFXH.out.mono (nr_ _) (Nat.le_trans HC.out HBX.out.size),qaP HBX.out⟩
   subst hc;have HR:Hid ((qa0 x i j).feeds=x.feeds.set j gf):=hI_ (by rw[HWH.out];rfl);obtain⟨h1,h2⟩:=HFX.put hj hfb.fo (Nat.le_trans HC.out HB.out.size);obtain⟨W18,HW18⟩:=nm_ (((((((Wx.setCell ⟨gF,j*6,none⟩ (.int .i64 gf.pub)).setCell ⟨gF,j*6+1,none⟩ (.int .i64 gf.hd.len)).setCell ⟨gF,j*6+2,none⟩ (.int .i64 gf.hd.dg)).setCell ⟨gF,j*6+3,none⟩ (.int .i64 gf.hd.sg)).setCell ⟨gF,j*6+4,none⟩ (.slice vA gf.bl.length vc)).setCell ⟨gF,j*6+5,none⟩ (.slice uA gf.hv.length uc)));rw[HW18.out] at h1 h2;have HP1:=hI_ h1;have HP2:=hI_ h2;obtain⟨⟨F,hF⟩,hFf⟩:=HFX.cells;have s0:=hF (j*6) a_;have s1:=hF (j*6+1) a_;have s2:=hF (j*6+2) a_;have s3:=hF (j*6+3) a_;have s4:=hF (j*6+4) a_;have s5:=hF (j*6+5) a_;have hly:=hfb.lt;have n1:gF≠y8:=a_;have n2:y8≠gF:=a_;clear hfb hb8 HFX h1 h2 hF;have lqx:=nL_ lq hs8;have d2:Wx.drew.cell? ⟨q,o+2,none⟩=_:=v2;have e0:Wx.drew.cell? ⟨y8,0,none⟩=_:=c0;have e1:Wx.drew.cell? ⟨y8,1,none⟩=_:=c1;have e2:Wx.drew.cell? ⟨y8,2,none⟩=_:=c2;have e3:Wx.drew.cell? ⟨y8,3,none⟩=_:=c3;have e4:Wx.drew.cell? ⟨y8,4,none⟩=_:=c4;have e5:Wx.drew.cell? ⟨y8,5,none⟩=_:=c5;go_wp2_with fail
   refine qci (fun w'=>w'.cell? ⟨q,o+2,none⟩=some (.slice (some ⟨gF,0,none⟩) x.feeds.length cF)∧w'.cell? ⟨y8,0,none⟩=some (.int .i64 gf.pub)∧w'.cell? ⟨y8,1,none⟩=some (.int .i64 gf.hd.len)∧w'.cell? ⟨y8,2,none⟩=some (.int .i64 gf.hd.dg)∧w'.cell? ⟨y8,3,none⟩=some (.int .i64 gf.hd.sg)∧w'.cell? ⟨y8,4,none⟩=some (.slice vA gf.bl.length vc)∧w'.cell? ⟨y8,5,none⟩=some (.slice uA gf.hv.length uc)) 7 d_ ⟨d2,e0,e1,e2,e3,e4,e5⟩ (fun hS hT=> ?_);refine gT_ ?_ hT hS;clear hT;refine tT_ 0 ?_;refine tT_ 1 ?_;refine tT_ 2 ?_;refine tT_ 3 ?_;refine tT_ 4 ?_;refine tT_ 5 ?_;refine tT_ 6 ?_;refine eT_ fun hT=>?_;refine qch rfl d_ d_ (fun K7 hK7=> ?_);go_simp;rw[HW18.out];refine hK7.out _ _ ?_;go_wp2_with fail
   refine bodyPost_end (results_none Tryz.results142 _ _ _) rfl ?_;rw[HR.out];refine⟨rfl,?_,qat (qat (qaP HBX.out) HP2.out) (qaP (qac (bR_ _ _)))⟩;rw[List.length_set];exact(HP1.out.below (qac (bR_ _ _))).mono (nr_ _) HP2.out.size
def qop(B:Nat)(W wx:World)(f:Fd)(c:Bool)(s9 s10:Value):Prop:=∃ y vb vh,s9=.pointer (some ⟨y,0,none⟩)∧s10=.bool c∧FB B y wx f vb vh∧Below B W wx∧B≤y
theorem qnl{B:Nat}{W w:World}{f:Fd}{c:Bool}{vb vh:Value}{D:Nat}(hf:qaK D w f vb vh)(hD:B≤D)(hb:Below B W w)(hB:B≤w.heap.size):
 qop B W (w.alloc (.cells #[.int .i64 f.pub,.int .i64 f.hd.len,.int .i64 f.hd.dg,.int .i64 f.hd.sg,vb,vh] 50)) f c (.pointer (some ⟨w.heap.size,0,none⟩)) (.bool c):=
 ⟨_,vb,vh,rfl,rfl,FB.made (hf.mono hD),hb.alloc hB _,hB⟩
theorem qgZ{B y:Nat}{W w:World}{f:Fd}{c:Bool}{vb vh x0 x1 x2 x3 x4 x5:Value}{D:Nat}(hf:qaK D w f vb vh)(hD:y<D)(hb:Below B W w)(hy:w.heap[y]? =some (.cells #[x0,x1,x2,x3,x4,x5] 50 (0,0)))(hB:B≤y):
 qop B W ((((((w.setCell ⟨y,0,none⟩ (.int .i64 f.pub)).setCell ⟨y,1,none⟩ (.int .i64 f.hd.len)).setCell ⟨y,2,none⟩ (.int .i64 f.hd.dg)).setCell ⟨y,3,none⟩ (.int .i64 f.hd.sg)).setCell ⟨y,4,none⟩ vb).setCell ⟨y,5,none⟩ vh) f c (.pointer (some ⟨y,0,none⟩)) (.bool c):=
 ⟨_,vb,vh,rfl,rfl,⟨qcU hy _ _ _ _ _ _,(hf.set6 hD _ _ _ _ _ _).mono a_⟩,qae hb hB _ _ _ _ _ _,hB⟩
theorem qkj{f o:Fd}{i:Int}{t:ByteArray}{proof:List Int}{ok:Bool}(h:Hid (qes f i t proof=(o,ok)))(vb vh pv:Value)(w:World)(hf:qaU w f vb vh)(ht:t.size≤maxLen)(hp:RI w pv proof):
 Calls Tryz.prog 143 #[.agg #[.int .i64 f.pub,.int .i64 f.hd.len,.int .i64 f.hd.dg,.int .i64 f.hd.sg,vb,vh],.int .i64 i,.string t,pv] w (qg9 o ok w):=by
 have:=qk5 f i t proof vb vh pv w hf ht hp;rw[h.out] at this;exact this
end Go.Proofs.YtekaaekpdebloaaGreatDoor

/- Words and walks of the law. -/
import Derived.Test.YtekaaekpdebloaaGreatDoorZv
import Derived.Test.YtekaaekpdebloaaGreatDoorZw
set_option linter.unusedVariables false
set_option linter.unusedSimpArgs false
namespace Go.Proofs.YtekaaekpdebloaaGreatDoor
open Go.RowKit
attribute [local go_sem ↓] Go.wp_at_zero Go.wp_at_succ

set_option maxHeartbeats 6400000 in
set_option maxRecDepth 100000 in
theorem qfn(g P:Nat)(w:World)(hr:Rdr w g P)(hP:P≤80000):Calls Tryz.prog 47 #[.pointer (some ⟨g,0,none⟩)] w (qi5 g (P+4000) w):=by
 have hgl:=hr.lt;obtain⟨W0,HW0⟩:=nm_ (w.alloc (.cells #[.int .i64 0,.int .i64 0,.slice none 0 0,.slice none 0 0,.slice none 0 0,.slice none 0 0] 28));have hb0:Below w.heap.size w W0:=by rw[←HW0.out];exact qab (bR_ _ _) _
 have hz0:W0.heap[w.heap.size]? =some (.cells #[.int .i64 0,.int .i64 0,.slice none 0 0,.slice none 0 0,.slice none 0 0,.slice none 0 0] 28 (0,0)):=by rw[←HW0.out];exact heap_alloc_new _ _
 have hr0:=hr.below hb0;have HO0:Hid (qbb g w W0):=hI_ (qbb.of_below hb0);have hne:∀ k,w.heap.size≤k→some k≠some g:=fun k hk e=>by have:=Option.some.inj e;omega
 have HNE:=hI_ hne;have HZ0:=hI_ hz0;clear hne hb0 hr hz0;go_enter Tryz.func47,Tryz.ntmps47
 go_wp2_with fail
 rw[HW0.out];refine(qiu g P W0 hr0 a_).mono ?_;rintro e w1 ⟨x,uF,uL,uA,uN,rfl,hd,hs,r1,o1⟩;obtain⟨⟨A1,c1,rfl⟩,⟨A2,c2,rfl⟩,⟨A3,c3,rfl⟩,⟨A4,c4,rfl⟩⟩:=hs.sl;have hz1:=(o1.block _ (qai HZ0.out) (HNE.out _ (nr_ _))).trans HZ0.out;have ho1:=HO0.out.trans o1;obtain⟨W1,HW1⟩:=nm_ (w1.alloc (.cells #[.int .i64 x.sec,.int .i64 x.bad,.slice A1 x.feeds.length c1,.slice A2 x.links.length c2,.slice A3 x.asked.length c3,.slice A4 x.net.length c4] 28));have HW:Hid (qg6 g (P+200) w w.heap.size w1.heap.size x (.slice A1 x.feeds.length c1) (.slice A2 x.links.length c2) (.slice A3 x.asked.length c3) (.slice A4 x.net.length c4) W1):=hI_ (by
  rw[←HW1.out];exact⟨qau hz1,heap_alloc_new _ _,hs.below (qab (bR_ _ _) _),r1.below (qab (bR_ _ _) _),ho1.thenB (qab (bR_ _ _) _),hd,rfl,qai hz1,hgl⟩)
 clear hr0 hd hs r1 o1 hz1 ho1;go_wp2_with fail
 rw[HW1.out];refine(qan g (P+200) 50 W1 HW.out.r a_ a_ a_).mono ?_;rintro e w2 ⟨n,rfl,n1,n2,r2,o2⟩;have HW2:=hI_ (HW.out.only o2 r2);clear r2 o2;obtain⟨y,hy⟩:∃ y,w1.heap.size=y:=⟨_,rfl⟩
 rw[hy] at HW2;go_wp2_with fail
 clear hy;go_loopw [5] (fun i wr=>∃ (x:Wd) (uF uL uA uN:Value) (i':Nat),i=.int .i64 i'∧(i':Int)≤n∧qg6 g (P+201+60*i') w w.heap.size y x uF uL uA uN wr) (fun i _=>(n-intOf i).toNat)
 case atStart=>exact⟨x,_,_,_,_,0,rfl,a_,HW2.out.mono a_⟩
 case round=>
  obtain⟨x,uF,uL,uA,uN,i,rfl,hik,hW⟩:=hrel;obtain⟨⟨A1,c1,rfl⟩,⟨A2,c2,rfl⟩,⟨A3,c3,rfl⟩,⟨A4,c4,rfl⟩⟩:=hW.s.sl;clear HW HW2;have HW:=hI_ hW;by_cases hlt:(i:Int)<n
  · obtain⟨y0,y1,y2,y3,y4,y5,yf⟩:=qaa hW.b;have hyl:=qai hW.b;have HWI:=hI_ hW.d.v.wi;clear hW;go_wp2_with fail
    go_region_with
     (first
       |(go_at_call 48;refine(qiv g (P+201+60*i) x _ _ _ _ _ (HW.out.r.below i_) a_ (HW.out.s.below i_) HWI.out a_).mono ?_;rintro e w8 ⟨⟨kd,ea,eb,ec,et⟩,rfl,ht,r8,o8⟩
         have HW8:=hI_ (HW.out.only ((qbb.of_below i_).trans o8) r8);obtain⟨t0,t1,t2,t3,t4,t5,tf⟩:=qaa HW8.out.b;have HT:=hI_ ht;clear r8 o8 ht)
       |(go_at_call 54;refine(qnJ x ⟨kd,ea,eb,ec,et⟩ _ _ _ _ w8 HW8.out.s HWI.out a_ (Nat.le_trans HT.out s_)).mono ?_;rintro e w9 ⟨vF',vL',vA',vN',rfl,hs9,hb9⟩
         obtain⟨x',HX'⟩:∃ x',Hid (wdo x ⟨kd,ea,eb,ec,et⟩=x'):=⟨_,hI_ rfl⟩
         rw[HX'.out] at hs9;rw[HX'.out];obtain⟨⟨B1,d1,rfl⟩,⟨B2,d2,rfl⟩,⟨B3,d3,rfl⟩,⟨B4,d4,rfl⟩⟩:=hs9.sl;have HS9:=hI_ hs9;have HB9:=hI_ hb9;obtain⟨s0,s1,s2,s3,s4,s5,sf⟩:=qaa (HW8.out.below hb9).b;clear hs9 hb9 t0 t1 t2 t3 t4 t5 tf y0 y1 y2 y3 y4 y5 yf))
    all_goals
     go_wp2
     go_roundw
     case rel=>exact⟨x',_,_,_,_,i+1,t_,a_,(HW8.out.put HB9.out HS9.out (by rw[←HX'.out];exact HW8.out.d.do_ _)).mono a_⟩
     case measure=>simp[intOf];omega
  · obtain⟨y0,y1,y2,y3,y4,y5,yf⟩:=qaa hW.b;obtain⟨z0,z1,z2,z3,z4,z5,zf⟩:=qaa hW.z;have HRET:=hI_ (hW.mono (P':=P+4000) a_).ret;clear hW;go_wp2_with fail
    refine bodyPost_ret (v:=.agg #[.int .i64 x.sec,.int .i64 x.bad,.slice A1 x.feeds.length c1,.slice A2 x.links.length c2,.slice A3 x.asked.length c3,.slice A4 x.net.length c4]) (by simp[results,Tryz.results47,go_sem,z0,z1,z2,z3,z4,z5]) rfl HRET.out
end Go.Proofs.YtekaaekpdebloaaGreatDoor
namespace Go.Proofs.YtekaaekpdebloaaGreatDoor
open Go.RowKit

structure qhP (x:Wd):Prop where
 t:∀ j (hj:j<x.net.length),x.net[j].txt.size≤maxLen
 z:qcc x=true→NZ x
theorem DW.drawn{x:Wd}(h:DW x):qhP x:=⟨fun j hj=>Nat.le_trans (h.v.wi.pcs j hj).2.2.1 s_,fun _=>h.z⟩
def qhY(g P:Nat)(w:World)(e:Ending)(w':World):Prop:=∃ x uF uL uA uN,e=.returned (.agg #[.int .i64 x.sec,.int .i64 x.bad,uF,uL,uA,uN])∧qhP x∧WdS w' x uF uL uA uN∧Rdr w' g P∧qbb g w w'
structure qi4 (g P:Nat) (w:World) (q y:Nat) (x:Wd) (vF vL vA vN:Value) (wr:World):Prop where
 z:wr.heap[q]? =some (.cells #[.int .i64 0,.int .i64 0,.slice none 0 0,.slice none 0 0,.slice none 0 0,.slice none 0 0] 28 (0,0))
 b:wr.heap[y]? =some (.cells #[.int .i64 x.sec,.int .i64 x.bad,vF,vL,vA,vN] 28 (0,0))
 s:WdS wr x vF vL vA vN
 r:Rdr wr g P
 o:qbb g w wr
 d:qhP x
 hq:w.heap.size=q
 hg:g<q
theorem qi4.ret{g P q y:Nat}{w wr:World}{x:Wd}{vF vL vA vN:Value}(h:qi4 g P w q y x vF vL vA vN wr):qhY g P w (.returned (.agg #[.int .i64 x.sec,.int .i64 x.bad,vF,vL,vA,vN])) ((((((wr.setCell ⟨q,0,none⟩ (.int .i64 x.sec)).setCell ⟨q,1,none⟩ (.int .i64 x.bad)).setCell ⟨q,2,none⟩ vF).setCell ⟨q,3,none⟩ vL).setCell ⟨q,4,none⟩ vA).setCell ⟨q,5,none⟩ vN):=
 ⟨x,_,_,_,_,rfl,h.d,h.s.set6 h.z _ _ _ _ _ _,qcw h.r h.hg _ _ _ _ _ _,qbZ h.o (by have:=h.hq;omega) _ _ _ _ _ _⟩
theorem qi4.mono{g P P' q y:Nat}{w wr:World}{x:Wd}{vF vL vA vN:Value}(h:qi4 g P w q y x vF vL vA vN wr)(hP:P≤P'):qi4 g P' w q y x vF vL vA vN wr:=⟨h.z,h.b,h.s,h.r.mono hP,h.o,h.d,h.hq,h.hg⟩
structure WrW (g P:Nat) (w:World) (q y B:Nat) (x:Wd) (vF vL vA vN:Value) (wr:World):Prop where
 z:wr.heap[q]? =some (.cells #[.int .i64 0,.int .i64 0,.slice none 0 0,.slice none 0 0,.slice none 0 0,.slice none 0 0] 28 (0,0))
 b:wr.heap[y]? =some (.cells #[.int .i64 x.sec,.int .i64 x.bad,vF,vL,vA,vN] 28 (0,0))
 c:WdC B wr x vF vL vA vN
 r:Rdr wr g P
 o:qbb g w wr
 d:DW x
 hq:w.heap.size=q
 hqy:q<y
 hg:g<q
 hB:q≤B
 hBw:B≤wr.heap.size
def LWd:List TypeId:=[28]
theorem qlF{w:World}{g o:Nat}(x0 x1 x2 x3 x4 x5:Value):w.grownBy ((((((w.setCell ⟨g,o,none⟩ x0).setCell ⟨g,o+1,none⟩ x1).setCell ⟨g,o+2,none⟩ x2).setCell ⟨g,o+3,none⟩ x3).setCell ⟨g,o+4,none⟩ x4).setCell ⟨g,o+5,none⟩ x5) (some g):=
 qat (qat (qat (qat (qat (qaR _ _ _) (qaR _ _ _)) (qaR _ _ _)) (qaR _ _ _)) (qaR _ _ _)) (qaR _ _ _)
theorem qni{w:World}{k:Nat}(h:w.heap[k]? =some (.cells #[.int .i64 1,.int .i64 2] 3 (0,0))):Stb LP (fun w=>RI w (.slice (some ⟨k,0,none⟩) 2 2) [1,2]) w:=by
 intro w' hk;have h':=(hk.2 k _ _ _ h e_).trans h;refine⟨_,_,rfl,⟨k_,fun h=>aj_⟩,s_,fun _=>⟨k,0,rfl,qai h',fun j hj=> ?_⟩⟩;have hj':j=0∨j=1:=by simp at hj;omega
 rcases hj' with rfl|rfl
 · exact cell_of_row _ _ 0 _ _ _ h'
 · exact cell_of_row _ _ 1 _ _ _ h'
theorem qa1.next'{B:Nat}{w w':World}{v:Value}{fs:List Fd}(h:qa1 B w v fs)(hk:qaA [9,4,50] w w'):qa1 B w' v fs:=by
 obtain⟨C,F,h1,h3,h4,h2⟩:=h;exact⟨C,F,h1.keepT hk e_,h3,Nat.le_trans h4 hk.1,fun j hj=>⟨(h2 j hj).1,(h2 j hj).2.1,(h2 j hj).2.2.1,(h2 j hj).2.2.2.1,(h2 j hj).2.2.2.2.1.keep hk e_ e_,(h2 j hj).2.2.2.2.2⟩⟩
theorem qbB.next'{B:Nat}{w w':World}{v:Value}{ls:List (List (Int×Int))}(h:qbB B w v ls)(hk:qaA [109,54] w w'):qbB B w' v ls:=by
 obtain⟨F,h1,h2⟩:=h;exact⟨F,h1.keepT hk e_,fun j hj=>(h2 j hj).next (hk.mono e_)⟩
section
variable {g P P' q y B n cap gr:Nat} {w wr w2:World} {x:Wd} {vF vL vA vN:Value}
theorem WrW.mono(h:WrW g P w q y B x vF vL vA vN wr)(hP:P≤P'):WrW g P' w q y B x vF vL vA vN wr:=⟨h.z,h.b,h.c,h.r.mono hP,h.o,h.d,h.hq,h.hqy,h.hg,h.hB,h.hBw⟩
theorem WrW.only(h:WrW g P w q y B x vF vL vA vN wr)(ho:qbb g wr w2)(hr:Rdr w2 g P'):WrW g P' w q y B x vF vL vA vN w2:=
 ⟨(ho.block _ (qai h.z) (fun e=>by have:=Option.some.inj e;have:=h.hg;omega)).trans h.z,(ho.block _ (qai h.b) (fun e=>by have:=Option.some.inj e;have:=h.hg;have:=h.hqy;omega)).trans h.b,
   h.c.keep (qf7 ho h.r),hr,h.o.trans ho,h.d,h.hq,h.hqy,h.hg,h.hB,Nat.le_trans h.hBw ho.size⟩
theorem WrW.below(h:WrW g P w q y B x vF vL vA vN wr)(hb:Below wr.heap.size wr w2):WrW g P w q y B x vF vL vA vN w2:=h.only (qbb.of_below hb) (h.r.below hb)
theorem WrW.retw(h:WrW g P w q y B x vF vL vA vN wr):qi4 g P w q y x vF vL vA vN wr:=⟨h.z,h.b,h.c.s,h.r,h.o,h.d.drawn,h.hq,h.hg⟩
theorem WrW.gy(h:WrW g P w q y B x vF vL vA vN wr):g<y∧w.heap.size≤y:=by have:=h.hg;have:=h.hqy;have:=h.hq;omega
theorem WrW.sec(h:WrW g P w q y B x vF vL vA vN wr)(s:Int):qi4 g P w q y {x with sec:=s} vF vL vA vN (wr.setCell ⟨y,0,none⟩ (.int .i64 s)):=
 ⟨(Below.heap_setCell _ _ _ _ ao_).trans h.z,qas (i:=0) h.b _,fun w' hk=>let k:=h.c.s.keep (qaA.set (p:=⟨y,0,none⟩) h.b e_ (.int .i64 s)) w' hk;⟨k.feeds,k.links,k.asked,k.net⟩,
   h.r.set (p:=⟨y,0,none⟩) h.gy.1 _,h.o.set (p:=⟨y,0,none⟩) h.gy.2 _,⟨h.d.drawn.t,fun _=>h.d.z⟩,h.hq,h.hg⟩
theorem WrW.bad(h:WrW g P w q y B x vF vL vA vN wr)(s:Int):qi4 g P w q y {x with bad:=s} vF vL vA vN (wr.setCell ⟨y,1,none⟩ (.int .i64 s)):=
 ⟨(Below.heap_setCell _ _ _ _ ao_).trans h.z,qas (i:=1) h.b _,fun w' hk=>let k:=h.c.s.keep (qaA.set (p:=⟨y,1,none⟩) h.b e_ (.int .i64 s)) w' hk;⟨k.feeds,k.links,k.asked,k.net⟩,
   h.r.set (p:=⟨y,1,none⟩) h.gy.1 _,h.o.set (p:=⟨y,1,none⟩) h.gy.2 _,⟨h.d.drawn.t,fun _=>h.d.z⟩,h.hq,h.hg⟩
theorem WrW.links(h:WrW g P w q y B x vF vL vA vN wr){v:Value}{l:List (Int×Int)}(hg:wr.grownBy w2 vL.ownBlock)(hv:qav B 99 w2 v l):qi4 g P w q y {x with links:=l} vF v vA vN (w2.setCell ⟨y,3,none⟩ v):=by
 obtain⟨F,h1,_⟩:=h.c.links;have hk:qaA LWd wr w2:=h1.grew hg e_;have keepT:∀ T:List TypeId,99 ∉ T→qaA T wr w2:=fun T hT=>h1.grew hg hT;have hb2:=(hk.2 y _ _ _ h.b e_).trans h.b;have ks:∀ T:List TypeId,28 ∉ T→qaA T w2 (w2.setCell ⟨y,3,none⟩ v):=fun T hT=>qaA.set (p:=⟨y,3,none⟩) hb2 hT v;have hrd:=h.r.grown hg (fun r e=>by have:=(h1.lt r e).1;have:=h.hB;have:=h.hg;omega);have hon:=h.o.grown hg (fun r e=>by have:=(h1.lt r e).1;have:=h.hB;have:=h.hq;omega);refine⟨(Below.heap_setCell _ _ _ _ ao_).trans ((hk.2 q _ _ _ h.z e_).trans h.z),qas (i:=3) hb2 _,?_,hrd.set (p:=⟨y,3,none⟩) h.gy.1 _,hon.set (p:=⟨y,3,none⟩) h.gy.2 _,⟨h.d.drawn.t,fun _=>h.d.z⟩,h.hq,h.hg⟩;have k1:qaA [9,4,50] wr w2:=keepT _ e_;have k2:qaA [109,54] wr w2:=keepT _ e_;exact WdS.of ((h.c.feeds.next' (k1.trans (ks _ e_))).stb) ((hv.next (T:=LT2) (ks _ e_) e_).stb e_) ((h.c.asked.next' (k2.trans (ks _ e_))).stb) (h.c.net.next ((keepT LTP e_).trans (ks _ e_))).stb
theorem WrW.ask(h:WrW g P w q y B x vF vL (.slice (some ⟨gr,0,none⟩) n cap) vN wr){j:Nat}{l:List (Int×Int)}{u:Value}(hj:j<x.asked.length)(hu:Stb LQ (fun w=>RP w u l) wr):
 qi4 g P w q y {x with asked:=x.asked.set j l} vF vL (.slice (some ⟨gr,0,none⟩) n cap) vN (wr.setCell ⟨gr,j,none⟩ u):=by
 obtain⟨F,h1,_⟩:=h.c.asked;have hlt:=h1.lt gr rfl;have hB:=h.hB;have hgq:=h.hg;have hqw:=h.hq;obtain⟨cur,hty⟩:=h1.row0 gr rfl;have hk:qaA LWd wr (wr.setCell ⟨gr,j,none⟩ u):=qaA.set1 hty e_ u;exact⟨(hk.2 q _ _ _ h.z e_).trans h.z,(hk.2 y _ _ _ h.b e_).trans h.b,h.c.putA hj hu,h.r.set (p:=⟨gr,j,none⟩) (by show g<gr;omega) _,h.o.set (p:=⟨gr,j,none⟩) (by show w.heap.size≤gr;omega) _,⟨h.d.drawn.t,fun _=>h.d.z⟩,h.hq,h.hg⟩
theorem WrW.feed(h:WrW g P w q y B x (.slice (some ⟨gr,0,none⟩) n cap) vL vA vN wr){j:Nat}{f:Fd}{vb vh:Value}(hj:j<x.feeds.length)(hf:Stb LB (fun w=>qaU w f vb vh) wr)(hz:qaq f=true→f.hd.len=0→f.hd=Hd.zero):
 qi4 g P w q y {x with feeds:=x.feeds.set j f} (.slice (some ⟨gr,0,none⟩) n cap) vL vA vN
  ((((((wr.setCell ⟨gr,j*6,none⟩ (.int .i64 f.pub)).setCell ⟨gr,j*6+1,none⟩ (.int .i64 f.hd.len)).setCell ⟨gr,j*6+2,none⟩ (.int .i64 f.hd.dg)).setCell ⟨gr,j*6+3,none⟩ (.int .i64 f.hd.sg)).setCell ⟨gr,j*6+4,none⟩ vb).setCell ⟨gr,j*6+5,none⟩ vh):=by
 obtain⟨C,F,h1,_⟩:=h.c.feeds;have hlt:=h1.lt gr rfl;have hB:=h.hB;have hgq:=h.hg;have hqw:=h.hq;obtain⟨cur,hty⟩:=h1.row0 gr rfl;have hk:qaA LWd wr _:=qb1 (o:=j*6) hty e_ (.int .i64 f.pub) (.int .i64 f.hd.len) (.int .i64 f.hd.dg) (.int .i64 f.hd.sg) vb vh;have hg6:wr.grownBy _ (some gr):=qlF (o:=j*6) (.int .i64 f.pub) (.int .i64 f.hd.len) (.int .i64 f.hd.dg) (.int .i64 f.hd.sg) vb vh;refine⟨(hk.2 q _ _ _ h.z e_).trans h.z,(hk.2 y _ _ _ h.b e_).trans h.b,h.c.putF hj hf,h.r.grown hg6 (fun r e=>by cases e;omega),h.o.grown hg6 (fun r e=>by cases e;omega),⟨h.d.drawn.t,fun hv=> ?_⟩,h.hq,h.hg⟩;refine h.d.z.set (hz ?_);have:=((qcq.1 hv).fd j ae_).v;simpa using this
theorem WrW.net(h:WrW g P w q y B x vF vL vA vN wr){v:Value}{l:List Pc}(hg:wr.grownBy w2 vN.ownBlock)(hv:qaW B w2 v l)(ht:∀ j (hj:j<l.length),l[j].txt.size≤maxLen):qi4 g P w q y {x with net:=l} vF vL vA v (w2.setCell ⟨y,5,none⟩ v):=by
 obtain⟨F,h1,_⟩:=h.c.net;have hk:qaA LWd wr w2:=h1.grew hg e_;have keepT:∀ T:List TypeId,57 ∉ T→qaA T wr w2:=fun T hT=>h1.grew hg hT;have hb2:=(hk.2 y _ _ _ h.b e_).trans h.b;have ks:∀ T:List TypeId,28 ∉ T→qaA T w2 (w2.setCell ⟨y,5,none⟩ v):=fun T hT=>qaA.set (p:=⟨y,5,none⟩) hb2 hT v;have hrd:=h.r.grown hg (fun r e=>by have:=(h1.lt r e).1;have:=h.hB;have:=h.hg;omega);have hon:=h.o.grown hg (fun r e=>by have:=(h1.lt r e).1;have:=h.hB;have:=h.hq;omega);refine⟨(Below.heap_setCell _ _ _ _ ao_).trans ((hk.2 q _ _ _ h.z e_).trans h.z),qas (i:=5) hb2 _,?_,hrd.set (p:=⟨y,5,none⟩) h.gy.1 _,hon.set (p:=⟨y,5,none⟩) h.gy.2 _,⟨ht,fun _=>h.d.z⟩,h.hq,h.hg⟩;exact WdS.of ((h.c.feeds.next ((keepT LTF e_).trans (ks _ e_))).stb) ((h.c.links.next ((keepT LT1 e_).trans (ks _ e_)) e_).stb e_) ((h.c.asked.next ((keepT LTA e_).trans (ks _ e_))).stb) (hv.next (ks _ e_)).stb
theorem WrW.prf(h:WrW g P w q y B x vF vL vA (.slice (some ⟨gr,0,none⟩) n cap) wr){m:Nat}{l:List Int}{u:Value}(hm:m<x.net.length)(hu:Stb LP (fun w=>RI w u l) wr):
 qi4 g P w q y {x with net:=x.net.set m {x.net[m] with prf:=l}} vF vL vA (.slice (some ⟨gr,0,none⟩) n cap) (wr.setCell ⟨gr,m*6+5,none⟩ u):=by
 obtain⟨F,h1,h2⟩:=h.c.net;have hlt:=h1.lt gr rfl;have hB:=h.hB;have hgq:=h.hg;have hqw:=h.hq;obtain⟨cur,hty⟩:=h1.row0 gr rfl;obtain⟨_,_,he⟩:=h1.rn.sl;obtain rfl:n=x.net.length:=J_;obtain⟨h3,h4⟩:=h1.setAt (t:=m*6+5) a_ u;have kT:∀ T:List TypeId,57 ∉ T→qaA T wr (wr.setCell ⟨gr,m*6+5,none⟩ u):=fun T hT=>qaA.set1 hty hT u;have hk:=kT LWd e_;refine⟨(hk.2 q _ _ _ h.z e_).trans h.z,(hk.2 y _ _ _ h.b e_).trans h.b,?_,h.r.set (p:=⟨gr,m*6+5,none⟩) (by show g<gr;omega) _,h.o.set (p:=⟨gr,m*6+5,none⟩) (by show w.heap.size≤gr;omega) _,⟨fun j hj=> ?_,fun _=>h.d.z⟩,h.hq,h.hg⟩
 · refine WdS.of (h.c.feeds.next (kT LTF e_)).stb ((h.c.links.next (kT LT1 e_) e_).stb e_) (h.c.asked.next (kT LTA e_)).stb ?_;intro w' hk';refine⟨_,by rw[List.length_set];exact(h3.keepT hk' e_).rn,fun j hj=> ?_⟩;have hj':j<x.net.length:=ae_;obtain⟨f0,f1,f2,f3,f4,f5⟩:=h2 j hj';by_cases hjm:j=m
   · subst hjm;simp only[List.getElem_set_self];rw[if_neg a_,if_neg a_,if_neg a_,if_neg a_,if_neg a_,if_pos trivial];exact⟨f0,f1,f2,f3,f4,(hu.next (kT LP e_)) w' (hk'.mono e_)⟩
   · simp only[List.getElem_set_ne (Ne.symm hjm)];rw[if_neg a_,if_neg a_,if_neg a_,if_neg a_,if_neg a_,if_neg a_];exact⟨f0,f1,f2,f3,f4,(f5.next (kT LP e_)) w' (hk'.mono e_)⟩
 · have hj':j<x.net.length:=ae_;by_cases hjm:j=m
   · subst hjm;simp only[List.getElem_set_self];exact h.d.drawn.t j hj'
   · simp only[List.getElem_set_ne (Ne.symm hjm)];exact h.d.drawn.t j hj'
theorem WrW.tail(h:WrW g P w q y B x vF vL (.slice (some ⟨gr,0,none⟩) n cap) vN wr)(hn:0<x.asked.length){v:Value}(hv:v=.slice (some ⟨gr,1,none⟩) (n-1) (cap-1)∨(n=1∧∃ A c,v=.slice A 0 c∧(A=none→c=0)∧c≤maxLen)):
 qi4 g P w q y {x with asked:=x.asked.drop 1} vF vL v vN (wr.setCell ⟨y,4,none⟩ v):=by
 obtain⟨F,h1,h2⟩:=h.c.asked;obtain⟨_,_,he⟩:=h1.rn.sl;obtain rfl:n=x.asked.length:=J_;have ks:∀ T:List TypeId,28 ∉ T→qaA T wr (wr.setCell ⟨y,4,none⟩ v):=fun T hT=>qaA.set (p:=⟨y,4,none⟩) h.b hT v;refine⟨(Below.heap_setCell _ _ _ _ ao_).trans h.z,qas (i:=4) h.b _,?_,h.r.set (p:=⟨y,4,none⟩) h.gy.1 _,h.o.set (p:=⟨y,4,none⟩) h.gy.2 _,⟨h.d.drawn.t,fun _=>h.d.z⟩,h.hq,h.hg⟩;refine WdS.of (h.c.feeds.next (ks LTF e_)).stb ((h.c.links.next (ks LT1 e_) e_).stb e_) ?_ (h.c.net.next (ks LTP e_)).stb;intro w' hk';have h1':=(h1.keepT (ks LTA e_) e_).keepT hk' e_;have h2':∀ j (hj:j<x.asked.length),RP w' (F j) x.asked[j]:=fun j hj=>((h2 j hj).next (ks LQ e_)) w' (hk'.mono e_);refine⟨fun t=>F (t+1),?_,fun j hj=> ?_⟩
 · rw[List.length_drop];rcases hv with rfl|⟨h0,A,c,rfl,ha,hc⟩
   · obtain⟨A',c',he',q1,q2,q3⟩:=h1'.rn;injection he' with e1 e2 e3
     subst e1;subst e3;obtain⟨b,o,hA,hb,hcl⟩:=q3 a_;cases hA;exact⟨_,_,rfl,⟨a_,fun h=>aj_⟩,a_,fun hl=>⟨gr,1,rfl,hb,fun t ht=>by
      have:=hcl (t+1) a_;rw[show 1+t=0+(t+1) by omega];exact this⟩⟩
   · exact⟨A,c,by rw[h0],⟨a_,fun h=>ha h⟩,hc,fun hl=>a_⟩
 · have hj':j+1<x.asked.length:=by simp at hj;omega
   have e:(x.asked.drop 1)[j]'hj=x.asked[j+1]:=by rw[List.getElem_drop];congr 1;omega
   show RP w' (F (j+1)) ((x.asked.drop 1)[j]'hj);rw[e];exact h2' (j+1) hj'
end

theorem WrW.boxL{g P q y B:Nat}{w wr w2:World}{x:Wd}{vF vL vA vN:Value}(h:WrW g P w q y B x vF vL vA vN wr)(hg:wr.grownBy w2 vL.ownBlock):w2.heap[y]? =some (.cells #[.int .i64 x.sec,.int .i64 x.bad,vF,vL,vA,vN] 28 (0,0)):=by
 obtain⟨F,h1,_⟩:=h.c.links;have hk:qaA LWd wr w2:=h1.grew hg e_;exact(hk.2 y _ _ _ h.b e_).trans h.b
theorem WrW.boxN{g P q y B:Nat}{w wr w2:World}{x:Wd}{vF vL vA vN:Value}(h:WrW g P w q y B x vF vL vA vN wr)(hg:wr.grownBy w2 vN.ownBlock):w2.heap[y]? =some (.cells #[.int .i64 x.sec,.int .i64 x.bad,vF,vL,vA,vN] 28 (0,0)):=by
 obtain⟨F,h1,_⟩:=h.c.net;have hk:qaA LWd wr w2:=h1.grew hg e_;exact(hk.2 y _ _ _ h.b e_).trans h.b
theorem qkr{W:World}{a o z:Nat}{u:Value}(h:W.cell? ⟨a,o,none⟩=some u)(hz:a≠z)(i:Nat)(x:Value):(W.setCell ⟨z,i,none⟩ x).cell? ⟨a,o,none⟩=some u:=
 (World.cell?_of_block (Below.heap_setCell W ⟨z,i,none⟩ x a hz)).trans h
theorem qn4{w:World}:Stb LP (fun w=>RI w (.slice none 0 0) ([]:List Int)) w:=fun w' _=>Em.none.r1 w'
theorem qm1{ps:List Pc}{p:Pc}(h:∀ j (hj:j<ps.length),ps[j].txt.size≤maxLen)(hp:p.txt.size≤maxLen):∀ j (hj:j<(ps++[p]).length),(ps++[p])[j].txt.size≤maxLen:=fun j hj=>by
 by_cases hlt:j<ps.length
 · rw[List.getElem_append_left hlt];exact h j hlt
 · rw[List.getElem_append_right a_];simp only[List.getElem_singleton];exact hp
theorem qaW.form{B:Nat}{w:World}{v:Value}{ps:List Pc}(h:qaW B w v ps)(hn:0<ps.length):∃ g cap,v=.slice (some ⟨g,0,none⟩) ps.length cap∧B≤g∧g<w.heap.size:=by
 obtain⟨F,h1,_⟩:=h;exact h1.form hn
theorem qaW.cells_{B g n cap:Nat}{w:World}{ps:List Pc}(h:qaW B w (.slice (some ⟨g,0,none⟩) n cap) ps):∃ F:Nat→Value,(∀ t,t<ps.length*6→w.cell? ⟨g,t,none⟩=some (F t))∧∀ i,w.frozen? ⟨g,i,none⟩=false:=by
 obtain⟨F,h1,h2⟩:=h;obtain⟨_,_,he⟩:=h1.rn.sl;obtain rfl:n=ps.length:=J_;obtain⟨cur,hr⟩:=h1.row0 g rfl;exact⟨F,fun t ht=>(h1.at_ ht).1,fun i=>qgI hr i⟩
theorem qlL{w:World}{g:Nat}{o:Obj}(hg:g<w.heap.size)(h:∀ i,w.frozen? ⟨g,i,none⟩=false):∀ i,(w.alloc o).frozen? ⟨g,i,none⟩=false:=fun i=>
 (((bR_ w.heap.size w).alloc (nr_ _) o).frozen (p:=⟨g,i,none⟩) hg).trans (h i)
theorem qbB.capA{B g n cap:Nat}{w:World}{ls:List (List (Int×Int))}(h:qbB B w (.slice (some ⟨g,0,none⟩) n cap) ls):n≤cap:=by
 obtain⟨F,h1,_⟩:=h;obtain⟨A,c,he,q1,q2,q3⟩:=h1.rn;injection he with e1 e2 e3
 subst e2;subst e3;exact q1.1
theorem qa1.lt_{B:Nat}{w:World}{v:Value}{fs:List Fd}(h:qa1 B w v fs):∀ r,v.ownBlock=some r→B≤r∧r<w.heap.size:=by obtain⟨_,F,h1,_⟩:=h;exact h1.lt
theorem qbB.lt_{B:Nat}{w:World}{v:Value}{ls:List (List (Int×Int))}(h:qbB B w v ls):∀ r,v.ownBlock=some r→B≤r∧r<w.heap.size:=by obtain⟨F,h1,_⟩:=h;exact h1.lt
end Go.Proofs.YtekaaekpdebloaaGreatDoor

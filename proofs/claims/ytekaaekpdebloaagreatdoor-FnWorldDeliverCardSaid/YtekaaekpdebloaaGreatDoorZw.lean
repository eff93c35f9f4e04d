/- Walk: an event is drawn. No condition but the weak invariant. -/
import Derived.Test.YtekaaekpdebloaaGreatDoorZu
set_option linter.unusedVariables false
set_option linter.unusedSimpArgs false
namespace Go.Proofs.YtekaaekpdebloaaGreatDoor
open Go.RowKit
attribute [local go_sem ↓] Go.wp_at_zero Go.wp_at_succ

theorem qbb.keep{g P:Nat}{w w':World}(h:qbb g w w')(hr:Rdr w g P):qaA LT2 w w':=
 qaA.of_grown h (fun r hr'=>by
  cases hr'
  obtain⟨bs,A,c,p,h1,_⟩:=hr;exact⟨_,_,_,h1,e_⟩)
def qnf(g P:Nat)(w:World)(e:Ending)(w':World):Prop:=∃ ev:Ev,e=.returned (.agg #[.int .i64 ev.kind,.int .i64 ev.a,.int .i64 ev.b,.int .i64 ev.c,.string ev.txt])∧ev.txt.size≤10∧Rdr w' g P∧qbb g w w'
structure EvW (g P:Nat) (w:World) (x:Wd) (vF vL vA vN:Value) (q:Nat) (w':World):Prop where
 r:Rdr w' g P
 o:qbb g w w'
 p:w'.heap[q]? =some (.cells #[.int .i64 x.sec,.int .i64 x.bad,vF,vL,vA,vN] 28 (0,0))
 z:w'.heap[q+1]? =some (.cells #[.int .i64 0,.int .i64 0,.int .i64 0,.int .i64 0,.string ⟨#[]⟩] 30 (0,0))
 hq:w.heap.size=q
 hg:g<q
 hx:WdS w x vF vL vA vN
 hr:∃ P0,Rdr w g P0
section
variable {g P P' q y:Nat} {w w' w2:World} {x:Wd} {vF vL vA vN:Value}
theorem EvW.wd(h:EvW g P w x vF vL vA vN q w'):WdS w' x vF vL vA vN:=by obtain⟨P0,h0⟩:=h.hr;exact h.hx.keep (h.o.keep h0)
theorem EvW.mono(h:EvW g P w x vF vL vA vN q w')(hP:P≤P'):EvW g P' w x vF vL vA vN q w':=⟨h.r.mono hP,h.o,h.p,h.z,h.hq,h.hg,h.hx,h.hr⟩
theorem EvW.ne(h:EvW g P w x vF vL vA vN q w'):∀ k,q≤k→some k≠some g:=fun k hk e=>by have:=Option.some.inj e;have:=h.hg;omega
theorem EvW.next(h:EvW g P w x vF vL vA vN q w')(hr:Rdr w2 g P')(ho:qbb g w' w2):EvW g P' w x vF vL vA vN q w2:=
 ⟨hr,h.o.trans ho,(ho.block _ (qai h.p) (h.ne _ (nr_ _))).trans h.p,(ho.block _ (qai h.z) (h.ne _ (Nat.le_succ _))).trans h.z,h.hq,h.hg,h.hx,h.hr⟩
theorem EvW.alloc(h:EvW g P w x vF vL vA vN q w')(o:Obj):EvW g P w x vF vL vA vN q (w'.alloc o):=h.next (h.r.below (qab (bR_ _ _) o)) (qbb.of_below (qab (bR_ _ _) o))
theorem EvW.drew(h:EvW g P w x vF vL vA vN q w'):EvW g P w x vF vL vA vN q w'.drew:=h.next (h.r.below (qac (bR_ _ _))) (qbb.of_below (qac (bR_ _ _)))
theorem EvW.set(h:EvW g P w x vF vL vA vN q w'){y:Nat}(hqy:q+2≤y)(i:Nat)(u:Value):EvW g P w x vF vL vA vN q (w'.setCell ⟨y,i,none⟩ u):=by
 have hk:∀ k,k≠y→(w'.setCell ⟨y,i,none⟩ u).heap[k]? =w'.heap[k]? :=fun k hk=>Below.heap_setCell _ _ _ _ hk;have:=h.hg;have:=h.hq;exact⟨h.r.keep fun k hk'=>hk k a_,h.o.set (p:=⟨y,i,none⟩) (by show w.heap.size≤y;omega) u,(hk q a_).trans h.p,(hk _ a_).trans h.z,h.hq,h.hg,h.hx,h.hr⟩
end
structure EvT (g P:Nat) (w:World) (x:Wd) (vF vL vA vN:Value) (q y:Nat) (w':World):Prop where
 s:EvW g P w x vF vL vA vN q w'
 e:∃ (kd a b c:Int) (t:ByteArray),w'.heap[y]? =some (.cells #[.int .i64 kd,.int .i64 a,.int .i64 b,.int .i64 c,.string t] 30 (0,0))∧t.size≤10
 hy:q+2≤y
section
variable {g P P' q y:Nat} {w w' w2:World} {x:Wd} {vF vL vA vN:Value}
theorem EvT.mono(h:EvT g P w x vF vL vA vN q y w')(hP:P≤P'):EvT g P' w x vF vL vA vN q y w':=⟨h.s.mono hP,h.e,h.hy⟩
theorem EvT.next(h:EvT g P w x vF vL vA vN q y w')(hr:Rdr w2 g P')(ho:qbb g w' w2):EvT g P' w x vF vL vA vN q y w2:=by
 obtain⟨kd,a,b,c,t,he,ht⟩:=h.e;exact⟨h.s.next hr ho,⟨kd,a,b,c,t,(ho.block _ (qai he) (h.s.ne _ (by have:=h.hy;omega))).trans he,ht⟩,h.hy⟩
theorem EvT.alloc(h:EvT g P w x vF vL vA vN q y w')(o:Obj):EvT g P w x vF vL vA vN q y (w'.alloc o):=h.next (h.s.r.below (qab (bR_ _ _) o)) (qbb.of_below (qab (bR_ _ _) o))
theorem EvT.setz(h:EvT g P w x vF vL vA vN q y w'){z:Nat}(hz:q+2≤z)(hzy:y≠z)(i:Nat)(u:Value):EvT g P w x vF vL vA vN q y (w'.setCell ⟨z,i,none⟩ u):=by
 obtain⟨kd,a,b,c,t,he,ht⟩:=h.e;exact⟨h.s.set hz i u,⟨kd,a,b,c,t,(Below.heap_setCell _ _ _ _ hzy).trans he,ht⟩,h.hy⟩
theorem EvT.set0(h:EvT g P w x vF vL vA vN q y w')(v:Int):EvT g P w x vF vL vA vN q y (w'.setCell ⟨y,0,none⟩ (.int .i64 v)):=
 ⟨h.s.set h.hy 0 _,by obtain⟨kd,a,b,c,t,he,ht⟩:=h.e;exact⟨v,a,b,c,t,qas (i:=0) he _,ht⟩,h.hy⟩
theorem EvT.set1(h:EvT g P w x vF vL vA vN q y w')(v:Int):EvT g P w x vF vL vA vN q y (w'.setCell ⟨y,1,none⟩ (.int .i64 v)):=
 ⟨h.s.set h.hy 1 _,by obtain⟨kd,a,b,c,t,he,ht⟩:=h.e;exact⟨kd,v,b,c,t,qas (i:=1) he _,ht⟩,h.hy⟩
theorem EvT.set2(h:EvT g P w x vF vL vA vN q y w')(v:Int):EvT g P w x vF vL vA vN q y (w'.setCell ⟨y,2,none⟩ (.int .i64 v)):=
 ⟨h.s.set h.hy 2 _,by obtain⟨kd,a,b,c,t,he,ht⟩:=h.e;exact⟨kd,a,v,c,t,qas (i:=2) he _,ht⟩,h.hy⟩
theorem EvT.set3(h:EvT g P w x vF vL vA vN q y w')(v:Int):EvT g P w x vF vL vA vN q y (w'.setCell ⟨y,3,none⟩ (.int .i64 v)):=
 ⟨h.s.set h.hy 3 _,by obtain⟨kd,a,b,c,t,he,ht⟩:=h.e;exact⟨kd,a,b,v,t,qas (i:=3) he _,ht⟩,h.hy⟩
theorem EvT.set4(h:EvT g P w x vF vL vA vN q y w'){u:ByteArray}(hu:u.size≤10):EvT g P w x vF vL vA vN q y (w'.setCell ⟨y,4,none⟩ (.string u)):=
 ⟨h.s.set h.hy 4 _,by obtain⟨kd,a,b,c,t,he,ht⟩:=h.e;exact⟨kd,a,b,c,u,qas (i:=4) he _,hu⟩,h.hy⟩
end
def qoD(n g P:Nat)(w:World)(x:Wd)(vF vL vA vN:Value)(q:Nat)(wx:World)(s6 s7:Value):Prop:=
 ∃ i j:Nat,s6=.int .i64 i∧s7=.int .i64 j∧i<n∧j<n∧EvW g P w x vF vL vA vN q wx
def EvC(n g P:Nat)(w:World)(x:Wd)(vF vL vA vN:Value)(q:Nat)(wx:World)(s28:Value):Prop:=
 ∃ b,s28=.bool b∧(b=true→0<n)∧EvW g P w x vF vL vA vN q wx
theorem EvT.lt{g P q y:Nat}{w w':World}{x:Wd}{vF vL vA vN:Value}(h:EvT g P w x vF vL vA vN q y w'):y<w'.heap.size:=by obtain⟨_,_,_,_,_,he,_⟩:=h.e;exact qai he
theorem qos{g P P' q y:Nat}{w w':World}{x:Wd}{vF vL vA vN:Value}(h:EvT g P w x vF vL vA vN q y w')(hP:P≤P')(kd a b c:Int)(t:ByteArray)(ht:t.size≤10):
 qnf g P' w (.returned (.agg #[.int .i64 kd,.int .i64 a,.int .i64 b,.int .i64 c,.string t])) (((((w'.setCell ⟨q+1,0,none⟩ (.int .i64 kd)).setCell ⟨q+1,1,none⟩ (.int .i64 a)).setCell ⟨q+1,2,none⟩ (.int .i64 b)).setCell ⟨q+1,3,none⟩ (.int .i64 c)).setCell ⟨q+1,4,none⟩ (.string t)):=by
 have hg:=h.s.hg;have hq:=h.s.hq;have hk:∀ (W:World) i u k,k≤g→(W.setCell ⟨q+1,i,none⟩ u).heap[k]? =W.heap[k]? :=fun W i u k hk=>Below.heap_setCell _ _ _ _ (by show k≠q+1;omega);refine⟨⟨kd,a,b,c,t⟩,rfl,ht,((((((h.s.r.mono hP).keep (hk _ _ _)).keep (hk _ _ _)).keep (hk _ _ _)).keep (hk _ _ _)).keep (hk _ _ _)),?_⟩;have hs:∀ i,w.heap.size≤(⟨q+1,i,none⟩:Addr).block:=fun i=>by show w.heap.size≤q+1;omega
 exact((((h.s.o.set (hs 0) _).set (hs 1) _).set (hs 2) _).set (hs 3) _).set (hs 4) _
theorem qh4{W:World}{A:Option Addr}{n c b o:Nat}{u:Value}{ls:List (List (Int×Int))}(h:Stb LT2 (fun w=>qdh w (.slice A n c) ls) W){j:Nat}(hj:j<ls.length)(hA:A=some ⟨b,o,none⟩)(hu:W.cell? ⟨b,o+j,none⟩=some u):
 ∀ w',qaA LT2 W w'→w'.cell? ⟨b,o+j,none⟩=some u∧RP w' u ls[j]:=by
 subst hA;have hkb:=qe5 hu (fun w' hk=>by
  obtain⟨b2,o2,x,hA2,_,hc,_⟩:=qdh.at_ (h w' hk) hj;cases hA2
  rw[hc];simp)
 intro w' hk;obtain⟨b2,o2,x,hA2,_,hc,hr⟩:=qdh.at_ (h w' hk) hj;cases hA2
 have e:=(World.cell?_of_block (hkb w' hk)).trans hu;rw[hc] at e;cases e
 exact⟨hc,hr⟩
theorem qlj{W:World}{a o z:Nat}{u:Value}(h:W.cell? ⟨a,o,none⟩=some u)(hz:a≠z)(x y:Value):((W.setCell ⟨z,0,none⟩ x).setCell ⟨z,1,none⟩ y).cell? ⟨a,o,none⟩=some u:=by
 have h1:((W.setCell ⟨z,0,none⟩ x).setCell ⟨z,1,none⟩ y).heap[a]? =W.heap[a]? :=(Below.heap_setCell _ ⟨z,1,none⟩ y a hz).trans (Below.heap_setCell W ⟨z,0,none⟩ x a hz);exact(World.cell?_of_block h1).trans h
theorem qgT{W:World}{A:Option Addr}{n c b o:Nat}{ls:List (Int×Int)}(h:Stb LT2 (fun w=>RP w (.slice A n c) ls) W)(hn:0<ls.length)(hA:A=some ⟨b,o,none⟩):∀ w',qaA LT2 W w'→∀ t,w'.cell? ⟨b,t,none⟩=W.cell? ⟨b,t,none⟩:=by
 subst hA;obtain⟨b2,o2,hA2,_,c0,_⟩:=R2.at_ h.self hn;cases hA2
 have hkb:=qe5 c0 (fun w' hk=>by
  obtain⟨b3,o3,hA3,_,d0,_⟩:=R2.at_ (h w' hk) hn;cases hA3
  rw[d0];simp)
 exact fun w' hk t=>World.cell?_of_block (hkb w' hk)
theorem qkp{W:World}{A:Option Addr}{n c:Nat}{ls:List (List (Int×Int))}{u:Value}{b o:Nat}(h:Stb LT2 (fun w=>qdh w (.slice A n c) ls) W){j:Nat}(hj:j<ls.length)(hA:A=some ⟨b,o,none⟩)(hu:W.cell? ⟨b,o+j,none⟩=some u)
 {B:Option Addr} {m d b2 o2:Nat} (hun:u=.slice B m d) (hB:B=some ⟨b2,o2,none⟩) (hl:0<ls[j].length):∀ w',qaA LT2 W w'→∀ t,w'.cell? ⟨b2,t,none⟩=W.cell? ⟨b2,t,none⟩:=by
 have hkp:=qh4 h hj hA hu;refine qgT (n:=m) (c:=d) (ls:=ls[j]) (fun w' hk=> ?_) hl hB;rw[←hun];exact(hkp w' hk).2
theorem qgF{W:World}{a z:Nat}(hz:a≠z)(x y:Value)(o:Nat):((W.setCell ⟨z,0,none⟩ x).setCell ⟨z,1,none⟩ y).cell? ⟨a,o,none⟩=W.cell? ⟨a,o,none⟩:=
 World.cell?_of_block ((Below.heap_setCell _ ⟨z,1,none⟩ y a hz).trans (Below.heap_setCell W ⟨z,0,none⟩ x a hz))
def EvL(n g P:Nat)(w:World)(x:Wd)(vF vL vA vN:Value)(q:Nat)(wx:World)(s8:Value):Prop:=
 ∃ (y i j:Nat),s8=.pointer (some ⟨y,0,none⟩)∧wx.heap[y]? =some (.cells #[.int .i64 (i:Int),.int .i64 (j:Int)] 99 (0,0))∧i<n∧j<n∧q+2≤y∧EvW g P w x vF vL vA vN q wx
def EvQ(g P:Nat)(w:World)(x:Wd)(vF vL vA vN:Value)(q y:Nat)(wx:World)(s10:Value):Prop:=
 ∃ (z:Nat) (c d:Int),s10=.pointer (some ⟨z,0,none⟩)∧wx.heap[z]? =some (.cells #[.int .i64 c,.int .i64 d] 109 (0,0))∧z≠y∧EvT g P w x vF vL vA vN q y wx
theorem EvT.cells{g P q y:Nat}{w w':World}{x:Wd}{vF vL vA vN:Value}(h:EvT g P w x vF vL vA vN q y w'):∃ (kd a b c:Int) (t:ByteArray),w'.cell? ⟨y,0,none⟩=some (.int .i64 kd)∧w'.cell? ⟨y,1,none⟩=some (.int .i64 a)∧w'.cell? ⟨y,2,none⟩=some (.int .i64 b)∧w'.cell? ⟨y,3,none⟩=some (.int .i64 c)∧w'.cell? ⟨y,4,none⟩=some (.string t)∧(∀ o,w'.frozen? ⟨y,o,none⟩=false)∧t.size≤10:=by
 obtain⟨kd,a,b,c,t,he,ht⟩:=h.e;obtain⟨e0,e1,e2,e3,e4,ef⟩:=qck he;exact⟨kd,a,b,c,t,e0,e1,e2,e3,e4,ef,ht⟩
theorem qmP{n:Nat}{l:List (Int×Int)}(h:∀ j (hj:j<l.length),qc5 n l[j]=true){k:Nat}(hk:k<l.length):∃ i j:Nat,l[k]=((i:Int),(j:Int))∧i<n∧j<n:=by
 have h1:=h k hk;unfold qc5 at h1;rw[Bool.and_eq_true,qak,qak] at h1;exact⟨l[k].1.toNat,l[k].2.toNat,Prod.ext (by show l[k].1=_;omega) (by show l[k].2=_;omega),a_,a_⟩
set_option maxHeartbeats 6400000 in
set_option maxRecDepth 100000 in
theorem qiv{K:Nat}(g P:Nat)(x:Wd)(vF vL vA vN:Value)(w:World)(hr:Rdr w g P)(hP:P≤100000)(hx:WdS w x vF vL vA vN)(hw:WI K x)(hK:K≤1000000):
 Calls Tryz.prog 48 #[.pointer (some ⟨g,0,none⟩),.agg #[.int .i64 x.sec,.int .i64 x.bad,vF,vL,vA,vN]] w (qnf g (P+60) w):=by
 have HWI:=hI_ hw;have hgl:=hr.lt;have hl6:x.feeds.length≤6:=hw.n6;have hn1:1≤x.feeds.length:=hw.n1;have hka:x.asked.length=x.feeds.length:=hw.na;have hnl:=hw.nl;have hnn:=hw.net;clear hw;obtain⟨s,bd,fs,ls,ks,ps⟩:=x;simp only at hl6 hn1 hka hnl hnn;have HKA:Hid (ks.length=fs.length):=hI_ hka;have hka2:0<ks.length:=a_;have hka3:ks.length≤6:=a_;have hka4:fs.length≤ks.length:=a_;clear hka;obtain⟨fA,fc,rfl⟩:=hx.r.feeds.sl;obtain⟨lA,lc,rfl⟩:=hx.r.links.sl;obtain⟨aA,ac,rfl⟩:=hx.r.asked.sl;obtain⟨nA,nc,rfl⟩:=hx.r.net.sl;simp only at hx;obtain⟨b0,o0,yb,yh,hA,h_,hh_⟩:=hx.r.feeds.at_ (show 0<fs.length by omega);subst hA;clear h_ hh_;obtain⟨a0,p0,vk,hA,h_,hh_⟩:=hx.r.asked.at_ hka2;subst hA;clear h_ hh_;obtain⟨W0,HW0⟩:=nm_ ((w.alloc (.cells #[.int .i64 s,.int .i64 bd,.slice (some ⟨b0,o0,none⟩) fs.length fc,.slice lA ls.length lc,.slice (some ⟨a0,p0,none⟩) ks.length ac,.slice nA ps.length nc] 28)).alloc (.cells #[.int .i64 0,.int .i64 0,.int .i64 0,.int .i64 0,.string ⟨#[]⟩] 30));have hb0:Below w.heap.size w W0:=by rw[←HW0.out];exact qab (qab (bR_ _ _) _) _
 have hp0:W0.heap[w.heap.size]? =some (.cells #[.int .i64 s,.int .i64 bd,.slice (some ⟨b0,o0,none⟩) fs.length fc,.slice lA ls.length lc,.slice (some ⟨a0,p0,none⟩) ks.length ac,.slice nA ps.length nc] 28 (0,0)):=by rw[←HW0.out];exact qau (heap_alloc_new _ _)
 have hz0:W0.heap[w.heap.size+1]? =some (.cells #[.int .i64 0,.int .i64 0,.int .i64 0,.int .i64 0,.string ⟨#[]⟩] 30 (0,0)):=by rw[←HW0.out];exact qbu k_
 have hne:∀ k,w.heap.size≤k→some k≠some g:=fun k hk e=>by have:=Option.some.inj e;omega
 have HNE:=hI_ hne;have HLK:Hid (∀ k (hk:k<ls.length),∃ i j:Nat,ls[k]=((i:Int),(j:Int))∧i<fs.length∧j<fs.length):=hI_ (fun k hk=>qmP HWI.out.links hk);have HBD:Hid (∀ j (hj:j<fs.length),fs[j].hd.len≤16∧0≤fs[j].hd.len∧fs[j].hv.length≤16):=hI_ (fun j hj=>by
  obtain⟨n,h1,h2,h3,h4,h5⟩:=HWI.out.hd hj;simp only at h1 h2 h3 h4 h5;omega)
 have HAK:Hid (∀ j (hj:j<ks.length),ks[j].length≤1000000):=hI_ (fun j hj=>Nat.le_trans (HWI.out.ask j hj) hK);have hr0:=hr.below hb0;have hx0:=hx.below hb0;have ho0:qbb g w W0:=qbb.of_below hb0;have h0n:(1:Int)≤(fs.length:Int):=a_;have h0m:(fs.length:Int)≤1000000:=a_;obtain⟨t0,t1,t2,t3,t4,t5,tf⟩:=qaa hp0;have HXX:=hI_ hx;have HRR:=hI_ hr;clear hr hx hb0 hne;go_enter Tryz.func48,Tryz.ntmps48
 go_wp2_with fail
 rw[HW0.out];refine(qan g P fs.length W0 hr0 h0n h0m a_).mono ?_;rintro e w1 ⟨i,rfl,i1,i2,r1,o1⟩;obtain⟨i,rfl⟩:∃ n:Nat,i=n:=⟨i.toNat,a_⟩
 go_wp2_with fail
 refine(qan g (P+1) fs.length w1 r1 h0n h0m a_).mono ?_;rintro e w2 ⟨j,rfl,j1,j2,r2,o2⟩;obtain⟨j,rfl⟩:∃ n:Nat,j=n:=⟨j.toNat,a_⟩
 have o12:=o1.trans o2;have hp2:=(o12.block _ (qai hp0) (HNE.out _ (nr_ _))).trans hp0;have hz2:=(o12.block _ (qai hz0) (HNE.out _ (Nat.le_succ _))).trans hz0;have o02:=ho0.trans o12;clear t0 t1 t2 t3 t4 t5 tf o1 o2 o12 hp0 hz0 hx0 hr0 ho0 r1;have HW2:Hid (EvW g (P+2) w ⟨s,bd,fs,ls,ks,ps⟩ (.slice (some ⟨b0,o0,none⟩) fs.length fc) (.slice lA ls.length lc) (.slice (some ⟨a0,p0,none⟩) ks.length ac) (.slice nA ps.length nc) w.heap.size w2):=hI_ ⟨r2,o02,hp2,hz2,rfl,hgl,HXX.out,⟨P,HRR.out⟩⟩;clear hp2 hz2 o02;go_upto_region 4 with fail
 go_cut [28] (fun s28 wx=>EvC ls.length g (P+3) w ⟨s,bd,fs,ls,ks,ps⟩ (.slice (some ⟨b0,o0,none⟩) fs.length fc) (.slice lA ls.length lc) (.slice (some ⟨a0,p0,none⟩) ks.length ac) (.slice nA ps.length nc) w.heap.size wx s28)
 case first=>
  obtain⟨t0,t1,t2,t3,t4,t5,tf⟩:=qaa HW2.out.p;clear t0 t1 t2 t4 t5 tf;by_cases hl:ls.length=0
  · have hl':¬ (0:Int)<(ls.length:Int):=a_;have hl'':¬ 0<ls.length:=a_;clear hl;go_wp2_with fail
    go_meet;exact⟨_,rfl,(fun h=>aj_),HW2.out.mono a_⟩
  have hl':(0:Int)<(ls.length:Int):=a_;have hl'':0<ls.length:=a_;clear hl;go_wp2_with fail
  refine(qan g (P+2) 4 w2 r2 a_ a_ a_).mono ?_;rintro e w3 ⟨z,rfl,z1,z2,r3,o3⟩;have HW3:=hI_ (HW2.out.next r3 o3);have HLL:=hI_ hl'';clear r3 o3 t3;go_wp2_with fail
  go_meet;exact⟨_,rfl,fun _=>HLL.out,HW3.out⟩
 case rest=>
  obtain⟨cb,rfl,hcb,hW3⟩:=hcut;obtain⟨w3,rfl⟩:∃ W,W=wc:=⟨_,rfl⟩
  have HW3:=hI_ hW3;have HCB:=hI_ hcb;clear hcb hW3 r2 HW2;go_upto_if 28 with fail
  go_cut [6,7] (fun s6 s7 wx=>qoD fs.length g (P+5) w ⟨s,bd,fs,ls,ks,ps⟩ (.slice (some ⟨b0,o0,none⟩) fs.length fc) (.slice lA ls.length lc) (.slice (some ⟨a0,p0,none⟩) ks.length ac) (.slice nA ps.length nc) w.heap.size wx s6 s7)
  case first=>
   cases cb
   · go_wp2_with fail
     go_meet;exact⟨i,j,rfl,rfl,a_,a_,HW3.out.mono a_⟩
   have hl'':0<ls.length:=HCB.out rfl;obtain⟨bL,oL,hLA,hbL3,hg0,hg1⟩:=HW3.out.wd.r.links.at_ hl'';subst hLA;clear hg0 hg1;have HLK3:=hI_ (qgT HW3.out.wd.links hl'' rfl);have hlm:(ls.length:Int)≤1000000:=a_;have hl1:(1:Int)≤(ls.length:Int):=a_;have hl3:=qai HW3.out.p;have hl3z:=qai HW3.out.z;have hgw3:g<w3.heap.size:=HW3.out.r.lt;have hgq:w.heap.size≠g:=a_;have t3:=(qaa HW3.out.p).2.2.2.1;go_upto_region 5 with fail
   go_cut [8] (fun s8 wx=>EvL fs.length g (P+4) w ⟨s,bd,fs,ls,ks,ps⟩ (.slice (some ⟨b0,o0,none⟩) fs.length fc) (.slice (some ⟨bL,oL,none⟩) ls.length lc) (.slice (some ⟨a0,p0,none⟩) ks.length ac) (.slice nA ps.length nc) w.heap.size wx s8)
   case first=>
    go_region_held3 (fun w'=>w'.cell? ⟨w.heap.size,3,none⟩=some (.slice (some ⟨bL,oL,none⟩) ls.length lc)∧∀ t,w'.cell? ⟨bL,t,none⟩=w3.cell? ⟨bL,t,none⟩)
     (first|with_reducible exact⟨t3,fun _=>rfl⟩|with_reducible exact⟨n3,n3t⟩|(with_reducible refine⟨Eq.trans (Below.cell (B:=w3.heap.size) ?_ hl3) t3,fun t=>Below.cell (B:=w3.heap.size) ?_ hbL3⟩ <;> (with_reducible repeat(first|exact bR_ _ _|refine qab ?_ _|refine qac ?_));done)|(with_reducible refine⟨Eq.trans (Below.cell (B:=w4.heap.size) ?_ hl4) n3,fun t=>Eq.trans (Below.cell (B:=w4.heap.size) ?_ hbL4) (n3t t)⟩ <;> (with_reducible repeat(first|exact bR_ _ _|refine qab ?_ _|refine qac ?_));done)|(with_reducible exact⟨n3b,n3bt⟩))
     ((go_at_call 49;refine(qan g (P+3) ls.length _ (HW3.out.r.below i_) hl1 hlm a_).mono ?_;rintro e w4 ⟨k,rfl,k1,k2,r4,o4⟩
       obtain⟨k,rfl⟩:∃ n:Nat,k=n:=⟨k.toNat,a_⟩
       have o34:qbb g w3 w4:=(qbb.of_below i_).trans o4;have hW4:=HW3.out.next r4 o34;have hl4:=qai hW4.p;have n3:=(qaa hW4.p).2.2.2.1;obtain⟨li,lj,hlk,hli,hlj⟩:=HLK.out k a_;obtain⟨_,_,hLA,_,l0,l1⟩:=HW3.out.wd.r.links.at_ (show k<ls.length by omega);cases hLA
       have n3t:=HLK3.out w4 (o34.keep HW3.out.r);have hbL4:bL<w4.heap.size:=nL_ hbL3 o34.size;rw[hlk] at l0 l1;simp only at l0 l1;have hs4:=o34.size;have hHW4:=hI_ hW4;clear hW4;try(refine qmN (w4.heap[w3.heap.size]? =some (.cells #[.int .i64 0,.int .i64 0] 99 (0,0))) ?_ ?_;(focus ((refine(o4.block _ ?_ ?_).trans ?_);(simp);(exact HNE.out _ (Nat.le_of_lt hl3));(first|with_reducible exact at0 _ _|((with_reducible refine qbI ?_);with_reducible exact at0 _ _)|exact at0 _ _)));intro hy4;obtain⟨y0,y1,yf⟩:=qaH hy4;have n3b:=(qaa ((hHW4.out.set (y:=w3.heap.size) a_ 0 (.int .i64 (li:Int))).set (y:=w3.heap.size) a_ 1 (.int .i64 (lj:Int))).p).2.2.2.1;have n3bt:=fun t=>(qgF (W:=w4) (a:=bL) (z:=w3.heap.size) a_ (.int .i64 (li:Int)) (.int .i64 (lj:Int)) t).trans (n3t t))))
    all_goals
     go_wp2
     go_meet
    · exact⟨_,li,lj,rfl,heap_alloc_new _ _,hli,hlj,a_,hHW4.out.alloc _⟩
    · exact⟨_,li,lj,rfl,qas (i:=1) (qas (i:=0) hy4 _) _,hli,hlj,a_,(hHW4.out.set (y:=w3.heap.size) a_ 0 _).set (y:=w3.heap.size) a_ 1 _⟩
   case rest=>
    obtain⟨y,li,lj,rfl,hy,hli,hlj,hqy,hW5⟩:=hcut;obtain⟨w5,rfl⟩:∃ W,W=wc:=⟨_,rfl⟩
    have HW5:=hI_ hW5;have HY:=hI_ hy;obtain⟨y0,y1,yf⟩:=qaH hy;clear hy hW5 t3;go_wp2_with fail
    refine(qan g (P+4) 2 w5 HW5.out.r a_ a_ a_).mono ?_;rintro e w6 ⟨z,rfl,z1,z2,r6,o6⟩;have HW6:=hI_ (HW5.out.next r6 o6);obtain⟨x0,x1,xf⟩:=qaH ((o6.block _ (qai HY.out) (HW5.out.ne _ a_)).trans HY.out);clear r6 o6 y0 y1 yf;by_cases hz:z=0
    · subst hz;go_wp2_with fail
      go_meet;exact⟨lj,li,rfl,rfl,hlj,hli,HW6.out⟩
    · have hz':(z==0)=false:=by rw[beq_eq_false_iff_ne];exact hz
      clear hz;go_wp2_with fail
      go_meet;exact⟨li,lj,rfl,rfl,hli,hlj,HW6.out⟩
  case rest=>
   clear i1 i2 j1 j2 i j HCB HW3;obtain⟨i,j,rfl,rfl,hi,hj,hW7⟩:=hcut;obtain⟨w7,rfl⟩:∃ W,W=wc:=⟨_,rfl⟩
   have HW7:=hI_ hW7;obtain⟨t0,t1,t2,t3,t4,t5,tf⟩:=qaa hW7.p;obtain⟨_,_,yb7,yh7,hA,hb7,f0,f1,f2,f3,f4,f5,hF7⟩:=hW7.wd.r.feeds.at_ (show 0<fs.length by omega);cases hA;simp only[Nat.zero_mul,Nat.add_zero] at f0 f1 f2 f3 f4 f5;obtain⟨m0,HM0⟩:∃ m:Int,Hid (fs[0].hd.len=m):=⟨_,hI_ rfl⟩
   rw[HM0.out] at f1;have hm0:m0≤16∧0≤m0:=by rw[←HM0.out];exact⟨(HBD.out 0 a_).1,(HBD.out 0 a_).2.1⟩
   obtain⟨hm1,hm2⟩:=hm0;have h0i:(0:Int)<(fs.length:Int):=a_;clear hF7 f0 f2 f3 f4 f5 t0 t1 t3 t4 t5 tf hW7;go_upto_region 11 with fail
   go_cut [9] (fun s9 wx=>∃ y,s9=.pointer (some ⟨y,0,none⟩)∧EvT g (P+6) w ⟨s,bd,fs,ls,ks,ps⟩ (.slice (some ⟨b0,o0,none⟩) fs.length fc) (.slice lA ls.length lc) (.slice (some ⟨a0,p0,none⟩) ks.length ac) (.slice nA ps.length nc) w.heap.size y wx)
   case first=>
    have hc:m0<1∨1≤m0:=a_;go_wp2_with fail
    all_goals
     refine(qan g (P+5) _ w7 HW7.out.r a_ a_ a_).mono ?_;rintro e w8 ⟨z,rfl,z1,z2,r8,o8⟩;have HW8:=hI_ (HW7.out.next r8 o8);have hs8:=nL_ (qai HW7.out.z) o8.size;clear r8 o8 t2 f1;go_wp2_with fail
     go_meet;exact⟨_,rfl,HW8.out.alloc _,⟨_,_,_,_,_,heap_alloc_new _ _,e_⟩,a_⟩
   case rest=>
    obtain⟨y,rfl,hT⟩:=hcut;obtain⟨w9,rfl⟩:∃ W,W=wc:=⟨_,rfl⟩
    have HT:=hI_ hT;clear hT t2 f1;go_wp2_with fail
    refine(qan g (P+6) 16 w9 HT.out.s.r a_ a_ a_).mono ?_;rintro e w10 ⟨sw,rfl,sw1,sw2,r10,o10⟩;have HT10:=hI_ (HT.out.next r10 o10);clear r10 o10;go_upto_block 0 with fail
    go_cut [] (fun wx=>EvT g (P+30) w ⟨s,bd,fs,ls,ks,ps⟩ (.slice (some ⟨b0,o0,none⟩) fs.length fc) (.slice lA ls.length lc) (.slice (some ⟨a0,p0,none⟩) ks.length ac) (.slice nA ps.length nc) w.heap.size y wx)
    case first=>
     have hsw:sw=0∨sw=1∨sw=2∨sw=3∨sw=4∨sw=5∨sw=6∨sw=7∨sw=8∨sw=9∨sw=10∨sw=11∨sw=12∨sw=13∨sw=14∨sw=15:=a_;rcases hsw with rfl|rfl|rfl|rfl|rfl|rfl|rfl|rfl|rfl|rfl|rfl|rfl|rfl|rfl|rfl|rfl;iterate 2
      · as_aux_lemma=>
         obtain⟨kd_,ea_,eb_,ec_,et_,c0,c1,c2,c3,c4,cf,ct⟩:=HT10.out.cells;go_wp2_with fail
         refine(qc4 g (P+7) _ (HT10.out.set0 1).s.r a_).mono ?_;rintro e w11 ⟨st,rfl,hst,r11,o11⟩;have HT11:=hI_ ((HT10.out.set0 1).next r11 o11);have HST:=hI_ hst;clear c0 c1 c2 c3 c4 cf ct r11 o11 hst;obtain⟨kd_,ea_,eb_,ec_,et_,c0,c1,c2,c3,c4,cf,ct⟩:=HT11.out.cells;go_wp2_with fail
         go_meet;exact(HT11.out.set4 HST.out).mono a_
     iterate 2
      · as_aux_lemma=>
         obtain⟨kd_,ea_,eb_,ec_,et_,c0,c1,c2,c3,c4,cf,ct⟩:=HT10.out.cells;go_wp2_with fail
         refine(qan g (P+7) fs.length _ (HT10.out.set0 2).s.r h0n h0m a_).mono ?_;rintro e w11 ⟨w11v,rfl,w111,w112,w11r,w11o⟩;have HT11:=hI_ ((HT10.out.set0 2).next w11r w11o);clear w11r w11o;clear c0 c1 c2 c3 c4 cf ct;obtain⟨kd_,ea_,eb_,ec_,et_,c0,c1,c2,c3,c4,cf,ct⟩:=HT11.out.cells;go_wp2_with fail
         refine(qan g (P+7+1) fs.length _ (HT11.out.set1 w11v).s.r h0n h0m a_).mono ?_;rintro e w12 ⟨w12v,rfl,w121,w122,w12r,w12o⟩;have HT12:=hI_ ((HT11.out.set1 w11v).next w12r w12o);clear w12r w12o;clear c0 c1 c2 c3 c4 cf ct;obtain⟨kd_,ea_,eb_,ec_,et_,c0,c1,c2,c3,c4,cf,ct⟩:=HT12.out.cells;go_wp2_with fail
         go_meet;exact(HT12.out.set2 _).mono a_
     · as_aux_lemma=>
        obtain⟨kd_,ea_,eb_,ec_,et_,c0,c1,c2,c3,c4,cf,ct⟩:=HT10.out.cells;go_wp2_with fail
        go_meet;exact(HT10.out.set0 3).mono a_
     iterate 3
      · as_aux_lemma=>
         obtain⟨kd_,ea_,eb_,ec_,et_,c0,c1,c2,c3,c4,cf,ct⟩:=HT10.out.cells;go_wp2_with fail
         go_meet;exact(HT10.out.set0 4).mono a_
     iterate 3
      · as_aux_lemma=>
         obtain⟨kd_,ea_,eb_,ec_,et_,c0,c1,c2,c3,c4,cf,ct⟩:=HT10.out.cells;have HT11:=hI_ (HT10.out.set0 5);obtain⟨W11,HW11⟩:=nm_ (w10.setCell ⟨y,0,none⟩ (.int .i64 5));rw[HW11.out] at HT11;go_upto_region 32 with fail
         rw[HW11.out];clear c0 c1 c2 c3 c4 cf ct;obtain⟨t0,t1,t2,t3,t4,t5,tf⟩:=qaa HT11.out.s.p;obtain⟨_,_,ybj,yhj,hA,hbj,f0,f1,f2,f3,f4,f5,hFj⟩:=HT11.out.s.wd.r.feeds.at_ hj;cases hA;obtain⟨hvA,hvc,rfl⟩:=hFj.hv.sl';have hh16:=(HBD.out j hj).2.2;clear f0 f1 f2 f3 f4 hFj t0 t1 t3 t4 t5 tf;obtain⟨nh,HNH⟩:=nm_ (fs[j].hv.length);rw[HNH.out] at f5 hh16;obtain⟨kd_,ea_,eb_,ec_,et_,c0,c1,c2,c3,c4,cf,ct⟩:=HT11.out.cells;by_cases hnh:nh=0
         · have h1:¬ (0:Int)<(nh:Int):=a_;have h2:¬ 0<nh:=a_;clear hnh;go_wp2_with fail
           go_meet;exact HT11.out.mono a_
         have h1:(0:Int)<(nh:Int):=a_;have h2:0<nh:=a_;have h3:(1:Int)≤(nh:Int):=a_;have h4:(nh:Int)≤1000000:=a_;clear hnh;go_wp2_with fail
         refine(qan g (P+7) nh _ HT11.out.s.r h3 h4 a_).mono ?_;rintro e w12 ⟨w12v,rfl,w121,w122,w12r,w12o⟩;have HT12:=hI_ (HT11.out.next w12r w12o);clear w12r w12o;clear c0 c1 c2 c3 c4 cf ct t2 f5;obtain⟨kd_,ea_,eb_,ec_,et_,c0,c1,c2,c3,c4,cf,ct⟩:=HT12.out.cells;go_wp2_with fail
         go_meet;exact(HT12.out.set3 _).mono a_
     iterate 2
      · as_aux_lemma=>
         obtain⟨kd_,ea_,eb_,ec_,et_,c0,c1,c2,c3,c4,cf,ct⟩:=HT10.out.cells;go_wp2_with fail
         refine(qc4 g (P+7) _ (HT10.out.set0 6).s.r a_).mono ?_;rintro e w11 ⟨st,rfl,hst,r11,o11⟩;have HT11:=hI_ (((HT10.out.set0 6).next r11 o11).set4 hst);obtain⟨W11,HW11⟩:=nm_ (w11.setCell ⟨y,4,none⟩ (.string st));rw[HW11.out] at HT11;clear c0 c1 c2 c3 c4 cf ct;obtain⟨kd_,ea_,eb_,ec_,et_,c0,c1,c2,c3,c4,cf,ct⟩:=((HT10.out.set0 6).next r11 o11).cells;clear r11 o11 hst;go_upto_region 38 with fail
         rw[HW11.out];clear c0 c1 c2 c3 c4 cf ct;have hik:i<ks.length:=a_;have hik':(i:Int)<(ks.length:Int):=a_;have hi0':(0:Int)≤(i:Int):=a_;have t4:=(qaa HT11.out.s.p).2.2.2.2.1;obtain⟨_,_,vq,hA,hbq,ek,hRq⟩:=HT11.out.s.wd.r.asked.at_ hik;cases hA;obtain⟨qA,qc,rfl⟩:=hRq.sl;have hqm:=HAK.out i hik;obtain⟨lq,HLQ⟩:=nm_ (ks[i]);have HKP:=hI_ (qh4 HT11.out.s.wd.asked hik rfl ek);rw[HLQ.out] at ek hRq hqm HKP;have HRQ:=hI_ hRq;by_cases hnq:lq.length=0
         · have h1:¬ (0:Int)<(lq.length:Int):=a_;have h2:¬ 0<lq.length:=a_;clear hnq hRq;go_wp2_with fail
           go_meet;exact HT11.out.mono a_
         have h1:(0:Int)<(lq.length:Int):=a_;have h2:0<lq.length:=a_;have h3:(1:Int)≤(lq.length:Int):=a_;have h4:(lq.length:Int)≤1000000:=a_;obtain⟨bq,oq,hqA,hbq2,_,_⟩:=hRq.at_ h2;subst hqA;have HKT:=hI_ (qkp HT11.out.s.wd.asked hik rfl ek rfl rfl (by simp only;rw[HLQ.out];exact h2));clear hnq hRq;have hl11:=qai HT11.out.s.p;have hl11z:=qai HT11.out.s.z;go_upto_region 39 with fail
         go_cut [10] (fun s10 wx=>EvQ g (P+21) w ⟨s,bd,fs,ls,ks,ps⟩ (.slice (some ⟨b0,o0,none⟩) fs.length fc) (.slice lA ls.length lc) (.slice (some ⟨a0,p0,none⟩) ks.length ac) (.slice nA ps.length nc) w.heap.size y wx s10)
         case first=>
          go_region_held3 (fun w'=>w'.cell? ⟨w.heap.size,4,none⟩=some (.slice (some ⟨a0,p0,none⟩) ks.length ac)∧w'.cell? ⟨a0,p0+i,none⟩=some (.slice (some ⟨bq,oq,none⟩) lq.length qc)∧∀ t,w'.cell? ⟨bq,t,none⟩=W11.cell? ⟨bq,t,none⟩)
           (first|with_reducible exact⟨t4,ek,fun _=>rfl⟩|with_reducible exact⟨n4,nk,nkt⟩|(with_reducible refine⟨Eq.trans (Below.cell (B:=W11.heap.size) ?_ hl11) t4,Eq.trans (Below.cell (B:=W11.heap.size) ?_ hbq) ek,fun t=>Below.cell (B:=W11.heap.size) ?_ hbq2⟩ <;> (with_reducible repeat(first|exact bR_ _ _|refine qab ?_ _|refine qac ?_));done)|(with_reducible refine⟨Eq.trans (Below.cell (B:=w4.heap.size) ?_ hl4) n4,Eq.trans (Below.cell (B:=w4.heap.size) ?_ hb4) nk,fun t=>Eq.trans (Below.cell (B:=w4.heap.size) ?_ hbq4') (nkt t)⟩ <;> (with_reducible repeat(first|exact bR_ _ _|refine qab ?_ _|refine qac ?_));done)|(with_reducible exact n3b))
           ((go_at_call 49;refine(qan g (P+20) lq.length _ (HT11.out.s.r.below i_) h3 h4 a_).mono ?_;rintro e w4 ⟨k,rfl,k1,k2,r4,o4⟩
             obtain⟨k,rfl⟩:∃ n:Nat,k=n:=⟨k.toNat,a_⟩
             have o34:qbb g W11 w4:=(qbb.of_below i_).trans o4;have hT4:=HT11.out.next r4 o34;have hl4:=qai hT4.s.p;have n4:=(qaa hT4.s.p).2.2.2.2.1;obtain⟨nk,hR4⟩:=HKP.out w4 (o34.keep HT11.out.s.r);have hb4:a0<w4.heap.size:=nL_ hbq o34.size;have nkt:=HKT.out w4 (o34.keep HT11.out.s.r);have hbq4':bq<w4.heap.size:=nL_ hbq2 o34.size;obtain⟨_,_,hqA4,_,l0,l1⟩:=HRQ.out.at_ (show k<lq.length by omega);cases hqA4
             obtain⟨⟨pc,pd⟩,HPP⟩:∃ p,Hid (lq[k]'(by omega)=p):=⟨_,hI_ rfl⟩
             rw[HPP.out] at l0 l1;simp only at l0 l1;have hs4:=o34.size;have hHT4:=hI_ hT4;have hy11:=HT11.out.lt;clear hT4;try(refine qmN (w4.heap[W11.heap.size]? =some (.cells #[.int .i64 0,.int .i64 0] 109 (0,0))) ?_ ?_;(focus ((refine(o4.block _ ?_ ?_).trans ?_);(simp);(exact HNE.out _ (Nat.le_of_lt hl11));(first|with_reducible exact at0 _ _|((with_reducible refine qbI ?_);with_reducible exact at0 _ _)|exact at0 _ _)));intro hy4;obtain⟨y0,y1,yf⟩:=qaH hy4;have n3c:=(hHT4.out.setz (z:=W11.heap.size) a_ a_ 0 (.int .i64 pc)).setz (z:=W11.heap.size) a_ a_ 1 (.int .i64 pd);have n3e:=qlj nk (z:=W11.heap.size) a_ (.int .i64 pc) (.int .i64 pd);have n3b:=And.intro (qaa n3c.s.p).2.2.2.2.1 (And.intro n3e (fun t=>(qgF (W:=w4) (a:=bq) (z:=W11.heap.size) a_ (.int .i64 pc) (.int .i64 pd) t).trans (nkt t))))))
          all_goals
           go_wp2
           go_meet
          · exact⟨_,_,_,rfl,heap_alloc_new _ _,a_,hHT4.out.alloc _⟩
          · exact⟨_,_,_,rfl,qas (i:=1) (qas (i:=0) hy4 _) _,a_,n3c⟩
         case rest=>
          obtain⟨z,cz,dz,rfl,hz,hzy,hT5⟩:=hcut;obtain⟨w5,rfl⟩:∃ W,W=wc:=⟨_,rfl⟩
          obtain⟨z0,z1,zf⟩:=qaH hz;have HT5:=hI_ hT5;have hyz:y≠z:=fun e=>hzy e.symm;obtain⟨kd_,ea_,eb_,ec_,et_,c0,c1,c2,c3,c4,cf,ct⟩:=HT5.out.cells;clear hz hT5 t4 ek;go_wp2_with fail
          go_meet;exact((HT5.out.set2 _).set3 _).mono a_
     iterate 2
      · as_aux_lemma=>
         obtain⟨kd_,ea_,eb_,ec_,et_,c0,c1,c2,c3,c4,cf,ct⟩:=HT10.out.cells;obtain⟨t0,t1,t2,t3,t4,t5,tf⟩:=qaa HT10.out.s.p;clear t0 t1 t2 t3 t4 tf;have hc:(ps.length:Int)<1∨1≤(ps.length:Int):=a_;have HT11:=hI_ (HT10.out.set0 7);obtain⟨W11,HW11⟩:=nm_ (w10.setCell ⟨y,0,none⟩ (.int .i64 7));rw[HW11.out] at HT11;go_upto_region 45 with fail
         rw[HW11.out];clear c0 c1 c2 c3 c4 cf ct t5;obtain⟨t0,t1,t2,t3,t4,t5,tf⟩:=qaa HT11.out.s.p;clear t0 t1 t2 t3 t4 tf;go_wp2_with fail
         all_goals
          refine(qan g (P+7) _ _ HT11.out.s.r a_ a_ a_).mono ?_;rintro e w12 ⟨v12,rfl,v1,v2,r12,o12⟩;have HT12:=hI_ (HT11.out.next r12 o12);clear r12 o12 t5;obtain⟨kd_,ea_,eb_,ec_,et_,c0,c1,c2,c3,c4,cf,ct⟩:=HT12.out.cells;go_wp2_with fail
          go_meet;exact(HT12.out.set1 _).mono a_
     · as_aux_lemma=>
        obtain⟨kd_,ea_,eb_,ec_,et_,c0,c1,c2,c3,c4,cf,ct⟩:=HT10.out.cells;obtain⟨t0,t1,t2,t3,t4,t5,tf⟩:=qaa HT10.out.s.p;clear t0 t1 t2 t3 t4 tf;have hc:(ps.length:Int)<1∨1≤(ps.length:Int):=a_;have HT11:=hI_ (HT10.out.set0 8);obtain⟨W11,HW11⟩:=nm_ (w10.setCell ⟨y,0,none⟩ (.int .i64 8));rw[HW11.out] at HT11;go_upto_region 48 with fail
        rw[HW11.out];clear c0 c1 c2 c3 c4 cf ct t5;obtain⟨t0,t1,t2,t3,t4,t5,tf⟩:=qaa HT11.out.s.p;clear t0 t1 t2 t3 t4 tf;go_wp2_with fail
        all_goals
         refine(qan g (P+7) _ _ HT11.out.s.r a_ a_ a_).mono ?_;rintro e w12 ⟨v12,rfl,v1,v2,r12,o12⟩;have HT12:=hI_ (HT11.out.next r12 o12);clear r12 o12 t5;obtain⟨kd_,ea_,eb_,ec_,et_,c0,c1,c2,c3,c4,cf,ct⟩:=HT12.out.cells;go_wp2_with fail
         go_meet;exact(HT12.out.set1 _).mono a_
    case rest=>
     obtain⟨w11,rfl⟩:∃ W,W=wc:=⟨_,rfl⟩
     have HT11:=hI_ hcut;clear hcut;go_wp2_with fail
     refine(qan g (P+30) 40 w11 HT11.out.s.r a_ a_ a_).mono ?_;rintro e w12 ⟨sv,rfl,sv1,sv2,r12,o12⟩;have HT12:=hI_ (HT11.out.next r12 o12);clear r12 o12;go_upto_block 1 with fail
     go_cut [] (fun wx=>EvT g (P+40) w ⟨s,bd,fs,ls,ks,ps⟩ (.slice (some ⟨b0,o0,none⟩) fs.length fc) (.slice lA ls.length lc) (.slice (some ⟨a0,p0,none⟩) ks.length ac) (.slice nA ps.length nc) w.heap.size y wx)
     case first=>
      by_cases hsv:sv≠0∧sv≠1∧sv≠2∧sv≠3
      · obtain⟨q0,q1,q2,q3⟩:=hsv;have k0:(sv==0)=false:=by rw[beq_eq_false_iff_ne];exact q0
        have k1:(sv==1)=false:=by rw[beq_eq_false_iff_ne];exact q1
        have k2:(sv==2)=false:=by rw[beq_eq_false_iff_ne];exact q2
        have k3:(sv==3)=false:=by rw[beq_eq_false_iff_ne];exact q3
        clear q0 q1 q2 q3;go_wp2_with fail
        go_meet;exact HT12.out.mono a_
      have hs4:sv=0∨sv=1∨sv=2∨sv=3:=a_;clear hsv;rcases hs4 with rfl|rfl|rfl|rfl
      · as_aux_lemma=>
         go_wp2_with fail
         refine(qan g (P+31) 11 w12 HT12.out.s.r a_ a_ a_).mono ?_;rintro e w13 ⟨v13,rfl,v1,v2,r13,o13⟩;have HT13:=hI_ (HT12.out.next r13 o13);clear r13 o13;obtain⟨kd_,ea_,eb_,ec_,et_,c0,c1,c2,c3,c4,cf,ct⟩:=HT13.out.cells;go_wp2_with fail
         go_meet;exact(HT13.out.set0 _).mono a_
      · as_aux_lemma=>
         go_wp2_with fail
         refine(qan g (P+31) 14 w12 HT12.out.s.r a_ a_ a_).mono ?_;rintro e w13 ⟨v13,rfl,v1,v2,r13,o13⟩;have HT13:=hI_ (HT12.out.next r13 o13);clear r13 o13;obtain⟨kd_,ea_,eb_,ec_,et_,c0,c1,c2,c3,c4,cf,ct⟩:=HT13.out.cells;go_wp2_with fail
         go_meet;exact(HT13.out.set1 _).mono a_
      · as_aux_lemma=>
         go_wp2_with fail
         refine(qan g (P+31) 9 w12 HT12.out.s.r a_ a_ a_).mono ?_;rintro e w13 ⟨v13,rfl,v1,v2,r13,o13⟩;have HT13:=hI_ (HT12.out.next r13 o13);clear r13 o13;obtain⟨kd_,ea_,eb_,ec_,et_,c0,c1,c2,c3,c4,cf,ct⟩:=HT13.out.cells;go_wp2_with fail
         go_meet;exact(HT13.out.set2 _).mono a_
      · as_aux_lemma=>
         go_wp2_with fail
         refine(qan g (P+31) 18 w12 HT12.out.s.r a_ a_ a_).mono ?_;rintro e w13 ⟨v13,rfl,v1,v2,r13,o13⟩;have HT13:=hI_ (HT12.out.next r13 o13);clear r13 o13;obtain⟨kd_,ea_,eb_,ec_,et_,c0,c1,c2,c3,c4,cf,ct⟩:=HT13.out.cells;go_wp2_with fail
         go_meet;exact(HT13.out.set3 _).mono a_
     case rest=>
      obtain⟨w14,rfl⟩:∃ W,W=wc:=⟨_,rfl⟩
      have HT14:=hI_ hcut;clear hcut;obtain⟨kd_,ea_,eb_,ec_,et_,c0,c1,c2,c3,c4,cf,ct⟩:=HT14.out.cells;obtain⟨z0,z1,z2,z3,z4,zf⟩:=qck HT14.out.s.z;go_wp2_with fail
      refine bodyPost_ret (v:=.agg #[.int .i64 kd_,.int .i64 ea_,.int .i64 eb_,.int .i64 ec_,.string et_]) (by simp[results,Tryz.results48,go_sem,z0,z1,z2,z3,z4]) rfl (qos HT14.out a_ _ _ _ _ _ ct)
end Go.Proofs.YtekaaekpdebloaaGreatDoor

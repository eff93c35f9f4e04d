/- Words: rows of events. Walks: a sequence of events, by the program and by the reference. No condition but small texts and the package's own variable. -/
import Derived.Test.YtcnpmbdkcflboaaGreatDoorCR
import Derived.Test.YtcnpmbdkcflboaaGreatDoorCJ
set_option linter.unusedVariables false
set_option linter.unusedSimpArgs false
namespace Go.Proofs.YtcnpmbdkcflboaaGreatDoor
open Go.RowKit
attribute [local go_sem ↓] Go.wp_at_zero Go.wp_at_succ

def EvF(F:Nat→Value)(es:List Ev):Prop:=∀ j (hj:j<es.length),F (j*5)=.int .i64 es[j].kind∧F (j*5+1)=.int .i64 es[j].a∧F (j*5+2)=.int .i64 es[j].b∧F (j*5+3)=.int .i64 es[j].c∧F (j*5+4)=.string es[j].txt
def qu8(w:World)(v:Value)(es:List Ev):Prop:=∃ F,RN 5 w v es.length F∧EvF F es
section
variable {w w':World} {v:Value} {es:List Ev}
theorem qu8.below(h:qu8 w v es)(hb:Below w.heap.size w w'):qu8 w' v es:=by obtain⟨F,h1,h2⟩:=h;exact⟨F,h1.below hb,h2⟩
theorem qu8.sl(h:qu8 w v es):∃ A c,v=.slice A es.length c:=by obtain⟨F,h1,_⟩:=h;exact h1.sl
theorem qu8.at_{A:Option Addr}{n c:Nat}(h:qu8 w (.slice A n c) es){j:Nat}(hj:j<es.length):∃ b o,A=some ⟨b,o,none⟩∧b<w.heap.size∧w.cell? ⟨b,o+j*5,none⟩=some (.int .i64 es[j].kind)∧w.cell? ⟨b,o+j*5+1,none⟩=some (.int .i64 es[j].a)∧
 w.cell? ⟨b,o+j*5+2,none⟩=some (.int .i64 es[j].b)∧w.cell? ⟨b,o+j*5+3,none⟩=some (.int .i64 es[j].c)∧w.cell? ⟨b,o+j*5+4,none⟩=some (.string es[j].txt):=by
 obtain⟨F,h1,h2⟩:=h;obtain⟨b,o,hA,hb,_,hc⟩:=h1.cell a_;obtain⟨f0,f1,f2,f3,f4⟩:=h2 j hj;refine⟨b,o,hA,hb,?_,?_,?_,?_,?_⟩
 · rw[hc _ a_,f0]
 · rw[Nat.add_assoc,hc _ a_,f1]
 · rw[Nat.add_assoc,hc _ a_,f2]
 · rw[Nat.add_assoc,hc _ a_,f3]
 · rw[Nat.add_assoc,hc _ a_,f4]
end
def quX(x:Wd)(es:List Ev):Wd:=es.foldl wdo x
def playTo(x:Wd)(es:List Ev)(k:Nat):Wd:=quX x (es.take k)
theorem quT{x:Wd}{es:List Ev}{k:Nat}(h:k<es.length):playTo x es (k+1)=wdo (playTo x es k) es[k]:=by
 unfold playTo quX;rw[qaZ h,List.foldl_append];rfl
theorem quU(x:Wd)(es:List Ev):playTo x es es.length=quX x es:=by unfold playTo;rw[List.take_length]
theorem WV.playTo{x:Wd}(h:WV x)(es:List Ev):∀ k,k≤es.length→WV (playTo x es k)
 |0,_=>h
 |k+1,hk=>by rw[quT hk];exact(WV.playTo h es k a_).do_ _
def quM(x:Wd)(es:List Ev):Bool:=qcc x&&decide (es.length≤80)
def quL(x:Wd)(es:List Ev):Wd:=if quM x es=true then quX x es else Wd.zero
def quR(w:World)(y:Wd)(ok:Bool)(e:Ending)(w':World):Prop:=
 ∃ uF uL uA uN,e=.returned (.tuple #[.agg #[.int .i64 y.sec,.int .i64 y.bad,uF,uL,uA,uN],.bool ok])∧WdS w' y uF uL uA uN∧Below w.heap.size w w'
structure qu1 (g:Nat) (y:Wd) (w0 w:World) (vF vL vA vN:Value):Prop where
 b:w.heap[g]? =some (.cells #[.int .i64 y.sec,.int .i64 y.bad,vF,vL,vA,vN] 28 (0,0))
 z:w.heap[w0.heap.size+1]? =some (.cells #[.int .i64 0,.int .i64 0,.slice none 0 0,.slice none 0 0,.slice none 0 0,.slice none 0 0] 28 (0,0))
 s:WdS w y vF vL vA vN
 o:Below w0.heap.size w0 w
 g:w0.heap.size+1<g
theorem qu1.below{g:Nat}{y:Wd}{w0 w w':World}{vF vL vA vN:Value}(h:qu1 g y w0 w vF vL vA vN)(hb:Below w.heap.size w w'):qu1 g y w0 w' vF vL vA vN:=
 ⟨(hb.block _ (qai h.b)).trans h.b,(hb.block _ (qai h.z)).trans h.z,h.s.below hb,h.o.trans (hb.mono h.o.size),h.g⟩
theorem qu1.put{g:Nat}{y y':Wd}{w0 w w':World}{vF vL vA vN uF uL uA uN:Value}(h:qu1 g y w0 w vF vL vA vN)(hb:Below w.heap.size w w')(hs:WdS w' y' uF uL uA uN):
 qu1 g y' w0 ((((((w'.setCell ⟨g,0,none⟩ (.int .i64 y'.sec)).setCell ⟨g,1,none⟩ (.int .i64 y'.bad)).setCell ⟨g,2,none⟩ uF).setCell ⟨g,3,none⟩ uL).setCell ⟨g,4,none⟩ uA).setCell ⟨g,5,none⟩ uN) uF uL uA uN:=by
 have h':=h.below hb;have hg:=h.g;exact⟨qcU h'.b _ _ _ _ _ _,(qcN a_ _ _ _ _ _ _).trans h'.z,hs.set6 h'.b _ _ _ _ _ _,qae h'.o a_ _ _ _ _ _ _,hg⟩
set_option maxHeartbeats 12800000 in
set_option maxRecDepth 100000 in
theorem quP(x:Wd)(es:List Ev)(vF vL vA vN vE:Value)(w:World)(hx:WdR w x vF vL vA vN)(ht:∀ j (hj:j<x.net.length),x.net[j].txt.size≤maxLen)(hE:qu8 w vE es)(hte:∀ j (hj:j<es.length),es[j].txt.size≤maxLen)(he:qsC w):
 Calls Tryz.prog 16 #[.agg #[.int .i64 x.sec,.int .i64 x.bad,vF,vL,vA,vN],vE] w (quR w (quL x es) (quM x es)):=by
 obtain⟨EA,Ec,rfl⟩:=hE.sl;have HEM:Hid (es.length≤maxLen):=hI_ (by obtain⟨F,h1,_⟩:=hE;exact h1.len);have hem:=HEM.out;unfold maxLen at hem;have HTE:=hI_ hte;have HER:=hI_ he;have HEW:=hI_ hE;have HLT:=hI_ he.lt;obtain⟨W0,HW0⟩:=nm_ ((w.alloc (.cells #[.int .i64 x.sec,.int .i64 x.bad,vF,vL,vA,vN] 28)).alloc (.cells #[.int .i64 0,.int .i64 0,.slice none 0 0,.slice none 0 0,.slice none 0 0,.slice none 0 0] 28));have HB0:Hid (Below w.heap.size w W0):=hI_ ai_;have hs0:w.heap.size+2=W0.heap.size:=by rw[←HW0.out];simp
 have HP0:Hid (W0.heap[w.heap.size]? =some (.cells #[.int .i64 x.sec,.int .i64 x.bad,vF,vL,vA,vN] 28 (0,0))):=hI_ M_;have HZ0:Hid (W0.heap[w.heap.size+1]? =some (.cells #[.int .i64 0,.int .i64 0,.slice none 0 0,.slice none 0 0,.slice none 0 0,.slice none 0 0] 28 (0,0))):=hI_ D_;have hl0:w.heap.size<W0.heap.size:=a_;have hl1:w.heap.size+1<W0.heap.size:=a_;have HX0:Hid (WdR W0 x vF vL vA vN):=hI_ (hx.below HB0.out);have HE0:=hI_ (hE.below HB0.out);have HT:=hI_ ht;clear hs0 hx ht he hte hE;obtain⟨p0,p1,p2,p3,p4,p5,pf⟩:=qaa HP0.out;obtain⟨bl,HBL⟩:=nm_ (decide (es.length≤80));have hbl:decide ((80:Int)<(es.length:Int))= !bl:=by
  rw[←HBL.out];by_cases h:es.length≤80
  · rw[decide_eq_true h];simp;omega
  · rw[decide_eq_false h];simp;omega
 go_enter Tryz.func16,Tryz.ntmps16
 go_upto_region 1 with fail
 rw[HW0.out];go_wp2_with fail
 refine(qfi x _ _ _ _ W0 HX0.out HT.out).mono ?_;rintro e w1 ⟨rfl,hb1⟩;clear p0 p1 p2 p3 p4 p5 pf;have HP1:=hI_ ((hb1.block _ hl0).trans HP0.out);have HZ1:=hI_ ((hb1.block _ hl1).trans HZ0.out);have hm1:=nL_ hl1 hb1.size;have HB1:=hI_ (HB0.out.trans (hb1.mono HB0.out.size));have HX1:=hI_ (HX0.out.below hb1);have HE1:=hI_ (HE0.out.below hb1);clear hb1;obtain⟨bv,HBV⟩:=nm_ (qcc x);rw[HBV.out];have HOK:Hid (quM x es=(bv&&bl)):=hI_ (by unfold quM;rw[HBV.out,HBL.out]);obtain⟨bo,HBO⟩:=nm_ ((bv&&bl));cases bo
 · obtain⟨y0,y1,y2,y3,y4,y5,yf⟩:=qaa HZ1.out;have HR:Hid (quL x es=Wd.zero∧quM x es=false):=hI_ (by rw[HBO.out] at HOK;unfold quL;rw[HOK.out];exact⟨rfl,rfl⟩);have HZP:=(WdP.zero (B:=0) (C:=0) (w:=((((((w1.setCell ⟨w.heap.size+1,0,none⟩ (.int .i64 0)).setCell ⟨w.heap.size+1,1,none⟩ (.int .i64 0)).setCell ⟨w.heap.size+1,2,none⟩ (.slice none 0 0)).setCell ⟨w.heap.size+1,3,none⟩ (.slice none 0 0)).setCell ⟨w.heap.size+1,4,none⟩ (.slice none 0 0)).setCell ⟨w.heap.size+1,5,none⟩ (.slice none 0 0)))).st;have HZP:=hI_ HZP;have HRET:Hid (quR w (quL x es) (quM x es) (.returned (.tuple #[.agg #[.int .i64 0,.int .i64 0,.slice none 0 0,.slice none 0 0,.slice none 0 0,.slice none 0 0],.bool false])) ((((((w1.setCell ⟨w.heap.size+1,0,none⟩ (.int .i64 0)).setCell ⟨w.heap.size+1,1,none⟩ (.int .i64 0)).setCell ⟨w.heap.size+1,2,none⟩ (.slice none 0 0)).setCell ⟨w.heap.size+1,3,none⟩ (.slice none 0 0)).setCell ⟨w.heap.size+1,4,none⟩ (.slice none 0 0)).setCell ⟨w.heap.size+1,5,none⟩ (.slice none 0 0))):=hI_ (by
    rw[HR.out.1,HR.out.2];exact⟨_,_,_,_,rfl,HZP.out,qae HB1.out (Nat.le_succ _) _ _ _ _ _ _⟩)
   cases bv
   · go_wp2_with fail
     refine bodyPost_ret (v:=.tuple #[.agg #[.int .i64 0,.int .i64 0,.slice none 0 0,.slice none 0 0,.slice none 0 0,.slice none 0 0],.bool false]) bx_ rfl HRET.out
   · obtain rfl:bl=false:=by have:=HBO.out;simpa using this
     have hbl2:(80:Int)<(es.length:Int):=by simpa using hbl
     go_wp2_with fail
     refine bodyPost_ret (v:=.tuple #[.agg #[.int .i64 0,.int .i64 0,.slice none 0 0,.slice none 0 0,.slice none 0 0,.slice none 0 0],.bool false]) bx_ rfl HRET.out
 have hbo:=HBO.out;rw[Bool.and_eq_true] at hbo;obtain⟨rfl,rfl⟩:=hbo;have hbl2:¬ (80:Int)<(es.length:Int):=by simpa using hbl
 have HR:Hid (quL x es=quX x es∧quM x es=true):=hI_ (by unfold quL;rw[HOK.out];exact⟨rfl,rfl⟩);have HWV:Hid (WV x):=hI_ (qcq.1 HBV.out);obtain⟨p0,p1,p2,p3,p4,p5,pf⟩:=qaa HP1.out;clear hbl;go_wp2_with fail
 refine(qjf x _ _ _ _ w1 HX1.out (HWV.out.wi.sml a_)).mono ?_;rintro e w2 ⟨uF,uL,uA,uN,rfl,hp2,hb2⟩;have hs2:=hp2.st;obtain⟨⟨B1,d1,rfl⟩,⟨B2,d2,rfl⟩,⟨B3,d3,rfl⟩,⟨B4,d4,rfl⟩⟩:=hs2.sl;obtain⟨g,HG⟩:=nm_ w2.heap.size;obtain⟨W3,HW3⟩:=nm_ (w2.alloc (.cells #[.int .i64 x.sec,.int .i64 x.bad,.slice B1 x.feeds.length d1,.slice B2 x.links.length d2,.slice B3 x.asked.length d3,.slice B4 x.net.length d4] 28));have hb3:Below w1.heap.size w1 W3:=by rw[←HW3.out];exact qab hb2 _
 have HI3:Hid (qu1 g x w W3 (.slice B1 x.feeds.length d1) (.slice B2 x.links.length d2) (.slice B3 x.asked.length d3) (.slice B4 x.net.length d4)):=hI_ ⟨by rw[←HW3.out,←HG.out];exact heap_alloc_new _ _,(hb3.block _ hm1).trans HZ1.out,by rw[←HW3.out];exact hs2.below (qab (bR_ _ _) _),HB1.out.trans (hb3.mono HB1.out.size),by have:=HG.out;have:=hb2.size;omega⟩;have HE3:=hI_ (HE1.out.below hb3);have HB13:=hI_ hb3;clear hp2 hs2 hb2 hb3 p0 p1 p2 p3 p4 p5 pf;go_upto_region 4 with fail
 rw[HW3.out,HG.out];go_wp2_with fail
 go_loopw [22] (fun i wr=>∃ (k:Nat) (uF uL uA uN:Value),k≤es.length∧i=.int .i64 k∧qu1 g (playTo x es k) w wr uF uL uA uN) (fun i _=>es.length-(intOf i).toNat)
 case atStart=>exact⟨0,_,_,_,_,Nat.zero_le _,rfl,HI3.out⟩
 case round=>
  obtain⟨k,uF,uL,uA,uN,hk,rfl,hI⟩:=hrel;obtain⟨wr1,rfl⟩:∃ W,W=wr:=⟨_,rfl⟩
  obtain⟨y,HY⟩:=nm_ (playTo x es k);have HYV:Hid (WV y):=hI_ (by rw[←HY.out];exact HWV.out.playTo es k hk);rw[HY.out] at hI;obtain⟨⟨C1,e1,rfl⟩,⟨C2,e2,rfl⟩,⟨C3,e3,rfl⟩,⟨C4,e4,rfl⟩⟩:=hI.s.sl;have HI:=hI_ hI;clear HI3 HE3 HB13;by_cases hlt:k<es.length
  case neg=>
   obtain rfl:k=es.length:=a_;have hki:¬ (es.length:Int)<(es.length:Int):=a_;obtain⟨g0,g1,g2,g3,g4,g5,gf⟩:=qaa hI.b;obtain⟨y0,y1,y2,y3,y4,y5,yf⟩:=qaa hI.z;have HYE:Hid (quL x es=y):=hI_ (by rw[HR.out.1,←HY.out,quU]);have HFIN:Hid (quR w (quL x es) (quM x es) (.returned (.tuple #[.agg #[.int .i64 y.sec,.int .i64 y.bad,.slice C1 y.feeds.length e1,.slice C2 y.links.length e2,.slice C3 y.asked.length e3,.slice C4 y.net.length e4],.bool true])) ((((((wr1.setCell ⟨w.heap.size+1,0,none⟩ (.int .i64 y.sec)).setCell ⟨w.heap.size+1,1,none⟩ (.int .i64 y.bad)).setCell ⟨w.heap.size+1,2,none⟩ (.slice C1 y.feeds.length e1)).setCell ⟨w.heap.size+1,3,none⟩ (.slice C2 y.links.length e2)).setCell ⟨w.heap.size+1,4,none⟩ (.slice C3 y.asked.length e3)).setCell ⟨w.heap.size+1,5,none⟩ (.slice C4 y.net.length e4))):=hI_ (by
    rw[HYE.out,HR.out.2];exact⟨_,_,_,_,rfl,hI.s.set6 hI.z _ _ _ _ _ _,qae hI.o (Nat.le_succ _) _ _ _ _ _ _⟩)
   clear hI;go_wp2_with fail
   refine bodyPost_ret (v:=.tuple #[.agg #[.int .i64 y.sec,.int .i64 y.bad,.slice C1 y.feeds.length e1,.slice C2 y.links.length e2,.slice C3 y.asked.length e3,.slice C4 y.net.length e4],.bool true]) bx_ rfl HFIN.out
  have hki:(k:Int)<(es.length:Int):=a_;have hk0:(0:Int)≤(k:Int):=a_;obtain⟨bE,oE,rfl,hbE,x0,x1,x2,x3,x4⟩:=(HEW.out.below hI.o).at_ hlt;have HSN:=hI_ (quT (x:=x) hlt);rw[HY.out] at HSN;have HTK:=hI_ (HTE.out k hlt);obtain⟨⟨kd,ea,eb,ec,et⟩,HEV⟩:∃ e,Hid (es[k]=e):=⟨_,hI_ rfl⟩
  rw[HEV.out] at x0 x1 x2 x3 x4 HSN HTK;simp only at x0 x1 x2 x3 x4 HTK;have htm:et.size≤9223372036854775807:=by have:=HTK.out;unfold maxLen at this;omega
  obtain⟨W4,HW4⟩:=nm_ (wr1.alloc (.cells #[.int .i64 kd,.int .i64 ea,.int .i64 eb,.int .i64 ec,.string et] 52));have hb4:Below wr1.heap.size wr1 W4:=by rw[←HW4.out];exact qab (bR_ _ _) _
  have hev:W4.heap[wr1.heap.size]? =some (.cells #[.int .i64 kd,.int .i64 ea,.int .i64 eb,.int .i64 ec,.string et] 52 (0,0)):=by rw[←HW4.out];exact heap_alloc_new _ _
  have hI4:=hI.below hb4;obtain⟨g0,g1,g2,g3,g4,g5,gf⟩:=qaa hI4.b;obtain⟨v0,v1,v2,v3,v4,vf⟩:=qrL hev;have HI4:=hI_ hI4;have HDO:=hI_ (qtD y ⟨kd,ea,eb,ec,et⟩ _ _ _ _ W4 hI4.s.r (fun j hj=>Nat.le_trans (HYV.out.wi.pcs j hj).2.2.1 s_) HTK.out (HER.out.next HLT.out hI4.o));rw[qr7 (qcq.2 HYV.out)] at HDO;obtain⟨y',HY'⟩:∃ y',Hid (wdo y ⟨kd,ea,eb,ec,et⟩=y'):=⟨_,hI_ rfl⟩
  rw[HY'.out] at HDO HSN;clear hI hI4 hev hb4;go_upto_region 7 with fail
  rw[HW4.out];clear x0 x1 x2 x3 x4;go_wp2_with fail
  refine HDO.out.mono ?_;rintro e w5 ⟨vF',vL',vA',vN',rfl,hp5,hb5⟩;have hs5:=hp5.st;obtain⟨⟨D1,f1,rfl⟩,⟨D2,f2,rfl⟩,⟨D3,f3,rfl⟩,⟨D4,f4,rfl⟩⟩:=hs5.sl;have HPUT:=hI_ (HI4.out.put hb5 hs5);clear g0 g1 g2 g3 g4 g5 gf v0 v1 v2 v3 v4 vf;obtain⟨g0,g1,g2,g3,g4,g5,gf⟩:=qaa (HI4.out.below hb5).b;clear hp5 hs5 hb5;go_wp2_with fail
  go_roundw
  case rel=>exact⟨k+1,_,_,_,_,a_,t_,by rw[HSN.out];exact HPUT.out⟩
  case measure=>simp[intOf];omega
set_option maxHeartbeats 12800000 in
set_option maxRecDepth 100000 in
theorem quQ(x:Wd)(es:List Ev)(vF vL vA vN vE:Value)(w:World)(hx:WdS w x vF vL vA vN)(ht:∀ j (hj:j<x.net.length),x.net[j].txt.size≤maxLen)(hE:qu8 w vE es)(hte:∀ j (hj:j<es.length),es[j].txt.size≤maxLen):
 Calls Tryz.prog 17 #[.agg #[.int .i64 x.sec,.int .i64 x.bad,vF,vL,vA,vN],vE] w (quR w (quL x es) (quM x es)):=by
 obtain⟨EA,Ec,rfl⟩:=hE.sl;obtain⟨⟨B1,d1,rfl⟩,⟨B2,d2,rfl⟩,⟨B3,d3,rfl⟩,⟨B4,d4,rfl⟩⟩:=hx.sl;have HEM:Hid (es.length≤maxLen):=hI_ (by obtain⟨F,h1,_⟩:=hE;exact h1.len);have hem:=HEM.out;unfold maxLen at hem;have HTE:=hI_ hte;have HEW:=hI_ hE;obtain⟨W0,HW0⟩:=nm_ ((w.alloc (.cells #[.int .i64 x.sec,.int .i64 x.bad,.slice B1 x.feeds.length d1,.slice B2 x.links.length d2,.slice B3 x.asked.length d3,.slice B4 x.net.length d4] 28)).alloc (.cells #[.int .i64 0,.int .i64 0,.slice none 0 0,.slice none 0 0,.slice none 0 0,.slice none 0 0] 28));have HB0:Hid (Below w.heap.size w W0):=hI_ ai_;have HS0:Hid (qla x w W0 (.slice B1 x.feeds.length d1) (.slice B2 x.links.length d2) (.slice B3 x.asked.length d3) (.slice B4 x.net.length d4)):=hI_ ⟨M_,D_,hx.below HB0.out,HB0.out⟩;have HT:=hI_ ht;clear hx ht hte hE;obtain⟨p0,p1,p2,p3,p4,p5,pf⟩:=qaa HS0.out.box;obtain⟨bl,HBL⟩:=nm_ (decide (es.length≤80));have hbl:decide ((80:Int)<(es.length:Int))= !bl:=by
  rw[←HBL.out];by_cases h:es.length≤80
  · rw[decide_eq_true h];simp;omega
  · rw[decide_eq_false h];simp;omega
 go_enter Tryz.func17,Tryz.ntmps17
 go_upto_region 1 with fail
 rw[HW0.out];go_wp2_with fail
 refine(qdO x _ _ _ _ W0 HS0.out.s.r HT.out).mono ?_;rintro e w1 ⟨rfl,hb1⟩;clear p0 p1 p2 p3 p4 p5 pf;have HS1:=hI_ (HS0.out.below hb1);clear hb1;obtain⟨bv,HBV⟩:=nm_ (qcc x);rw[HBV.out];have HOK:Hid (quM x es=(bv&&bl)):=hI_ (by unfold quM;rw[HBV.out,HBL.out]);obtain⟨bo,HBO⟩:=nm_ ((bv&&bl));cases bo
 · obtain⟨y0,y1,y2,y3,y4,y5,yf⟩:=qaa HS1.out.z;have HR:Hid (quL x es=Wd.zero∧quM x es=false):=hI_ (by rw[HBO.out] at HOK;unfold quL;rw[HOK.out];exact⟨rfl,rfl⟩);have HZP:=(WdP.zero (B:=0) (C:=0) (w:=((((((w1.setCell ⟨w.heap.size+1,0,none⟩ (.int .i64 0)).setCell ⟨w.heap.size+1,1,none⟩ (.int .i64 0)).setCell ⟨w.heap.size+1,2,none⟩ (.slice none 0 0)).setCell ⟨w.heap.size+1,3,none⟩ (.slice none 0 0)).setCell ⟨w.heap.size+1,4,none⟩ (.slice none 0 0)).setCell ⟨w.heap.size+1,5,none⟩ (.slice none 0 0)))).st;have HZP:=hI_ HZP;have HRET:Hid (quR w (quL x es) (quM x es) (.returned (.tuple #[.agg #[.int .i64 0,.int .i64 0,.slice none 0 0,.slice none 0 0,.slice none 0 0,.slice none 0 0],.bool false])) ((((((w1.setCell ⟨w.heap.size+1,0,none⟩ (.int .i64 0)).setCell ⟨w.heap.size+1,1,none⟩ (.int .i64 0)).setCell ⟨w.heap.size+1,2,none⟩ (.slice none 0 0)).setCell ⟨w.heap.size+1,3,none⟩ (.slice none 0 0)).setCell ⟨w.heap.size+1,4,none⟩ (.slice none 0 0)).setCell ⟨w.heap.size+1,5,none⟩ (.slice none 0 0))):=hI_ (by
    rw[HR.out.1,HR.out.2];exact⟨_,_,_,_,rfl,HZP.out,qae HS1.out.b (Nat.le_succ _) _ _ _ _ _ _⟩)
   cases bv
   · go_wp2_with fail
     refine bodyPost_ret (v:=.tuple #[.agg #[.int .i64 0,.int .i64 0,.slice none 0 0,.slice none 0 0,.slice none 0 0,.slice none 0 0],.bool false]) bw_ rfl HRET.out
   · obtain rfl:bl=false:=by have:=HBO.out;simpa using this
     have hbl2:(80:Int)<(es.length:Int):=by simpa using hbl
     go_wp2_with fail
     refine bodyPost_ret (v:=.tuple #[.agg #[.int .i64 0,.int .i64 0,.slice none 0 0,.slice none 0 0,.slice none 0 0,.slice none 0 0],.bool false]) bw_ rfl HRET.out
 have hbo:=HBO.out;rw[Bool.and_eq_true] at hbo;obtain⟨rfl,rfl⟩:=hbo;have hbl2:¬ (80:Int)<(es.length:Int):=by simpa using hbl
 have HR:Hid (quL x es=quX x es∧quM x es=true):=hI_ (by unfold quL;rw[HOK.out];exact⟨rfl,rfl⟩);have HWV:Hid (WV x):=hI_ (qcq.1 HBV.out);clear hbl;go_upto_region 3 with fail
 go_wp2_with fail
 go_loopw [6] (fun i wr=>∃ (k:Nat) (uF uL uA uN:Value),k≤es.length∧i=.int .i64 k∧qla (playTo x es k) w wr uF uL uA uN) (fun i _=>es.length-(intOf i).toNat)
 case atStart=>exact⟨0,_,_,_,_,Nat.zero_le _,rfl,HS1.out⟩
 case round=>
  obtain⟨k,uF,uL,uA,uN,hk,rfl,hI⟩:=hrel;obtain⟨wr1,rfl⟩:∃ W,W=wr:=⟨_,rfl⟩
  obtain⟨y,HY⟩:=nm_ (playTo x es k);have HYV:Hid (WV y):=hI_ (by rw[←HY.out];exact HWV.out.playTo es k hk);rw[HY.out] at hI;obtain⟨⟨C1,e1,rfl⟩,⟨C2,e2,rfl⟩,⟨C3,e3,rfl⟩,⟨C4,e4,rfl⟩⟩:=hI.s.sl;have HI:=hI_ hI;have HSM:=hI_ (HYV.out.wi.sml a_);obtain⟨g0,g1,g2,g3,g4,g5,gf⟩:=qaa hI.box;by_cases hlt:k<es.length
  case neg=>
   obtain rfl:k=es.length:=a_;have hki:¬ (es.length:Int)<(es.length:Int):=a_;have HYE:Hid (quL x es=y):=hI_ (by rw[HR.out.1,←HY.out,quU]);clear hI;go_wp2_with fail
   refine(qcO y _ _ _ _ wr1 HI.out.s HSM.out).mono ?_;rintro e w3 ⟨vF',vL',vA',vN',rfl,hc3,hb3⟩;have hs3:=hc3.s;obtain⟨⟨D1,f1,rfl⟩,⟨D2,f2,rfl⟩,⟨D3,f3,rfl⟩,⟨D4,f4,rfl⟩⟩:=hs3.sl;have hI3:=HI.out.below hb3;obtain⟨y0,y1,y2,y3,y4,y5,yf⟩:=qaa hI3.z;have HFIN:Hid (quR w (quL x es) (quM x es) (.returned (.tuple #[.agg #[.int .i64 y.sec,.int .i64 y.bad,.slice D1 y.feeds.length f1,.slice D2 y.links.length f2,.slice D3 y.asked.length f3,.slice D4 y.net.length f4],.bool true])) ((((((w3.setCell ⟨w.heap.size+1,0,none⟩ (.int .i64 y.sec)).setCell ⟨w.heap.size+1,1,none⟩ (.int .i64 y.bad)).setCell ⟨w.heap.size+1,2,none⟩ (.slice D1 y.feeds.length f1)).setCell ⟨w.heap.size+1,3,none⟩ (.slice D2 y.links.length f2)).setCell ⟨w.heap.size+1,4,none⟩ (.slice D3 y.asked.length f3)).setCell ⟨w.heap.size+1,5,none⟩ (.slice D4 y.net.length f4))):=hI_ (by
    rw[HYE.out,HR.out.2];exact⟨_,_,_,_,rfl,hs3.set6 hI3.z _ _ _ _ _ _,qae hI3.b (Nat.le_succ _) _ _ _ _ _ _⟩)
   clear hc3 hs3 hb3 hI3 g0 g1 g2 g3 g4 g5 gf;go_wp2_with fail
   refine bodyPost_ret (v:=.tuple #[.agg #[.int .i64 y.sec,.int .i64 y.bad,.slice D1 y.feeds.length f1,.slice D2 y.links.length f2,.slice D3 y.asked.length f3,.slice D4 y.net.length f4],.bool true]) bw_ rfl HFIN.out
  have hki:(k:Int)<(es.length:Int):=a_;have hk0:(0:Int)≤(k:Int):=a_;obtain⟨bE,oE,rfl,hbE,x0,x1,x2,x3,x4⟩:=(HEW.out.below hI.b).at_ hlt;have HSN:=hI_ (quT (x:=x) hlt);rw[HY.out] at HSN;have HTK:=hI_ (HTE.out k hlt);obtain⟨⟨kd,ea,eb,ec,et⟩,HEV⟩:∃ e,Hid (es[k]=e):=⟨_,hI_ rfl⟩
  rw[HEV.out] at x0 x1 x2 x3 x4 HSN HTK;simp only at x0 x1 x2 x3 x4 HTK;have HI4:=hI_ (hI.below (qac (bR_ _ _)));have HDO:=hI_ (qnJ y ⟨kd,ea,eb,ec,et⟩ _ _ _ _ wr1.drew HI4.out.s HYV.out.wi a_ HTK.out);obtain⟨y',HY'⟩:∃ y',Hid (wdo y ⟨kd,ea,eb,ec,et⟩=y'):=⟨_,hI_ rfl⟩
  rw[HY'.out] at HDO HSN;clear hI;go_upto_region 6 with fail
  have hS0:wr1.drew.cell? ⟨w.heap.size,0,none⟩=some (.int .i64 y.sec)∧wr1.drew.cell? ⟨w.heap.size,1,none⟩=some (.int .i64 y.bad)∧wr1.drew.cell? ⟨w.heap.size,2,none⟩=some (.slice C1 y.feeds.length e1)∧wr1.drew.cell? ⟨w.heap.size,3,none⟩=some (.slice C2 y.links.length e2)∧wr1.drew.cell? ⟨w.heap.size,4,none⟩=some (.slice C3 y.asked.length e3)∧wr1.drew.cell? ⟨w.heap.size,5,none⟩=some (.slice C4 y.net.length e4)∧wr1.drew.cell? ⟨bE,oE+k*5,none⟩=some (.int .i64 kd)∧wr1.drew.cell? ⟨bE,oE+k*5+1,none⟩=some (.int .i64 ea)∧wr1.drew.cell? ⟨bE,oE+k*5+2,none⟩=some (.int .i64 eb)∧wr1.drew.cell? ⟨bE,oE+k*5+3,none⟩=some (.int .i64 ec)∧wr1.drew.cell? ⟨bE,oE+k*5+4,none⟩=some (.string et):=⟨g0,g1,g2,g3,g4,g5,x0,x1,x2,x3,x4⟩
  refine qrO (fun w'=>w'.cell? ⟨w.heap.size,0,none⟩=some (.int .i64 y.sec)∧w'.cell? ⟨w.heap.size,1,none⟩=some (.int .i64 y.bad)∧w'.cell? ⟨w.heap.size,2,none⟩=some (.slice C1 y.feeds.length e1)∧w'.cell? ⟨w.heap.size,3,none⟩=some (.slice C2 y.links.length e2)∧w'.cell? ⟨w.heap.size,4,none⟩=some (.slice C3 y.asked.length e3)∧w'.cell? ⟨w.heap.size,5,none⟩=some (.slice C4 y.net.length e4)∧w'.cell? ⟨bE,oE+k*5,none⟩=some (.int .i64 kd)∧w'.cell? ⟨bE,oE+k*5+1,none⟩=some (.int .i64 ea)∧w'.cell? ⟨bE,oE+k*5+2,none⟩=some (.int .i64 eb)∧w'.cell? ⟨bE,oE+k*5+3,none⟩=some (.int .i64 ec)∧w'.cell? ⟨bE,oE+k*5+4,none⟩=some (.string et)) (fun i=>decide (i<5)) d_ hS0 (fun hS hI=> ?_);clear g0 g1 g2 g3 g4 g5 gf x0 x1 x2 x3 x4 hS0;refine gU_ ?_ hI hS;clear hI;refine tU_ 0 ?_;refine tU_ 1 ?_;refine tU_ 2 ?_;refine tU_ 3 ?_;refine tU_ 4 ?_;refine eU_ fun hI=>?_;refine qrK (i:=5) hI rfl d_ rfl (fun K1 hK1=> ?_);go_simp;go_at_call 37
  refine HDO.out.mono ?_;rintro e w5 ⟨vF',vL',vA',vN',rfl,hs5,hb5⟩;obtain⟨⟨D1,f1,rfl⟩,⟨D2,f2,rfl⟩,⟨D3,f3,rfl⟩,⟨D4,f4,rfl⟩⟩:=hs5.sl;have hI5:=HI4.out.below hb5;obtain⟨g0,g1,g2,g3,g4,g5,gf⟩:=qaa hI5.box;obtain⟨W6,HW6⟩:=nm_ ((((((w5.setCell ⟨w.heap.size,0,none⟩ (.int .i64 y'.sec)).setCell ⟨w.heap.size,1,none⟩ (.int .i64 y'.bad)).setCell ⟨w.heap.size,2,none⟩ (.slice D1 y'.feeds.length f1)).setCell ⟨w.heap.size,3,none⟩ (.slice D2 y'.links.length f2)).setCell ⟨w.heap.size,4,none⟩ (.slice D3 y'.asked.length f3)).setCell ⟨w.heap.size,5,none⟩ (.slice D4 y'.net.length f4));have hput:=hI5.set hs5;rw[HW6.out] at hput;have HPUT:=hI_ hput;clear hput hI5 hs5 hb5;refine hK1.out _ _ (fun hI=> ?_);refine qrK (i:=6) hI rfl d_ rfl (fun K2 hK2=> ?_);go_simp;rw[HW6.out];refine hK2.out _ _ (fun hI=> ?_);refine qrM d_ ?_;go_wp2_with fail
  go_roundw
  case rel=>exact⟨k+1,_,_,_,_,a_,t_,by rw[HSN.out];exact HPUT.out⟩
  case measure=>simp[intOf];omega
end Go.Proofs.YtcnpmbdkcflboaaGreatDoor

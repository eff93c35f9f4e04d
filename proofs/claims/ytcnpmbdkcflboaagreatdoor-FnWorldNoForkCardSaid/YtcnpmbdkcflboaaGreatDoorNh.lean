/- Walk: a run and events are drawn. No condition. -/
import Derived.Test.YtcnpmbdkcflboaaGreatDoorNg
set_option linter.unusedVariables false
set_option linter.unusedSimpArgs false
namespace Go.Proofs.YtcnpmbdkcflboaaGreatDoor
open Go.RowKit
attribute [local go_sem ↓] Go.wp_at_zero Go.wp_at_succ

def qu3(B:Nat)(w:World)(v:Value)(es:List Ev):Prop:=∃ F,ON 5 B 52 w v es.length F∧EvF F es
section
variable {B:Nat} {w w':World} {v:Value} {es:List Ev} {T:List TypeId}
theorem qu3.r(h:qu3 B w v es):qu8 w v es:=by obtain⟨F,h1,h2⟩:=h;exact⟨F,h1.rn,h2⟩
theorem qu3.keepT(h:qu3 B w v es)(hk:qaA T w w')(he:52 ∈ T):qu3 B w' v es:=by obtain⟨F,h1,h2⟩:=h;exact⟨F,h1.keepT hk he,h2⟩
theorem qu3.below(h:qu3 B w v es)(hb:Below w.heap.size w w'):qu3 B w' v es:=by obtain⟨F,h1,h2⟩:=h;exact⟨F,h1.below hb,h2⟩
theorem qu3.sl(h:qu3 B w v es):∃ A c,v=.slice A es.length c:=h.r.sl
end
theorem qu7:(Tryz.prog.info? 52).map (fun i=>(i.zero,i.size,i.bytes))=some (some (.agg #[.int .i64 0,.int .i64 0,.int .i64 0,.int .i64 0,.string ⟨#[]⟩]),5,48):=by kernel_rfl
theorem qvg{o:Oper}{a:Act}{K:Act→World→Prop}{Q:Exit→Act→World→Prop}{w:World}{base:Nat}{v:Value}{es:List Ev}{e:Ev}(hown:qu3 base w v es)(hn:es.length+1≤100000000000)(hbase:base≤w.heap.size){s y:Operand}
 (ho:o.op=.call {callee:=.builtin .append,args:= #[s,y],argTypes:= #[29,29]}) (hs:a.eval s=v) {g:Nat} (hx:a.eval y=.slice (some ⟨g,0,none⟩) 1 1) (hg:g=w.heap.size)
 (h:∀ A c w',qu3 base w' (.slice A (es.length+1) c) (es++[e])→w.grownBy w' v.ownBlock→K (a.put o.dst (.slice A (es.length+1) c)) w'):
 Oper.wp Tryz.prog o a (w.alloc (.cells (evC e) 52)) K Q:=by
 subst hg;obtain⟨F,h1,h2⟩:=hown;obtain⟨i0,hi,hz0,hz1,hz2⟩:=info_parts qu7;have hba:Below w.heap.size w (w.alloc (.cells (evC e) 52)):=(bR_ _ _).alloc (nr_ _) _;have hone:∀ t,t<1*5→((evC e).toList.getD t (.slice none 0 0)).oneCell'=true:=by
  intro t ht;obtain rfl|rfl|rfl|rfl|rfl:t=0∨t=1∨t=2∨t=3∨t=4:=a_;all_goals rfl
 refine qcQ 29 52 5 48 i0 _ Tryz.underlying29 hi hz0 hz1 hz2 rfl a_ a_ (h1.below hba) (RN.box rfl) hone hn (Nat.le_trans hbase hba.size) ho hs hx fun A c w' h3 h4=> ?_;refine h A c w' ⟨_,A_,fun j hj=> ?_⟩ (qat (qaP hba) h4);by_cases hlt:j<es.length
 · rw[qaC a_,qaC a_,qaC a_,qaC a_,qaC a_,List.getElem_append_left hlt];exact h2 j hlt
 · obtain⟨rfl,he⟩:=qcx hj hlt;rw[qaD a_,qaD a_,qaD a_,qaD a_,qaD a_,he,Nat.sub_self,Nat.add_sub_cancel_left,Nat.add_sub_cancel_left,Nat.add_sub_cancel_left,Nat.add_sub_cancel_left];exact⟨rfl,rfl,rfl,rfl,rfl⟩
theorem qvb{es:List Ev}{e:Ev}(h:∀ j (hj:j<es.length),es[j].txt.size≤10)(he:e.txt.size≤10):∀ j (hj:j<(es++[e]).length),(es++[e])[j].txt.size≤10:=fun j hj=>by
 by_cases hlt:j<es.length
 · rw[List.getElem_append_left hlt];exact h j hlt
 · obtain⟨rfl,he'⟩:=qcx hj hlt;rw[he'];exact he
theorem qbb.keepE{g P:Nat}{w w':World}(h:qbb g w w')(hr:Rdr w g P):qaA [52] w w':=
 qaA.of_grown h (fun r hr'=>by
  cases hr'
  obtain⟨bs,A,c,p,h1,_⟩:=hr;exact⟨_,_,_,h1,e_⟩)
structure PlW (g P q y5 y6 B:Nat) (w:World) (x0 x:Wd) (a0 a1 a2 a3 uF uL uA uN:Value) (es:List Ev) (vE:Value) (wr:World):Prop where
 z:wr.heap[q]? =some (.cells #[.int .i64 0,.int .i64 0,.slice none 0 0,.slice none 0 0,.slice none 0 0,.slice none 0 0] 28 (0,0))
 b5:wr.heap[y5]? =some (.cells #[.int .i64 x0.sec,.int .i64 x0.bad,a0,a1,a2,a3] 28 (0,0))
 b6:wr.heap[y6]? =some (.cells #[.int .i64 x.sec,.int .i64 x.bad,uF,uL,uA,uN] 28 (0,0))
 s0:WdS wr x0 a0 a1 a2 a3
 s:WdS wr x uF uL uA uN
 e:qu3 B wr vE es
 r:Rdr wr g P
 o:Below w.heap.size w wr
 d0:DW x0
 d:DW x
 t:∀ j (hj:j<es.length),es[j].txt.size≤10
 hq:w.heap.size≤q
 qg:q<g
 g5:g<y5
 y56:y5<y6
 y6B:y6<B
section
variable {g P P' q y5 y6 B:Nat} {w:World} {x0 x x':Wd} {a0 a1 a2 a3 uF uL uA uN tF tL tA tN:Value} {es es':List Ev} {vE vE':Value} {wr w2:World}
theorem PlW.mono(h:PlW g P q y5 y6 B w x0 x a0 a1 a2 a3 uF uL uA uN es vE wr)(hP:P≤P'):PlW g P' q y5 y6 B w x0 x a0 a1 a2 a3 uF uL uA uN es vE wr:={h with r:=h.r.mono hP}
theorem PlW.only(h:PlW g P q y5 y6 B w x0 x a0 a1 a2 a3 uF uL uA uN es vE wr)(ho:qbb g wr w2)(hr:Rdr w2 g P'):PlW g P' q y5 y6 B w x0 x a0 a1 a2 a3 uF uL uA uN es vE w2:=by
 have ne:∀ k,k≠g→some k≠some g:=fun k hk e=>hk (Option.some.inj e);have h1:=h.hq;have h2:=h.qg;have h3:=h.g5;have h4:=h.y56;exact⟨(ho.block q (qai h.z) (ne _ a_)).trans h.z,(ho.block y5 (qai h.b5) (ne _ a_)).trans h.b5,(ho.block y6 (qai h.b6) (ne _ a_)).trans h.b6,h.s0.keep (ho.keep h.r),h.s.keep (ho.keep h.r),h.e.keepT (ho.keepE h.r) e_,hr,h.o.trans (ho.below a_ h.r.lt),h.d0,h.d,h.t,h1,h2,h3,h4,h.y6B⟩
theorem PlW.below(h:PlW g P q y5 y6 B w x0 x a0 a1 a2 a3 uF uL uA uN es vE wr)(hb:Below wr.heap.size wr w2):PlW g P q y5 y6 B w x0 x a0 a1 a2 a3 uF uL uA uN es vE w2:=h.only (qbb.of_below hb) (h.r.below hb)
theorem PlW.put(h:PlW g P q y5 y6 B w x0 x a0 a1 a2 a3 uF uL uA uN es vE wr)(hb:Below wr.heap.size wr w2)(hs:WdS w2 x' tF tL tA tN)(hd:DW x'):
 PlW g P q y5 y6 B w x0 x' a0 a1 a2 a3 tF tL tA tN es vE ((((((w2.setCell ⟨y6,0,none⟩ (.int .i64 x'.sec)).setCell ⟨y6,1,none⟩ (.int .i64 x'.bad)).setCell ⟨y6,2,none⟩ tF).setCell ⟨y6,3,none⟩ tL).setCell ⟨y6,4,none⟩ tA).setCell ⟨y6,5,none⟩ tN):=by
 have h':=h.below hb;have h1:=h.hq;have h2:=h.qg;have h3:=h.g5;have h4:=h.y56;exact⟨(qcN a_ _ _ _ _ _ _).trans h'.z,(qcN a_ _ _ _ _ _ _).trans h'.b5,qcU h'.b6 _ _ _ _ _ _,h'.s0.set6 h'.b6 _ _ _ _ _ _,hs.set6 h'.b6 _ _ _ _ _ _,h'.e.keepT (qaA.set6 (T:=[52]) h'.b6 e_ _ _ _ _ _ _) e_,qcw h'.r a_ _ _ _ _ _ _,qae h'.o a_ _ _ _ _ _ _,h.d0,hd,h.t,h1,h2,h3,h4,h.y6B⟩
theorem PlW.app(h:PlW g P q y5 y6 B w x0 x a0 a1 a2 a3 uF uL uA uN es vE wr)(hE:qu3 B w2 vE' es')(hg:wr.grownBy w2 vE.ownBlock)(ht:∀ j (hj:j<es'.length),es'[j].txt.size≤10):PlW g P q y5 y6 B w x0 x a0 a1 a2 a3 uF uL uA uN es' vE' w2:=by
 obtain⟨F,k1,_⟩:=h.e;have hk:qaA LT2 wr w2:=k1.grew hg e_;have h1:=h.hq;have h2:=h.qg;have h3:=h.g5;have h4:=h.y56;have h5:=h.y6B;have lo:∀ r,vE.ownBlock=some r→B≤r:=fun r hr=>(k1.lt r hr).1;have ne:∀ k,k<B→some k≠vE.ownBlock:=fun k hk e=>by have:=lo k e.symm;omega
 exact⟨(hg.block q (qai h.z) (ne _ a_)).trans h.z,(hg.block y5 (qai h.b5) (ne _ a_)).trans h.b5,(hg.block y6 (qai h.b6) (ne _ a_)).trans h.b6,h.s0.keep hk,h.s.keep hk,hE,h.r.grown hg (fun r hr=>by have:=lo r hr;omega),Below.grown h.o hg h.o.size (fun r hr=>by have:=lo r hr;omega),h.d0,h.d,ht,h1,h2,h3,h4,h5⟩
end
def qu4(w:World)(e:Ending)(w':World):Prop:=∃ x uF uL uA uN es vE,e=.returned (.tuple #[.agg #[.int .i64 x.sec,.int .i64 x.bad,uF,uL,uA,uN],vE])∧DW x∧WdS w' x uF uL uA uN∧qu8 w' vE es∧(∀ j (hj:j<es.length),es[j].txt.size≤10)∧es.length≤81∧Below w.heap.size w w'
set_option maxHeartbeats 6400000 in
set_option maxRecDepth 100000 in
theorem quK(bs:List UInt8)(v:Value)(w:World)(hv:RU w v bs):Calls Tryz.prog 15 #[v] w (qu4 w):=by
 obtain⟨q,HQQ⟩:=nm_ w.heap.size;obtain⟨W0,HW0⟩:=nm_ (w.alloc (.cells #[.int .i64 0,.int .i64 0,.slice none 0 0,.slice none 0 0,.slice none 0 0,.slice none 0 0] 28));have HB0:Hid (Below w.heap.size w W0):=hI_ (by rw[←HW0.out];exact qab (bR_ _ _) _);have hz0:W0.heap[q]? =some (.cells #[.int .i64 0,.int .i64 0,.slice none 0 0,.slice none 0 0,.slice none 0 0,.slice none 0 0] 28 (0,0)):=by rw[←HW0.out,←HQQ.out];exact heap_alloc_new w _
 have hs0:W0.heap.size=q+1:=by rw[←HW0.out,←HQQ.out];simp
 have HV:Hid (RU W0 v bs):=hI_ (hv.below HB0.out);obtain⟨A,c,rfl,_,_,_⟩:=hv;go_enter Tryz.func15,Tryz.ntmps15
 go_upto_region 1 with fail
 rw[HW0.out,HQQ.out];go_wp2_with fail
 refine(qkM bs _ W0 HV.out).mono ?_;rintro e w1 ⟨g,rfl,hg,r1,hb1⟩;have hg1:=r1.lt;go_wp2_with fail
 refine(qiu g 0 w1 r1 a_).mono ?_;rintro e w2 ⟨x,uF,uL,uA,uN,rfl,hd,hs,r2,o2⟩;obtain⟨⟨A1,c1,rfl⟩,⟨A2,c2,rfl⟩,⟨A3,c3,rfl⟩,⟨A4,c4,rfl⟩⟩:=hs.sl;have hb2:Below W0.heap.size W0 w2:=hb1.trans (o2.below hg hg1);have hg2:=r2.lt;obtain⟨y5,HY5⟩:=nm_ w2.heap.size;obtain⟨W2,HW2⟩:=nm_ (w2.alloc (.cells #[.int .i64 x.sec,.int .i64 x.bad,.slice A1 x.feeds.length c1,.slice A2 x.links.length c2,.slice A3 x.asked.length c3,.slice A4 x.net.length c4] 28));have hbx2:W2.heap[y5]? =some (.cells #[.int .i64 x.sec,.int .i64 x.bad,.slice A1 x.feeds.length c1,.slice A2 x.links.length c2,.slice A3 x.asked.length c3,.slice A4 x.net.length c4] 28 (0,0)):=by rw[←HW2.out,←HY5.out];exact heap_alloc_new _ _
 have hb2':Below w2.heap.size w2 W2:=by rw[←HW2.out];exact qab (bR_ _ _) _
 have hs2:W2.heap.size=y5+1:=by rw[←HW2.out,←HY5.out];simp
 obtain⟨b0,b1,b2,b3,b4,b5,bf⟩:=qaa hbx2;go_upto_region 3 with fail
 rw[HW2.out,HY5.out];obtain⟨W3,HW3⟩:=nm_ (W2.alloc (.cells #[.int .i64 x.sec,.int .i64 x.bad,.slice A1 x.feeds.length c1,.slice A2 x.links.length c2,.slice A3 x.asked.length c3,.slice A4 x.net.length c4] 28));have hbx3:W3.heap[y5+1]? =some (.cells #[.int .i64 x.sec,.int .i64 x.bad,.slice A1 x.feeds.length c1,.slice A2 x.links.length c2,.slice A3 x.asked.length c3,.slice A4 x.net.length c4] 28 (0,0)):=by rw[←HW3.out];exact qbu hs2.symm
 have hb3':Below W2.heap.size W2 W3:=by rw[←HW3.out];exact qab (bR_ _ _) _
 have hs3:W3.heap.size=y5+2:=by rw[←HW3.out];simp;omega
 go_upto_region 4 with fail
 rw[HW3.out];try rw[hs2]
 clear b0 b1 b2 b3 b4 b5 bf;obtain⟨W4,HW4⟩:=nm_ (W3.alloc (.cells #[] 52));have hb34:Below W3.heap.size W3 W4:=by rw[←HW4.out];exact qab (bR_ _ _) _
 have hb24:Below w2.heap.size w2 W4:=hb2'.trans ((hb3'.trans (hb34.mono hb3'.size)).mono hb2'.size);have HW:Hid (PlW g 200 q y5 (y5+1) (y5+2) w x x (.slice A1 x.feeds.length c1) (.slice A2 x.links.length c2) (.slice A3 x.asked.length c3) (.slice A4 x.net.length c4) (.slice A1 x.feeds.length c1) (.slice A2 x.links.length c2) (.slice A3 x.asked.length c3) (.slice A4 x.net.length c4) [] (.slice (some ⟨y5+2,0,none⟩) 0 0) W4):=hI_ (by
  have hB:Below W0.heap.size W0 W4:=hb2.trans (hb24.mono hb2.size);refine⟨(hB.block q a_).trans hz0,((hb3'.trans (hb34.mono hb3'.size)).block y5 a_).trans hbx2,(hb34.block (y5+1) a_).trans hbx3,hs.below hb24,hs.below hb24,⟨fun _=>.slice none 0 0,ON.empty (by rw[←HW4.out];exact qbu hs3.symm) (nr_ _),fun j hj=>absurd hj (Nat.not_lt_zero _)⟩,(r2.mono a_).below hb24,HB0.out.trans (hB.mono HB0.out.size),hd,hd,fun j hj=>absurd hj (Nat.not_lt_zero _),by have:=HQQ.out;omega,a_,by have:=HY5.out;omega,a_,a_⟩)
 clear hb34 hb24 hb3' hb2' hbx2 hbx3 hb2 hs r1 r2 o2 hd hb1 hz0 hg hg1 hg2 hs0;go_upto_region 5 with fail
 rw[HW4.out];try rw[hs3]
 go_wp2_with fail
 refine(qan g 200 70 W4 HW.out.r a_ a_ a_).mono ?_;rintro e w5 ⟨n,rfl,n1,n2,r5,o5⟩;have HW5:=hI_ (HW.out.only o5 r5);clear r5 o5;go_upto_if 21 with(go_at_call 35;refine(qan g 201 24 w5 HW5.out.r a_ a_ a_).mono ?_;rintro e w6 ⟨y,rfl,y1,y2,r6,o6⟩;have HW6:=hI_ (HW5.out.only o6 r6);clear r6 o6)
 go_cut [8] (fun s8 wx=>∃ n:Int,s8=.int .i64 n∧0≤n∧n≤81∧PlW g 203 q y5 (y5+1) (y5+2) w x x (.slice A1 x.feeds.length c1) (.slice A2 x.links.length c2) (.slice A3 x.asked.length c3) (.slice A4 x.net.length c4) (.slice A1 x.feeds.length c1) (.slice A2 x.links.length c2) (.slice A3 x.asked.length c3) (.slice A4 x.net.length c4) [] (.slice (some ⟨y5+2,0,none⟩) 0 0) wx)
 case first=>
  by_cases hy:y=0
  · subst hy;go_wp2_with fail
    refine(qan g 202 3 w6 HW6.out.r a_ a_ a_).mono ?_;rintro e w7 ⟨m,rfl,m1,m2,r7,o7⟩;have HW7:=hI_ (HW6.out.only o7 r7);have hm:IntKind.i64.wrap (79+m)=79+m:=IntWalk.i64_in _ a_;clear r7 o7;go_wp2_with fail
    go_meet;exact⟨79+m,by first|rfl|rw[hm]|(congr 1;go_num),a_,a_,HW7.out⟩
  · have hy':(y==0)=false:=by rw[beq_eq_false_iff_ne];exact hy
    go_wp2_with fail
    go_meet;exact⟨n,rfl,a_,a_,HW6.out.mono a_⟩
 case rest=>
  obtain⟨n,rfl,n1,n2,hW⟩:=hcut;obtain⟨w7,rfl⟩:∃ W,W=wc:=⟨_,rfl⟩
  clear HW HW5 HW6 HB0 HV;have HW:=hI_ hW;clear hW;go_wp2_with fail
  go_loopw [7,9] (fun vE i wr=>∃ (z:Wd) (tF tL tA tN:Value) (es:List Ev),i=.int .i64 es.length∧(es.length:Int)≤n∧PlW g (203+60*es.length) q y5 (y5+1) (y5+2) w x z (.slice A1 x.feeds.length c1) (.slice A2 x.links.length c2) (.slice A3 x.asked.length c3) (.slice A4 x.net.length c4) tF tL tA tN es vE wr) (fun _ i _=>(n-intOf i).toNat)
  case atStart=>exact⟨x,_,_,_,_,[],rfl,n_,HW.out⟩
  case round=>
   obtain⟨z,tF,tL,tA,tN,es,rfl,hik,hW⟩:=hrel;obtain⟨w8,rfl⟩:∃ W,W=wr:=⟨_,rfl⟩
   obtain⟨⟨B1,d1,rfl⟩,⟨B2,d2,rfl⟩,⟨B3,d3,rfl⟩,⟨B4,d4,rfl⟩⟩:=hW.s.sl;obtain⟨EA,ec0,rfl⟩:=hW.e.sl;clear HW;have HW:=hI_ hW;obtain⟨b0,b1,b2,b3,b4,b5,bf⟩:=qaa hW.b6;by_cases hlt:(es.length:Int)<n
   case neg=>
    obtain⟨s0,s1,s2,s3,s4,s5,sf⟩:=qaa hW.b5;obtain⟨q0,q1,q2,q3,q4,q5,qf⟩:=qaa hW.z;have HFIN:Hid (qu4 w (.returned (.tuple #[.agg #[.int .i64 x.sec,.int .i64 x.bad,.slice A1 x.feeds.length c1,.slice A2 x.links.length c2,.slice A3 x.asked.length c3,.slice A4 x.net.length c4],.slice EA es.length ec0])) ((((((w8.setCell ⟨q,0,none⟩ (.int .i64 x.sec)).setCell ⟨q,1,none⟩ (.int .i64 x.bad)).setCell ⟨q,2,none⟩ (.slice A1 x.feeds.length c1)).setCell ⟨q,3,none⟩ (.slice A2 x.links.length c2)).setCell ⟨q,4,none⟩ (.slice A3 x.asked.length c3)).setCell ⟨q,5,none⟩ (.slice A4 x.net.length c4))):=hI_
     ⟨x,_,_,_,_,es,_,rfl,hW.d0,hW.s0.set6 hW.z _ _ _ _ _ _,(hW.e.keepT (qaA.set6 (T:=[52]) hW.z e_ _ _ _ _ _ _) e_).r,hW.t,a_,qae hW.o hW.hq _ _ _ _ _ _⟩
    clear hW b0 b1 b2 b3 b4 b5 bf;go_wp2_with fail
    refine bodyPost_ret (v:=.tuple #[.agg #[.int .i64 x.sec,.int .i64 x.bad,.slice A1 x.feeds.length c1,.slice A2 x.links.length c2,.slice A3 x.asked.length c3,.slice A4 x.net.length c4],.slice EA es.length ec0]) (by simp[results,Tryz.results15,go_sem,q0,q1,q2,q3,q4,q5]) rfl HFIN.out
   have hn81:es.length≤81:=a_;clear hW;go_wp2_with fail
   refine(qiv g (203+60*es.length) z _ _ _ _ w8 HW.out.r a_ HW.out.s HW.out.d.v.wi a_).mono ?_;rintro e w9 ⟨⟨kd,ea,eb,ec,et⟩,rfl,ht,r9,o9⟩;simp only at ht;have hW9:=HW.out.only o9 r9;obtain⟨W9,HW9⟩:=nm_ (w9.alloc (.cells #[.int .i64 kd,.int .i64 ea,.int .i64 eb,.int .i64 ec,.string et] 52));have hb9:Below w9.heap.size w9 W9:=by rw[←HW9.out];exact qab (bR_ _ _) _
   have hev9:W9.heap[w9.heap.size]? =some (.cells #[.int .i64 kd,.int .i64 ea,.int .i64 eb,.int .i64 ec,.string et] 52 (0,0)):=by rw[←HW9.out];exact heap_alloc_new _ _
   have HX9:=hI_ (hW9.below hb9);have HEV9:=hI_ hev9;have HT9:=hI_ ht;have HLE:Hid (∀ r,(Value.slice EA es.length ec0).ownBlock=some r→r<w9.heap.size):=hI_ (fun r hr=>by obtain⟨F,k1,_⟩:=hW9.e;exact(k1.lt r hr).2);clear r9 o9 hW9 hb9 hev9 ht b0 b1 b2 b3 b4 b5 bf;obtain⟨v0,v1,v2,v3,v4,vf⟩:=qrL HEV9.out;have lv9:=qai HEV9.out;go_upto_region 12 with fail
   rw[HW9.out]
   go_upto_region 13 with(at_builtin;refine qaF rfl fun K hK=>qvg (e:=⟨kd,ea,eb,ec,et⟩) HX9.out.e a_ (by have:=HX9.out.y6B;have:=qai HX9.out.b6;omega) rfl rfl rfl rfl (fun A' c' w10 hE10 hg10=>hK _ _ ?_)
                          have hE10':=hI_ hE10;have hg10':=hI_ hg10;clear hE10 hg10)
   have HX10:=hI_ (HX9.out.app hE10'.out hg10'.out (qvb HX9.out.t HT9.out));have hev10:=(hg10'.out.block w9.heap.size lv9 (fun e=>Nat.lt_irrefl _ (HLE.out _ e.symm))).trans HEV9.out;have HLN:Hid ((es++[(⟨kd,ea,eb,ec,et⟩:Ev)]).length=es.length+1):=hI_ k_;have HDO:=hI_ (qnJ z ⟨kd,ea,eb,ec,et⟩ _ _ _ _ w10 HX10.out.s HX10.out.d.v.wi a_ (Nat.le_trans HT9.out s_));obtain⟨z',HZ'⟩:∃ z',Hid (wdo z ⟨kd,ea,eb,ec,et⟩=z'):=⟨_,hI_ rfl⟩
   have HDZ:Hid (DW z'):=hI_ (by rw[←HZ'.out];exact HX10.out.d.do_ _);rw[HZ'.out] at HDO;clear v0 v1 v2 v3 v4 vf;obtain⟨v0,v1,v2,v3,v4,vf⟩:=qrL hev10;obtain⟨b0,b1,b2,b3,b4,b5,bf⟩:=qaa HX10.out.b6;clear hev10 hE10' hg10';go_wp2_with fail
   refine HDO.out.mono ?_;rintro e w11 ⟨vF',vL',vA',vN',rfl,hs11,hb11⟩;obtain⟨⟨C1,e1,rfl⟩,⟨C2,e2,rfl⟩,⟨C3,e3,rfl⟩,⟨C4,e4,rfl⟩⟩:=hs11.sl;have HPUT:=hI_ (HX10.out.put hb11 hs11 HDZ.out);clear b0 b1 b2 b3 b4 b5 bf v0 v1 v2 v3 v4 vf;obtain⟨b0,b1,b2,b3,b4,b5,bf⟩:=qaa (HX10.out.below hb11).b6;clear hs11 hb11;go_wp2_with fail
   go_roundw
   case rel=>exact⟨z',_,_,_,_,es++[⟨kd,ea,eb,ec,et⟩],by rw[HLN.out];go_num,by rw[HLN.out];omega,by rw[HLN.out];exact HPUT.out.mono a_⟩
   case measure=>simp[intOf];omega
end Go.Proofs.YtcnpmbdkcflboaaGreatDoor

/- Words and walks of the law. -/
import Derived.Test.YtekaaekpdebloaaGreatDoorCH5
set_option linter.unusedVariables false
set_option linter.unusedSimpArgs false
set_option maxHeartbeats 12800000
set_option maxRecDepth 100000
namespace Go.Proofs.YtekaaekpdebloaaGreatDoor
open Go.RowKit
attribute [local go_sem ↓] Go.wp_at_zero Go.wp_at_succ

theorem qa7.nil{B C:Nat}{w:World}:qa7 B C w (.slice none 0 0) []:=⟨fun k hk=>bb_,fun _=>.slice none 0 0,ON.nil,fun j hj=>an_,fun _ j _ hj=>absurd hj (Nat.not_lt_zero _),fun _ j _ hj=>absurd hj (Nat.not_lt_zero _)⟩
theorem qcA.nil{B C:Nat}{w:World}:qcA B C w (.slice none 0 0) []:=⟨fun k hk=>bb_,fun _=>.slice none 0 0,ON.nil,fun j hj=>an_,fun _ j _ hj=>absurd hj (Nat.not_lt_zero _)⟩
theorem qbd.nil{B C:Nat}{w:World}:qbd B C w (.slice none 0 0) []:=⟨fun k hk=>bb_,fun _=>.slice none 0 0,ON.nil,fun j hj=>an_,fun _ j _ hj=>absurd hj (Nat.not_lt_zero _)⟩
structure qbT (q C:Nat) (s b:Int) (x:Wd) (W0 w:World) (g:Nat) (vF vL vA vN:Value):Prop where
 box:w.heap[g]? =some (.cells #[.int .i64 s,.int .i64 b,vF,vL,vA,vN] 28 (0,0))
 gq:q≤g
 c:WdP q C w x vF vL vA vN
 cs:C≤w.heap.size
 b:Below q W0 w
section
variable {q g C:Nat} {s b:Int} {x:Wd} {W0 w w':World} {vF vL vA vN v:Value}
theorem qbT.lt(h:qbT q C s b x W0 w g vF vL vA vN):g<w.heap.size:=qai h.box
theorem qbT.qs(h:qbT q C s b x W0 w g vF vL vA vN):q≤w.heap.size:=Nat.le_of_lt (Nat.lt_of_le_of_lt h.gq h.lt)
theorem qbT.below(h:qbT q C s b x W0 w g vF vL vA vN){B:Nat}(hb:Below B w w')(hB:B=w.heap.size):qbT q C s b x W0 w' g vF vL vA vN:=by
 subst hB;exact⟨(hb.block _ h.lt).trans h.box,h.gq,h.c.below hb,Nat.le_trans h.cs hb.size,h.b.trans (hb.mono h.qs)⟩
theorem qnz{ls:List (Int×Int)}(ho:qav q 99 w vL ls)(hb:Below q W0 w)(hs:q≤w.heap.size):
 ∃ g v C,Value.pointer (some ⟨w.heap.size,0,none⟩)=.pointer (some ⟨g,0,none⟩)∧qbT q C s b ⟨s,b,[],ls,[],[]⟩ W0 (w.alloc (.cells #[.int .i64 s,.int .i64 b,.slice none 0 0,vL,.slice none 0 0,.slice none 0 0] 28)) g (.slice none 0 0) v (.slice none 0 0) (.slice none 0 0):=
 ⟨_,vL,w.heap.size,rfl,heap_alloc_new _ _,hs,⟨qa7.nil,ho.o.keepT (qaA.alloc (T:=LT2) _) e_,qcA.nil,qbd.nil⟩,Nat.le_of_lt (qaB _ _),hb.alloc hs _⟩
theorem qnA{ls:List (Int×Int)}{y0 y1 y2 y3 y4 y5:Value}(ho:qav q 99 w vL ls)(hb:Below q W0 w)(hg:q≤g)(hq:w.heap[g]? =some (.cells #[y0,y1,y2,y3,y4,y5] 28 (0,0))):
 ∃ g' v C,Value.pointer (some ⟨g,0,none⟩)=.pointer (some ⟨g',0,none⟩)∧qbT q C s b ⟨s,b,[],ls,[],[]⟩ W0 ((((((w.setCell ⟨g,0,none⟩ (.int .i64 s)).setCell ⟨g,1,none⟩ (.int .i64 b)).setCell ⟨g,2,none⟩ (.slice none 0 0)).setCell ⟨g,3,none⟩ vL).setCell ⟨g,4,none⟩ (.slice none 0 0)).setCell ⟨g,5,none⟩ (.slice none 0 0)) g' (.slice none 0 0) v (.slice none 0 0) (.slice none 0 0):=
 ⟨g,vL,w.heap.size,rfl,qcU hq _ _ _ _ _ _,hg,⟨qa7.nil,ho.o.keepT (qaA.set6 (T:=LT2) hq e_ _ _ _ _ _ _) e_,qcA.nil,qbd.nil⟩,(qaA.set6 (T:=LT2) hq e_ _ _ _ _ _ _).1,qae hb hg _ _ _ _ _ _⟩
theorem qbT.boxR{N n:Nat}{e:TypeId}{F:Nat→Value}(h:qbT q C s b x W0 w g vF vL vA vN)(h1:ON N q e w v n F)(he:e≠28)(hg:w.grownBy w' v.ownBlock):w'.heap[g]? =some (.cells #[.int .i64 s,.int .i64 b,vF,vL,vA,vN] 28 (0,0)):=
 (hg.block g h.lt (fun e0=>h1.nbox h.box he e0.symm)).trans h.box
theorem qbT.boxF(h:qbT q C s b x W0 w g vF vL vA vN)(hg:w.grownBy w' vF.ownBlock):w'.heap[g]? =some (.cells #[.int .i64 s,.int .i64 b,vF,vL,vA,vN] 28 (0,0)):=by
 obtain⟨_,F,h1,_⟩:=h.c.F;exact h.boxR h1 e_ hg
theorem qbT.boxA(h:qbT q C s b x W0 w g vF vL vA vN)(hg:w.grownBy w' vA.ownBlock):w'.heap[g]? =some (.cells #[.int .i64 s,.int .i64 b,vF,vL,vA,vN] 28 (0,0)):=by
 obtain⟨_,F,h1,_⟩:=h.c.A;exact h.boxR h1 e_ hg
theorem qbT.boxN(h:qbT q C s b x W0 w g vF vL vA vN)(hg:w.grownBy w' vN.ownBlock):w'.heap[g]? =some (.cells #[.int .i64 s,.int .i64 b,vF,vL,vA,vN] 28 (0,0)):=by
 obtain⟨_,F,h1,_⟩:=h.c.N;exact h.boxR h1 e_ hg
theorem qbT.setF{fs:List Fd}(h:qbT q C s b x W0 w g vF vL vA vN)(hg:w.grownBy w' vF.ownBlock)(hf:qa7 q w'.heap.size w' v fs):qbT q w'.heap.size s b {x with feeds:=fs} W0 (w'.setCell ⟨g,2,none⟩ v) g v vL vA vN:=by
 have hbx:=h.boxF hg;obtain⟨_,F,h1,_⟩:=h.c.F;have hk:qaA LT2 w' (w'.setCell ⟨g,2,none⟩ v):=qaA.set1 hbx e_ v;have hc:C≤w'.heap.size:=Nat.le_trans h.cs hg.size;exact⟨qas hbx v,h.gq,⟨hf.next (hk.mono qi1),((h.c.L.keepT (h1.grew (T:=LTA) hg e_) e_).keepT hk e_).mono (nr_ _) hc,((h.c.A.next (h1.grew hg e_)).next (hk.mono qkm)).mono (nr_ _) hc,((h.c.N.next (h1.grew hg e_)).next (hk.mono qk1)).mono (nr_ _) hc⟩,hk.1,(h.b.grown hg h.qs (fun k hk=>(h1.lt k hk).1)).setCell (p:=⟨g,2,none⟩) h.gq v⟩
theorem qbT.setA{ks:List (List (Int×Int))}(h:qbT q C s b x W0 w g vF vL vA vN)(hg:w.grownBy w' vA.ownBlock)(hf:qcA q w'.heap.size w' v ks):qbT q w'.heap.size s b {x with asked:=ks} W0 (w'.setCell ⟨g,4,none⟩ v) g vF vL v vN:=by
 have hbx:=h.boxA hg;obtain⟨_,F,h1,_⟩:=h.c.A;have hk:qaA LT2 w' (w'.setCell ⟨g,4,none⟩ v):=qaA.set1 hbx e_ v;have hc:C≤w'.heap.size:=Nat.le_trans h.cs hg.size;exact⟨qas hbx v,h.gq,⟨((h.c.F.next (h1.grew hg e_)).next (hk.mono qi1)).mono (nr_ _) hc,((h.c.L.keepT (h1.grew (T:=[99]) hg e_) e_).keepT hk e_).mono (nr_ _) hc,hf.next (hk.mono qkm),((h.c.N.next (h1.grew hg e_)).next (hk.mono qk1)).mono (nr_ _) hc⟩,hk.1,(h.b.grown hg h.qs (fun k hk=>(h1.lt k hk).1)).setCell (p:=⟨g,4,none⟩) h.gq v⟩
theorem qbT.setN{ps:List Pc}(h:qbT q C s b x W0 w g vF vL vA vN)(hg:w.grownBy w' vN.ownBlock)(hf:qbd q w'.heap.size w' v ps):qbT q w'.heap.size s b {x with net:=ps} W0 (w'.setCell ⟨g,5,none⟩ v) g vF vL vA v:=by
 have hbx:=h.boxN hg;obtain⟨_,F,h1,_⟩:=h.c.N;have hk:qaA LT2 w' (w'.setCell ⟨g,5,none⟩ v):=qaA.set1 hbx e_ v;have hc:C≤w'.heap.size:=Nat.le_trans h.cs hg.size;exact⟨qas hbx v,h.gq,⟨((h.c.F.next (h1.grew hg e_)).next (hk.mono qi1)).mono (nr_ _) hc,((h.c.L.keepT (h1.grew (T:=[99]) hg e_) e_).keepT hk e_).mono (nr_ _) hc,((h.c.A.next (h1.grew hg e_)).next (hk.mono qkm)).mono (nr_ _) hc,hf.next (hk.mono qk1)⟩,hk.1,(h.b.grown hg h.qs (fun k hk=>(h1.lt k hk).1)).setCell (p:=⟨g,5,none⟩) h.gq v⟩
theorem qbT.setZ{z i:Nat}{cur:Array Value}(h:qbT q C s b x W0 w g vF vL vA vN)(hz:w.heap[z]? =some (.cells cur 57 (0,0)))(hq:q≤z)(hN:vN.ownBlock≠some z):qbT q C s b x W0 (w.setCell ⟨z,i,none⟩ v) g vF vL vA vN:=by
 have hne:g≠z:=fun e=>by subst e;have:=h.box.symm.trans hz;simp at this
 have hk1:qaA LTF w (w.setCell ⟨z,i,none⟩ v):=qaA.set1 hz e_ v;have hk2:qaA LTA w (w.setCell ⟨z,i,none⟩ v):=qaA.set1 hz e_ v;have hk3:qaA LP w (w.setCell ⟨z,i,none⟩ v):=qaA.set1 hz e_ v;obtain⟨h0,F,h1,h2,h3⟩:=h.c.N;exact⟨(Below.heap_setCell _ _ _ _ hne).trans h.box,h.gq,⟨h.c.F.next hk1,h.c.L.keepT hk1 e_,h.c.A.next hk2,h0,F,h1.grown (qaR _ _ _) (.inr hN),fun j hj=>⟨(h2 j hj).1,(h2 j hj).2.1,(h2 j hj).2.2.1,(h2 j hj).2.2.2.1,(h2 j hj).2.2.2.2.1,(h2 j hj).2.2.2.2.2.1.keepT hk3 e_,(h2 j hj).2.2.2.2.2.2⟩,h3⟩,Nat.le_trans h.cs hk1.1,h.b.setCell (p:=⟨z,i,none⟩) hq v⟩
end
def qk3(w:World)(x:Wd)(e:Ending)(w':World):Prop:=
 ∃ uF uL uA uN,e=.returned (.agg #[.int .i64 x.sec,.int .i64 x.bad,uF,uL,uA,uN])∧WdP w.heap.size w'.heap.size w' x uF uL uA uN∧bB w w'
theorem qjf(x:Wd)(vF vL vA vN:Value)(w:World)(hx:WdR w x vF vL vA vN)(hm:Sml x):
 Calls Tryz.prog 51 #[.agg #[.int .i64 x.sec,.int .i64 x.bad,vF,vL,vA,vN]] w (qk3 w x):=by
 obtain⟨s,b,fs,ls,ks,ps⟩:=x;have HM:=hI_ hm;obtain⟨hm1,hm2,hm3,hna,_,_,_⟩:=hm;have HNA:=hI_ hna;simp only at hm1 hm2 hm3 hna;have hkm:ks.length≤1000000:=a_;clear hna;obtain⟨W0,HW0⟩:=nm_ ((w.alloc (.cells #[.int .i64 s,.int .i64 b,vF,vL,vA,vN] 28)).alloc (.cells #[.int .i64 0,.int .i64 0,.slice none 0 0,.slice none 0 0,.slice none 0 0,.slice none 0 0] 28));have HB0:Hid (bB w W0):=hI_ r_;have hs0:w.heap.size+2=W0.heap.size:=by rw[←HW0.out];simp
 have HP0:Hid (W0.heap[w.heap.size]? =some (.cells #[.int .i64 s,.int .i64 b,vF,vL,vA,vN] 28 (0,0))):=hI_ M_;have HZ0:Hid (W0.heap[w.heap.size+1]? =some (.cells #[.int .i64 0,.int .i64 0,.slice none 0 0,.slice none 0 0,.slice none 0 0,.slice none 0 0] 28 (0,0))):=hI_ D_;have HX0:Hid (WdR W0 ⟨s,b,fs,ls,ks,ps⟩ vF vL vA vN):=hI_ (hx.below HB0.out);have hl0:w.heap.size<W0.heap.size:=a_;have hl1:w.heap.size+1<W0.heap.size:=a_;clear hx hs0;obtain⟨fA,fc,rfl⟩:=HX0.out.feeds.sl;obtain⟨aA,ac,rfl⟩:=HX0.out.asked.sl;obtain⟨nA,nc,rfl⟩:=HX0.out.net.sl;have HL0:Hid (RP W0 vL ls):=hI_ HX0.out.links;obtain⟨p0,p1,p2,p3,p4,p5,pf⟩:=qaa HP0.out;go_enter Tryz.func51,Tryz.ntmps51
 go_wp2_with fail
 rw[HW0.out];go_upto_region 1 with fail
 go_cut [3] (fun s3 wx=>∃ g v C,s3=.pointer (some ⟨g,0,none⟩)∧qbT W0.heap.size C s b ⟨s,b,[],ls,[],[]⟩ W0 wx g (.slice none 0 0) v (.slice none 0 0) (.slice none 0 0))
 case first=>
  have d0:W0.drew.cell? ⟨w.heap.size,0,none⟩=_:=p0;have d1:W0.drew.cell? ⟨w.heap.size,1,none⟩=_:=p1;have d3:W0.drew.cell? ⟨w.heap.size,3,none⟩=_:=p3;clear p2 p4 p5 pf;go_region_held3 (fun w'=>w'.cell? ⟨w.heap.size,0,none⟩=some (.int .i64 s)∧w'.cell? ⟨w.heap.size,1,none⟩=some (.int .i64 b)∧w'.cell? ⟨w.heap.size,3,none⟩=some vL)
   (first|with_reducible exact⟨d0,d1,d3⟩|(with_reducible refine⟨Eq.trans (Below.cell (B:=W0.heap.size) ?_ hl0) p0,Eq.trans (Below.cell (B:=W0.heap.size) ?_ hl0) p1,Eq.trans (Below.cell (B:=W0.heap.size) ?_ hl0) p3⟩ <;> (repeat(first|with_reducible exact bR_ _ _|with_reducible exact hb05|with_reducible refine qab ?_ _|with_reducible refine qac ?_|with_reducible refine qae ?_ ?_ _ _ _ _ _ _|omega));done))
   (first
     |(go_at_call 101;refine(qku ls _ _ (HL0.out.below i_) a_).mono ?_;rintro e w5 ⟨A5,c5,rfl,ho5,hb5⟩
       have hb05:bB W0 w5:=qb6 i_ hb5;have hs5:=hb05.size;have ho6:qav W0.heap.size 99 w5 (.slice A5 ls.length c5) ls:=ho5.mono (by first|exact nr_ _|(simp;done)|(simp;omega));try(have hz5:=(hb5.block _ (qaB _ _)).trans (heap_alloc_new _ _);obtain⟨k0,k1,k2,k3,k4,k5,kf⟩:=qaa hz5)))
  all_goals
   go_wp2
   go_meet
  · exact qnz ho6 hb05 hs5
  · exact qnA ho6 hb05 k_ hz5
 case rest=>
  obtain⟨g,vl,C0,rfl,hL1⟩:=hcut;obtain⟨W1,rfl⟩:∃ W1,W1=wc:=⟨_,rfl⟩
  have HL1:=hI_ hL1;clear p0 p1 p2 p3 p4 p5 pf;obtain⟨p0,p1,p2,p3,p4,p5,pf⟩:=qaa ((hL1.b.block _ hl0).trans HP0.out);clear hL1;go_wp2_with fail
  clear p0 p1 p2 p3 p4 p5 pf;go_loopw [21] (fun i wr=>∃ (k:Nat) (uF:Value) (C:Nat),k≤fs.length∧i=.int .i64 k∧qbT W0.heap.size C s b ⟨s,b,fs.take k,ls,[],[]⟩ W0 wr g uF vl (.slice none 0 0) (.slice none 0 0)) (fun i _=>fs.length-(intOf i).toNat)
  case atStart=>exact⟨0,_,_,Nat.zero_le _,rfl,HL1.out⟩
  case round=>
   obtain⟨k,uF,C,hk,rfl,hc⟩:=hrel;obtain⟨wr1,rfl⟩:∃ W,W=wr:=⟨_,rfl⟩
   have HC:=hI_ hc;have hb:=hc.b;clear hc;by_cases hlt:k<fs.length
   · have hki:(k:Int)<(fs.length:Int):=a_;have hk0:(0:Int)≤(k:Int):=a_;obtain⟨b0,o0,xb,xh,hA,hbs,f0,f1,f2,f3,f4,f5,hF⟩:=(HX0.out.feeds.below hb).at_ hlt;subst hA;have HBB:=hI_ (HM.out.b k hlt);have HSN:=hI_ (qaZ hlt);obtain⟨fk,HFK⟩:=nm_ (fs[k]);simp only at HBB;rw[HFK.out] at f0 f1 f2 f3 hF HSN HBB;have HF:=hI_ hF;obtain⟨xbA,xbc,rfl⟩:=hF.bl.sl';obtain⟨xhA,xhc,rfl⟩:=hF.hv.sl';clear hF hb;go_upto_region 5 with fail
     obtain⟨W5,HW5⟩:=nm_ (wr1.alloc (.cells #[.int .i64 fk.pub,.int .i64 fk.hd.len,.int .i64 fk.hd.dg,.int .i64 fk.hd.sg,.slice xbA fk.bl.length xbc,.slice xhA fk.hv.length xhc] 50));rw[HW5.out];have hb5:bB wr1 W5:=by rw[←HW5.out];exact qab (bR_ _ _) _
     have hz5:W5.heap[wr1.heap.size]? =some (.cells #[.int .i64 fk.pub,.int .i64 fk.hd.len,.int .i64 fk.hd.dg,.int .i64 fk.hd.sg,.slice xbA fk.bl.length xbc,.slice xhA fk.hv.length xhc] 50 (0,0)):=by rw[←HW5.out];exact heap_alloc_new _ _
     have hc5:=HC.out.below hb5 rfl;have HC5:=hI_ hc5;have HF5:=hI_ (HF.out.below' hb5);obtain⟨m0,m1,m2,m3,m4,m5,mf⟩:=qaa (show W5.drew.heap[wr1.heap.size]? =_ from hz5);have hgd:W5.drew.cell? ⟨g,2,none⟩=some uF:=(qaa hc5.box).2.2.1;clear f0 f1 f2 f3 f4 f5 hb5 hz5 hc5 mf;go_region_law
      (first
        |((refine qa9 p_ (qnc (base:=W0.heap.size) (f:=fk) hc6.c.F ho6 hCD (Nat.le_trans HC5.out.qs hD) n_ hc6.qs hc6.cs rfl rfl rfl rfl ?_))
          intro A7 c7 w7 ho7 hg7;obtain⟨n7,hn7⟩:∃ n,(fs.take k).length+1=n:=⟨_,rfl⟩
          simp only[hn7] at ho7 ⊢;clear hn7;obtain⟨j0,j1,j2,j3,j4,j5,jf⟩:=qaa (hc6.boxF hg7))
        |(go_simp;go_wp2_with (first
        |(go_at_call 102;refine(qbV fk _ _ _ (HF5.out.below' (qac (bR_ _ _))) HBB.out.1 HBB.out.2).mono ?_;rintro e w6 ⟨ub,uh,rfl,ho6,hb6⟩;obtain⟨uB,ubc,rfl⟩:=ho6.bl.sl;obtain⟨uH,uhc,rfl⟩:=ho6.hv.sl;have hc6:=HC5.out.below ((qac (bR_ _ W5)).trans hb6) rfl;have hCD:=HC5.out.cs;have hD:W5.heap.size≤W5.drew.heap.size:=nr_ _
          have hg6:=(qaa hc6.box).2.2.1;have hg6a:∀ o,(w6.alloc o).cell? ⟨g,2,none⟩=some uF:=fun o=>(qaa (qau hc6.box)).2.2.1))))
     all_goals
      go_wp2
      go_roundw
      case rel=>exact⟨k+1,_,_,a_,t_,by rw[HSN.out];exact hc6.setF hg7 ho7⟩
      case measure=>simp[intOf];omega
   · obtain rfl:k=fs.length:=a_;have hki:¬ (fs.length:Int)<(fs.length:Int):=a_;have HN:Hid (qbT W0.heap.size C s b ⟨s,b,fs,ls,[],[]⟩ W0 wr1 g uF vl (.slice none 0 0) (.slice none 0 0)):=hI_ (by have h:=HC.out;rwa[List.take_length] at h);obtain⟨p0,p1,p2,p3,p4,p5,pf⟩:=qaa ((hb.block _ hl0).trans HP0.out);clear hb;go_wp2_with fail
     clear p0 p1 p2 p3 p4 p5 pf;go_loopw [36] (fun i wr=>∃ (k:Nat) (uA:Value) (C:Nat),k≤ks.length∧i=.int .i64 k∧qbT W0.heap.size C s b ⟨s,b,fs,ls,ks.take k,[]⟩ W0 wr g uF vl uA (.slice none 0 0)) (fun i _=>ks.length-(intOf i).toNat)
     case atStart=>exact⟨0,_,_,Nat.zero_le _,rfl,HN.out⟩
     case round=>
      obtain⟨k,uA,C,hk,rfl,hc⟩:=hrel;obtain⟨wr2,rfl⟩:∃ W,W=wr:=⟨_,rfl⟩
      have HC2:=hI_ hc;have hb:=hc.b;by_cases hlt:k<ks.length
      · have hki:(k:Int)<(ks.length:Int):=a_;have hk0:(0:Int)≤(k:Int):=a_;obtain⟨b1,o1,x1,hA1,hbs1,f0,hR⟩:=(HX0.out.asked.below hb).at_ hlt;subst hA1;have hkl:=HM.out.a k hlt;simp only at hkl;have HSK:=hI_ (qaZ hlt);obtain⟨kk,HKK⟩:=nm_ (ks[k]);rw[HKK.out] at hR hkl HSK;have HR:=hI_ hR;obtain⟨yA,yc,rfl⟩:=hR.sl;have hgd:wr2.drew.cell? ⟨g,4,none⟩=some uA:=(qaa hc.box).2.2.2.2.1;clear hR hb hc;go_upto_region 10 with fail
        go_region_law
         (first
           |((refine qa9 p_ (qnY (base:=W0.heap.size) (l:=kk) hc6.c.A ho6 hCD (Nat.le_trans HC2.out.qs hD) n_ hc6.qs hc6.cs rfl rfl rfl rfl ?_))
             intro A7 c7 w7 ho7 hg7;obtain⟨n7,hn7⟩:∃ n,(ks.take k).length+1=n:=⟨_,rfl⟩
             simp only[hn7] at ho7 ⊢;clear hn7;obtain⟨j0,j1,j2,j3,j4,j5,jf⟩:=qaa (hc6.boxA hg7))
           |(go_simp;go_wp2_with (first
           |(go_at_call 103;refine(qll kk _ _ (HR.out.below (qac (bR_ _ _))) a_).mono ?_;rintro e w6 ⟨A6,c6,rfl,ho6,hb6⟩;have hc6:=HC2.out.below ((qac (bR_ _ wr2)).trans hb6) rfl;have hCD:=HC2.out.cs;have hD:wr2.heap.size≤wr2.drew.heap.size:=nr_ _
             have hg6:=(qaa hc6.box).2.2.2.2.1;have hg6a:∀ o,(w6.alloc o).cell? ⟨g,4,none⟩=some uA:=fun o=>(qaa (qau hc6.box)).2.2.2.2.1))))
        all_goals
         go_wp2
         go_roundw
         case rel=>exact⟨k+1,_,_,a_,t_,by rw[HSK.out];exact hc6.setA hg7 ho7⟩
         case measure=>simp[intOf];omega
      · obtain rfl:k=ks.length:=a_;have hki:¬ (ks.length:Int)<(ks.length:Int):=a_;have HN2:Hid (qbT W0.heap.size C s b ⟨s,b,fs,ls,ks,[]⟩ W0 wr2 g uF vl uA (.slice none 0 0)):=hI_ (by have h:=HC2.out;rwa[List.take_length] at h);obtain⟨p0,p1,p2,p3,p4,p5,pf⟩:=qaa ((hb.block _ hl0).trans HP0.out);clear hb hc;go_wp2_with fail
        clear p0 p1 p2 p3 p4 p5 pf;go_loopw [51] (fun i wz=>∃ (j:Nat) (uN:Value) (C:Nat),j≤ps.length∧i=.int .i64 j∧qbT W0.heap.size C s b ⟨s,b,fs,ls,ks,ps.take j⟩ W0 wz g uF vl uA uN) (fun i _=>ps.length-(intOf i).toNat)
        case atStart=>exact⟨0,_,_,Nat.zero_le _,rfl,HN2.out⟩
        case round=>
         obtain⟨j,uN,C3,hj,rfl,hc⟩:=hrel;obtain⟨wz,rfl⟩:∃ W,W=wr:=⟨_,rfl⟩
         have HCZ:=hI_ hc;have hb:=hc.b;obtain⟨g0,g1,g2,g3,g4,g5,gf⟩:=qaa hc.box;by_cases hltj:j<ps.length
         case neg=>
          obtain rfl:j=ps.length:=a_;have hE:qbT W0.heap.size C3 s b ⟨s,b,fs,ls,ks,ps⟩ W0 wz g uF vl uA uN:=by
           have h:=HCZ.out;rwa[List.take_length] at h
          have hz:=(hb.block _ hl1).trans HZ0.out;obtain⟨y0,y1,y2,y3,y4,y5,yf⟩:=qaa hz;have HZ:=hI_ hz;have HE:=hI_ hE;obtain⟨A1,c1,rfl⟩:=hE.c.F.r.sl;obtain⟨A2,c2,rfl⟩:=hE.c.L.r.sl;obtain⟨A3,c3,rfl⟩:=hE.c.A.r.sl;obtain⟨A4,c4,rfl⟩:=hE.c.N.r.sl;have hki:¬ (ps.length:Int)<(ps.length:Int):=a_;clear hE hz hc hb;go_wp2_with fail
          refine bodyPost_ret (v:=.agg #[.int .i64 s,.int .i64 b,.slice A1 fs.length c1,.slice A2 ls.length c2,.slice A3 ks.length c3,.slice A4 ps.length c4]) (by simp[results,Tryz.results51,go_sem,y0,y1,y2,y3,y4,y5]) rfl ⟨_,_,_,_,rfl,?_,?_⟩
          · have hk6:=qaA.set6 (T:=LT2) HZ.out e_ (.int .i64 s) (.int .i64 b) (.slice A1 fs.length c1) (.slice A2 ls.length c2) (.slice A3 ks.length c3) (.slice A4 ps.length c4);exact(HE.out.c.keep hk6).mono (Nat.le_of_lt hl0) (Nat.le_trans HE.out.cs hk6.1)
          · exact qae (HB0.out.trans (HE.out.b.mono (Nat.le_of_lt hl0))) (Nat.le_succ _) _ _ _ _ _ _
         have hji:(j:Int)<(ps.length:Int):=a_;have hj0:(0:Int)≤(j:Int):=a_;obtain⟨b2,o2,xp,hA2,hbs2,h0,h1,h2,h3,h4,h5,hRp⟩:=(HX0.out.net.below hb).at_ hltj;subst hA2;have hpl:=HM.out.q j hltj;simp only at hpl;have HSP:=hI_ (qaZ hltj);obtain⟨pj,HPJ⟩:=nm_ (ps[j]);rw[HPJ.out] at h0 h1 h2 h3 h4 hRp hpl HSP;have HRP:=hI_ hRp;have HPL:=hI_ hpl;obtain⟨xA,xc,rfl⟩:=R1.sl' hRp;clear hb hpl hc hRp;obtain⟨fr,to_,ln,ix,tx,pf⟩:=pj;simp only at h0 h1 h2 h3 h4 h5 HRP HPL;have hbz:bB wz (wz.alloc (.cells #[.int .i64 fr,.int .i64 to_,.int .i64 ln,.int .i64 ix,.string tx,.slice xA pf.length xc] 57)):=qab (bR_ _ _) _;have HBZ:=hI_ hbz;clear hbz;go_wp2_with (first
          |(go_at_call 104;refine(qdS pf _ _ (HRP.out.below HBZ.out) (by have:=HPL.out;omega)).mono ?_;rintro e w7 ⟨v7,rfl,ho7,hb7⟩;obtain⟨A7,c7,rfl⟩:=ho7.sl
            have hb7':=HBZ.out.trans (hb7.mono (Nat.le_of_lt (qaB _ _)));have hz7:=(hb7.block _ (qaB _ _)).trans (at0 wz (.cells #[.int .i64 fr,.int .i64 to_,.int .i64 ln,.int .i64 ix,.string tx,.slice xA pf.length xc] 57));obtain⟨z0,z1,z2,z3,z4,z5,zf⟩:=qaa hz7;have hc7:=HCZ.out.below hb7' rfl;have hc9:=hc7.setZ (i:=5) (v:=.slice A7 pf.length c7) hz7 HCZ.out.qs (fun e=>by obtain⟨_,_,q1,_⟩:=HCZ.out.c.N;exact Nat.lt_irrefl _ (q1.lt _ e).2);have hz9:(w7.setCell ⟨wz.heap.size,5,none⟩ (.slice A7 pf.length c7)).heap[wz.heap.size]? =some (.cells #[.int .i64 fr,.int .i64 to_,.int .i64 ln,.int .i64 ix,.string tx,.slice A7 pf.length c7] 57 (0,0)):=qas hz7 _;obtain⟨t0,t1,t2,t3,t4,t5,tf⟩:=qaa hz9;obtain⟨s0,s1,s2,s3,s4,s5,sf⟩:=qaa hc9.box;have hst:O1 (Value.int .i64) (wz.alloc (.cells #[.int .i64 fr,.int .i64 to_,.int .i64 ln,.int .i64 ix,.string tx,.slice xA pf.length xc] 57)).heap.size 3 (w7.setCell ⟨wz.heap.size,5,none⟩ (.slice A7 pf.length c7)) (.slice A7 pf.length c7) pf:=ho7.keepT (qaA.set1 (T:=LP) hz7 e_ _) e_;have hCD:C3≤(wz.alloc (.cells #[.int .i64 fr,.int .i64 to_,.int .i64 ln,.int .i64 ix,.string tx,.slice xA pf.length xc] 57)).heap.size:=Nat.le_trans HCZ.out.cs (Nat.le_of_lt (qaB _ _));have hBD:W0.heap.size≤(wz.alloc (.cells #[.int .i64 fr,.int .i64 to_,.int .i64 ln,.int .i64 ix,.string tx,.slice xA pf.length xc] 57)).heap.size:=Nat.le_trans HCZ.out.qs (Nat.le_of_lt (qaB _ _)))
          |(at_builtin;refine qaF rfl fun K hK=>qmn (base:=W0.heap.size) (p:=⟨fr,to_,ln,ix,tx,pf⟩) hc9.c.N hst hCD hBD n_ hc9.qs hc9.cs rfl rfl rfl k_ (fun A10 c10 w10 ho10 hg10=>hK _ _ ?_)
            obtain⟨n10,hn10⟩:∃ n,(ps.take j).length+1=n:=⟨_,rfl⟩
            simp only[hn10] at ho10 ⊢;clear hn10;obtain⟨j0,j1,j2,j3,j4,j5,jf⟩:=qaa (hc9.boxN hg10)))
         go_roundw
         case rel=>exact⟨j+1,_,_,a_,t_,by rw[HSP.out];exact hc9.setN hg10 ho10⟩
         case measure=>simp[intOf];omega
def Wd.zero:Wd:=⟨0,0,[],[],[],[]⟩
theorem WdP.zero{B C:Nat}{w:World}:WdP B C w Wd.zero (.slice none 0 0) (.slice none 0 0) (.slice none 0 0) (.slice none 0 0):=
 ⟨qa7.nil,⟨fun k hk=>bb_,fun _=>.slice none 0 0,ON.nil,fun j hj=>(by simp[Wd.zero] at hj)⟩,qcA.nil,qbd.nil⟩
structure qel (B g gF cF:Nat) (y:Wd) (w0 w:World) (vL vA:Value):Prop where
 box:w.heap[g]? =some (.cells #[.int .i64 y.sec,.int .i64 y.bad,.slice (some ⟨gF,0,none⟩) y.feeds.length cF,vL,vA,.slice none 0 0] 28 (0,0))
 p:WdP B w.heap.size w y (.slice (some ⟨gF,0,none⟩) y.feeds.length cF) vL vA (.slice none 0 0)
 b:Below B w0 w
 gB:B≤g
section
variable {B g gF cF:Nat} {y:Wd} {w0 w w':World} {vL vA:Value}
theorem qel.bs(h:qel B g gF cF y w0 w vL vA):B≤w.heap.size:=Nat.le_of_lt (Nat.lt_of_le_of_lt h.gB (qai h.box))
theorem qel.below(h:qel B g gF cF y w0 w vL vA)(hb:bB w w'):qel B g gF cF y w0 w' vL vA:=
 ⟨(hb.block _ (qai h.box)).trans h.box,(h.p.below hb).mono (nr_ _) hb.size,h.b.trans (hb.mono h.bs),h.gB⟩
end
structure qgn (P Z:Array Value) (g gF cF:Nat) (y:Wd) (w wr:World) (vL vA:Value):Prop where
 i:qel w.heap.size g gF cF y w wr vL vA
 p:wr.heap[w.heap.size]? =some (.cells P 28 (0,0))
 z:wr.heap[w.heap.size+1]? =some (.cells Z 28 (0,0))
theorem qgn.below{P Z:Array Value}{g gF cF:Nat}{y:Wd}{w wr w':World}{vL vA:Value}(h:qgn P Z g gF cF y w wr vL vA)(hb:bB wr w'):qgn P Z g gF cF y w w' vL vA:=
 ⟨h.i.below hb,(hb.block _ (qai h.p)).trans h.p,(hb.block _ (qai h.z)).trans h.z⟩
end Go.Proofs.YtekaaekpdebloaaGreatDoor
namespace Go.Proofs.YtekaaekpdebloaaGreatDoor
open Go.RowKit

def lw(l:List (Int×Int)):Nat:=2*l.length
section
variable {T:List TypeId} {B C B1 B2:Nat} {w w':World} {v vF vL vA vN:Value} {x:Wd}
theorem WdP.r(h:WdP B C w x vF vL vA vN):WdR w x vF vL vA vN:=⟨h.F.r,h.L.r,h.A.r,h.N.r⟩
end
end Go.Proofs.YtekaaekpdebloaaGreatDoor

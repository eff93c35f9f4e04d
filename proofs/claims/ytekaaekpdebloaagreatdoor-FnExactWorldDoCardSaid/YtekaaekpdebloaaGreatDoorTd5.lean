/- Words and walks of the law. -/
import Derived.Test.YtekaaekpdebloaaGreatDoorCA5
set_option linter.unusedVariables false
set_option linter.unusedSimpArgs false
set_option maxHeartbeats 12800000
set_option maxRecDepth 100000
namespace Go.Proofs.YtekaaekpdebloaaGreatDoor

open Go.RowKit

theorem FB.gb{B q:Nat}{w w':World}{f:Fd}{vb vh:Value}(h:FB B q w f vb vh)(hg:w.grownBy w' vb.ownBlock):w'.heap[q]? =some (.cells #[.int .i64 f.pub,.int .i64 f.hd.len,.int .i64 f.hd.dg,.int .i64 f.hd.sg,vb,vh] 50 (0,0)):=
 (hg.block q h.lt (fun e=>h.nb e.symm)).trans h.box
theorem FB.gh{B q:Nat}{w w':World}{f:Fd}{vb vh:Value}(h:FB B q w f vb vh)(hg:w.grownBy w' vh.ownBlock):w'.heap[q]? =some (.cells #[.int .i64 f.pub,.int .i64 f.hd.len,.int .i64 f.hd.dg,.int .i64 f.hd.sg,vb,vh] 50 (0,0)):=
 (hg.block q h.lt (fun e=>h.nh e.symm)).trans h.box
def qjI(o:Fd)(c:Int)(w:World)(e:Ending)(w':World):Prop:=
 ∃ ub uh,e=.returned (.tuple #[.agg #[.int .i64 o.pub,.int .i64 o.hd.len,.int .i64 o.hd.dg,.int .i64 o.hd.sg,ub,uh],.int .i64 c])∧qaK w.heap.size w' o ub uh∧bB w w'
theorem qjp{f:Fd}{h:Hd}{l:List Int}{c:Int}(hc:Hid (qdJ f h l=c))(vb vh lv:Value)(w:World)(hf:qaU w f vb vh)(hl:RI w lv l):
 gV 257 #[.agg #[.int .i64 f.pub,.int .i64 f.hd.len,.int .i64 f.hd.dg,.int .i64 f.hd.sg,vb,vh],.agg #[.int .i64 h.len,.int .i64 h.dg,.int .i64 h.sg],lv] w (.int .i64 c):=by
 rw[←hc.out];exact qkD f h l vb vh lv w hf hl
theorem qkg(f:Fd)(h:Hd)(l:List Int)(vb vh lv:Value)(w:World)(hf:qaU w f vb vh)(hl:RI w lv l):
 Calls Tryz.prog 209 #[.agg #[.int .i64 f.pub,.int .i64 f.hd.len,.int .i64 f.hd.dg,.int .i64 f.hd.sg,vb,vh],.agg #[.int .i64 h.len,.int .i64 h.dg,.int .i64 h.sg],lv] w (qjI (qc9 f h l).1 (qc9 f h l).2 w):=by
 obtain⟨W0,HW0⟩:=nm_ (((w.alloc (.cells #[.int .i64 f.pub,.int .i64 f.hd.len,.int .i64 f.hd.dg,.int .i64 f.hd.sg,vb,vh] 50)).alloc (.cells #[.int .i64 h.len,.int .i64 h.dg,.int .i64 h.sg] 46)).alloc (.cells #[.int .i64 0,.int .i64 0,.int .i64 0,.int .i64 0,.slice none 0 0,.slice none 0 0] 50));have HB0:Hid (bB w W0):=hI_ (by rw[←HW0.out];exact(((bR_ _ _).alloc (nr_ _) _).alloc k_ _).alloc n_ _);have hs0:w.heap.size+3=W0.heap.size:=by rw[←HW0.out];simp
 have HP0:Hid (W0.heap[w.heap.size]? =some (.cells #[.int .i64 f.pub,.int .i64 f.hd.len,.int .i64 f.hd.dg,.int .i64 f.hd.sg,vb,vh] 50 (0,0))):=hI_ (by
  rw[←HW0.out];exact((((bR_ (w.heap.size+1) _).alloc k_ _).alloc k_ _).block w.heap.size a_).trans (heap_alloc_new w _))
 have HY0:Hid (W0.heap[w.heap.size+1]? =some (.cells #[.int .i64 h.len,.int .i64 h.dg,.int .i64 h.sg] 46 (0,0))):=hI_ (by
  rw[←HW0.out];have h1:=heap_alloc_new (w.alloc (.cells #[.int .i64 f.pub,.int .i64 f.hd.len,.int .i64 f.hd.dg,.int .i64 f.hd.sg,vb,vh] 50)) (.cells #[.int .i64 h.len,.int .i64 h.dg,.int .i64 h.sg] 46);simp only[World.size_alloc] at h1;exact(((bR_ (w.heap.size+2) _).alloc k_ _).block (w.heap.size+1) a_).trans h1)
 have HZ0:Hid (W0.heap[w.heap.size+1+1]? =some (.cells #[.int .i64 0,.int .i64 0,.int .i64 0,.int .i64 0,.slice none 0 0,.slice none 0 0] 50 (0,0))):=hI_ (by
  rw[←HW0.out];have h1:=heap_alloc_new ((w.alloc (.cells #[.int .i64 f.pub,.int .i64 f.hd.len,.int .i64 f.hd.dg,.int .i64 f.hd.sg,vb,vh] 50)).alloc (.cells #[.int .i64 h.len,.int .i64 h.dg,.int .i64 h.sg] 46)) (.cells #[.int .i64 0,.int .i64 0,.int .i64 0,.int .i64 0,.slice none 0 0,.slice none 0 0] 50);simpa using h1)
 have HF0:Hid (qaU W0 f vb vh):=hI_ (hf.below HB0.out);have HLR:Hid (RI W0 lv l):=hI_ (hl.below HB0.out);have hl0:w.heap.size<W0.heap.size:=a_;have hl1:w.heap.size+1<W0.heap.size:=a_;have hl2:w.heap.size+1+1<W0.heap.size:=a_;obtain⟨A,c,rfl,_,_,_⟩:=hf.bl;obtain⟨B,d,rfl,_,_,_⟩:=hf.hv;obtain⟨C,k,rfl,_,_,_⟩:=hl;clear hf;have x0:=qaa HP0.out;obtain⟨b0,HV⟩:=nm_ (qaq f);go_enter Tryz.func209,Tryz.ntmps209
 go_wp2_with fail
 rw[HW0.out];refine(qbp HV _ _ W0 HF0.out).mono ?_;rintro e w1 ⟨rfl,hb1⟩;clear x0;have HF1:Hid (qaU w1 f (.slice A f.bl.length c) (.slice B f.hv.length d)):=hI_ (HF0.out.below hb1);obtain⟨z0,z1,z2,z3,z4,z5,zf⟩:=qaa ((hb1.block _ hl2).trans HZ0.out);cases b0
 · have HR:=hI_ (qjS (h:=h) (l:=l) HV.out);go_wp2
   refine bodyPost_ret (v:=.tuple #[.agg #[.int .i64 0,.int .i64 0,.int .i64 0,.int .i64 0,.slice none 0 0,.slice none 0 0],.int .i64 5]) bX_ rfl ⟨_,_,v_,?_,?_⟩
   · rw[HR.out];exact(qaK.set6 ⟨O1.nil _ _ _ _,O1.nil _ _ _ _⟩ hl2 _ _ _ _ _ _).mono (Nat.le_of_lt hl0)
   · exact qae (HB0.out.trans (hb1.mono (Nat.le_of_lt hl0))) a_ _ _ _ _ _ _
 clear z0 z1 z2 z3 z4 z5 zf;obtain⟨l1,l16,l0⟩:=qax HV.out;have HL1:=hI_ l1;have HL0:=hI_ l0;have h16:f.hv.length≤16:=a_;clear l1 l0;have x0:=qaa ((hb1.block _ hl0).trans HP0.out);go_wp2_with fail
 refine(qbV f _ _ w1 HF1.out a_ a_).mono ?_;rintro e w2 ⟨ub,uh,rfl,ho2,hb2⟩;obtain⟨uA,uc,rfl⟩:=ho2.bl.sl;obtain⟨tA,tc,rfl⟩:=ho2.hv.sl;have hfb:=FB.made ho2;have hb02:=hb1.trans (hb2.mono hb1.size);have hb3:=hb02.alloc hb02.size (.cells #[.int .i64 f.pub,.int .i64 f.hd.len,.int .i64 f.hd.dg,.int .i64 f.hd.sg,.slice uA f.bl.length uc,.slice tA f.hv.length tc] 50);have hlq:=hb02.size;clear x0;have x0:=qaa ((hb02.block _ hl0).trans HP0.out);have y0:=qaS ((hb02.block _ hl1).trans HY0.out);have hwq:w.heap.size<w2.heap.size:=a_;have hwq1:w.heap.size+1<w2.heap.size:=a_;go_wp2_with fail
 obtain⟨W3,HW3⟩:=nm_ (w2.alloc (.cells #[.int .i64 f.pub,.int .i64 f.hd.len,.int .i64 f.hd.dg,.int .i64 f.hd.sg,.slice uA f.bl.length uc,.slice tA f.hv.length tc] 50));obtain⟨q,HQ⟩:=nm_ w2.heap.size;rw[HW3.out] at hfb hb3 ⊢;rw[HQ.out] at hfb hlq hwq hwq1 ⊢;have hfb:=FB.mono hfb hb1.size;clear ho2 hb2 hb02 x0 y0;obtain⟨cc,HC⟩:=nm_ (qdJ f h l);refine(qjp HC _ _ _ W3 (HF0.out.below hb3) (HLR.out.below hb3)).mono ?_;rintro e w4 ⟨rfl,hb4⟩;have hfb4:=hfb.below hb4;have hb04:=hb3.trans (hb4.mono hb3.size);clear hfb hb3 hb4;have k0:=hfb4.c0;have k1:=hfb4.c1;have k2:=hfb4.c2;have k3:=hfb4.c3;have k4:=hfb4.c4;have k5:=hfb4.c5;have kf:=hfb4.fz;by_cases hcc:cc=0;rotate_left
 · have HR:=hI_ (qcC HV.out HC.out hcc);have hcc':(cc==0)=false:=by rw[beq_eq_false_iff_ne];exact hcc
   obtain⟨z0,z1,z2,z3,z4,z5,zf⟩:=qaa ((hb04.block _ hl2).trans HZ0.out);clear hcc;go_wp2
   refine bodyPost_ret (v:=.tuple #[.agg #[.int .i64 f.pub,.int .i64 f.hd.len,.int .i64 f.hd.dg,.int .i64 f.hd.sg,.slice uA f.bl.length uc,.slice tA f.hv.length tc],.int .i64 cc]) bX_ rfl ⟨_,_,v_,?_,?_⟩
   · rw[HR.out];exact(qaK.set6 hfb4.fo hl2 _ _ _ _ _ _).mono (Nat.le_of_lt hl0)
   · exact qae (HB0.out.trans (hb04.mono (Nat.le_of_lt hl0))) a_ _ _ _ _ _ _
 subst hcc;have HR:=hI_ (qd4 HV.out HC.out);obtain⟨d1,d2,d3,_⟩:=qd7 HC.out;obtain⟨d5,d6⟩:=qe4 d1;obtain⟨n,hn⟩:∃ n:Nat,h.len-f.hd.len=n:=⟨(h.len-f.hd.len).toNat,a_⟩
 have hn0:0<n:=a_;have hn16:f.bl.length+n≤16:=by have:=HL0.out;omega
 have HN1:Hid (h.len.toNat-f.bl.length=n):=hI_ (by have:=HL0.out;omega);have HN2:Hid (h.len.toNat-f.hv.length=n):=hI_ (by have:=HL0.out;have:=HL1.out;omega);have hn16':f.hv.length+n≤16:=by have:=HL1.out;omega
 have x0:=qaa ((hb04.block _ hl0).trans HP0.out);have y0:=qaS ((hb04.block _ hl1).trans HY0.out);have hfb6:=((hfb4.set1 h.len).set2 h.dg).set3 h.sg;have hb06:=((hb04.setCell (p:=⟨q,1,none⟩) hlq (.int .i64 h.len)).setCell (p:=⟨q,2,none⟩) hlq (.int .i64 h.dg)).setCell (p:=⟨q,3,none⟩) hlq (.int .i64 h.sg);have hq0:¬ w.heap.size=q:=a_;have hq1:¬ w.heap.size+1=q:=a_;clear d1 d2 d3 d5 d6;go_wp2_with (first
  |(at_builtin;refine qmx hfb6.fo.bl hn0 (by show f.bl.length+n≤_;omega) (by have:=hb06.size;exact this) rfl rfl rfl rfl ?_;intro v7 w7 ho7 hg7;obtain⟨A7,n7,c7,rfl,hn7⟩:=ho7.sl2;have m0:=qaa (hfb6.gb hg7)
    have hfb8:=hfb6.set4 hg7 ho7;have hb08:=(hb06.grown hg7 hb06.size (fun r e=>(hfb6.fo.bl.lt r e).1)).setCell (p:=⟨q,4,none⟩) hlq (.slice A7 n7 c7);have hs8:=hb08.size)
  |(at_builtin;refine qlg hfb8.fo.hv hn0 (by show f.hv.length+n≤_;omega) hs8 rfl rfl rfl rfl ?_;intro v9 w9 ho9 hg9;obtain⟨A9,n9,c9,rfl,hn9⟩:=ho9.sl2;have j0:=qaa (hfb8.gh hg9)
    have hb09:=hb08.grown hg9 hs8 (fun r e=>(hfb8.fo.hv.lt r e).1);obtain⟨z0,z1,z2,z3,z4,z5,zf⟩:=qaa ((hb09.block _ hl2).trans HZ0.out)))
 have hfb10:=hfb8.set5 hg9 ho9;have hb010:=hb09.setCell (p:=⟨q,5,none⟩) hlq (.slice A9 n9 c9);have hzq:¬ q=w.heap.size+1+1:=a_;refine bodyPost_ret (v:=.tuple #[.agg #[.int .i64 f.pub,.int .i64 h.len,.int .i64 h.dg,.int .i64 h.sg,.slice A7 n7 c7,.slice A9 n9 c9],.int .i64 0]) bX_ rfl ⟨_,_,v_,?_,?_⟩
 · rw[HR.out];have:=(qaK.set6 hfb10.fo hl2 (.int .i64 f.pub) (.int .i64 h.len) (.int .i64 h.dg) (.int .i64 h.sg) (.slice A7 n7 c7) (.slice A9 n9 c9)).mono (Nat.le_of_lt hl0);simp only[Fd.grow,HN1.out,HN2.out];exact this
 · exact qae (HB0.out.trans (hb010.mono (Nat.le_of_lt hl0))) a_ _ _ _ _ _ _


theorem qeD{m old n dg:Int}{l:List Int}{b:Bool}(h:Hid (qbc m old n dg l=b))(v:Value)(w:World)(hv:RI w v l):
 gV 273 #[.int .i64 m,.int .i64 old,.int .i64 n,.int .i64 dg,v] w (.bool b):=by
 rw[←h.out];exact qeX m old n dg l v w hv
theorem qkH(f:Fd)(h:Hd)(l:List Int)(vb vh lv:Value)(w:World)(hf:qaU w f vb vh)(hl:RI w lv l):
 gV 254 #[.agg #[.int .i64 f.pub,.int .i64 f.hd.len,.int .i64 f.hd.dg,.int .i64 f.hd.sg,vb,vh],.agg #[.int .i64 h.len,.int .i64 h.dg,.int .i64 h.sg],lv] w (.bool (f.hd.len==0||qbc f.hd.len f.hd.dg h.len h.dg l)):=by
 obtain⟨W0,HW0⟩:=nm_ ((w.alloc (.cells #[.int .i64 f.pub,.int .i64 f.hd.len,.int .i64 f.hd.dg,.int .i64 f.hd.sg,vb,vh] 50)).alloc (.cells #[.int .i64 h.len,.int .i64 h.dg,.int .i64 h.sg] 46));have HB0:Hid (bB w W0):=hI_ r_;have HLR:Hid (RI ((w.alloc (.cells #[.int .i64 f.pub,.int .i64 f.hd.len,.int .i64 f.hd.dg,.int .i64 f.hd.sg,vb,vh] 50)).alloc (.cells #[.int .i64 h.len,.int .i64 h.dg,.int .i64 h.sg] 46)) lv l):=hI_ (hl.below (by rw[HW0.out];exact HB0.out));obtain⟨A,c,rfl,_,_,_⟩:=hf.bl;obtain⟨B,d,rfl,_,_,_⟩:=hf.hv;obtain⟨C,k,rfl,_,_,_⟩:=hl;clear hf;obtain⟨b2,H2⟩:=nm_ ((f.hd.len==0));obtain⟨b8,H8⟩:=nm_ (qbc f.hd.len f.hd.dg h.len h.dg l);rw[H2.out,H8.out];have e2:=H2.out;cases b2
 · go_enter Tryz.func254,Tryz.ntmps254
   go_wp2_with (go_at_call 273;refine(qeD H8 _ _ HLR.out).mono ?_;rintro e w2 ⟨rfl,hb2⟩)
   go_ret;refine⟨rfl,HB0.out.trans ?_⟩;rw[HW0.out] at hb2;exact hb2.mono HB0.out.size
 · go_enter Tryz.func254,Tryz.ntmps254
   go_wp2
   go_ret;refine⟨rfl,?_⟩;have:=HB0.out;rw[←HW0.out] at this;exact this
theorem qkG{f:Fd}{h:Hd}{l:List Int}{b:Bool}(hb:Hid ((f.hd.len==0||qbc f.hd.len f.hd.dg h.len h.dg l)=b))(vb vh lv:Value)(w:World)(hf:qaU w f vb vh)(hl:RI w lv l):
 gV 254 #[.agg #[.int .i64 f.pub,.int .i64 f.hd.len,.int .i64 f.hd.dg,.int .i64 f.hd.sg,vb,vh],.agg #[.int .i64 h.len,.int .i64 h.dg,.int .i64 h.sg],lv] w (.bool b):=by
 rw[←hb.out];exact qkH f h l vb vh lv w hf hl
theorem qhZ{ops:Array Oper}{rest:List Oper}{o:Oper}{a:Act}{Q:Exit→Act→World→Prop}{w:World}{base:Nat}{v:Value}{l:List Bool}{n:Nat}(hn0:w.heap.size=n)(hown:O1 Value.bool base 4 w v l)(hn:l.length≤100000000000)(hbase:base≤w.heap.size){y:Bool}(hgd:o.guard=none){s x:Operand}
 (ho:o.op=.call {callee:=.builtin .append,args:= #[s,x],argTypes:= #[48,48]}) (hs:a.eval s=v) (hx:a.eval x=.slice (some ⟨n,0,none⟩) 1 1)
 (h:∀ v' w',O1 Value.bool base 4 w' v' (l++[y])→w.grownBy w' v.ownBlock→wpList Tryz.prog ops Q rest (a.put o.dst v') w'):wpList Tryz.prog ops Q (o::rest) a (w.alloc (.cells #[.bool y] 4)):=by
 subst hn0;exact qjL hown hn hbase hgd ho hs hx h
def Fd.growN(f:Fd)(h:Hd)(j:Nat):Fd:=⟨f.pub,h,f.bl++List.replicate j qfo,f.hv++List.replicate j false⟩
def qnK(q:Nat)(w:World):Nat:=match w.cell? ⟨q,4,none⟩ with|some (.slice _ m _)=>20-m|_=>0
theorem qj3{q m c:Nat}{A:Option Addr}{w:World}(h:w.cell? ⟨q,4,none⟩=some (.slice A m c)):qnK q w=20-m:=by unfold qnK;rw[h]
theorem qkh(f:Fd)(h:Hd)(l:List Int)(vb vh lv:Value)(w:World)(hf:qaU w f vb vh)(hl:RI w lv l):
 Calls Tryz.prog 196 #[.agg #[.int .i64 f.pub,.int .i64 f.hd.len,.int .i64 f.hd.dg,.int .i64 f.hd.sg,vb,vh],.agg #[.int .i64 h.len,.int .i64 h.dg,.int .i64 h.sg],lv] w (qjI (qc9 f h l).1 (qc9 f h l).2 w):=by
 obtain⟨W0,HW0⟩:=nm_ (((w.alloc (.cells #[.int .i64 f.pub,.int .i64 f.hd.len,.int .i64 f.hd.dg,.int .i64 f.hd.sg,vb,vh] 50)).alloc (.cells #[.int .i64 h.len,.int .i64 h.dg,.int .i64 h.sg] 46)).alloc (.cells #[.int .i64 0,.int .i64 0,.int .i64 0,.int .i64 0,.slice none 0 0,.slice none 0 0] 50));have HB0:Hid (bB w W0):=hI_ (by rw[←HW0.out];exact(((bR_ _ _).alloc (nr_ _) _).alloc k_ _).alloc n_ _);have hs0:w.heap.size+3=W0.heap.size:=by rw[←HW0.out];simp
 have HP0:Hid (W0.heap[w.heap.size]? =some (.cells #[.int .i64 f.pub,.int .i64 f.hd.len,.int .i64 f.hd.dg,.int .i64 f.hd.sg,vb,vh] 50 (0,0))):=hI_ (by
  rw[←HW0.out];exact((((bR_ (w.heap.size+1) _).alloc k_ _).alloc k_ _).block w.heap.size a_).trans (heap_alloc_new w _))
 have HY0:Hid (W0.heap[w.heap.size+1]? =some (.cells #[.int .i64 h.len,.int .i64 h.dg,.int .i64 h.sg] 46 (0,0))):=hI_ (by
  rw[←HW0.out];have h1:=heap_alloc_new (w.alloc (.cells #[.int .i64 f.pub,.int .i64 f.hd.len,.int .i64 f.hd.dg,.int .i64 f.hd.sg,vb,vh] 50)) (.cells #[.int .i64 h.len,.int .i64 h.dg,.int .i64 h.sg] 46);simp only[World.size_alloc] at h1;exact(((bR_ (w.heap.size+2) _).alloc k_ _).block (w.heap.size+1) a_).trans h1)
 have HZ0:Hid (W0.heap[w.heap.size+1+1]? =some (.cells #[.int .i64 0,.int .i64 0,.int .i64 0,.int .i64 0,.slice none 0 0,.slice none 0 0] 50 (0,0))):=hI_ (by
  rw[←HW0.out];have h1:=heap_alloc_new ((w.alloc (.cells #[.int .i64 f.pub,.int .i64 f.hd.len,.int .i64 f.hd.dg,.int .i64 f.hd.sg,vb,vh] 50)).alloc (.cells #[.int .i64 h.len,.int .i64 h.dg,.int .i64 h.sg] 46)) (.cells #[.int .i64 0,.int .i64 0,.int .i64 0,.int .i64 0,.slice none 0 0,.slice none 0 0] 50);simpa using h1)
 have HF0:Hid (qaU W0 f vb vh):=hI_ (hf.below HB0.out);have HLR:Hid (RI W0 lv l):=hI_ (hl.below HB0.out);have hl0:w.heap.size<W0.heap.size:=a_;have hl1:w.heap.size+1<W0.heap.size:=a_;have hl2:w.heap.size+1+1<W0.heap.size:=a_;obtain⟨A,c,rfl,_,_,_⟩:=hf.bl;obtain⟨B,d,rfl,_,_,_⟩:=hf.hv;obtain⟨C,k,rfl,_,_,_⟩:=hl;clear hf;have x0:=qaa HP0.out;obtain⟨b0,HV⟩:=nm_ (qaq f);go_enter Tryz.func196,Tryz.ntmps196
 go_wp2_with fail
 rw[HW0.out];refine(qbD HV _ _ W0 HF0.out).mono ?_;rintro e w1 ⟨rfl,hb1⟩;clear x0;have HF1:Hid (qaU w1 f (.slice A f.bl.length c) (.slice B f.hv.length d)):=hI_ (HF0.out.below hb1);obtain⟨z0,z1,z2,z3,z4,z5,zf⟩:=qaa ((hb1.block _ hl2).trans HZ0.out);cases b0
 · have HR:=hI_ (qjS (h:=h) (l:=l) HV.out);go_wp2
   refine bodyPost_ret (v:=.tuple #[.agg #[.int .i64 0,.int .i64 0,.int .i64 0,.int .i64 0,.slice none 0 0,.slice none 0 0],.int .i64 5]) bJ_ rfl ⟨_,_,v_,?_,?_⟩
   · rw[HR.out];exact(qaK.set6 ⟨O1.nil _ _ _ _,O1.nil _ _ _ _⟩ hl2 _ _ _ _ _ _).mono (Nat.le_of_lt hl0)
   · exact qae (HB0.out.trans (hb1.mono (Nat.le_of_lt hl0))) a_ _ _ _ _ _ _
 clear z0 z1 z2 z3 z4 z5 zf;obtain⟨l1,l16,l0⟩:=qax HV.out;have HL1:=hI_ l1;have HL0:=hI_ l0;have h16:f.hv.length≤16:=a_;clear l1 l0;have x0:=qaa ((hb1.block _ hl0).trans HP0.out);go_wp2_with fail
 refine(qc1 f _ _ w1 HF1.out a_ a_).mono ?_;rintro e w2 ⟨ub,uh,rfl,ho2,hb2⟩;obtain⟨uA,uc,rfl⟩:=ho2.bl.sl;obtain⟨tA,tc,rfl⟩:=ho2.hv.sl;have hfb:=FB.made ho2;have hb02:=hb1.trans (hb2.mono hb1.size);have hb3:=hb02.alloc hb02.size (.cells #[.int .i64 f.pub,.int .i64 f.hd.len,.int .i64 f.hd.dg,.int .i64 f.hd.sg,.slice uA f.bl.length uc,.slice tA f.hv.length tc] 50);have hlq:=hb02.size;clear x0;have x0:=qaa ((hb02.block _ hl0).trans HP0.out);have y0:=qaS ((hb02.block _ hl1).trans HY0.out);have hwq:w.heap.size<w2.heap.size:=a_;have hwq1:w.heap.size+1<w2.heap.size:=a_;go_wp2_with fail
 obtain⟨W3,HW3⟩:=nm_ (w2.alloc (.cells #[.int .i64 f.pub,.int .i64 f.hd.len,.int .i64 f.hd.dg,.int .i64 f.hd.sg,.slice uA f.bl.length uc,.slice tA f.hv.length tc] 50));obtain⟨q,HQ⟩:=nm_ w2.heap.size;rw[HW3.out] at hfb hb3 ⊢;rw[HQ.out] at hfb hlq hwq hwq1 ⊢;have hfb:=FB.mono hfb hb1.size;clear ho2 hb2 hb02 x0 y0;obtain⟨b1,H1⟩:=nm_ (qbE f.pub h);obtain⟨b2,H2⟩:=nm_ ((h.len==0));obtain⟨b3,H3⟩:=nm_ (h.same f.hd);obtain⟨b4,H4⟩:=nm_ (decide (h.len<f.hd.len));obtain⟨b5,H5⟩:=nm_ ((h.len==f.hd.len));obtain⟨b8,H8⟩:=nm_ ((f.hd.len==0||qbc f.hd.len f.hd.dg h.len h.dg l));have HRC:Hid (qdJ f h l=if !b1||b2 then 4 else if b3 then 1 else if b4 then 2 else if b5 then 3 else if !b8 then 4 else 0):=
  hI_ (qjV H1.out H2.out H3.out H4.out H5.out (by
   rw[←H8.out];have h0:0≤f.hd.len:=by have:=HL0.out;omega
   by_cases hz:f.hd.len=0
   · simp[hz]
   · have hz':0<f.hd.len:=a_;have hz2:(f.hd.len==0)=false:=by rw[beq_eq_false_iff_ne];exact hz
     rw[hz2];simp[hz']))
 have HEQ:Hid (∀ w:World,(binOp .eql 46 (.agg #[.int .i64 h.len,.int .i64 h.dg,.int .i64 h.sg]) (.agg #[.int .i64 f.hd.len,.int .i64 f.hd.dg,.int .i64 f.hd.sg])).run Tryz.prog w=.ok (.bool b3) w):=
  hI_ (fun w=>by rw[qeP,←H3.out];rfl)
 refine(qcj H1 W3).mono ?_;rintro e w4 ⟨rfl,hb4⟩;have hfb4:=hfb.below hb4;have hb04:=hb3.trans (hb4.mono hb3.size);clear hfb hb3 hb4;have k0:=hfb4.c0;have k1:=hfb4.c1;have k2:=hfb4.c2;have k3:=hfb4.c3;have k4:=hfb4.c4;have k5:=hfb4.c5;have kf:=hfb4.fz;have x0:=qaa ((hb04.block _ hl0).trans HP0.out);have y0:=qaS ((hb04.block _ hl1).trans HY0.out);cases b1
 · have HR:=hI_ (qcC (c:=4) HV.out aG_ e_);obtain⟨z0,z1,z2,z3,z4,z5,zf⟩:=qaa ((hb04.block _ hl2).trans HZ0.out);go_wp2
   refine bodyPost_ret (v:=.tuple #[.agg #[.int .i64 f.pub,.int .i64 f.hd.len,.int .i64 f.hd.dg,.int .i64 f.hd.sg,.slice uA f.bl.length uc,.slice tA f.hv.length tc],.int .i64 4]) bJ_ rfl ⟨_,_,v_,?_,?_⟩
   · rw[HR.out];exact(qaK.set6 hfb4.fo hl2 _ _ _ _ _ _).mono (Nat.le_of_lt hl0)
   · exact qae (HB0.out.trans (hb04.mono (Nat.le_of_lt hl0))) a_ _ _ _ _ _ _
 have e2:=H2.out;cases b2
 rotate_left
 · have HR:=hI_ (qcC (c:=4) HV.out aG_ e_);obtain⟨z0,z1,z2,z3,z4,z5,zf⟩:=qaa ((hb04.block _ hl2).trans HZ0.out);go_wp2
   refine bodyPost_ret (v:=.tuple #[.agg #[.int .i64 f.pub,.int .i64 f.hd.len,.int .i64 f.hd.dg,.int .i64 f.hd.sg,.slice uA f.bl.length uc,.slice tA f.hv.length tc],.int .i64 4]) bJ_ rfl ⟨_,_,v_,?_,?_⟩
   · rw[HR.out];exact(qaK.set6 hfb4.fo hl2 _ _ _ _ _ _).mono (Nat.le_of_lt hl0)
   · exact qae (HB0.out.trans (hb04.mono (Nat.le_of_lt hl0))) a_ _ _ _ _ _ _
 have e3:=HEQ.out;cases b3
 rotate_left
 · have HR:=hI_ (qcC (c:=1) HV.out aG_ e_);obtain⟨z0,z1,z2,z3,z4,z5,zf⟩:=qaa ((hb04.block _ hl2).trans HZ0.out);go_wp2
   refine bodyPost_ret (v:=.tuple #[.agg #[.int .i64 f.pub,.int .i64 f.hd.len,.int .i64 f.hd.dg,.int .i64 f.hd.sg,.slice uA f.bl.length uc,.slice tA f.hv.length tc],.int .i64 1]) bJ_ rfl ⟨_,_,v_,?_,?_⟩
   · rw[HR.out];exact(qaK.set6 hfb4.fo hl2 _ _ _ _ _ _).mono (Nat.le_of_lt hl0)
   · exact qae (HB0.out.trans (hb04.mono (Nat.le_of_lt hl0))) a_ _ _ _ _ _ _
 have e4:=H4.out;cases b4
 rotate_left
 · have HR:=hI_ (qcC (c:=2) HV.out aG_ e_);obtain⟨z0,z1,z2,z3,z4,z5,zf⟩:=qaa ((hb04.block _ hl2).trans HZ0.out);go_wp2
   refine bodyPost_ret (v:=.tuple #[.agg #[.int .i64 f.pub,.int .i64 f.hd.len,.int .i64 f.hd.dg,.int .i64 f.hd.sg,.slice uA f.bl.length uc,.slice tA f.hv.length tc],.int .i64 2]) bJ_ rfl ⟨_,_,v_,?_,?_⟩
   · rw[HR.out];exact(qaK.set6 hfb4.fo hl2 _ _ _ _ _ _).mono (Nat.le_of_lt hl0)
   · exact qae (HB0.out.trans (hb04.mono (Nat.le_of_lt hl0))) a_ _ _ _ _ _ _
 have e5:=H5.out;cases b5
 rotate_left
 · have HR:=hI_ (qcC (c:=3) HV.out aG_ e_);obtain⟨z0,z1,z2,z3,z4,z5,zf⟩:=qaa ((hb04.block _ hl2).trans HZ0.out);go_wp2
   refine bodyPost_ret (v:=.tuple #[.agg #[.int .i64 f.pub,.int .i64 f.hd.len,.int .i64 f.hd.dg,.int .i64 f.hd.sg,.slice uA f.bl.length uc,.slice tA f.hv.length tc],.int .i64 3]) bJ_ rfl ⟨_,_,v_,?_,?_⟩
   · rw[HR.out];exact(qaK.set6 hfb4.fo hl2 _ _ _ _ _ _).mono (Nat.le_of_lt hl0)
   · exact qae (HB0.out.trans (hb04.mono (Nat.le_of_lt hl0))) a_ _ _ _ _ _ _
 go_wp2_with fail
 refine(qkG H8 _ _ _ w4 (HF0.out.below hb04) (HLR.out.below hb04)).mono ?_;rintro e w5 ⟨rfl,hb5⟩;have hfb5:=hfb4.below hb5;have hb05:=hb04.trans (hb5.mono hb04.size);clear hfb4 hb04 hb5 k0 k1 k2 k3 k4 k5 kf x0 y0;have k0:=hfb5.c0;have k1:=hfb5.c1;have k2:=hfb5.c2;have k3:=hfb5.c3;have k4:=hfb5.c4;have k5:=hfb5.c5;have kf:=hfb5.fz;cases b8
 · have HR:=hI_ (qcC (c:=4) HV.out aG_ e_);obtain⟨z0,z1,z2,z3,z4,z5,zf⟩:=qaa ((hb05.block _ hl2).trans HZ0.out);go_wp2
   refine bodyPost_ret (v:=.tuple #[.agg #[.int .i64 f.pub,.int .i64 f.hd.len,.int .i64 f.hd.dg,.int .i64 f.hd.sg,.slice uA f.bl.length uc,.slice tA f.hv.length tc],.int .i64 4]) bJ_ rfl ⟨_,_,v_,?_,?_⟩
   · rw[HR.out];exact(qaK.set6 hfb5.fo hl2 _ _ _ _ _ _).mono (Nat.le_of_lt hl0)
   · exact qae (HB0.out.trans (hb05.mono (Nat.le_of_lt hl0))) a_ _ _ _ _ _ _
 have HC:Hid (qdJ f h l=0):=hI_ aG_;have HR:=hI_ (qd4 HV.out HC.out);obtain⟨d1,d2,d3,_⟩:=qd7 HC.out;obtain⟨d5,d6⟩:=qe4 d1;obtain⟨n,hn⟩:∃ n:Nat,h.len-f.hd.len=n:=⟨(h.len-f.hd.len).toNat,a_⟩
 have hln:h.len=((f.bl.length+n:Nat):Int):=by have:=HL0.out;omega
 have hn16:f.bl.length+n≤16:=a_;have hfl16:f.hv.length+n≤16:=by have:=HL1.out;omega
 have HN1:Hid (h.len.toNat-f.bl.length=n):=hI_ (by have:=HL0.out;omega);have HN2:Hid (h.len.toNat-f.hv.length=n):=hI_ (by have:=HL0.out;have:=HL1.out;omega);have HLN:=hI_ hln;have y0:=qaS ((hb05.block _ hl1).trans HY0.out);have hfb6:FB W0.heap.size q (((w5.setCell ⟨q,1,none⟩ (.int .i64 h.len)).setCell ⟨q,2,none⟩ (.int .i64 h.dg)).setCell ⟨q,3,none⟩ (.int .i64 h.sg)) (f.growN h 0) (.slice uA f.bl.length uc) (.slice tA f.hv.length tc):=by
  have:=((hfb5.set1 h.len).set2 h.dg).set3 h.sg;simpa[Fd.growN] using this
 have hb06:=((hb05.setCell (p:=⟨q,1,none⟩) hlq (.int .i64 h.len)).setCell (p:=⟨q,2,none⟩) hlq (.int .i64 h.dg)).setCell (p:=⟨q,3,none⟩) hlq (.int .i64 h.sg);have hq0:¬ w.heap.size=q:=a_;have hq1:¬ w.heap.size+1=q:=a_;clear d1 d2 d3 d5 d6 hn hln;go_wp2_with fail
 go_loopw [60] (fun _ wr=>∃ (j:Nat) (g:Fd) (ub uh:Value),Hid (g=f.growN h j)∧j≤n∧FB W0.heap.size q wr g ub uh∧bB W0 wr) (fun _ wr=>qnK q wr)
 case atStart=>exact⟨0,_,_,_,hI_ rfl,Nat.zero_le _,hfb6,hb06⟩
 case round=>
  clear hfb6 hb06 hfb5 hb05 k0 k1 k2 k3 k4 k5 kf y0;obtain⟨j,g,ub,uh,HGE,hj,hfg,hb⟩:=hrel;obtain⟨uA,uc,rfl⟩:=hfg.fo.bl.sl;obtain⟨tA,tc,rfl⟩:=hfg.fo.hv.sl;have hgl:g.bl.length=f.bl.length+j:=by rw[HGE.out];simp[Fd.growN]
  have hgh:g.hv.length=f.hv.length+j:=by rw[HGE.out];simp[Fd.growN]
  have hll:(h.len:Int)=((f.bl.length+n:Nat):Int):=HLN.out;have y0:=qaS ((hb.block _ hl1).trans HY0.out);have k0:=hfg.c0;have k1:=hfg.c1;have k2:=hfg.c2;have k3:=hfg.c3;have k4:=hfg.c4;have k5:=hfg.c5;have kf:=hfg.fz;by_cases hlt:j<n
  · have hlt':(g.bl.length:Int)<h.len:=a_;have g16:g.bl.length≤16:=a_;have g16':g.hv.length≤16:=a_;have HGL:=hI_ hgl;have hbs:=hb.size;have HK4:=hI_ k4;have hlt2:j+1≤n:=a_;clear hgl hgh hll hlt;go_wp2_with (first
     |(at_builtin;refine qlf hfg.fo.bl a_ hbs rfl rfl rfl rfl ?_;intro v7 w7 ho7 hg7;obtain⟨A7,n7,c7,rfl,hn7⟩:=ho7.sl2;have m0:=qaa (hfg.gb hg7)
       have hfb8:=hfg.set4 hg7 ho7;have hb08:=(hb.grown hg7 hbs (fun r e=>(hfg.fo.bl.lt r e).1)).setCell (p:=⟨q,4,none⟩) hlq (.slice A7 n7 c7);have hs8:=hb08.size;have hl7:q<w7.heap.size:=by have:=hfb8.lt;simpa using this)
     |(at_builtin;refine qhZ (n:=w7.heap.size) k_ hfb8.fo.hv (by show g.hv.length≤_;omega) hs8 rfl rfl rfl rfl ?_;intro v9 w9 ho9 hg9;obtain⟨A9,n9,c9,rfl,hn9⟩:=ho9.sl2;have j0:=qaa (hfb8.gh hg9)
       have hb09:=hb08.grown hg9 hs8 (fun r e=>(hfb8.fo.hv.lt r e).1)))
    have hfb10:=hfb8.set5 hg9 ho9;have hb010:=hb09.setCell (p:=⟨q,5,none⟩) hlq (.slice A9 n9 c9);refine⟨⟨j+1,_,_,_,hI_ ?_,hlt2,hfb10,hb010⟩,?_⟩
    · rw[HGE.out];simp[Fd.growN,List.replicate_succ',qfo]
    · rw[qj3 hfb10.c4,qj3 HK4.out];have h1:=hn7.out;rw[List.length_append,List.length_singleton] at h1;omega
  · obtain rfl:j=n:=a_;have hlt':¬ (g.bl.length:Int)<h.len:=a_;have hgf:g=f.grow h:=by rw[HGE.out];simp only[Fd.growN,Fd.grow,HN1.out,HN2.out]
    have HGF:=hI_ hgf;have qhr:g.pub=f.pub:=by rw[HGE.out];rfl
    obtain⟨z0,z1,z2,z3,z4,z5,zf⟩:=qaa ((hb.block _ hl2).trans HZ0.out);clear hgl hgh hll hlt hgf qhr;go_wp2
    refine bodyPost_ret (v:=.tuple #[.agg #[.int .i64 g.pub,.int .i64 g.hd.len,.int .i64 g.hd.dg,.int .i64 g.hd.sg,.slice uA g.bl.length uc,.slice tA g.hv.length tc],.int .i64 0]) bJ_ rfl ⟨_,_,by rw[HR.out,←HGF.out] <;> rfl,?_,?_⟩
    · rw[HR.out,←HGF.out];exact(qaK.set6 hfg.fo hl2 _ _ _ _ _ _).mono (Nat.le_of_lt hl0)
    · exact qae (HB0.out.trans (hb.mono (Nat.le_of_lt hl0))) a_ _ _ _ _ _ _
end Go.Proofs.YtekaaekpdebloaaGreatDoor

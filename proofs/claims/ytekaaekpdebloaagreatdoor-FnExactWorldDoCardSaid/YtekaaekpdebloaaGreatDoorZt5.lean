/- Words and walks of the law. -/
import Derived.Test.YtekaaekpdebloaaGreatDoorCC5
set_option linter.unusedVariables false
set_option linter.unusedSimpArgs false
set_option maxHeartbeats 12800000
set_option maxRecDepth 100000
namespace Go.Proofs.YtekaaekpdebloaaGreatDoor
open Go.RowKit
attribute [local go_sem ↓] Go.wp_at_zero Go.wp_at_succ

theorem qhK{x:Wd}{a b c:Int}{t:ByteArray}(h:qfj x a b c=false):qbO x a b c t=x:=by unfold qbO;rw[h];rfl
theorem qmh{x:Wd}{a b c:Int}{t:ByteArray}(h:¬ (qdP x b c t).size≤8):qbO x a b c t=x:=by unfold qbO;rw[decide_eq_false h,Bool.and_false];rfl
theorem qm8{x:Wd}{a b c:Int}{t:ByteArray}(h:qfj x a b c=true)(h2:(qdP x b c t).size≤8):qbO x a b c t={x with net:=x.net++[⟨b,a,(x.feed b).hd.len,c,qdP x b c t,qaQ ((lvs x.f0.bl).take (x.feed b).hd.len.toNat) c⟩]}:=by
 unfold qbO;rw[h,decide_eq_true h2];rfl
def qne(W0:World)(q:Nat)(ps:List Pc)(p:Pc)(wx:World):Prop:=∃ W8 A c,wx=W8.setCell ⟨q,5,none⟩ (.slice A (ps.length+1) c)∧qbg W0 W8 (.slice A (ps.length+1) c) (ps++[p])∧bB W0 W8
theorem qlc{W0 W8:World}{q:Nat}{ps:List Pc}{p:Pc}{A:Option Addr}{n c:Nat}(hn:ps.length+1=n)(h:qbg W0 W8 (.slice A n c) (ps++[p]))(hb:bB W0 W8):qne W0 q ps p (W8.setCell ⟨q,5,none⟩ (.slice A n c)):=by
 subst hn;exact⟨_,_,_,rfl,h,hb⟩
set_option linter.unusedSimpArgs false in
theorem qjw{K:Nat}(x:Wd)(a b c:Int)(t:ByteArray)(vF vL vA vN:Value)(w:World)(hx:WdS w x vF vL vA vN)(hw:WI K x)(hK:K≤1000000)(ht:t.size≤maxLen):
 Calls Tryz.prog 121 #[.agg #[.int .i64 x.sec,.int .i64 x.bad,vF,vL,vA,vN],.int .i64 a,.int .i64 b,.int .i64 c,.string t] w (qhd w (qbO x a b c t)):=by
 have HSM:=hI_ (hw.sml hK);have HWI:=hI_ hw;have HKK:=hI_ hK;have HTS:=hI_ ht;clear hw hK ht;obtain⟨s,bd,fs,ls,ks,ps⟩:=x;obtain⟨fA,fc,rfl⟩:=hx.r.feeds.sl;obtain⟨lA,lc,rfl⟩:=hx.r.links.sl;obtain⟨aA,ac,rfl⟩:=hx.r.asked.sl;obtain⟨nA,nc,rfl⟩:=hx.r.net.sl;simp only at hx;obtain⟨W0,HW0⟩:=nm_ ((w.alloc (.cells #[.int .i64 s,.int .i64 bd,.slice fA fs.length fc,.slice lA ls.length lc,.slice aA ks.length ac,.slice nA ps.length nc] 28)).alloc (.cells #[.int .i64 0,.int .i64 0,.slice none 0 0,.slice none 0 0,.slice none 0 0,.slice none 0 0] 28));have HB0:Hid (bB w W0):=hI_ ai_;have hs0:w.heap.size+2=W0.heap.size:=by rw[←HW0.out];simp
 have HP0:Hid (W0.heap[w.heap.size]? =some (.cells #[.int .i64 s,.int .i64 bd,.slice fA fs.length fc,.slice lA ls.length lc,.slice aA ks.length ac,.slice nA ps.length nc] 28 (0,0))):=hI_ M_;have HZ0:Hid (W0.heap[w.heap.size+1]? =some (.cells #[.int .i64 0,.int .i64 0,.slice none 0 0,.slice none 0 0,.slice none 0 0,.slice none 0 0] 28 (0,0))):=hI_ D_;have HX0:Hid (WdS W0 ⟨s,bd,fs,ls,ks,ps⟩ (.slice fA fs.length fc) (.slice lA ls.length lc) (.slice aA ks.length ac) (.slice nA ps.length nc)):=hI_ (hx.below HB0.out);have HL0:Hid (RP W0 (.slice lA ls.length lc) ls):=hI_ HX0.out.r.links;have hl0:w.heap.size<W0.heap.size:=a_;have hl1:w.heap.size+1<W0.heap.size:=a_;clear hx hs0;have hno:∀ (x':Wd) (W:World),x'=⟨s,bd,fs,ls,ks,ps⟩→bB W0 W→qhd w x' (.returned (.agg #[.int .i64 s,.int .i64 bd,.slice fA fs.length fc,.slice lA ls.length lc,.slice aA ks.length ac,.slice nA ps.length nc]))
  ((((((W.setCell ⟨w.heap.size+1,0,none⟩ (.int .i64 s)).setCell ⟨w.heap.size+1,1,none⟩ (.int .i64 bd)).setCell ⟨w.heap.size+1,2,none⟩ (.slice fA fs.length fc)).setCell ⟨w.heap.size+1,3,none⟩ (.slice lA ls.length lc)).setCell ⟨w.heap.size+1,4,none⟩ (.slice aA ks.length ac)).setCell ⟨w.heap.size+1,5,none⟩ (.slice nA ps.length nc)):=by
  rintro x' W rfl hb;exact⟨_,_,_,_,rfl,(HX0.out.below hb).set6 ((hb.block _ hl1).trans HZ0.out) _ _ _ _ _ _,qae (HB0.out.trans (hb.mono (Nat.le_of_lt hl0))) (Nat.le_succ _) _ _ _ _ _ _⟩
 have HNO:=hI_ hno;clear hno;obtain⟨p0,p1,p2,p3,p4,p5,pf⟩:=qaa HP0.out;obtain⟨v,HV⟩:=nm_ (qbk ⟨s,bd,fs,ls,ks,ps⟩ a b);cases v
 · have HR:Hid (qbO ⟨s,bd,fs,ls,ks,ps⟩ a b c t=⟨s,bd,fs,ls,ks,ps⟩):=hI_ (qhK (by unfold qfj;rw[HV.out];rfl));go_enter Tryz.func121,Tryz.ntmps121
   go_wp2_with fail
   rw[HW0.out];go_wp2_with (first
    |(go_at_call 194;refine(qbv HV _ _ _ _ _ HL0.out).mono ?_;rintro e w1 ⟨rfl,hb1⟩;have HB1:=hI_ hb1;clear hb1 p0 p1 p2 p3 p4 p5 pf;obtain⟨t0,t1,t2,t3,t4,t5,tf⟩:=qaa ((HB1.out.block _ hl0).trans HP0.out);obtain⟨y0,y1,y2,y3,y4,y5,yf⟩:=qaa ((HB1.out.block _ hl1).trans HZ0.out)))
   refine bodyPost_ret (v:=.agg #[.int .i64 s,.int .i64 bd,.slice fA fs.length fc,.slice lA ls.length lc,.slice aA ks.length ac,.slice nA ps.length nc]) bN_ rfl (HNO.out _ _ HR.out HB1.out)
 obtain⟨i,j,rfl,rfl,hi,hj⟩:=HWI.out.lk HV.out;simp only at hi hj;have hn0:0<fs.length:=a_;have hi':(i:Int)<(fs.length:Int):=a_;have hj':(j:Int)<(fs.length:Int):=a_;have hi0:(0:Int)≤(i:Int):=a_;have hj0:(0:Int)≤(j:Int):=a_;have hka:i<ks.length:=by have:=HWI.out.na;simp only at this;omega
 have hka':(i:Int)<(ks.length:Int):=a_;obtain⟨b0,o0,yb,yh,hA,hbs,f0,f1,f2,f3,f4,f5,hFj⟩:=HX0.out.r.feeds.at_ hj;subst hA;obtain⟨aA0,oA0,vk,hA,hab,ek,hRK⟩:=HX0.out.r.asked.at_ hka;subst hA;have HFD:Hid ((⟨s,bd,fs,ls,ks,ps⟩:Wd).feed j=fs[j]):=hI_ (HWI.out.fd hj);have HAS:Hid ((⟨s,bd,fs,ls,ks,ps⟩:Wd).asks i=ks[i]):=hI_ (HWI.out.as_ hi);obtain⟨nj,hnj,hm1,hm2,hm3,hm4⟩:=HWI.out.hd hj;have HTX:Hid (∀ t ∈ fs[j].bl,t.size≤8):=hI_ (qbH (HWI.out.fv j hj).1);simp only at hnj hm1;obtain⟨⟨jp,⟨jl,jd,jg⟩,jbl,jhv⟩,HFJ⟩:∃ f,Hid (fs[j]=f):=⟨_,hI_ rfl⟩
 obtain⟨lk,HLK⟩:=nm_ (ks[i]);rw[HFJ.out] at f0 f1 f2 f3 hFj hnj hm3 hm4 HFD HTX;rw[HLK.out] at hRK HAS;simp only at f0 f1 f2 f3 hnj hm3 hm4 HTX;subst hnj;have HRK:=hI_ hRK;have HFJR:=hI_ hFj;have HNJ1:=hI_ hm1;have HEK:=hI_ ek;have HFC:Hid (∀ W,bB W0 W→W.cell? ⟨b0,o0+j*6,none⟩=some (.int .i64 jp)∧W.cell? ⟨b0,o0+j*6+1,none⟩=some (.int .i64 (nj:Int))∧W.cell? ⟨b0,o0+j*6+2,none⟩=some (.int .i64 jd)∧W.cell? ⟨b0,o0+j*6+3,none⟩=some (.int .i64 jg)∧W.cell? ⟨b0,o0+j*6+4,none⟩=some yb∧W.cell? ⟨b0,o0+j*6+5,none⟩=some yh):=
  hI_ fun W hW=>⟨(hW.cell (p:=⟨b0,_,none⟩) hbs).trans f0,(hW.cell (p:=⟨b0,_,none⟩) hbs).trans f1,(hW.cell (p:=⟨b0,_,none⟩) hbs).trans f2,(hW.cell (p:=⟨b0,_,none⟩) hbs).trans f3,(hW.cell (p:=⟨b0,_,none⟩) hbs).trans f4,(hW.cell (p:=⟨b0,_,none⟩) hbs).trans f5⟩
 obtain⟨v1,HV1⟩:=nm_ (qc8 lk ((j:Int),c));have HMA:Hid (qfj ⟨s,bd,fs,ls,ks,ps⟩ i j c=(v1&&qiS ⟨jp,⟨nj,jd,jg⟩,jbl,jhv⟩ c&&decide (ps.length<12))):=hI_ (by
  unfold qfj;rw[HV.out,HFD.out,HAS.out,HV1.out];rfl)
 clear hRK hFj hm1 f0 f1 f2 f3 f4 f5 ek;cases v1
 · have HR:Hid (qbO ⟨s,bd,fs,ls,ks,ps⟩ i j c t=⟨s,bd,fs,ls,ks,ps⟩):=hI_ (qhK a9_);go_enter Tryz.func121,Tryz.ntmps121
   go_wp2_with fail
   rw[HW0.out];go_wp2_with (first
    |(go_at_call 194;refine(qbv HV _ _ _ _ _ HL0.out).mono ?_;rintro e w1 ⟨rfl,hb1⟩;have HB1:=hI_ hb1;clear hb1 p0 p1 p2 p3 p4 p5 pf;obtain⟨t0,t1,t2,t3,t4,t5,tf⟩:=qaa ((HB1.out.block _ hl0).trans HP0.out);obtain⟨y0,y1,y2,y3,y4,y5,yf⟩:=qaa ((HB1.out.block _ hl1).trans HZ0.out);obtain⟨g0,g1,g2,g3,g4,g5⟩:=HFC.out _ HB1.out;have gk:=(HB1.out.cell (p:=⟨aA0,_,none⟩) hab).trans HEK.out)
    |(go_at_call 136;refine(qbL (a:=((j:Int),_)) HV1 _ _ (HRK.out.below HB1.out)).mono ?_;rintro e w2 ⟨rfl,hb2⟩;have HB2:Hid (bB W0 w2):=hI_ (HB1.out.trans (hb2.mono HB1.out.size));clear hb2;clear t0 t1 t2 t3 t4 t5 tf y0 y1 y2 y3 y4 y5 yf g0 g1 g2 g3 g4 g5 gk;obtain⟨t0,t1,t2,t3,t4,t5,tf⟩:=qaa ((HB2.out.block _ hl0).trans HP0.out);obtain⟨y0,y1,y2,y3,y4,y5,yf⟩:=qaa ((HB2.out.block _ hl1).trans HZ0.out);obtain⟨g0,g1,g2,g3,g4,g5⟩:=HFC.out _ HB2.out;have gk:=(HB2.out.cell (p:=⟨aA0,_,none⟩) hab).trans HEK.out))
   refine bodyPost_ret (v:=.agg #[.int .i64 s,.int .i64 bd,.slice (some ⟨b0,o0,none⟩) fs.length fc,.slice lA ls.length lc,.slice (some ⟨aA0,oA0,none⟩) ks.length ac,.slice nA ps.length nc]) bN_ rfl (HNO.out _ _ HR.out HB2.out)
 rw[Bool.true_and] at HMA;obtain⟨v2,HV2⟩:=nm_ (qiS ⟨jp,⟨nj,jd,jg⟩,jbl,jhv⟩ c);rw[HV2.out] at HMA;cases v2
 · have HR:Hid (qbO ⟨s,bd,fs,ls,ks,ps⟩ i j c t=⟨s,bd,fs,ls,ks,ps⟩):=hI_ (qhK a9_);go_enter Tryz.func121,Tryz.ntmps121
   go_wp2_with fail
   rw[HW0.out];go_wp2_with (first
    |(go_at_call 194;refine(qbv HV _ _ _ _ _ HL0.out).mono ?_;rintro e w1 ⟨rfl,hb1⟩;have HB1:=hI_ hb1;clear hb1 p0 p1 p2 p3 p4 p5 pf;obtain⟨t0,t1,t2,t3,t4,t5,tf⟩:=qaa ((HB1.out.block _ hl0).trans HP0.out);obtain⟨y0,y1,y2,y3,y4,y5,yf⟩:=qaa ((HB1.out.block _ hl1).trans HZ0.out);obtain⟨g0,g1,g2,g3,g4,g5⟩:=HFC.out _ HB1.out;have gk:=(HB1.out.cell (p:=⟨aA0,_,none⟩) hab).trans HEK.out)
    |(go_at_call 136;refine(qbL (a:=((j:Int),_)) HV1 _ _ (HRK.out.below HB1.out)).mono ?_;rintro e w2 ⟨rfl,hb2⟩;have HB2:Hid (bB W0 w2):=hI_ (HB1.out.trans (hb2.mono HB1.out.size));clear hb2;clear t0 t1 t2 t3 t4 t5 tf y0 y1 y2 y3 y4 y5 yf g0 g1 g2 g3 g4 g5 gk;obtain⟨t0,t1,t2,t3,t4,t5,tf⟩:=qaa ((HB2.out.block _ hl0).trans HP0.out);obtain⟨y0,y1,y2,y3,y4,y5,yf⟩:=qaa ((HB2.out.block _ hl1).trans HZ0.out);obtain⟨g0,g1,g2,g3,g4,g5⟩:=HFC.out _ HB2.out;have gk:=(HB2.out.cell (p:=⟨aA0,_,none⟩) hab).trans HEK.out)
    |(go_at_call 197;refine(qea (f:=⟨jp,⟨nj,jd,jg⟩,jbl,jhv⟩) HV2 _ _ _ (HFJR.out.hv.below HB2.out)).mono ?_;rintro e w3 ⟨rfl,hb3⟩;have HB3:Hid (bB W0 w3):=hI_ (HB2.out.trans (hb3.mono HB2.out.size));clear hb3;clear t0 t1 t2 t3 t4 t5 tf y0 y1 y2 y3 y4 y5 yf g0 g1 g2 g3 g4 g5 gk;obtain⟨t0,t1,t2,t3,t4,t5,tf⟩:=qaa ((HB3.out.block _ hl0).trans HP0.out);obtain⟨y0,y1,y2,y3,y4,y5,yf⟩:=qaa ((HB3.out.block _ hl1).trans HZ0.out);obtain⟨g0,g1,g2,g3,g4,g5⟩:=HFC.out _ HB3.out;have gk:=(HB3.out.cell (p:=⟨aA0,_,none⟩) hab).trans HEK.out))
   refine bodyPost_ret (v:=.agg #[.int .i64 s,.int .i64 bd,.slice (some ⟨b0,o0,none⟩) fs.length fc,.slice lA ls.length lc,.slice (some ⟨aA0,oA0,none⟩) ks.length ac,.slice nA ps.length nc]) bN_ rfl (HNO.out _ _ HR.out HB3.out)
 rw[Bool.true_and] at HMA;by_cases h12:12≤ps.length
 · have h12':(12:Int)≤(ps.length:Int):=a_;have HR:Hid (qbO ⟨s,bd,fs,ls,ks,ps⟩ i j c t=⟨s,bd,fs,ls,ks,ps⟩):=hI_ (qhK a3_);clear h12;go_enter Tryz.func121,Tryz.ntmps121
   go_wp2_with fail
   rw[HW0.out];go_wp2_with (first
    |(go_at_call 194;refine(qbv HV _ _ _ _ _ HL0.out).mono ?_;rintro e w1 ⟨rfl,hb1⟩;have HB1:=hI_ hb1;clear hb1 p0 p1 p2 p3 p4 p5 pf;obtain⟨t0,t1,t2,t3,t4,t5,tf⟩:=qaa ((HB1.out.block _ hl0).trans HP0.out);obtain⟨y0,y1,y2,y3,y4,y5,yf⟩:=qaa ((HB1.out.block _ hl1).trans HZ0.out);obtain⟨g0,g1,g2,g3,g4,g5⟩:=HFC.out _ HB1.out;have gk:=(HB1.out.cell (p:=⟨aA0,_,none⟩) hab).trans HEK.out)
    |(go_at_call 136;refine(qbL (a:=((j:Int),_)) HV1 _ _ (HRK.out.below HB1.out)).mono ?_;rintro e w2 ⟨rfl,hb2⟩;have HB2:Hid (bB W0 w2):=hI_ (HB1.out.trans (hb2.mono HB1.out.size));clear hb2;clear t0 t1 t2 t3 t4 t5 tf y0 y1 y2 y3 y4 y5 yf g0 g1 g2 g3 g4 g5 gk;obtain⟨t0,t1,t2,t3,t4,t5,tf⟩:=qaa ((HB2.out.block _ hl0).trans HP0.out);obtain⟨y0,y1,y2,y3,y4,y5,yf⟩:=qaa ((HB2.out.block _ hl1).trans HZ0.out);obtain⟨g0,g1,g2,g3,g4,g5⟩:=HFC.out _ HB2.out;have gk:=(HB2.out.cell (p:=⟨aA0,_,none⟩) hab).trans HEK.out)
    |(go_at_call 197;refine(qea (f:=⟨jp,⟨nj,jd,jg⟩,jbl,jhv⟩) HV2 _ _ _ (HFJR.out.hv.below HB2.out)).mono ?_;rintro e w3 ⟨rfl,hb3⟩;have HB3:Hid (bB W0 w3):=hI_ (HB2.out.trans (hb3.mono HB2.out.size));clear hb3;clear t0 t1 t2 t3 t4 t5 tf y0 y1 y2 y3 y4 y5 yf g0 g1 g2 g3 g4 g5 gk;obtain⟨t0,t1,t2,t3,t4,t5,tf⟩:=qaa ((HB3.out.block _ hl0).trans HP0.out);obtain⟨y0,y1,y2,y3,y4,y5,yf⟩:=qaa ((HB3.out.block _ hl1).trans HZ0.out);obtain⟨g0,g1,g2,g3,g4,g5⟩:=HFC.out _ HB3.out;have gk:=(HB3.out.cell (p:=⟨aA0,_,none⟩) hab).trans HEK.out))
   refine bodyPost_ret (v:=.agg #[.int .i64 s,.int .i64 bd,.slice (some ⟨b0,o0,none⟩) fs.length fc,.slice lA ls.length lc,.slice (some ⟨aA0,oA0,none⟩) ks.length ac,.slice nA ps.length nc]) bN_ rfl (HNO.out _ _ HR.out HB3.out)
 have h12':¬ (12:Int)≤(ps.length:Int):=a_;have HMT:Hid (qfj ⟨s,bd,fs,ls,ks,ps⟩ i j c=true):=hI_ a3_;have HPL:Hid (ps.length≤1000000):=hI_ a_;obtain⟨k,rfl,hk1⟩:∃ k:Nat,c=k∧k<jbl.length:=by
  have h2:=HV2.out;unfold qiS at h2;rw[Bool.and_eq_true,qak] at h2;simp only at h2;exact⟨c.toNat,a_,a_⟩
 have hk':(k:Int)<(jbl.length:Int):=a_;have hk0:(0:Int)≤(k:Int):=a_;obtain⟨tx,HTT⟩:=nm_ (qdP ⟨s,bd,fs,ls,ks,ps⟩ j k t);have HAT:Hid (if (j:Int)!=bd then jbl[k]=tx else t=tx):=hI_ (by
  have h1:=HTT.out;unfold qdP at h1;rw[HFD.out] at h1;simp only[Int.toNat_natCast] at h1;rw[qam hk1] at h1;split at h1
  · rename_i h2;rw[if_pos h2];exact h1
  · rename_i h2;rw[if_neg h2];exact h1)
 obtain⟨tA,tc,rfl⟩:=HFJR.out.bl.sl';obtain⟨bt,ot,rfl,hbt,et⟩:=HFJR.out.bl.at_ hk1;simp only at et;have HET:=hI_ et;have htm:tx.size≤9223372036854775807:=by
  have h1:=HAT.out;have h2:=HTS.out;unfold maxLen at h2;split at h1
  · rw[←h1];exact Nat.le_trans (HTX.out _ (List.getElem_mem hk1)) a_
  · rw[←h1];exact h2
 clear et h12 hm2 hm3 hm4;obtain⟨pr,HPR⟩:=nm_ (qaQ ((lvs (fs.getD 0 Fd.none).bl).take nj) k);have HR8:Hid (tx.size≤8→qbO ⟨s,bd,fs,ls,ks,ps⟩ i j k t=⟨s,bd,fs,ls,ks,ps++[⟨j,i,nj,k,tx,pr⟩]⟩):=hI_ (by
  intro h8;have h1:=qm8 HMT.out (by rw[HTT.out];exact h8:(qdP ⟨s,bd,fs,ls,ks,ps⟩ j k t).size≤8);rw[HTT.out,HFD.out] at h1;simp only[Int.toNat_natCast] at h1;have h2:qaQ ((lvs (⟨s,bd,fs,ls,ks,ps⟩:Wd).f0.bl).take nj) k=pr:=HPR.out;rw[h2] at h1;exact h1)
 have HCL:Hid (∀ W,bB W0 W→Calls Tryz.prog 134 #[.agg #[.int .i64 s,.int .i64 bd,.slice (some ⟨b0,o0,none⟩) fs.length fc,.slice lA ls.length lc,.slice (some ⟨aA0,oA0,none⟩) ks.length ac,.slice nA ps.length nc],.int .i64 (nj:Int)] W fun e w'=>∃ v',e=.returned v'∧O1 (Value.int .i64) W.heap.size 3 w' v' ((lvs (fs.getD 0 Fd.none).bl).take nj)∧bB W w'):=
  hI_ fun W hW=>qc3 fs nj s bd _ _ _ _ W (HX0.out.r.feeds.below hW) hn0 HNJ1.out HWI.out.len0.2.1 HWI.out.txt
 obtain⟨H,hH1,hH2⟩:=qfa HX0.out.net;simp only at hH1 hH2;have HH1:=hI_ hH1;have HH2:=hI_ hH2;have HS0:Hid (∀ W8 A c,qbg W0 W8 (.slice A (ps.length+1) c) (ps++[⟨j,i,nj,k,tx,pr⟩])→bB W0 W8→
  WdS (W8.setCell ⟨w.heap.size,5,none⟩ (.slice A (ps.length+1) c)) ⟨s,bd,fs,ls,ks,ps++[⟨j,i,nj,k,tx,pr⟩]⟩ (.slice (some ⟨b0,o0,none⟩) fs.length fc) (.slice lA ls.length lc) (.slice (some ⟨aA0,oA0,none⟩) ks.length ac) (.slice A (ps.length+1) c)):=hI_ (by
  intro W8 A c h1 h2;have hk:qaA LT2 W8 (W8.setCell ⟨w.heap.size,5,none⟩ (.slice A (ps.length+1) c)):=qaA.set1 ((h2.block _ hl0).trans HP0.out) e_ _;have hX8:=HX0.out.below h2;exact WdS.of (hX8.feeds.next hk) (hX8.links.next hk) (hX8.asked.next hk) ((h1.stb (qaA.of_below h2)).next hk))
 clear hH1 hH2;go_enter Tryz.func121,Tryz.ntmps121
 go_wp2_with fail
 rw[HW0.out];go_upto_if 49 with(first
  |(go_at_call 194;refine(qbv HV _ _ _ _ _ HL0.out).mono ?_;rintro e w1 ⟨rfl,hb1⟩;have HB1:=hI_ hb1;clear hb1 p0 p1 p2 p3 p4 p5 pf;obtain⟨t0,t1,t2,t3,t4,t5,tf⟩:=qaa ((HB1.out.block _ hl0).trans HP0.out);obtain⟨y0,y1,y2,y3,y4,y5,yf⟩:=qaa ((HB1.out.block _ hl1).trans HZ0.out);obtain⟨g0,g1,g2,g3,g4,g5⟩:=HFC.out _ HB1.out;have gk:=(HB1.out.cell (p:=⟨aA0,_,none⟩) hab).trans HEK.out)
  |(go_at_call 136;refine(qbL (a:=((j:Int),_)) HV1 _ _ (HRK.out.below HB1.out)).mono ?_;rintro e w2 ⟨rfl,hb2⟩;have HB2:Hid (bB W0 w2):=hI_ (HB1.out.trans (hb2.mono HB1.out.size));clear hb2;clear t0 t1 t2 t3 t4 t5 tf y0 y1 y2 y3 y4 y5 yf g0 g1 g2 g3 g4 g5 gk;obtain⟨t0,t1,t2,t3,t4,t5,tf⟩:=qaa ((HB2.out.block _ hl0).trans HP0.out);obtain⟨y0,y1,y2,y3,y4,y5,yf⟩:=qaa ((HB2.out.block _ hl1).trans HZ0.out);obtain⟨g0,g1,g2,g3,g4,g5⟩:=HFC.out _ HB2.out;have gk:=(HB2.out.cell (p:=⟨aA0,_,none⟩) hab).trans HEK.out)
  |(go_at_call 197;refine(qea (f:=⟨jp,⟨nj,jd,jg⟩,jbl,jhv⟩) HV2 _ _ _ (HFJR.out.hv.below HB2.out)).mono ?_;rintro e w3 ⟨rfl,hb3⟩;have HB3:Hid (bB W0 w3):=hI_ (HB2.out.trans (hb3.mono HB2.out.size));clear hb3;clear t0 t1 t2 t3 t4 t5 tf y0 y1 y2 y3 y4 y5 yf g0 g1 g2 g3 g4 g5 gk;obtain⟨t0,t1,t2,t3,t4,t5,tf⟩:=qaa ((HB3.out.block _ hl0).trans HP0.out);obtain⟨y0,y1,y2,y3,y4,y5,yf⟩:=qaa ((HB3.out.block _ hl1).trans HZ0.out);obtain⟨g0,g1,g2,g3,g4,g5⟩:=HFC.out _ HB3.out;have gk:=(HB3.out.cell (p:=⟨aA0,_,none⟩) hab).trans HEK.out;have gt:=(HB3.out.cell (p:=⟨bt,_,none⟩) hbt).trans HET.out))
 go_cut [4] (fun s4 wx=>s4=.string tx∧wx=w3)
 case first=>
  have e:=HAT.out;by_cases hjb:(j:Int)=bd
  · have hjb1:((j:Int)==bd)=true:=by rw[beq_iff_eq];exact hjb
    have hjb2:((j:Int)!=bd)=false:=by simp[hjb]
    rw[if_neg (by simp[hjb])] at e;have HE:=hI_ e;clear e hjb;go_wp2_with fail
    go_meet;exact⟨by rw[HE.out],rfl⟩
  · have hjb1:((j:Int)==bd)=false:=by rw[beq_eq_false_iff_ne];exact hjb
    have hjb2:((j:Int)!=bd)=true:=by simp[hjb]
    rw[if_pos hjb2] at e;have HE:=hI_ e;clear e hjb;go_wp2_with fail
    go_meet;exact⟨by rw[←HE.out],rfl⟩
 case rest=>
  obtain⟨rfl,hwc⟩:=hcut;obtain rfl:w3=wc:=hwc.symm;by_cases h8:8<tx.size
  · have h8':(8:Int)<(tx.size:Int):=a_;have HRN:Hid (qbO ⟨s,bd,fs,ls,ks,ps⟩ i j k t=⟨s,bd,fs,ls,ks,ps⟩):=hI_ (qmh (by rw[HTT.out];omega));clear h8;go_wp2_with fail
    refine bodyPost_ret (v:=.agg #[.int .i64 s,.int .i64 bd,.slice (some ⟨b0,o0,none⟩) fs.length fc,.slice lA ls.length lc,.slice (some ⟨aA0,oA0,none⟩) ks.length ac,.slice nA ps.length nc]) bN_ rfl (HNO.out _ _ HRN.out HB3.out)
  have h8':¬ (8:Int)<(tx.size:Int):=a_;have HR:=hI_ (HR8.out a_);clear h8;go_wp2_with fail
  clear t0 t1 t2 t3 t4 t5 tf y0 y1 y2 y3 y4 y5 yf g0 g1 g2 g3 g4 g5 gk gt;have hl3:w.heap.size<w3.heap.size:=nL_ hl0 HB3.out.size;have hW3:=HB3.out.size;obtain⟨t0,t1,t2,t3,t4,t5,tf⟩:=qaa ((HB3.out.block _ hl0).trans HP0.out);have hpl:=HPL.out;have hal:∀ o,(w3.alloc o).cell? ⟨w.heap.size,5,none⟩=some (.slice nA ps.length nc):=fun o=>(Below.cell (B:=w3.heap.size) (qab (bR_ _ _) o) hl3).trans t5;go_cut [] (fun wx=>qne W0 w.heap.size ps ⟨j,i,nj,k,tx,pr⟩ wx)
  case first=>
   refine qci (fun w'=>w'.cell? ⟨w.heap.size,0,none⟩=some (.int .i64 s)∧w'.cell? ⟨w.heap.size,1,none⟩=some (.int .i64 bd)∧w'.cell? ⟨w.heap.size,2,none⟩=some (.slice (some ⟨b0,o0,none⟩) fs.length fc)∧w'.cell? ⟨w.heap.size,3,none⟩=some (.slice lA ls.length lc)∧w'.cell? ⟨w.heap.size,4,none⟩=some (.slice (some ⟨aA0,oA0,none⟩) ks.length ac)∧w'.cell? ⟨w.heap.size,5,none⟩=some (.slice nA ps.length nc)) 18 d_ j_ (fun hS hT=> ?_);refine gT_ ?_ hT hS;clear hT;refine tT_ 1 ?_;refine tT_ 2 ?_;refine tT_ 4 ?_;refine tT_ 5 ?_;refine tT_ 6 ?_;refine tT_ 7 ?_;refine tT_ 8 ?_;refine tT_ 9 ?_;refine tT_ 10 ?_;refine tT_ 12 ?_;refine eT_ fun hT=>?_;refine qba (i:=0) hT rfl d_ a_ (fun K1 hK1=> ?_);go_simp;refine hK1.out _ _ j_ (fun hT=> ?_);refine qba (i:=3) hT rfl d_ a_ (fun K2 hK2=> ?_)
   (refine qa9 p_ ?_);(refine qey (W0:=W0) (ps2:=ps) P_ a_ (HH1.out.below (HB3.out.trans (Below.mono o_ HB3.out.size))) HH2.out a_ (Nat.le_trans hW3 (Below.size o_)) rfl rfl rfl ?_)
   intro A6 c6 w6 ho6 hg6 hk6;have hb06:bB w3 w6:=Below.grown o_ hg6 (Below.size o_) (fun r hr=>by cases hr;omega);have u5:=(hb06.cell (p:=⟨w.heap.size,5,none⟩) hl3).trans t5;refine hK2.out _ _ j_ (fun hT=> ?_);refine qba (i:=11) hT rfl d_ a_ (fun K3 hK3=> ?_);go_simp;go_wp2_with
    (go_at_call 134;refine(HCL.out _ (HB3.out.trans (Below.mono o_ HB3.out.size))).mono ?_;rintro e w4 ⟨v4,rfl,ho4,hb4⟩
     have hb04:bB w3 w4:=qb6 o_ hb4;try(have hb64:bB w6 w4:=qb6 V_ hb4))
   refine hK3.out _ _ j_ (fun hT=> ?_);refine qba (i:=13) hT rfl d_ a_ (fun K4 hK4=> ?_);go_simp;go_wp2_with
    (go_at_call 140;refine(qem _ (k:Int) _ _ ((ho4.stb (T:=LP) e_) _ (by with_reducible repeat(first|exact qaA.refl _ _|refine qgN ?_ _|refine qin ?_)))).mono ?_;rintro e w5 ⟨v5,rfl,ho5,hb5⟩
     obtain⟨A5,n5,c5,rfl,hn5⟩:=ho5.sl2;rw[HPR.out] at ho5;have hb05:bB w3 w5:=qb6 o_ hb5;try(have hb65:bB w6 w5:=qb6 V_ hb5))
   refine hK4.out _ _ j_ (fun hT=> ?_);clear hS;have hS:w5.cell? ⟨w.heap.size,0,none⟩=some (.int .i64 s)∧w5.cell? ⟨w.heap.size,1,none⟩=some (.int .i64 bd)∧w5.cell? ⟨w.heap.size,2,none⟩=some (.slice (some ⟨b0,o0,none⟩) fs.length fc)∧w5.cell? ⟨w.heap.size,3,none⟩=some (.slice lA ls.length lc)∧w5.cell? ⟨w.heap.size,4,none⟩=some (.slice (some ⟨aA0,oA0,none⟩) ks.length ac)∧w5.cell? ⟨w.heap.size,5,none⟩=some (.slice nA ps.length nc):=by with_reducible refine⟨Eq.trans (Below.cell (B:=w3.heap.size) ?_ hl3) t0,Eq.trans (Below.cell (B:=w3.heap.size) ?_ hl3) t1,Eq.trans (Below.cell (B:=w3.heap.size) ?_ hl3) t2,Eq.trans (Below.cell (B:=w3.heap.size) ?_ hl3) t3,Eq.trans (Below.cell (B:=w3.heap.size) ?_ hl3) t4,Eq.trans (Below.cell (B:=w3.heap.size) ?_ hl3) t5⟩ <;> (with_reducible repeat(first|exact bR_ _ _|exact hb04|exact hb05|exact hb06|refine qab ?_ _|refine qac ?_))
   refine gT_ ?_ hT hS;clear hT;refine tT_ 14 ?_;refine eT_ fun hT=>?_;refine qba (i:=15) hT rfl d_ a_ (fun K5 hK5=> ?_);go_simp;refine hK5.out _ _ j_ (fun hT=> ?_);refine qba (i:=16) hT rfl d_ a_ (fun K6 hK6=> ?_)
   (refine qa9 p_ ?_);(refine qkY (W0:=W0) (ps:=ps) (p:=⟨j,i,nj,k,tx,pr⟩) (ho6.below V_) P_ ((qkn.new (ho5.stb (T:=LP) e_)).next (by with_reducible repeat(first|exact qaA.refl _ _|refine qgN ?_ _|refine qin ?_))) rfl a_ (Nat.le_trans hW3 (Below.size o_)) rfl rfl rfl ?_)
   intro A8 c8 w8 ho8 hg8;have hb08:bB W0 w8:=Below.grown (HB3.out.trans (Below.mono o_ hW3)) hg8 (Nat.le_trans hW3 (Below.size o_)) (fun r hr=>(ho6.lt r hr).1);obtain⟨n8,hn8⟩:∃ n,ps.length+1=n:=⟨_,rfl⟩
   simp only[hn8] at ho8 ⊢;obtain⟨j0,j1,j2,j3,j4,j5,jf⟩:=qaa ((hb08.block _ hl0).trans HP0.out);obtain⟨x0,x1,x2,x3,x4,x5,xf⟩:=qaa (qas (i:=5) ((hb08.block _ hl0).trans HP0.out) (.slice A8 n8 c8));refine hK6.out _ _ ⟨j0,j1,j2,j3,j4,j5⟩ (fun hT=> ?_);clear hS;have hS:=And.intro j0 (And.intro j1 (And.intro j2 (And.intro j3 (And.intro j4 j5))));refine gT_ ?_ hT hS;clear hT;refine tT_ 17 ?_;refine eT_ fun hT=>?_;refine qch rfl d_ d_ (fun K7 hK7=> ?_);go_simp;refine hK7.out _ _ ?_;go_wp2
   go_meet;exact qlc hn8 ho8 hb08
  case rest=>
   obtain⟨W8,A8,c8,rfl,hP8,hb8⟩:=hcut;have HS8:=hI_ (HS0.out W8 A8 c8 hP8 hb8);have HB8:=hI_ hb8;have hq8:=qas (i:=5) ((hb8.block _ hl0).trans HP0.out) (.slice A8 (ps.length+1) c8);have hz8:(W8.setCell ⟨w.heap.size,5,none⟩ (.slice A8 (ps.length+1) c8)).heap[w.heap.size+1]? =_:=(Below.heap_setCell _ _ _ _ U_).trans ((hb8.block _ hl1).trans HZ0.out);have HZ8:=hI_ hz8;have h59:((ps++[(⟨j,i,nj,k,tx,pr⟩:Pc)]).length)=ps.length+1:=k_;obtain⟨n9,hn9⟩:∃ n,ps.length+1=n:=⟨_,rfl⟩
   obtain⟨W9,HW9⟩:=nm_ (W8.setCell ⟨w.heap.size,5,none⟩ (.slice A8 (ps.length+1) c8));rw[HW9.out] at hq8 hz8 HS8 HZ8 ⊢;rw[hn9] at hq8 HS8 HW9;have hB9:bB w W9:=by rw[←HW9.out];exact qaN (HB0.out.trans (HB8.out.mono (Nat.le_of_lt hl0))) (nr_ _)
   have HB9:=hI_ hB9;clear t0 t1 t2 t3 t4 t5 tf hP8 hb8 hB9 hn9 h59;obtain⟨t0,t1,t2,t3,t4,t5,tf⟩:=qaa hq8;obtain⟨y0,y1,y2,y3,y4,y5,yf⟩:=qaa hz8;clear hq8 hz8;go_wp2_with fail
   refine bodyPost_ret (v:=.agg #[.int .i64 s,.int .i64 bd,.slice (some ⟨b0,o0,none⟩) fs.length fc,.slice lA ls.length lc,.slice (some ⟨aA0,oA0,none⟩) ks.length ac,.slice A8 n9 c8]) bN_ rfl ?_;rw[HR.out];exact⟨_,_,_,_,rfl,HS8.out.set6 HZ8.out _ _ _ _ _ _,qae HB9.out (Nat.le_succ _) _ _ _ _ _ _⟩
end Go.Proofs.YtekaaekpdebloaaGreatDoor

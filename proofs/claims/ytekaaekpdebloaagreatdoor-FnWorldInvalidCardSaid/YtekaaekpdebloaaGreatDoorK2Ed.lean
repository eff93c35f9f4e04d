/- Words and walks of the law. -/
import Derived.Test.YtekaaekpdebloaaGreatDoorK1Ed
import Derived.Test.YtekaaekpdebloaaGreatDoorCJ5
set_option linter.unusedVariables false
set_option linter.unusedSimpArgs false
set_option maxHeartbeats 12800000
set_option maxRecDepth 100000
namespace Go.Proofs.YtekaaekpdebloaaGreatDoor
open Go.RowKit
attribute [local go_sem ↓] Go.wp_at_zero Go.wp_at_succ

theorem qli{g j t:Nat}{w:World}(h:t/6≠j)(x0 x1 x2 x3 x4 x5:Value):
 ((((((w.setCell ⟨g,j*6,none⟩ x0).setCell ⟨g,j*6+1,none⟩ x1).setCell ⟨g,j*6+2,none⟩ x2).setCell ⟨g,j*6+3,none⟩ x3).setCell ⟨g,j*6+4,none⟩ x4).setCell ⟨g,j*6+5,none⟩ x5).cell? ⟨g,t,none⟩=w.cell? ⟨g,t,none⟩:=by
 have hne:∀ m,m<6→(⟨g,j*6+m,none⟩:Addr)≠⟨g,t,none⟩:=fun m hm e=>by injection e with _ e _;omega
 rw[World.cell?_setCell_other _ _ _ _ (hne 5 a_),World.cell?_setCell_other _ _ _ _ (hne 4 a_),World.cell?_setCell_other _ _ _ _ (hne 3 a_),World.cell?_setCell_other _ _ _ _ (hne 2 a_),World.cell?_setCell_other _ _ _ _ (hne 1 a_),World.cell?_setCell_other _ _ _ _ (show(⟨g,j*6,none⟩:Addr)≠⟨g,t,none⟩ from hne 0 a_)]
set_option linter.unusedSimpArgs false in
theorem qn6(x:Wd)(i j q o B C gF cF:Nat)(w:World)(hv:WV x)(hij:i≠j)(hi:i<x.feeds.length)(hj:j<x.feeds.length)(hL:qbk x i j=true)
 (t1:w.cell? ⟨q,o+1,none⟩=some (.int .i64 x.bad)) (t2:w.cell? ⟨q,o+2,none⟩=some (.slice (some ⟨gF,0,none⟩) x.feeds.length cF)) (hql:q<w.heap.size) (hqg:q≠gF)
 (hF:qa7 B C w (.slice (some ⟨gF,0,none⟩) x.feeds.length cF) x.feeds) (hC:C≤w.heap.size):
 Calls Tryz.prog 63 #[.pointer (some ⟨q,o,none⟩),.int .i64 (i:Int),.int .i64 (j:Int)] w (qk8 B gF cF (qa5 x i j).feeds w):=by
 have HF:=hI_ hF;have HC:=hI_ hC;have HT2:=hI_ t2;have hn6:x.feeds.length≤6:=hv.wi.n6;have hi1:(i:Int)<(x.feeds.length:Int):=a_;have hj1:(j:Int)<(x.feeds.length:Int):=a_;have hi0:(0:Int)≤(i:Int):=a_;have hj0:(0:Int)≤(j:Int):=a_;by_cases hbad:(i:Int)=x.bad
 · have hbb:((i:Int)==x.bad)=true:=by rw[beq_iff_eq];exact hbad
   have HR:Hid (qa5 x i j=x):=hI_ (by unfold qa5;rw[if_pos hbad]);clear hv hL hF hC hbad;go_enter Tryz.func63,Tryz.ntmps63
   go_wp2_with fail
   refine bodyPost_ret (results_none Tryz.results63 _ _ _) rfl ?_;rw[HR.out];exact⟨rfl,HF.out.mono (nr_ _) HC.out,qii _ _⟩
 have hbb:((i:Int)==x.bad)=false:=by rw[beq_eq_false_iff_ne];exact hbad
 have hgv:=qfR hv hi hj hL;have HGV:=hI_ hgv;have HWG:Hid (qa5 x i j=if ((qa0 x i j).feed i).hd.len=((qa0 x i j).feed j).hd.len then qby i j (qa0 x i j) ((qa0 x i j).feed i).hd.len.toNat else qa0 x i j):=hI_ (by unfold qa5;rw[if_neg hbad]);have HCALL:Hid (Calls Tryz.prog 142 #[.pointer (some ⟨q,o,none⟩),.int .i64 (i:Int),.int .i64 (j:Int)] w (qk8 B gF cF (qa0 x i j).feeds w)):=hI_ (qkB x i j q o B C gF cF w hv hi hj hL t2 hql hqg hF hC);obtain⟨x1,HX1⟩:=nm_ (qa0 x i j);rw[HX1.out] at HGV HWG HCALL;have hn:x1.feeds.length=x.feeds.length:=HGV.out.n;have HN:=hI_ hn;have hi':i<x1.feeds.length:=a_;have hj':j<x1.feeds.length:=a_;have HI':=hI_ hi';have HJ':=hI_ hj';have HFE:Hid (x1.feed i=x1.feeds[i]'hi'∧x1.feed j=x1.feeds[j]'hj'):=hI_ ⟨HGV.out.wv.wi.fd hi',HGV.out.wv.wi.fd hj'⟩;rw[HFE.out.1,HFE.out.2] at HWG;have hbg:q<w.heap.size→gF<w.heap.size:=fun _=>by obtain⟨_,F,h1,_⟩:=hF;exact(h1.lt gF rfl).2
 have hgl:=hbg hql;clear hv hL hF hC hbad hgv hn hbg;go_enter Tryz.func63,Tryz.ntmps63
 go_wp2_with fail
 refine HCALL.out.mono ?_;rintro e w1 ⟨rfl,hF1,hg1⟩;rw[HN.out] at hF1;have HF1:=hI_ hF1;have HG1:=hI_ hg1;have lq1:=nL_ hql hg1.size;have lg1:=nL_ hgl hg1.size;have hq1:w1.heap[q]? =w.heap[q]? :=hg1.block q hql (fun e=>by cases e;exact hqg rfl);have u1:=(World.cell?_of_block (a:=⟨q,o+1,none⟩) hq1).trans t1;have u2:=(World.cell?_of_block (a:=⟨q,o+2,none⟩) hq1).trans t2;have HU1:=hI_ u1;have HU2:=hI_ u2;clear t1 t2 hq1 hg1;obtain⟨_,_,va,ha,hA,_,f0,f1,f2,f3,f4,f5,hFi⟩:=hF1.r.at_ hi';cases hA;obtain⟨_,_,vb,hb',hA,_,g0,g1,g2,g3,g4,g5,hFj⟩:=hF1.r.at_ hj';cases hA;rw[Nat.zero_add] at f1 f4 f5 g1;obtain⟨fi,HFI⟩:=nm_ (x1.feeds[i]'hi');obtain⟨fj1,HFJ⟩:=nm_ (x1.feeds[j]'hj');rw[HFI.out] at f1 hFi HWG;rw[HFJ.out] at g1 HWG;have HFi:=hI_ hFi;have HF5:=hI_ f5;obtain⟨yA,yc,rfl⟩:=hFi.hv.sl';clear f0 f2 f3 f4 g0 g2 g3 g4 g5 hFi hFj hF1;have hup:=qap w1;obtain⟨r,HRR⟩:=nm_ ((fi.hd.len !=fj1.hd.len));go_wp2_with fail
 refine qoH ?_;repeat(go_big_quiet_step (fail))
 refine wpQuiet_nil ?_;intro w2 hw2;have hb2:=qay hw2;have HB2:=hI_ hb2;have lq2:=nL_ lq1 hb2.size;have lg2:=nL_ lg1 hb2.size;have HG2:Hid (w.grownBy w2 (some gF)):=hI_ (qat HG1.out (qaP hb2));have HF2:Hid (qa7 B w2.heap.size w2 (.slice (some ⟨gF,0,none⟩) x.feeds.length cF) x1.feeds):=hI_ ((HF1.out.below hb2).mono (nr_ _) hb2.size);have u1:=(hb2.cell (p:=⟨q,o+1,none⟩) lq1).trans HU1.out;have u2:=(hb2.cell (p:=⟨q,o+2,none⟩) lq1).trans HU2.out;have f5:=(hb2.cell (p:=⟨gF,i*6+5,none⟩) lg1).trans HF5.out;rw[HRR.out];clear hw2 hup HU1 HU2 hb2;cases r
 rotate_left
 · have HR:Hid (qa5 x i j=x1):=hI_ (by rw[HWG.out,if_neg];have:=HRR.out;simpa using this);go_wp2_with fail
   refine bodyPost_ret (results_none Tryz.results63 _ _ _) rfl ?_;rw[HR.out];refine⟨rfl,?_,HG2.out⟩;rw[HN.out];exact HF2.out
 have HLL:Hid (fi.hd.len=fj1.hd.len):=hI_ (by have:=HRR.out;simpa using this);have HR:Hid (qa5 x i j=qby i j x1 fi.hd.len.toNat):=hI_ (by rw[HWG.out,if_pos HLL.out]);have HFD:Hid (qgA x1.sec x1.f0 fi):=hI_ (by rw[←HFI.out];exact HGV.out.wv.fd i HI'.out);obtain⟨n,HLN⟩:∃ n:Nat,Hid (fi.hv.length=n∧fi.bl.length=n∧fi.hd.len=n∧n≤16):=by
  have:=qax HFD.out.v;exact⟨fi.hv.length,hI_ ⟨rfl,a_,a_,a_⟩⟩
 rw[HLN.out.2.2.1,Int.toNat_natCast] at HR;rw[HLN.out.1] at f5;have hn16:n≤16:=HLN.out.2.2.2;have HGT:Hid (∀ m,m≤n→Gv j x1 (qby i j x1 m)∧((qby i j x1 m).feeds.getD j Fd.none).hd=fj1.hd∧(qby i j x1 m).feeds.getD i Fd.none=fi):=hI_ (fun m hm=>by
  have e1:x1.feeds.getD i Fd.none=fi:=by rw[qam HI'.out];exact HFI.out
  have e2:x1.feeds.getD j Fd.none=fj1:=by rw[qam HJ'.out];exact HFJ.out
  obtain⟨k1,k2,_⟩:=qfP HGV.out.wv hij HI'.out HJ'.out (by rw[e1,e2];exact HLL.out) m (by rw[e1,HLN.out.2.2.1,Int.toNat_natCast];exact hm);exact⟨k1,by rw[k2,e2],by rw[k1.oth i hij,e1]⟩)
 go_wp2_with fail
 clear u1 u2;go_loopw [48] (fun s wr=>∃ k:Nat,k≤n∧s=.int .i64 k∧qa7 B wr.heap.size wr (.slice (some ⟨gF,0,none⟩) x.feeds.length cF) (qby i j x1 k).feeds∧w.grownBy wr (some gF)∧wr.cell? ⟨gF,i*6+5,none⟩=some (.slice yA n yc)) (fun s _=>n-(intOf s).toNat)
 case atStart=>exact⟨0,Nat.zero_le _,rfl,HF2.out,HG2.out,f5⟩
 case round=>
  obtain⟨k,hk,rfl,hFr,hgr,hf5⟩:=hrel;obtain⟨wk,rfl⟩:∃ W,W=wr:=⟨_,rfl⟩
  have HFr:=hI_ hFr;have HGR:=hI_ hgr;have HF5:=hI_ hf5;have lq:=nL_ hql hgr.size;have lg:=nL_ hgl hgr.size;have hqk:wk.heap[q]? =w.heap[q]? :=hgr.block q hql (fun e=>by cases e;exact hqg rfl);have u2:=(World.cell?_of_block (a:=⟨q,o+2,none⟩) hqk).trans HT2.out;obtain⟨y,HY⟩:=nm_ (qby i j x1 k);have hGT:=HGT.out k hk;rw[HY.out] at hGT HFr;have HGK:=hI_ hGT;have hny:y.feeds.length=x.feeds.length:=HGK.out.1.n.trans HN.out;have HNY:=hI_ hny;clear hqk hGT hgr hny hFr;by_cases hlt:k<n
  case neg=>
   obtain rfl:k=n:=a_;have hkk:¬ (k:Int)<(k:Int):=a_;clear hf5 u2;go_wp2_with fail
   refine bodyPost_end (results_none Tryz.results63 _ _ _) rfl ?_;rw[HR.out,HY.out];refine⟨rfl,?_,HGR.out⟩;rw[HNY.out];exact HFr.out
  have hiy:i<y.feeds.length:=by rw[HNY.out];exact hi
  have hjy:j<y.feeds.length:=by rw[HNY.out];exact hj
  have HJY:=hI_ hjy;have hki:(k:Int)<(n:Int):=a_;have hk0:(0:Int)≤(k:Int):=a_;obtain⟨_,_,va,ha,hA,_,f0,f1,f2,f3,f4,f5,hFi⟩:=HFr.out.r.at_ hiy;cases hA;obtain⟨_,_,vb,hb',hA,_,g0,g1,g2,g3,g4,g5,hFj⟩:=HFr.out.r.at_ hjy;cases hA;rw[Nat.zero_add] at f4 f5 g0 g1 g2 g3 g4 g5;have hyi:y.feeds[i]'hiy=fi:=by rw[←HGK.out.2.2,qam hiy]
  rw[hyi] at hFi;obtain rfl:ha=.slice yA n yc:=Option.some.inj (f5.symm.trans hf5);obtain⟨fj,HFJ2⟩:=nm_ (y.feeds[j]'hjy);rw[HFJ2.out] at g0 g1 g2 g3 hFj;have hjd:y.feeds.getD j Fd.none=fj:=by rw[qam hjy,HFJ2.out]
  have hid_:y.feeds.getD i Fd.none=fi:=HGK.out.2.2;have HWV:=hI_ HGK.out.1.wv;have HFDJ:Hid (qgA y.sec y.f0 fj):=hI_ (by rw[←HFJ2.out];exact HWV.out.fd j hjy);have HLJ:Hid (fj.hv.length=n∧fj.bl.length=n∧n≤y.f0.bl.length):=by
   have h1:=qax HFDJ.out.v;have h2:fj.hd=fj1.hd:=by rw[←hjd];exact HGK.out.2.1
   have h3:=HLL.out;have h4:=HLN.out.2.2.1;have h5:=HFDJ.out.le;have h6:=qax HWV.out.v0;rw[h2] at h1 h5;exact hI_ ⟨a_,a_,a_⟩
  have HG1:=hI_ (qhp (x:=y) (i:=i) (j:=j) (k:=k) HWV.out hiy hjy (by rw[hid_,HGK.out.2.1];exact HLL.out) (by rw[hid_,HLN.out.2.2.1,Int.toNat_natCast];exact hlt));have HSN:Hid (qby i j x1 (k+1)=qbW i j y k):=hI_ (by rw[qdB,HY.out]);have HIJ:Hid (y.feed i=fi∧y.feed j=fj):=hI_ ⟨by unfold Wd.feed;rw[Int.toNat_natCast,hid_],by unfold Wd.feed;rw[Int.toNat_natCast,hjd]⟩;have hkh:k<fi.hv.length:=by rw[HLN.out.1];exact hlt
  have hkb:k<fi.bl.length:=by rw[HLN.out.2.1];exact hlt
  have hkj:k<fj.hv.length:=by rw[HLJ.out.1];exact hlt
  have hkbi:(k:Int)<(fi.bl.length:Int):=a_;have hkji:(k:Int)<(fj.hv.length:Int):=a_;have hFih:RB wk (.slice yA n yc) fi.hv:=hFi.hv;obtain⟨b1,o1,hA1,hbs1,e1⟩:=R1.at_ hFih hkh;subst hA1;obtain⟨b2A,c2,rfl⟩:=hFi.bl.sl';obtain⟨b2,o2,hA2,hbs2,e2⟩:=R1.at_ hFi.bl hkb;subst hA2;obtain⟨b3A,c3,rfl⟩:=hFj.hv.sl';obtain⟨b3,o3,hA3,hbs3,e3⟩:=R1.at_ hFj.hv hkj;subst hA3;have HFj:=hI_ hFj;have HSZ:Hid (fi.bl[k].size≤8):=hI_ (qbH HFD.out.v _ (List.getElem_mem hkb));obtain⟨v1,HV1⟩:=nm_ (fi.hv[k]);obtain⟨v2,HV2⟩:=nm_ (fj.hv[k]);obtain⟨t,HT⟩:=nm_ (fi.bl[k]);rw[HV1.out] at e1;rw[HT.out] at e2 HSZ;rw[HV2.out] at e3;have HG4:Hid (v1=true→v2=false→qes fj k t (qaQ ((lvs y.f0.bl).take fi.bl.length) k)=(fj.put k t,true)):=hI_ (fun h1 h2=>by
   have:=(HG1.out.2.2.2 (by rw[hid_,qam hkh,HV1.out];exact h1) (by rw[hjd,qam hkj,HV2.out];exact h2)).2;rw[hjd,hid_,HLN.out.2.2.1,Int.toNat_natCast,qam hkb,HT.out,←HLN.out.2.1] at this;exact this)
  have HGO:Hid (qbW i j y k=if (v1&& !v2)=true then {y with feeds:=y.feeds.set j (qes fj k t (qaQ ((lvs y.f0.bl).take fi.bl.length) k)).1} else y):=hI_ (by
   unfold qbW;rw[HIJ.out.1,HIJ.out.2,qam hkh,qam hkj,HV1.out,HV2.out,qam hkb,HT.out,HLN.out.2.2.1,Int.toNat_natCast,Int.toNat_natCast,←HLN.out.2.1])
  clear f0 f1 f2 f3 f5 hf5 hFi hFj hFih hyi hjd hid_;cases v1
  · have HSAME:Hid (qby i j x1 (k+1)=y):=hI_ (by rw[HSN.out,HGO.out];rfl);go_wp2_with fail
    go_roundw
    case rel=>exact⟨k+1,a_,t_,by rw[HSAME.out];exact HFr.out,HGR.out,HF5.out⟩
    case measure=>simp[intOf];omega
  cases v2
  rotate_left
  · have HSAME:Hid (qby i j x1 (k+1)=y):=hI_ (by rw[HSN.out,HGO.out];rfl);go_wp2_with fail
    go_roundw
    case rel=>exact⟨k+1,a_,t_,by rw[HSAME.out];exact HFr.out,HGR.out,HF5.out⟩
    case measure=>simp[intOf];omega
  have hfp:=HG4.out rfl rfl;obtain⟨gf,HGF⟩:=nm_ (fj.put k t);rw[HGF.out] at hfp;have HNEW:Hid ((qby i j x1 (k+1)).feeds=y.feeds.set j gf):=hI_ (by rw[HSN.out,HGO.out,hfp];rfl);have HFP:=hI_ hfp;have HNB:Hid (fi.bl.length≤(y.feeds.getD 0 Fd.none).bl.length):=hI_ (by rw[HLN.out.2.1];exact HLJ.out.2.2);have hn0:0<y.feeds.length:=by rw[HNY.out];omega
  have HCL:Hid (∀ W,bB wk W→Calls Tryz.prog 145 #[.pointer (some ⟨q,o,none⟩),.int .i64 (fi.bl.length:Int)] W fun e w'=>∃ v',e=.returned v'∧O1 (Value.int .i64) W.heap.size 3 w' v' ((lvs y.f0.bl).take fi.bl.length)∧bB W w'):=
   hI_ fun W hW=>qj1 y.feeds fi.bl.length q o _ W ((hW.cell (p:=⟨q,o+2,none⟩) lq).trans u2) (HFr.out.r.below hW) hn0 HNB.out HWV.out.wi.len0.2.1 HWV.out.wi.txt
  clear hfp hn0;go_upto_region 7 with fail
  go_cut [8,9] (fun s8 s9 wx=>qop wk.heap.size wk wx gf true s8 s9)
  case first=>
   go_region_held3 (fun w'=>w'.cell? ⟨q,o+2,none⟩=some (.slice (some ⟨gF,0,none⟩) x.feeds.length cF)∧w'.cell? ⟨gF,j*6,none⟩=some (.int .i64 fj.pub)∧w'.cell? ⟨gF,j*6+1,none⟩=some (.int .i64 fj.hd.len)∧w'.cell? ⟨gF,j*6+2,none⟩=some (.int .i64 fj.hd.dg)∧w'.cell? ⟨gF,j*6+3,none⟩=some (.int .i64 fj.hd.sg)∧w'.cell? ⟨gF,j*6+4,none⟩=some (vb)∧w'.cell? ⟨gF,j*6+5,none⟩=some (.slice (some ⟨b3,o3,none⟩) fj.hv.length c3)∧w'.cell? ⟨gF,i*6+4,none⟩=some (.slice (some ⟨b2,o2,none⟩) fi.bl.length c2)∧w'.cell? ⟨b2,o2+k,none⟩=some (.string t))
    (with_reducible refine⟨Eq.trans (Below.cell (B:=wk.heap.size) ?_ lq) u2,Eq.trans (Below.cell (B:=wk.heap.size) ?_ lg) g0,Eq.trans (Below.cell (B:=wk.heap.size) ?_ lg) g1,Eq.trans (Below.cell (B:=wk.heap.size) ?_ lg) g2,Eq.trans (Below.cell (B:=wk.heap.size) ?_ lg) g3,Eq.trans (Below.cell (B:=wk.heap.size) ?_ lg) g4,Eq.trans (Below.cell (B:=wk.heap.size) ?_ lg) g5,Eq.trans (Below.cell (B:=wk.heap.size) ?_ lg) f4,Eq.trans (Below.cell (B:=wk.heap.size) ?_ hbs2) e2⟩ <;> (repeat(first|with_reducible exact bR_ _ _|with_reducible exact hb04|with_reducible exact hb05|with_reducible exact hb06|with_reducible refine qab ?_ _|with_reducible refine qac ?_|(with_reducible refine qae ?_ ?_ _ _ _ _ _ _;rotate_left;(first|exact nr_ _|omega|(simp;done)|(simp;omega)))));done)
    (first
      |(go_at_call 145;refine(HCL.out _ m_).mono ?_;rintro e w4 ⟨v4,rfl,ho4,hb4⟩;have hb04:bB wk w4:=qb6 m_ hb4;have hs04:=hb04.size)
      |(go_at_call 144;refine(qfE _ (k:Int) _ _ (ho4.r1.below i_)).mono ?_;rintro e w5 ⟨v5,rfl,ho5,hb5⟩;have hb05:bB wk w5:=qb6 m_ hb5;have hs05:=hb05.size)
      |(go_at_call 143;refine(qkj HFP _ _ _ _ (HFj.out.below' m_) (Nat.le_trans HSZ.out s_) (ho5.r1.below i_)).mono ?_;rintro e w6 ⟨ub,uh,rfl,ho6,hb6⟩
        obtain⟨uA,uc,rfl⟩:=ho6.bl.sl;obtain⟨hA,hc,rfl⟩:=ho6.hv.sl;have hb06:bB wk w6:=qb6 m_ hb6;have hs4:=hb4.size;have hs5:=hb5.size;have hs6:=hb6.size;have hs06:=hb06.size;try(first
          |(have hz6:=(hb6.block _ (qaB w5 _)).trans (heap_alloc_new w5 _);obtain⟨k0,k1,k2,k3,k4,k5,kf⟩:=qaa hz6)
          |(have hz6:=(hb6.block _ (nL_ (qaB w4 _) hs5)).trans ((hb5.block _ (qaB w4 _)).trans (heap_alloc_new w4 _));obtain⟨k0,k1,k2,k3,k4,k5,kf⟩:=qaa hz6)
          |(have hz6:=(hb6.block _ (nL_ (nL_ (qaB wk _) hs4) hs5)).trans ((hb5.block _ (nL_ (qaB wk _) hs4)).trans ((hb4.block _ (qaB wk _)).trans (heap_alloc_new wk _)));obtain⟨k0,k1,k2,k3,k4,k5,kf⟩:=qaa hz6))))
   all_goals
    go_wp2
    go_meet
   · exact qnl ho6 a_ hb06 hs06
   · exact qgZ ho6 (qaB _ _) hb06 hz6 hs05
   · exact qgZ ho6 (nL_ (qaB _ _) hs5) hb06 hz6 hs04
   · exact qgZ ho6 (nL_ (nL_ (qaB _ _) hs4) hs5) hb06 hz6 (nr_ _)
  case rest=>
   obtain⟨y8,vb8,vh8,rfl,rfl,hfb,hb8,hy8⟩:=hcut;obtain⟨Wx,rfl⟩:∃ W,W=wc:=⟨_,rfl⟩
   have HFX:=HFr.out.below hb8;have hs8:=hb8.size;have w2:=(hb8.cell (p:=⟨q,o+2,none⟩) lq).trans u2;have w5:=(hb8.cell (p:=⟨gF,i*6+5,none⟩) lg).trans HF5.out;obtain⟨vA,vc,rfl⟩:=hfb.fo.bl.sl;obtain⟨uA,uc,rfl⟩:=hfb.fo.hv.sl;have d2:Wx.drew.cell? ⟨q,o+2,none⟩=_:=w2;have e0:Wx.drew.cell? ⟨y8,0,none⟩=_:=hfb.c0;have e1:Wx.drew.cell? ⟨y8,1,none⟩=_:=hfb.c1;have e2:Wx.drew.cell? ⟨y8,2,none⟩=_:=hfb.c2;have e3:Wx.drew.cell? ⟨y8,3,none⟩=_:=hfb.c3;have e4:Wx.drew.cell? ⟨y8,4,none⟩=_:=hfb.c4;have e5:Wx.drew.cell? ⟨y8,5,none⟩=_:=hfb.c5;obtain⟨h1,h2⟩:=HFX.put HJY.out hfb.fo (nr_ _);have h5:=(qli (g:=gF) (j:=j) (t:=i*6+5) (w:=Wx) a_ (.int .i64 gf.pub) (.int .i64 gf.hd.len) (.int .i64 gf.hd.dg) (.int .i64 gf.hd.sg) (.slice vA gf.bl.length vc) (.slice uA gf.hv.length uc)).trans w5;obtain⟨W18,HW18⟩:=nm_ (((((((Wx.setCell ⟨gF,j*6,none⟩ (.int .i64 gf.pub)).setCell ⟨gF,j*6+1,none⟩ (.int .i64 gf.hd.len)).setCell ⟨gF,j*6+2,none⟩ (.int .i64 gf.hd.dg)).setCell ⟨gF,j*6+3,none⟩ (.int .i64 gf.hd.sg)).setCell ⟨gF,j*6+4,none⟩ (.slice vA gf.bl.length vc)).setCell ⟨gF,j*6+5,none⟩ (.slice uA gf.hv.length uc)));rw[HW18.out] at h1 h2 h5;have HP5:=hI_ h5;have HP1:=hI_ h1;have HP2:=hI_ (qat (qat HGR.out (qaP hb8)) h2);have HP3:=hI_ h2;obtain⟨⟨F,hF⟩,hFf⟩:=HFX.cells;have s0:=hF (j*6) (by have:=HJY.out;omega);have s1:=hF (j*6+1) (by have:=HJY.out;omega);have s2:=hF (j*6+2) (by have:=HJY.out;omega);have s3:=hF (j*6+3) (by have:=HJY.out;omega);have s4:=hF (j*6+4) (by have:=HJY.out;omega);have s5:=hF (j*6+5) (by have:=HJY.out;omega);have n1:gF≠y8:=a_;have n2:y8≠gF:=a_;clear hfb hb8 HFX h1 h2 h5 hF u2 f4 g0 g1 g2 g3 g4 g5 w5;go_wp2_with fail
   refine qci (fun w'=>w'.cell? ⟨q,o+2,none⟩=some (.slice (some ⟨gF,0,none⟩) x.feeds.length cF)∧w'.cell? ⟨y8,0,none⟩=some (.int .i64 gf.pub)∧w'.cell? ⟨y8,1,none⟩=some (.int .i64 gf.hd.len)∧w'.cell? ⟨y8,2,none⟩=some (.int .i64 gf.hd.dg)∧w'.cell? ⟨y8,3,none⟩=some (.int .i64 gf.hd.sg)∧w'.cell? ⟨y8,4,none⟩=some (.slice vA gf.bl.length vc)∧w'.cell? ⟨y8,5,none⟩=some (.slice uA gf.hv.length uc)) 7 d_ ⟨d2,e0,e1,e2,e3,e4,e5⟩ (fun hS hT=> ?_);refine gT_ ?_ hT hS;clear hT;refine tT_ 0 ?_;refine tT_ 1 ?_;refine tT_ 2 ?_;refine tT_ 3 ?_;refine tT_ 4 ?_;refine tT_ 5 ?_;refine tT_ 6 ?_;refine eT_ fun hT=>?_;refine qch rfl d_ d_ (fun K7 hK7=> ?_);go_simp;rw[HW18.out];refine hK7.out _ _ ?_;go_wp2_with fail
   go_roundw
   case rel=>
    refine⟨k+1,a_,t_,?_,qat HP2.out (qaP (qac (bR_ _ _))),HP5.out⟩;rw[HNEW.out];exact(HP1.out.below (qac (bR_ _ _))).mono (nr_ _) HP3.out.size
   case measure=>simp[intOf];omega
def qcL(x:Wd):Wd:=if qcc x=true then qgl x else Wd.zero
theorem qcA.made{w:World}{n:Nat}(hn:n≤maxLen):qcA w.heap.size (w.heap.size+1) (w.alloc (.cells (madeCells #[.slice none 0 0] (n*1)) 54)) (.slice (some ⟨w.heap.size,0,none⟩) n n) (List.replicate n []):=by
 refine⟨fun k hk=>(by cases hk;exact Nat.lt_succ_self _),fun t=>(#[Value.slice none 0 0]:Array Value)[t%(#[Value.slice none 0 0]:Array Value).size]!,by rw[List.length_replicate];exact ON.madeN _ hn,fun j hj=> ?_,fun i j _ _ k hk=> ?_⟩
 · rw[List.getElem_replicate];refine⟨fun k hk=> ?_,fun _=>.slice none 0 0,?_,fun j hj=>an_⟩
   · simp[Nat.mod_one] at hk;cases hk
   · simp[Nat.mod_one];exact ON.nil
 · simp[Nat.mod_one] at hk;cases hk
theorem WdP.turn{B C g n cap:Nat}{w w':World}{x y:Wd}{vL vA vN:Value}(h:WdP B C w x (.slice (some ⟨g,0,none⟩) n cap) vL vA vN)(hC:C≤w.heap.size)(hF:qa7 B w'.heap.size w' (.slice (some ⟨g,0,none⟩) n cap) y.feeds)(hg:w.grownBy w' (some g))
 (e1:y.links=x.links) (e2:y.asked=x.asked) (e3:y.net=x.net):WdP B w'.heap.size w' y (.slice (some ⟨g,0,none⟩) n cap) vL vA vN:=by
 obtain⟨_,F,h1,_⟩:=h.F;have hc:=Nat.le_trans hC hg.size;refine⟨hF,?_,?_,?_⟩
 · rw[e1];exact(h.L.keepT (h1.grew (T:=[99]) hg e_) e_).mono (nr_ _) hc
 · rw[e2];exact(h.A.next (h1.grew hg e_)).mono (nr_ _) hc
 · rw[e3];exact(h.N.next (h1.grew hg e_)).mono (nr_ _) hc
section
variable {B g gF cF:Nat} {y:Wd} {w0 w w':World} {vL vA:Value}
theorem qel.nk{k:Nat}{cur:Array Value}{t:TypeId}{fr:Nat×Nat}(h:qel B g gF cF y w0 w vL vA)(hk:w.heap[k]? =some (.cells cur t fr))(ht:50≠t):k≠gF:=by
 obtain⟨_,F,h1,_⟩:=h.p.F;exact fun e=>h1.nbox hk ht ca_
theorem qel.ne(h:qel B g gF cF y w0 w vL vA):g≠gF:=by
 obtain⟨_,F,h1,_⟩:=h.p.F;exact fun e=>h1.nbox h.box e_ ca_
theorem qel.gl(h:qel B g gF cF y w0 w vL vA):B≤gF∧gF<w.heap.size:=by
 obtain⟨_,F,h1,_⟩:=h.p.F;exact h1.lt gF rfl
theorem qel.give(h:qel B g gF cF y w0 w vL vA)(hw:WV y){i j:Nat}(hij:i≠j)(hi:i<y.feeds.length)(hj:j<y.feeds.length)(hL:qbk y i j=true):
 Calls Tryz.prog 63 #[.pointer (some ⟨g,0,none⟩),.int .i64 (i:Int),.int .i64 (j:Int)] w fun e w'=>e=.returned (.tuple #[])∧qel B g gF cF (qa5 y i j) w0 w' vL vA∧w.grownBy w' (some gF):=by
 obtain⟨t0,t1,t2,t3,t4,t5,tf⟩:=qaa h.box;refine(qn6 y i j g 0 B w.heap.size gF cF w hw hij hi hj hL (by simpa using t1) (by simpa using t2) (qai h.box) h.ne h.p.F (nr_ _)).mono ?_;rintro e w' ⟨rfl,hF,hg⟩;have gv:=qlD hw hij hi hj hL;refine⟨rfl,⟨?_,?_,h.b.grown hg h.bs (fun r hr=>by cases hr;exact h.gl.1),h.gB⟩,hg⟩
 · rw[gv.sec,gv.bad,gv.n];exact(hg.block g (qai h.box) (fun e=>by cases e;exact h.ne rfl)).trans h.box
 · rw[gv.n] at hF ⊢;exact h.p.turn (nr_ _) hF hg gv.links gv.asked gv.net
end
theorem qgn.give{P Z:Array Value}{g gF cF:Nat}{y:Wd}{w wr:World}{vL vA:Value}(h:qgn P Z g gF cF y w wr vL vA)(hw:WV y){i j:Nat}(hij:i≠j)(hi:i<y.feeds.length)(hj:j<y.feeds.length)(hL:qbk y i j=true):
 Calls Tryz.prog 63 #[.pointer (some ⟨g,0,none⟩),.int .i64 (i:Int),.int .i64 (j:Int)] wr fun e w'=>e=.returned (.tuple #[])∧qgn P Z g gF cF (qa5 y i j) w w' vL vA∧wr.grownBy w' (some gF):=by
 refine(h.i.give hw hij hi hj hL).mono ?_;rintro e w' ⟨rfl,h1,hg⟩;exact⟨rfl,⟨h1,(hg.block _ (qai h.p) (fun e=>by cases e;exact h.i.nk h.p e_ rfl)).trans h.p,(hg.block _ (qai h.z) (fun e=>by cases e;exact h.i.nk h.z e_ rfl)).trans h.z⟩,hg⟩
theorem qfG(x:Wd)(vF vL vA vN:Value)(w:World)(hx:WdR w x vF vL vA vN)(ht:∀ j (hj:j<x.net.length),x.net[j].txt.size≤maxLen):
 Calls Tryz.prog 22 #[.agg #[.int .i64 x.sec,.int .i64 x.bad,vF,vL,vA,vN]] w (qk3 w (qcL x)):=by
 obtain⟨W0,HW0⟩:=nm_ ((w.alloc (.cells #[.int .i64 x.sec,.int .i64 x.bad,vF,vL,vA,vN] 28)).alloc (.cells #[.int .i64 0,.int .i64 0,.slice none 0 0,.slice none 0 0,.slice none 0 0,.slice none 0 0] 28));have HB0:Hid (bB w W0):=hI_ ai_;have hs0:w.heap.size+2=W0.heap.size:=by rw[←HW0.out];simp
 have HP0:Hid (W0.heap[w.heap.size]? =some (.cells #[.int .i64 x.sec,.int .i64 x.bad,vF,vL,vA,vN] 28 (0,0))):=hI_ M_;have HZ0:Hid (W0.heap[w.heap.size+1]? =some (.cells #[.int .i64 0,.int .i64 0,.slice none 0 0,.slice none 0 0,.slice none 0 0,.slice none 0 0] 28 (0,0))):=hI_ D_;have hl0:w.heap.size<W0.heap.size:=a_;have hl1:w.heap.size+1<W0.heap.size:=a_;have HX0:Hid (WdR W0 x vF vL vA vN):=hI_ (hx.below HB0.out);have HT:=hI_ ht;obtain⟨FA,Fc,rfl⟩:=hx.feeds.sl;obtain⟨LA,Lc,rfl⟩:=hx.links.sl;have HLW:=hI_ hx.links;clear hs0 hx ht;obtain⟨p0,p1,p2,p3,p4,p5,pf⟩:=qaa HP0.out;go_enter Tryz.func22,Tryz.ntmps22
 go_wp2_with fail
 rw[HW0.out];go_wp2_with fail
 refine(qfi x _ _ _ _ W0 HX0.out HT.out).mono ?_;rintro e w1 ⟨rfl,hb1⟩;clear p0 p1 p2 p3 p4 p5 pf;have HP1:=hI_ ((hb1.block _ hl0).trans HP0.out);have HZ1:=hI_ ((hb1.block _ hl1).trans HZ0.out);have hm0:=nL_ hl0 hb1.size;have hm1:=nL_ hl1 hb1.size;have HB1:=hI_ (HB0.out.trans (hb1.mono HB0.out.size));have HX1:=hI_ (HX0.out.below hb1);clear hb1;obtain⟨bv,HBV⟩:=nm_ (qcc x);rw[HBV.out];cases bv
 · obtain⟨y0,y1,y2,y3,y4,y5,yf⟩:=qaa HZ1.out;have HR:Hid (qcL x=Wd.zero):=hI_ (by unfold qcL;rw[HBV.out];rfl);go_wp2_with fail
   refine bodyPost_ret (v:=.agg #[.int .i64 0,.int .i64 0,.slice none 0 0,.slice none 0 0,.slice none 0 0,.slice none 0 0]) (by simp[results,Tryz.results22,go_sem,y0,y1,y2,y3,y4,y5]) rfl ?_;rw[HR.out];exact⟨_,_,_,_,rfl,WdP.zero,qae HB1.out (Nat.le_succ _) _ _ _ _ _ _⟩
 have hwv:WV x:=qcq.1 HBV.out;have HQ:=hI_ hwv.quiet;have HNA:Hid (x.asked.length=x.feeds.length):=hI_ hwv.na;have HWV:=hI_ hwv;have hn6:x.feeds.length≤6:=hwv.wi.n6;have hn1:0<x.feeds.length:=by have:=hwv.wi.n1;omega
 have hl40:x.links.length≤40:=hwv.wi.nl;have HR:Hid (qcL x=qgl x):=hI_ (by unfold qcL;rw[HBV.out];rfl);clear hwv;obtain⟨p0,p1,p2,p3,p4,p5,pf⟩:=qaa HP1.out;go_wp2_with fail
 refine(qjf x _ _ _ _ w1 HX1.out (HWV.out.wi.sml a_)).mono ?_;rintro e w2 ⟨uF,uL,uA,uN,rfl,hp2,hb2⟩;obtain⟨gF,cF,rfl⟩:∃ g c,uF=.slice (some ⟨g,0,none⟩) x.feeds.length c:=by
  obtain⟨_,F,h1,_⟩:=hp2.F;obtain⟨g,c,h,_⟩:=h1.form hn1;exact⟨g,c,h⟩
 obtain⟨LB_,Ld,rfl⟩:=hp2.L.r.sl;obtain⟨AB,Ad,rfl⟩:=hp2.A.r.sl;obtain⟨NB,Nd,rfl⟩:=hp2.N.r.sl;clear p0 p1 p2 p3 p4 p5 pf;have HP2:=hI_ ((hb2.block _ hm0).trans HP1.out);have HZ2:=hI_ ((hb2.block _ hm1).trans HZ1.out);have HB2:=hI_ (HB1.out.trans (hb2.mono HB1.out.size));have HC2:=hI_ (hp2.mono HB1.out.size (nr_ _));have hm2:=nL_ hm0 hb2.size;have hm3:=nL_ hm1 hb2.size;clear hp2 hb2;go_upto_region 4 with fail
 obtain⟨W3,HW3⟩:=nm_ (w2.alloc (.cells #[.int .i64 x.sec,.int .i64 x.bad,.slice (some ⟨gF,0,none⟩) x.feeds.length cF,.slice LB_ x.links.length Ld,.slice AB x.asked.length Ad,.slice NB x.net.length Nd] 28));rw[HW3.out];obtain⟨g,HG⟩:=nm_ w2.heap.size;rw[HG.out];have hg3:W3.heap[g]? =some (.cells #[.int .i64 x.sec,.int .i64 x.bad,.slice (some ⟨gF,0,none⟩) x.feeds.length cF,.slice LB_ x.links.length Ld,.slice AB x.asked.length Ad,.slice NB x.net.length Nd] 28 (0,0)):=by rw[←HW3.out,←HG.out];exact heap_alloc_new _ _
 have hb3:bB w2 W3:=by rw[←HW3.out];exact qab (bR_ _ _) _
 have hsg:g<W3.heap.size:=qai hg3;have hs3:W3.heap.size=g+1:=by rw[←HW3.out,←HG.out];simp
 obtain⟨k0,k1,k2,k3,k4,k5,kf⟩:=qaa hg3;have HP3:=hI_ ((hb3.block _ hm2).trans HP2.out);have HZ3:=hI_ ((hb3.block _ hm3).trans HZ2.out);have HC3:=hI_ (HC2.out.below hb3);have HB3:=hI_ (HB2.out.trans (hb3.mono HB2.out.size));rw[HG.out] at hm2 hm3;go_upto_region 5 with fail
 obtain⟨W4,HW4⟩:=nm_ (W3.setCell ⟨g,5,none⟩ (.slice none 0 0));rw[HW4.out];have hg4:W4.heap[g]? =some (.cells #[.int .i64 x.sec,.int .i64 x.bad,.slice (some ⟨gF,0,none⟩) x.feeds.length cF,.slice LB_ x.links.length Ld,.slice AB x.asked.length Ad,.slice none 0 0] 28 (0,0)):=by rw[←HW4.out];exact qas (i:=5) hg3 _
 have hs4:W4.heap.size=W3.heap.size:=by rw[←HW4.out];simp
 have hk4:qaA LT2 W3 W4:=by rw[←HW4.out];exact qaA.set1 hg3 e_ _
 have hf4:∀ k,k≠g→W4.heap[k]? =W3.heap[k]? :=fun k hk=>by rw[←HW4.out];exact Below.heap_setCell _ _ _ _ hk
 have HP4:=hI_ ((hf4 _ a_).trans HP3.out);have HZ4:=hI_ ((hf4 _ a_).trans HZ3.out);have HC4:=hI_ (HC3.out.keep hk4);have HB4:Hid (bB w W4):=hI_ (by rw[←HW4.out];exact qaN HB3.out a_);clear k0 k1 k2 k3 k4 k5 kf hk4 hf4 hg3 hb3;obtain⟨p0,p1,p2,p3,p4,p5,pf⟩:=qaa HP4.out;obtain⟨k0,k1,k2,k3,k4,k5,kf⟩:=qaa hg4;obtain⟨i0,hi,hz0,hz1,hz2⟩:=info_parts qeL;have hmk:=fun W=>qhD (P:=Tryz.prog) 25 54 i0 _ Tryz.underlying25 hi hz0 (N:=1) (zc:= #[.slice none 0 0]) hz1 rfl .i64 .i64 x.feeds.length bS_ a_ W;go_upto_region 6 with fail
 obtain⟨WB,HWB⟩:=nm_ (W4.setCell ⟨g,4,none⟩ (.slice (some ⟨g+1,0,none⟩) x.feeds.length x.feeds.length));rw[HWB.out];obtain⟨W6,HW6⟩:=nm_ (WB.alloc (.cells (madeCells #[.slice none 0 0] x.feeds.length) 54));rw[HW6.out];have hkB:qaA LT2 W4 WB:=by rw[←HWB.out];exact qaA.set1 hg4 e_ _
 have hfB:∀ k,k≠g→WB.heap[k]? =W4.heap[k]? :=fun k hk=>by rw[←HWB.out];exact Below.heap_setCell _ _ _ _ hk
 have hsB:WB.heap.size=g+1:=by rw[←HWB.out];simp;omega
 have hgB:WB.heap[g]? =some (.cells #[.int .i64 x.sec,.int .i64 x.bad,.slice (some ⟨gF,0,none⟩) x.feeds.length cF,.slice LB_ x.links.length Ld,.slice (some ⟨g+1,0,none⟩) x.feeds.length x.feeds.length,.slice none 0 0] 28 (0,0)):=by rw[←HWB.out];exact qas (i:=4) hg4 _
 have hb6:bB WB W6:=by rw[←HW6.out];exact qab (bR_ _ _) _
 have hs6:W6.heap.size=g+1+1:=by rw[←HW6.out];simp;omega
 have hA6:qcA WB.heap.size (WB.heap.size+1) W6 (.slice (some ⟨WB.heap.size,0,none⟩) x.feeds.length x.feeds.length) (List.replicate x.feeds.length []):=by
  have:=qcA.made (w:=WB) (n:=x.feeds.length) s_;rw[Nat.mul_one,HW6.out] at this;exact this
 rw[hsB] at hA6;have hgw:w.heap.size≤g:=a_;have hS0:qgn #[.int .i64 x.sec,.int .i64 x.bad,.slice FA x.feeds.length Fc,.slice LA x.links.length Lc,vA,vN] #[.int .i64 0,.int .i64 0,.slice none 0 0,.slice none 0 0,.slice none 0 0,.slice none 0 0] g gF cF x.quiet w W6 (.slice LB_ x.links.length Ld) (.slice (some ⟨g+1,0,none⟩) x.feeds.length x.feeds.length):=by
  have hcB:=(HC4.out.keep hkB).below hb6;have hc6:w2.heap.size≤W6.heap.size:=by have:=HG.out;omega
  have hqA:x.quiet.asked=List.replicate x.feeds.length []:=by show List.replicate x.asked.length []=_;rw[HNA.out]
  refine⟨⟨(hb6.block g a_).trans hgB,⟨hcB.F.mono (nr_ _) hc6,hcB.L.mono (nr_ _) hc6,?_,qbd.nil⟩,?_,hgw⟩,(hb6.block _ a_).trans ((hfB _ a_).trans HP4.out),(hb6.block _ a_).trans ((hfB _ a_).trans HZ4.out)⟩
  · rw[hqA];exact hA6.mono a_ a_
  · have h1:bB w WB:=by rw[←HWB.out];exact qaN HB4.out hgw
    exact h1.trans (hb6.mono a_)
 have HS0:=hI_ hS0;clear p0 p1 p2 p3 p4 p5 pf k0 k1 k2 k3 k4 k5 kf hkB hfB hgB hb6 hA6 hS0 hmk hg4 hi hz0 hz1 hz2;obtain⟨p0,p1,p2,p3,p4,p5,pf⟩:=qaa HS0.out.p;go_wp2_with fail
 clear p0 p1 p2 p3 p4 p5 pf;go_loopw [21] (fun i wr=>∃ r:Nat,r≤x.feeds.length∧i=.int .i64 r∧qgn #[.int .i64 x.sec,.int .i64 x.bad,.slice FA x.feeds.length Fc,.slice LA x.links.length Lc,vA,vN] #[.int .i64 0,.int .i64 0,.slice none 0 0,.slice none 0 0,.slice none 0 0,.slice none 0 0] g gF cF (qdH x.links x.quiet r) w wr (.slice LB_ x.links.length Ld) (.slice (some ⟨g+1,0,none⟩) x.feeds.length x.feeds.length)) (fun i _=>x.feeds.length-(intOf i).toNat)
 case atStart=>exact⟨0,Nat.zero_le _,rfl,HS0.out⟩
 case round=>
  obtain⟨r,hr,rfl,hS⟩:=hrel;obtain⟨wr1,rfl⟩:∃ W,W=wr:=⟨_,rfl⟩
  have HS:=hI_ hS;have HCM:=hI_ (qfu HQ.out r);obtain⟨z,HZN⟩:=nm_ (qdH x.links x.quiet r);by_cases hlt:r<x.feeds.length
  case neg=>
   obtain rfl:r=x.feeds.length:=a_;have hki:¬ (x.feeds.length:Int)<(x.feeds.length:Int):=a_;obtain⟨y0,y1,y2,y3,y4,y5,yf⟩:=qaa hS.z;obtain⟨k0,k1,k2,k3,k4,k5,kf⟩:=qaa hS.i.box;have HE:Hid ((qdH x.links x.quiet x.feeds.length).sec=x.sec∧(qdH x.links x.quiet x.feeds.length).bad=x.bad):=hI_ ⟨HCM.out.sec,HCM.out.bad⟩;clear hS;go_wp2_with fail
   refine bodyPost_ret (v:=.agg #[.int .i64 (qdH x.links x.quiet x.feeds.length).sec,.int .i64 (qdH x.links x.quiet x.feeds.length).bad,.slice (some ⟨gF,0,none⟩) (qdH x.links x.quiet x.feeds.length).feeds.length cF,.slice LB_ x.links.length Ld,.slice (some ⟨g+1,0,none⟩) x.feeds.length x.feeds.length,.slice none 0 0]) (by simp[results,Tryz.results22,go_sem,y0,y1,y2,y3,y4,y5]) rfl ?_;rw[HR.out];show qk3 w (qdH x.links x.quiet x.feeds.length) _ _;have hk6:=qaA.set6 (T:=LT2) HS.out.z e_ (.int .i64 (qdH x.links x.quiet x.feeds.length).sec) (.int .i64 (qdH x.links x.quiet x.feeds.length).bad) (.slice (some ⟨gF,0,none⟩) (qdH x.links x.quiet x.feeds.length).feeds.length cF) (.slice LB_ x.links.length Ld) (.slice (some ⟨g+1,0,none⟩) x.feeds.length x.feeds.length) (.slice none 0 0);exact⟨_,_,_,_,rfl,(HS.out.i.p.keep hk6).mono (nr_ _) hk6.1,qae HS.out.i.b (Nat.le_succ _) _ _ _ _ _ _⟩
  have hki:(r:Int)<(x.feeds.length:Int):=a_;obtain⟨p0,p1,p2,p3,p4,p5,pf⟩:=qaa hS.p;clear hS;go_wp2_with fail
  clear p0 p1 p2 p3 p4 p5 pf;go_loopw [26] (fun i wr=>∃ k:Nat,k≤x.links.length∧i=.int .i64 k∧qgn #[.int .i64 x.sec,.int .i64 x.bad,.slice FA x.feeds.length Fc,.slice LA x.links.length Lc,vA,vN] #[.int .i64 0,.int .i64 0,.slice none 0 0,.slice none 0 0,.slice none 0 0,.slice none 0 0] g gF cF (qdb x.links z k) w wr (.slice LB_ x.links.length Ld) (.slice (some ⟨g+1,0,none⟩) x.feeds.length x.feeds.length)) (fun i _=>x.links.length-(intOf i).toNat)
  case atStart=>exact⟨0,Nat.zero_le _,rfl,by rw[←HZN.out];exact HS.out⟩
  case round=>
   obtain⟨k,hk,rfl,hT⟩:=hrel;obtain⟨wr2,rfl⟩:∃ W,W=wr:=⟨_,rfl⟩
   have HT_:=hI_ hT;by_cases hlk:k<x.links.length
   case neg=>
    obtain rfl:k=x.links.length:=a_;have hki2:¬ (x.links.length:Int)<(x.links.length:Int):=a_;clear hT;go_wp2_with fail
    go_roundw
    case rel=>exact⟨r+1,a_,t_,by show qgn _ _ _ _ _ (qdb x.links (qdH x.links x.quiet r) x.links.length) _ _ _ _;rw[HZN.out];exact HT_.out⟩
    case measure=>simp[intOf];omega
   have hki2:(k:Int)<(x.links.length:Int):=a_;have hk0:(0:Int)≤(k:Int):=a_;have HWZ:Hid (WV z∧z.links=x.links∧z.feeds.length=x.feeds.length):=hI_ (by rw[←HZN.out];exact⟨HCM.out.wv,HCM.out.links,HCM.out.n⟩);have HCT:=hI_ (qmZ HWZ.out.1 k (by rw[HWZ.out.2.1];exact hk));rw[HWZ.out.2.1] at HCT;have HSN:Hid (qdb x.links z (k+1)=qft (qdb x.links z k) x.links[k]):=hI_ (qer hlk);obtain⟨y,HY⟩:=nm_ (qdb x.links z k);rw[HY.out] at HCT HSN HT_;have HLK:Hid (y.links=x.links):=hI_ (HCT.out.links.trans HWZ.out.2.1);obtain⟨i,j,hl,hij,hjn,L1,L2⟩:=qhy HCT.out.wv (l:=x.links[k]) (by rw[HLK.out];exact List.getElem_mem hlk);have c1:=qho HCT.out.wv (i:=i) (j:=j) a_ a_ hjn L1;have HC1:=hI_ c1;obtain⟨bL,oL,hAL,hbsL,e0,e1⟩:=(HLW.out.below hT.i.b).at_ hlk;subst hAL;rw[hl] at HSN e0 e1;simp only at e0 e1;have HL1:=hI_ (And.intro L1 L2);have HIJ:=hI_ (And.intro hij hjn);clear hT L1 L2 hij hjn c1 hl;go_upto_region 11 with fail
   obtain⟨W7,HW7⟩:=nm_ (wr2.alloc (.cells #[.int .i64 (i:Int),.int .i64 (j:Int)] 99));rw[HW7.out];have hb7:bB wr2 W7:=by rw[←HW7.out];exact qab (bR_ _ _) _
   have hl7:W7.heap[wr2.heap.size]? =some (.cells #[.int .i64 (i:Int),.int .i64 (j:Int)] 99 (0,0)):=by rw[←HW7.out];exact heap_alloc_new _ _
   have HS7:=hI_ (HT_.out.below hb7);have HL7:=hI_ hl7;have l0:W7.cell? ⟨wr2.heap.size,0,none⟩=some (.int .i64 (i:Int)):=cell_of_row _ _ 0 _ _ _ hl7;have l1:W7.cell? ⟨wr2.heap.size,1,none⟩=some (.int .i64 (j:Int)):=cell_of_row _ _ 1 _ _ _ hl7;clear hb7 hl7 e0 e1;go_wp2_with fail
   refine(HS7.out.give HCT.out.wv (i:=i) (j:=j) (by have:=HIJ.out.1;omega) (by have:=HIJ.out;omega) HIJ.out.2 HL1.out.1).mono ?_;rintro e w8 ⟨rfl,hS8,hg8⟩;have hl8:=(hg8.block _ (qai HL7.out) (fun e=>by cases e;exact HS7.out.i.nk HL7.out e_ rfl)).trans HL7.out;have HS8:=hI_ hS8;clear l0 l1 hS8 hg8;have l0:w8.cell? ⟨wr2.heap.size,0,none⟩=some (.int .i64 (i:Int)):=cell_of_row _ _ 0 _ _ _ hl8;have l1:w8.cell? ⟨wr2.heap.size,1,none⟩=some (.int .i64 (j:Int)):=cell_of_row _ _ 1 _ _ _ hl8;clear hl8;go_wp2_with fail
   refine(HS8.out.give HC1.out.wv (i:=j) (j:=i) (by have:=HIJ.out.1;omega) (by rw[HC1.out.n];exact HIJ.out.2) (by rw[HC1.out.n];have:=HIJ.out;omega) (by rw[qf3 HC1.out.links];exact HL1.out.2)).mono ?_;rintro e w9 ⟨rfl,hS9,hg9⟩;have HS9:=hI_ hS9;clear l0 l1 hS9 hg9;go_wp2_with fail
   go_roundw
   case rel=>exact⟨k+1,a_,t_,by rw[HSN.out];exact HS9.out⟩
   case measure=>simp[intOf];omega
section
variable {B:Nat} {w w':World} {x:Wd} {vF vL vA vN:Value}
theorem WdQ.st(h:WdQ B w x vF vL vA vN):WdS w x vF vL vA vN:=WdS.of h.feeds.stb (h.links.stb e_) h.asked.stb h.net.stb
end
def qnf(g P:Nat)(w:World)(e:Ending)(w':World):Prop:=∃ ev:Ev,e=.returned (.agg #[.int .i64 ev.kind,.int .i64 ev.a,.int .i64 ev.b,.int .i64 ev.c,.string ev.txt])∧ev.txt.size≤10∧Rdr w' g P∧qbb g w w'
section
variable {g P P' q y:Nat} {w w' w2:World} {x:Wd} {vF vL vA vN:Value}
theorem EvW.wd(h:EvW g P w x vF vL vA vN q w'):WdS w' x vF vL vA vN:=by obtain⟨P0,h0⟩:=h.hr;exact h.hx.keep (h.o.keep h0)
theorem EvW.alloc(h:EvW g P w x vF vL vA vN q w')(o:Obj):EvW g P w x vF vL vA vN q (w'.alloc o):=h.next (h.r.below (qab (bR_ _ _) o)) (qbb.of_below (qab (bR_ _ _) o))
end
section
variable {g P P' q y:Nat} {w w' w2:World} {x:Wd} {vF vL vA vN:Value}
theorem EvT.alloc(h:EvT g P w x vF vL vA vN q y w')(o:Obj):EvT g P w x vF vL vA vN q y (w'.alloc o):=h.next (h.s.r.below (qab (bR_ _ _) o)) (qbb.of_below (qab (bR_ _ _) o))
theorem EvT.setz(h:EvT g P w x vF vL vA vN q y w'){z:Nat}(hz:q+2≤z)(hzy:y≠z)(i:Nat)(u:Value):EvT g P w x vF vL vA vN q y (w'.setCell ⟨z,i,none⟩ u):=by
 obtain⟨kd,a,b,c,t,he,ht⟩:=h.e;exact⟨h.s.set hz i u,⟨kd,a,b,c,t,(Below.heap_setCell _ _ _ _ hzy).trans he,ht⟩,h.hy⟩
theorem EvT.set0(h:EvT g P w x vF vL vA vN q y w')(v:Int):EvT g P w x vF vL vA vN q y (w'.setCell ⟨y,0,none⟩ (.int .i64 v)):=
 ⟨h.s.set h.hy 0 _,by obtain⟨kd,a,b,c,t,he,ht⟩:=h.e;exact⟨v,a,b,c,t,qas (i:=0) he _,ht⟩,h.hy⟩
theorem EvT.set1(h:EvT g P w x vF vL vA vN q y w')(v:Int):EvT g P w x vF vL vA vN q y (w'.setCell ⟨y,1,none⟩ (.int .i64 v)):=
 ⟨h.s.set h.hy 1 _,by obtain⟨kd,a,b,c,t,he,ht⟩:=h.e;exact⟨kd,v,b,c,t,qas (i:=1) he _,ht⟩,h.hy⟩
theorem EvT.set2(h:EvT g P w x vF vL vA vN q y w')(v:Int):EvT g P w x vF vL vA vN q y (w'.setCell ⟨y,2,none⟩ (.int .i64 v)):=
 ⟨h.s.set h.hy 2 _,by obtain⟨kd,a,b,c,t,he,ht⟩:=h.e;exact⟨kd,a,v,c,t,qas (i:=2) he _,ht⟩,h.hy⟩
theorem EvT.set3(h:EvT g P w x vF vL vA vN q y w')(v:Int):EvT g P w x vF vL vA vN q y (w'.setCell ⟨y,3,none⟩ (.int .i64 v)):=
 ⟨h.s.set h.hy 3 _,by obtain⟨kd,a,b,c,t,he,ht⟩:=h.e;exact⟨kd,a,b,v,t,qas (i:=3) he _,ht⟩,h.hy⟩
theorem EvT.set4(h:EvT g P w x vF vL vA vN q y w'){u:ByteArray}(hu:u.size≤10):EvT g P w x vF vL vA vN q y (w'.setCell ⟨y,4,none⟩ (.string u)):=
 ⟨h.s.set h.hy 4 _,by obtain⟨kd,a,b,c,t,he,ht⟩:=h.e;exact⟨kd,a,b,c,u,qas (i:=4) he _,hu⟩,h.hy⟩
end
def qoD(n g P:Nat)(w:World)(x:Wd)(vF vL vA vN:Value)(q:Nat)(wx:World)(s6 s7:Value):Prop:=
 ∃ i j:Nat,s6=.int .i64 i∧s7=.int .i64 j∧i<n∧j<n∧EvW g P w x vF vL vA vN q wx
def EvC(n g P:Nat)(w:World)(x:Wd)(vF vL vA vN:Value)(q:Nat)(wx:World)(s28:Value):Prop:=
 ∃ b,s28=.bool b∧(b=true→0<n)∧EvW g P w x vF vL vA vN q wx
theorem qos{g P P' q y:Nat}{w w':World}{x:Wd}{vF vL vA vN:Value}(h:EvT g P w x vF vL vA vN q y w')(hP:P≤P')(kd a b c:Int)(t:ByteArray)(ht:t.size≤10):
 qnf g P' w (.returned (.agg #[.int .i64 kd,.int .i64 a,.int .i64 b,.int .i64 c,.string t])) (((((w'.setCell ⟨q+1,0,none⟩ (.int .i64 kd)).setCell ⟨q+1,1,none⟩ (.int .i64 a)).setCell ⟨q+1,2,none⟩ (.int .i64 b)).setCell ⟨q+1,3,none⟩ (.int .i64 c)).setCell ⟨q+1,4,none⟩ (.string t)):=by
 have hg:=h.s.hg;have hq:=h.s.hq;have hk:∀ (W:World) i u k,k≤g→(W.setCell ⟨q+1,i,none⟩ u).heap[k]? =W.heap[k]? :=fun W i u k hk=>Below.heap_setCell _ _ _ _ (by show k≠q+1;omega);refine⟨⟨kd,a,b,c,t⟩,rfl,ht,((((((h.s.r.mono hP).keep (hk _ _ _)).keep (hk _ _ _)).keep (hk _ _ _)).keep (hk _ _ _)).keep (hk _ _ _)),?_⟩;have hs:∀ i,w.heap.size≤(⟨q+1,i,none⟩:Addr).block:=fun i=>by show w.heap.size≤q+1;omega
 exact((((h.s.o.set (hs 0) _).set (hs 1) _).set (hs 2) _).set (hs 3) _).set (hs 4) _
theorem qh4{W:World}{A:Option Addr}{n c b o:Nat}{u:Value}{ls:List (List (Int×Int))}(h:Stb LT2 (fun w=>qdh w (.slice A n c) ls) W){j:Nat}(hj:j<ls.length)(hA:A=some ⟨b,o,none⟩)(hu:W.cell? ⟨b,o+j,none⟩=some u):
 ∀ w',qaA LT2 W w'→w'.cell? ⟨b,o+j,none⟩=some u∧RP w' u ls[j]:=by
 subst hA;have hkb:=qe5 hu (fun w' hk=>by
  obtain⟨b2,o2,x,hA2,_,hc,_⟩:=qdh.at_ (h w' hk) hj;cases hA2
  rw[hc];simp)
 intro w' hk;obtain⟨b2,o2,x,hA2,_,hc,hr⟩:=qdh.at_ (h w' hk) hj;cases hA2
 have e:=(World.cell?_of_block (hkb w' hk)).trans hu;rw[hc] at e;cases e
 exact⟨hc,hr⟩
theorem qlj{W:World}{a o z:Nat}{u:Value}(h:W.cell? ⟨a,o,none⟩=some u)(hz:a≠z)(x y:Value):((W.setCell ⟨z,0,none⟩ x).setCell ⟨z,1,none⟩ y).cell? ⟨a,o,none⟩=some u:=by
 have h1:((W.setCell ⟨z,0,none⟩ x).setCell ⟨z,1,none⟩ y).heap[a]? =W.heap[a]? :=(Below.heap_setCell _ ⟨z,1,none⟩ y a hz).trans (Below.heap_setCell W ⟨z,0,none⟩ x a hz);exact(World.cell?_of_block h1).trans h
theorem qgT{W:World}{A:Option Addr}{n c b o:Nat}{ls:List (Int×Int)}(h:Stb LT2 (fun w=>RP w (.slice A n c) ls) W)(hn:0<ls.length)(hA:A=some ⟨b,o,none⟩):∀ w',qaA LT2 W w'→∀ t,w'.cell? ⟨b,t,none⟩=W.cell? ⟨b,t,none⟩:=by
 subst hA;obtain⟨b2,o2,hA2,_,c0,_⟩:=R2.at_ h.self hn;cases hA2
 have hkb:=qe5 c0 (fun w' hk=>by
  obtain⟨b3,o3,hA3,_,d0,_⟩:=R2.at_ (h w' hk) hn;cases hA3
  rw[d0];simp)
 exact fun w' hk t=>World.cell?_of_block (hkb w' hk)
theorem qkp{W:World}{A:Option Addr}{n c:Nat}{ls:List (List (Int×Int))}{u:Value}{b o:Nat}(h:Stb LT2 (fun w=>qdh w (.slice A n c) ls) W){j:Nat}(hj:j<ls.length)(hA:A=some ⟨b,o,none⟩)(hu:W.cell? ⟨b,o+j,none⟩=some u)
 {B:Option Addr} {m d b2 o2:Nat} (hun:u=.slice B m d) (hB:B=some ⟨b2,o2,none⟩) (hl:0<ls[j].length):∀ w',qaA LT2 W w'→∀ t,w'.cell? ⟨b2,t,none⟩=W.cell? ⟨b2,t,none⟩:=by
 have hkp:=qh4 h hj hA hu;refine qgT (n:=m) (c:=d) (ls:=ls[j]) (fun w' hk=> ?_) hl hB;rw[←hun];exact(hkp w' hk).2
theorem qgF{W:World}{a z:Nat}(hz:a≠z)(x y:Value)(o:Nat):((W.setCell ⟨z,0,none⟩ x).setCell ⟨z,1,none⟩ y).cell? ⟨a,o,none⟩=W.cell? ⟨a,o,none⟩:=
 World.cell?_of_block ((Below.heap_setCell _ ⟨z,1,none⟩ y a hz).trans (Below.heap_setCell W ⟨z,0,none⟩ x a hz))
def EvL(n g P:Nat)(w:World)(x:Wd)(vF vL vA vN:Value)(q:Nat)(wx:World)(s8:Value):Prop:=
 ∃ (y i j:Nat),s8=.pointer (some ⟨y,0,none⟩)∧wx.heap[y]? =some (.cells #[.int .i64 (i:Int),.int .i64 (j:Int)] 99 (0,0))∧i<n∧j<n∧q+2≤y∧EvW g P w x vF vL vA vN q wx
def EvQ(g P:Nat)(w:World)(x:Wd)(vF vL vA vN:Value)(q y:Nat)(wx:World)(s10:Value):Prop:=
 ∃ (z:Nat) (c d:Int),s10=.pointer (some ⟨z,0,none⟩)∧wx.heap[z]? =some (.cells #[.int .i64 c,.int .i64 d] 109 (0,0))∧z≠y∧EvT g P w x vF vL vA vN q y wx
theorem qmP{n:Nat}{l:List (Int×Int)}(h:∀ j (hj:j<l.length),qc5 n l[j]=true){k:Nat}(hk:k<l.length):∃ i j:Nat,l[k]=((i:Int),(j:Int))∧i<n∧j<n:=by
 have h1:=h k hk;unfold qc5 at h1;rw[Bool.and_eq_true,qak,qak] at h1;exact⟨l[k].1.toNat,l[k].2.toNat,Prod.ext (by show l[k].1=_;omega) (by show l[k].2=_;omega),a_,a_⟩
theorem qiv{K:Nat}(g P:Nat)(x:Wd)(vF vL vA vN:Value)(w:World)(hr:Rdr w g P)(hP:P≤100000)(hx:WdS w x vF vL vA vN)(hw:WI K x)(hK:K≤1000000):
 Calls Tryz.prog 48 #[.pointer (some ⟨g,0,none⟩),.agg #[.int .i64 x.sec,.int .i64 x.bad,vF,vL,vA,vN]] w (qnf g (P+60) w):=by
 have HWI:=hI_ hw;have hgl:=hr.lt;have hl6:x.feeds.length≤6:=hw.n6;have hn1:1≤x.feeds.length:=hw.n1;have hka:x.asked.length=x.feeds.length:=hw.na;have hnl:=hw.nl;have hnn:=hw.net;clear hw;obtain⟨s,bd,fs,ls,ks,ps⟩:=x;simp only at hl6 hn1 hka hnl hnn;have HKA:Hid (ks.length=fs.length):=hI_ hka;have hka2:0<ks.length:=a_;have hka3:ks.length≤6:=a_;have hka4:fs.length≤ks.length:=a_;clear hka;obtain⟨fA,fc,rfl⟩:=hx.r.feeds.sl;obtain⟨lA,lc,rfl⟩:=hx.r.links.sl;obtain⟨aA,ac,rfl⟩:=hx.r.asked.sl;obtain⟨nA,nc,rfl⟩:=hx.r.net.sl;simp only at hx;obtain⟨b0,o0,yb,yh,hA,h_,hh_⟩:=hx.r.feeds.at_ (show 0<fs.length by omega);subst hA;clear h_ hh_;obtain⟨a0,p0,vk,hA,h_,hh_⟩:=hx.r.asked.at_ hka2;subst hA;clear h_ hh_;obtain⟨W0,HW0⟩:=nm_ ((w.alloc (.cells #[.int .i64 s,.int .i64 bd,.slice (some ⟨b0,o0,none⟩) fs.length fc,.slice lA ls.length lc,.slice (some ⟨a0,p0,none⟩) ks.length ac,.slice nA ps.length nc] 28)).alloc (.cells #[.int .i64 0,.int .i64 0,.int .i64 0,.int .i64 0,.string ⟨#[]⟩] 30));have hb0:bB w W0:=by rw[←HW0.out];exact qab (qab (bR_ _ _) _) _
 have hp0:W0.heap[w.heap.size]? =some (.cells #[.int .i64 s,.int .i64 bd,.slice (some ⟨b0,o0,none⟩) fs.length fc,.slice lA ls.length lc,.slice (some ⟨a0,p0,none⟩) ks.length ac,.slice nA ps.length nc] 28 (0,0)):=by rw[←HW0.out];exact qau (heap_alloc_new _ _)
 have hz0:W0.heap[w.heap.size+1]? =some (.cells #[.int .i64 0,.int .i64 0,.int .i64 0,.int .i64 0,.string ⟨#[]⟩] 30 (0,0)):=by rw[←HW0.out];exact qbu k_
 have hne:∀ k,w.heap.size≤k→some k≠some g:=fun k hk e=>by have:=Option.some.inj e;omega
 have HNE:=hI_ hne;have HLK:Hid (∀ k (hk:k<ls.length),∃ i j:Nat,ls[k]=((i:Int),(j:Int))∧i<fs.length∧j<fs.length):=hI_ (fun k hk=>qmP HWI.out.links hk);have HBD:Hid (∀ j (hj:j<fs.length),fs[j].hd.len≤16∧0≤fs[j].hd.len∧fs[j].hv.length≤16):=hI_ (fun j hj=>by
  obtain⟨n,h1,h2,h3,h4,h5⟩:=HWI.out.hd hj;simp only at h1 h2 h3 h4 h5;omega)
 have HAK:Hid (∀ j (hj:j<ks.length),ks[j].length≤1000000):=hI_ (fun j hj=>Nat.le_trans (HWI.out.ask j hj) hK);have hr0:=hr.below hb0;have hx0:=hx.below hb0;have ho0:qbb g w W0:=qbb.of_below hb0;have h0n:(1:Int)≤(fs.length:Int):=a_;have h0m:(fs.length:Int)≤1000000:=a_;obtain⟨t0,t1,t2,t3,t4,t5,tf⟩:=qaa hp0;have HXX:=hI_ hx;have HRR:=hI_ hr;clear hr hx hb0 hne;go_enter Tryz.func48,Tryz.ntmps48
 go_wp2_with fail
 rw[HW0.out];refine(qan g P fs.length W0 hr0 h0n h0m a_).mono ?_;rintro e w1 ⟨i,rfl,i1,i2,r1,o1⟩;obtain⟨i,rfl⟩:∃ n:Nat,i=n:=⟨i.toNat,a_⟩
 go_wp2_with fail
 refine(qan g (P+1) fs.length w1 r1 h0n h0m a_).mono ?_;rintro e w2 ⟨j,rfl,j1,j2,r2,o2⟩;obtain⟨j,rfl⟩:∃ n:Nat,j=n:=⟨j.toNat,a_⟩
 have o12:=o1.trans o2;have hp2:=(o12.block _ (qai hp0) (HNE.out _ (nr_ _))).trans hp0;have hz2:=(o12.block _ (qai hz0) (HNE.out _ (Nat.le_succ _))).trans hz0;have o02:=ho0.trans o12;clear t0 t1 t2 t3 t4 t5 tf o1 o2 o12 hp0 hz0 hx0 hr0 ho0 r1;have HW2:Hid (EvW g (P+2) w ⟨s,bd,fs,ls,ks,ps⟩ (.slice (some ⟨b0,o0,none⟩) fs.length fc) (.slice lA ls.length lc) (.slice (some ⟨a0,p0,none⟩) ks.length ac) (.slice nA ps.length nc) w.heap.size w2):=hI_ ⟨r2,o02,hp2,hz2,rfl,hgl,HXX.out,⟨P,HRR.out⟩⟩;clear hp2 hz2 o02;go_upto_region 4 with fail
 go_cut [28] (fun s28 wx=>EvC ls.length g (P+3) w ⟨s,bd,fs,ls,ks,ps⟩ (.slice (some ⟨b0,o0,none⟩) fs.length fc) (.slice lA ls.length lc) (.slice (some ⟨a0,p0,none⟩) ks.length ac) (.slice nA ps.length nc) w.heap.size wx s28)
 case first=>
  obtain⟨t0,t1,t2,t3,t4,t5,tf⟩:=qaa HW2.out.p;clear t0 t1 t2 t4 t5 tf;by_cases hl:ls.length=0
  · have hl':¬ (0:Int)<(ls.length:Int):=a_;have hl'':¬ 0<ls.length:=a_;clear hl;go_wp2_with fail
    go_meet;exact⟨_,rfl,(fun h=>aj_),HW2.out.mono a_⟩
  have hl':(0:Int)<(ls.length:Int):=a_;have hl'':0<ls.length:=a_;clear hl;go_wp2_with fail
  refine(qan g (P+2) 4 w2 r2 a_ a_ a_).mono ?_;rintro e w3 ⟨z,rfl,z1,z2,r3,o3⟩;have HW3:=hI_ (HW2.out.next r3 o3);have HLL:=hI_ hl'';clear r3 o3 t3;go_wp2_with fail
  go_meet;exact⟨_,rfl,fun _=>HLL.out,HW3.out⟩
 case rest=>
  obtain⟨cb,rfl,hcb,hW3⟩:=hcut;obtain⟨w3,rfl⟩:∃ W,W=wc:=⟨_,rfl⟩
  have HW3:=hI_ hW3;have HCB:=hI_ hcb;clear hcb hW3 r2 HW2;go_upto_if 28 with fail
  go_cut [6,7] (fun s6 s7 wx=>qoD fs.length g (P+5) w ⟨s,bd,fs,ls,ks,ps⟩ (.slice (some ⟨b0,o0,none⟩) fs.length fc) (.slice lA ls.length lc) (.slice (some ⟨a0,p0,none⟩) ks.length ac) (.slice nA ps.length nc) w.heap.size wx s6 s7)
  case first=>
   cases cb
   · go_wp2_with fail
     go_meet;exact⟨i,j,rfl,rfl,a_,a_,HW3.out.mono a_⟩
   have hl'':0<ls.length:=HCB.out rfl;obtain⟨bL,oL,hLA,hbL3,hg0,hg1⟩:=HW3.out.wd.r.links.at_ hl'';subst hLA;clear hg0 hg1;have HLK3:=hI_ (qgT HW3.out.wd.links hl'' rfl);have hlm:(ls.length:Int)≤1000000:=a_;have hl1:(1:Int)≤(ls.length:Int):=a_;have hl3:=qai HW3.out.p;have hl3z:=qai HW3.out.z;have hgw3:g<w3.heap.size:=HW3.out.r.lt;have hgq:w.heap.size≠g:=a_;have t3:=(qaa HW3.out.p).2.2.2.1;go_upto_region 5 with fail
   go_cut [8] (fun s8 wx=>EvL fs.length g (P+4) w ⟨s,bd,fs,ls,ks,ps⟩ (.slice (some ⟨b0,o0,none⟩) fs.length fc) (.slice (some ⟨bL,oL,none⟩) ls.length lc) (.slice (some ⟨a0,p0,none⟩) ks.length ac) (.slice nA ps.length nc) w.heap.size wx s8)
   case first=>
    go_region_held3 (fun w'=>w'.cell? ⟨w.heap.size,3,none⟩=some (.slice (some ⟨bL,oL,none⟩) ls.length lc)∧∀ t,w'.cell? ⟨bL,t,none⟩=w3.cell? ⟨bL,t,none⟩)
     (first|with_reducible exact⟨t3,fun _=>rfl⟩|with_reducible exact⟨n3,n3t⟩|(with_reducible refine⟨Eq.trans (Below.cell (B:=w3.heap.size) ?_ hl3) t3,fun t=>Below.cell (B:=w3.heap.size) ?_ hbL3⟩ <;> (with_reducible repeat(first|exact bR_ _ _|refine qab ?_ _|refine qac ?_));done)|(with_reducible refine⟨Eq.trans (Below.cell (B:=w4.heap.size) ?_ hl4) n3,fun t=>Eq.trans (Below.cell (B:=w4.heap.size) ?_ hbL4) (n3t t)⟩ <;> (with_reducible repeat(first|exact bR_ _ _|refine qab ?_ _|refine qac ?_));done)|(with_reducible exact⟨n3b,n3bt⟩))
     ((go_at_call 49;refine(qan g (P+3) ls.length _ (HW3.out.r.below i_) hl1 hlm a_).mono ?_;rintro e w4 ⟨k,rfl,k1,k2,r4,o4⟩
       obtain⟨k,rfl⟩:∃ n:Nat,k=n:=⟨k.toNat,a_⟩
       have o34:qbb g w3 w4:=(qbb.of_below i_).trans o4;have hW4:=HW3.out.next r4 o34;have hl4:=qai hW4.p;have n3:=(qaa hW4.p).2.2.2.1;obtain⟨li,lj,hlk,hli,hlj⟩:=HLK.out k a_;obtain⟨_,_,hLA,_,l0,l1⟩:=HW3.out.wd.r.links.at_ (show k<ls.length by omega);cases hLA
       have n3t:=HLK3.out w4 (o34.keep HW3.out.r);have hbL4:bL<w4.heap.size:=nL_ hbL3 o34.size;rw[hlk] at l0 l1;simp only at l0 l1;have hs4:=o34.size;have hHW4:=hI_ hW4;clear hW4;try(refine qmN (w4.heap[w3.heap.size]? =some (.cells #[.int .i64 0,.int .i64 0] 99 (0,0))) ?_ ?_;(focus ((refine(o4.block _ ?_ ?_).trans ?_);(simp);(exact HNE.out _ (Nat.le_of_lt hl3));(first|with_reducible exact at0 _ _|((with_reducible refine qbI ?_);with_reducible exact at0 _ _)|exact at0 _ _)));intro hy4;obtain⟨y0,y1,yf⟩:=qaH hy4;have n3b:=(qaa ((hHW4.out.set (y:=w3.heap.size) a_ 0 (.int .i64 (li:Int))).set (y:=w3.heap.size) a_ 1 (.int .i64 (lj:Int))).p).2.2.2.1;have n3bt:=fun t=>(qgF (W:=w4) (a:=bL) (z:=w3.heap.size) a_ (.int .i64 (li:Int)) (.int .i64 (lj:Int)) t).trans (n3t t))))
    all_goals
     go_wp2
     go_meet
    · exact⟨_,li,lj,rfl,heap_alloc_new _ _,hli,hlj,a_,hHW4.out.alloc _⟩
    · exact⟨_,li,lj,rfl,qas (i:=1) (qas (i:=0) hy4 _) _,hli,hlj,a_,(hHW4.out.set (y:=w3.heap.size) a_ 0 _).set (y:=w3.heap.size) a_ 1 _⟩
   case rest=>
    obtain⟨y,li,lj,rfl,hy,hli,hlj,hqy,hW5⟩:=hcut;obtain⟨w5,rfl⟩:∃ W,W=wc:=⟨_,rfl⟩
    have HW5:=hI_ hW5;have HY:=hI_ hy;obtain⟨y0,y1,yf⟩:=qaH hy;clear hy hW5 t3;go_wp2_with fail
    refine(qan g (P+4) 2 w5 HW5.out.r a_ a_ a_).mono ?_;rintro e w6 ⟨z,rfl,z1,z2,r6,o6⟩;have HW6:=hI_ (HW5.out.next r6 o6);obtain⟨x0,x1,xf⟩:=qaH ((o6.block _ (qai HY.out) (HW5.out.ne _ a_)).trans HY.out);clear r6 o6 y0 y1 yf;by_cases hz:z=0
    · subst hz;go_wp2_with fail
      go_meet;exact⟨lj,li,rfl,rfl,hlj,hli,HW6.out⟩
    · have hz':(z==0)=false:=by rw[beq_eq_false_iff_ne];exact hz
      clear hz;go_wp2_with fail
      go_meet;exact⟨li,lj,rfl,rfl,hli,hlj,HW6.out⟩
  case rest=>
   clear i1 i2 j1 j2 i j HCB HW3;obtain⟨i,j,rfl,rfl,hi,hj,hW7⟩:=hcut;obtain⟨w7,rfl⟩:∃ W,W=wc:=⟨_,rfl⟩
   have HW7:=hI_ hW7;obtain⟨t0,t1,t2,t3,t4,t5,tf⟩:=qaa hW7.p;obtain⟨_,_,yb7,yh7,hA,hb7,f0,f1,f2,f3,f4,f5,hF7⟩:=hW7.wd.r.feeds.at_ (show 0<fs.length by omega);cases hA;simp only[Nat.zero_mul,Nat.add_zero] at f0 f1 f2 f3 f4 f5;obtain⟨m0,HM0⟩:∃ m:Int,Hid (fs[0].hd.len=m):=⟨_,hI_ rfl⟩
   rw[HM0.out] at f1;have hm0:m0≤16∧0≤m0:=by rw[←HM0.out];exact⟨(HBD.out 0 a_).1,(HBD.out 0 a_).2.1⟩
   obtain⟨hm1,hm2⟩:=hm0;have h0i:(0:Int)<(fs.length:Int):=a_;clear hF7 f0 f2 f3 f4 f5 t0 t1 t3 t4 t5 tf hW7;go_upto_region 11 with fail
   go_cut [9] (fun s9 wx=>∃ y,s9=.pointer (some ⟨y,0,none⟩)∧EvT g (P+6) w ⟨s,bd,fs,ls,ks,ps⟩ (.slice (some ⟨b0,o0,none⟩) fs.length fc) (.slice lA ls.length lc) (.slice (some ⟨a0,p0,none⟩) ks.length ac) (.slice nA ps.length nc) w.heap.size y wx)
   case first=>
    have hc:m0<1∨1≤m0:=a_;go_wp2_with fail
    all_goals
     refine(qan g (P+5) _ w7 HW7.out.r a_ a_ a_).mono ?_;rintro e w8 ⟨z,rfl,z1,z2,r8,o8⟩;have HW8:=hI_ (HW7.out.next r8 o8);have hs8:=nL_ (qai HW7.out.z) o8.size;clear r8 o8 t2 f1;go_wp2_with fail
     go_meet;exact⟨_,rfl,HW8.out.alloc _,⟨_,_,_,_,_,heap_alloc_new _ _,e_⟩,a_⟩
   case rest=>
    obtain⟨y,rfl,hT⟩:=hcut;obtain⟨w9,rfl⟩:∃ W,W=wc:=⟨_,rfl⟩
    have HT:=hI_ hT;clear hT t2 f1;go_wp2_with fail
    refine(qan g (P+6) 16 w9 HT.out.s.r a_ a_ a_).mono ?_;rintro e w10 ⟨sw,rfl,sw1,sw2,r10,o10⟩;have HT10:=hI_ (HT.out.next r10 o10);clear r10 o10;go_upto_block 0 with fail
    go_cut [] (fun wx=>EvT g (P+30) w ⟨s,bd,fs,ls,ks,ps⟩ (.slice (some ⟨b0,o0,none⟩) fs.length fc) (.slice lA ls.length lc) (.slice (some ⟨a0,p0,none⟩) ks.length ac) (.slice nA ps.length nc) w.heap.size y wx)
    case first=>
     have hsw:sw=0∨sw=1∨sw=2∨sw=3∨sw=4∨sw=5∨sw=6∨sw=7∨sw=8∨sw=9∨sw=10∨sw=11∨sw=12∨sw=13∨sw=14∨sw=15:=a_;rcases hsw with rfl|rfl|rfl|rfl|rfl|rfl|rfl|rfl|rfl|rfl|rfl|rfl|rfl|rfl|rfl|rfl;iterate 2
      · as_aux_lemma=>
         obtain⟨kd_,ea_,eb_,ec_,et_,c0,c1,c2,c3,c4,cf,ct⟩:=HT10.out.cells;go_wp2_with fail
         refine(qc4 g (P+7) _ (HT10.out.set0 1).s.r a_).mono ?_;rintro e w11 ⟨st,rfl,hst,r11,o11⟩;have HT11:=hI_ ((HT10.out.set0 1).next r11 o11);have HST:=hI_ hst;clear c0 c1 c2 c3 c4 cf ct r11 o11 hst;obtain⟨kd_,ea_,eb_,ec_,et_,c0,c1,c2,c3,c4,cf,ct⟩:=HT11.out.cells;go_wp2_with fail
         go_meet;exact(HT11.out.set4 HST.out).mono a_
     iterate 2
      · as_aux_lemma=>
         obtain⟨kd_,ea_,eb_,ec_,et_,c0,c1,c2,c3,c4,cf,ct⟩:=HT10.out.cells;go_wp2_with fail
         refine(qan g (P+7) fs.length _ (HT10.out.set0 2).s.r h0n h0m a_).mono ?_;rintro e w11 ⟨w11v,rfl,w111,w112,w11r,w11o⟩;have HT11:=hI_ ((HT10.out.set0 2).next w11r w11o);clear w11r w11o;clear c0 c1 c2 c3 c4 cf ct;obtain⟨kd_,ea_,eb_,ec_,et_,c0,c1,c2,c3,c4,cf,ct⟩:=HT11.out.cells;go_wp2_with fail
         refine(qan g (P+7+1) fs.length _ (HT11.out.set1 w11v).s.r h0n h0m a_).mono ?_;rintro e w12 ⟨w12v,rfl,w121,w122,w12r,w12o⟩;have HT12:=hI_ ((HT11.out.set1 w11v).next w12r w12o);clear w12r w12o;clear c0 c1 c2 c3 c4 cf ct;obtain⟨kd_,ea_,eb_,ec_,et_,c0,c1,c2,c3,c4,cf,ct⟩:=HT12.out.cells;go_wp2_with fail
         go_meet;exact(HT12.out.set2 _).mono a_
     · as_aux_lemma=>
        obtain⟨kd_,ea_,eb_,ec_,et_,c0,c1,c2,c3,c4,cf,ct⟩:=HT10.out.cells;go_wp2_with fail
        go_meet;exact(HT10.out.set0 3).mono a_
     iterate 3
      · as_aux_lemma=>
         obtain⟨kd_,ea_,eb_,ec_,et_,c0,c1,c2,c3,c4,cf,ct⟩:=HT10.out.cells;go_wp2_with fail
         go_meet;exact(HT10.out.set0 4).mono a_
     iterate 3
      · as_aux_lemma=>
         obtain⟨kd_,ea_,eb_,ec_,et_,c0,c1,c2,c3,c4,cf,ct⟩:=HT10.out.cells;have HT11:=hI_ (HT10.out.set0 5);obtain⟨W11,HW11⟩:=nm_ (w10.setCell ⟨y,0,none⟩ (.int .i64 5));rw[HW11.out] at HT11;go_upto_region 32 with fail
         rw[HW11.out];clear c0 c1 c2 c3 c4 cf ct;obtain⟨t0,t1,t2,t3,t4,t5,tf⟩:=qaa HT11.out.s.p;obtain⟨_,_,ybj,yhj,hA,hbj,f0,f1,f2,f3,f4,f5,hFj⟩:=HT11.out.s.wd.r.feeds.at_ hj;cases hA;obtain⟨hvA,hvc,rfl⟩:=hFj.hv.sl';have hh16:=(HBD.out j hj).2.2;clear f0 f1 f2 f3 f4 hFj t0 t1 t3 t4 t5 tf;obtain⟨nh,HNH⟩:=nm_ (fs[j].hv.length);rw[HNH.out] at f5 hh16;obtain⟨kd_,ea_,eb_,ec_,et_,c0,c1,c2,c3,c4,cf,ct⟩:=HT11.out.cells;by_cases hnh:nh=0
         · have h1:¬ (0:Int)<(nh:Int):=a_;have h2:¬ 0<nh:=a_;clear hnh;go_wp2_with fail
           go_meet;exact HT11.out.mono a_
         have h1:(0:Int)<(nh:Int):=a_;have h2:0<nh:=a_;have h3:(1:Int)≤(nh:Int):=a_;have h4:(nh:Int)≤1000000:=a_;clear hnh;go_wp2_with fail
         refine(qan g (P+7) nh _ HT11.out.s.r h3 h4 a_).mono ?_;rintro e w12 ⟨w12v,rfl,w121,w122,w12r,w12o⟩;have HT12:=hI_ (HT11.out.next w12r w12o);clear w12r w12o;clear c0 c1 c2 c3 c4 cf ct t2 f5;obtain⟨kd_,ea_,eb_,ec_,et_,c0,c1,c2,c3,c4,cf,ct⟩:=HT12.out.cells;go_wp2_with fail
         go_meet;exact(HT12.out.set3 _).mono a_
     iterate 2
      · as_aux_lemma=>
         obtain⟨kd_,ea_,eb_,ec_,et_,c0,c1,c2,c3,c4,cf,ct⟩:=HT10.out.cells;go_wp2_with fail
         refine(qc4 g (P+7) _ (HT10.out.set0 6).s.r a_).mono ?_;rintro e w11 ⟨st,rfl,hst,r11,o11⟩;have HT11:=hI_ (((HT10.out.set0 6).next r11 o11).set4 hst);obtain⟨W11,HW11⟩:=nm_ (w11.setCell ⟨y,4,none⟩ (.string st));rw[HW11.out] at HT11;clear c0 c1 c2 c3 c4 cf ct;obtain⟨kd_,ea_,eb_,ec_,et_,c0,c1,c2,c3,c4,cf,ct⟩:=((HT10.out.set0 6).next r11 o11).cells;clear r11 o11 hst;go_upto_region 38 with fail
         rw[HW11.out];clear c0 c1 c2 c3 c4 cf ct;have hik:i<ks.length:=a_;have hik':(i:Int)<(ks.length:Int):=a_;have hi0':(0:Int)≤(i:Int):=a_;have t4:=(qaa HT11.out.s.p).2.2.2.2.1;obtain⟨_,_,vq,hA,hbq,ek,hRq⟩:=HT11.out.s.wd.r.asked.at_ hik;cases hA;obtain⟨qA,qc,rfl⟩:=hRq.sl;have hqm:=HAK.out i hik;obtain⟨lq,HLQ⟩:=nm_ (ks[i]);have HKP:=hI_ (qh4 HT11.out.s.wd.asked hik rfl ek);rw[HLQ.out] at ek hRq hqm HKP;have HRQ:=hI_ hRq;by_cases hnq:lq.length=0
         · have h1:¬ (0:Int)<(lq.length:Int):=a_;have h2:¬ 0<lq.length:=a_;clear hnq hRq;go_wp2_with fail
           go_meet;exact HT11.out.mono a_
         have h1:(0:Int)<(lq.length:Int):=a_;have h2:0<lq.length:=a_;have h3:(1:Int)≤(lq.length:Int):=a_;have h4:(lq.length:Int)≤1000000:=a_;obtain⟨bq,oq,hqA,hbq2,_,_⟩:=hRq.at_ h2;subst hqA;have HKT:=hI_ (qkp HT11.out.s.wd.asked hik rfl ek rfl rfl (by simp only;rw[HLQ.out];exact h2));clear hnq hRq;have hl11:=qai HT11.out.s.p;have hl11z:=qai HT11.out.s.z;go_upto_region 39 with fail
         go_cut [10] (fun s10 wx=>EvQ g (P+21) w ⟨s,bd,fs,ls,ks,ps⟩ (.slice (some ⟨b0,o0,none⟩) fs.length fc) (.slice lA ls.length lc) (.slice (some ⟨a0,p0,none⟩) ks.length ac) (.slice nA ps.length nc) w.heap.size y wx s10)
         case first=>
          go_region_held3 (fun w'=>w'.cell? ⟨w.heap.size,4,none⟩=some (.slice (some ⟨a0,p0,none⟩) ks.length ac)∧w'.cell? ⟨a0,p0+i,none⟩=some (.slice (some ⟨bq,oq,none⟩) lq.length qc)∧∀ t,w'.cell? ⟨bq,t,none⟩=W11.cell? ⟨bq,t,none⟩)
           (first|with_reducible exact⟨t4,ek,fun _=>rfl⟩|with_reducible exact⟨n4,nk,nkt⟩|(with_reducible refine⟨Eq.trans (Below.cell (B:=W11.heap.size) ?_ hl11) t4,Eq.trans (Below.cell (B:=W11.heap.size) ?_ hbq) ek,fun t=>Below.cell (B:=W11.heap.size) ?_ hbq2⟩ <;> (with_reducible repeat(first|exact bR_ _ _|refine qab ?_ _|refine qac ?_));done)|(with_reducible refine⟨Eq.trans (Below.cell (B:=w4.heap.size) ?_ hl4) n4,Eq.trans (Below.cell (B:=w4.heap.size) ?_ hb4) nk,fun t=>Eq.trans (Below.cell (B:=w4.heap.size) ?_ hbq4') (nkt t)⟩ <;> (with_reducible repeat(first|exact bR_ _ _|refine qab ?_ _|refine qac ?_));done)|(with_reducible exact n3b))
           ((go_at_call 49;refine(qan g (P+20) lq.length _ (HT11.out.s.r.below i_) h3 h4 a_).mono ?_;rintro e w4 ⟨k,rfl,k1,k2,r4,o4⟩
             obtain⟨k,rfl⟩:∃ n:Nat,k=n:=⟨k.toNat,a_⟩
             have o34:qbb g W11 w4:=(qbb.of_below i_).trans o4;have hT4:=HT11.out.next r4 o34;have hl4:=qai hT4.s.p;have n4:=(qaa hT4.s.p).2.2.2.2.1;obtain⟨nk,hR4⟩:=HKP.out w4 (o34.keep HT11.out.s.r);have hb4:a0<w4.heap.size:=nL_ hbq o34.size;have nkt:=HKT.out w4 (o34.keep HT11.out.s.r);have hbq4':bq<w4.heap.size:=nL_ hbq2 o34.size;obtain⟨_,_,hqA4,_,l0,l1⟩:=HRQ.out.at_ (show k<lq.length by omega);cases hqA4
             obtain⟨⟨pc,pd⟩,HPP⟩:∃ p,Hid (lq[k]'(by omega)=p):=⟨_,hI_ rfl⟩
             rw[HPP.out] at l0 l1;simp only at l0 l1;have hs4:=o34.size;have hHT4:=hI_ hT4;have hy11:=HT11.out.lt;clear hT4;try(refine qmN (w4.heap[W11.heap.size]? =some (.cells #[.int .i64 0,.int .i64 0] 109 (0,0))) ?_ ?_;(focus ((refine(o4.block _ ?_ ?_).trans ?_);(simp);(exact HNE.out _ (Nat.le_of_lt hl11));(first|with_reducible exact at0 _ _|((with_reducible refine qbI ?_);with_reducible exact at0 _ _)|exact at0 _ _)));intro hy4;obtain⟨y0,y1,yf⟩:=qaH hy4;have n3c:=(hHT4.out.setz (z:=W11.heap.size) a_ a_ 0 (.int .i64 pc)).setz (z:=W11.heap.size) a_ a_ 1 (.int .i64 pd);have n3e:=qlj nk (z:=W11.heap.size) a_ (.int .i64 pc) (.int .i64 pd);have n3b:=And.intro (qaa n3c.s.p).2.2.2.2.1 (And.intro n3e (fun t=>(qgF (W:=w4) (a:=bq) (z:=W11.heap.size) a_ (.int .i64 pc) (.int .i64 pd) t).trans (nkt t))))))
          all_goals
           go_wp2
           go_meet
          · exact⟨_,_,_,rfl,heap_alloc_new _ _,a_,hHT4.out.alloc _⟩
          · exact⟨_,_,_,rfl,qas (i:=1) (qas (i:=0) hy4 _) _,a_,n3c⟩
         case rest=>
          obtain⟨z,cz,dz,rfl,hz,hzy,hT5⟩:=hcut;obtain⟨w5,rfl⟩:∃ W,W=wc:=⟨_,rfl⟩
          obtain⟨z0,z1,zf⟩:=qaH hz;have HT5:=hI_ hT5;have hyz:y≠z:=fun e=>hzy e.symm;obtain⟨kd_,ea_,eb_,ec_,et_,c0,c1,c2,c3,c4,cf,ct⟩:=HT5.out.cells;clear hz hT5 t4 ek;go_wp2_with fail
          go_meet;exact((HT5.out.set2 _).set3 _).mono a_
     iterate 2
      · as_aux_lemma=>
         obtain⟨kd_,ea_,eb_,ec_,et_,c0,c1,c2,c3,c4,cf,ct⟩:=HT10.out.cells;obtain⟨t0,t1,t2,t3,t4,t5,tf⟩:=qaa HT10.out.s.p;clear t0 t1 t2 t3 t4 tf;have hc:(ps.length:Int)<1∨1≤(ps.length:Int):=a_;have HT11:=hI_ (HT10.out.set0 7);obtain⟨W11,HW11⟩:=nm_ (w10.setCell ⟨y,0,none⟩ (.int .i64 7));rw[HW11.out] at HT11;go_upto_region 45 with fail
         rw[HW11.out];clear c0 c1 c2 c3 c4 cf ct t5;obtain⟨t0,t1,t2,t3,t4,t5,tf⟩:=qaa HT11.out.s.p;clear t0 t1 t2 t3 t4 tf;go_wp2_with fail
         all_goals
          refine(qan g (P+7) _ _ HT11.out.s.r a_ a_ a_).mono ?_;rintro e w12 ⟨v12,rfl,v1,v2,r12,o12⟩;have HT12:=hI_ (HT11.out.next r12 o12);clear r12 o12 t5;obtain⟨kd_,ea_,eb_,ec_,et_,c0,c1,c2,c3,c4,cf,ct⟩:=HT12.out.cells;go_wp2_with fail
          go_meet;exact(HT12.out.set1 _).mono a_
     · as_aux_lemma=>
        obtain⟨kd_,ea_,eb_,ec_,et_,c0,c1,c2,c3,c4,cf,ct⟩:=HT10.out.cells;obtain⟨t0,t1,t2,t3,t4,t5,tf⟩:=qaa HT10.out.s.p;clear t0 t1 t2 t3 t4 tf;have hc:(ps.length:Int)<1∨1≤(ps.length:Int):=a_;have HT11:=hI_ (HT10.out.set0 8);obtain⟨W11,HW11⟩:=nm_ (w10.setCell ⟨y,0,none⟩ (.int .i64 8));rw[HW11.out] at HT11;go_upto_region 48 with fail
        rw[HW11.out];clear c0 c1 c2 c3 c4 cf ct t5;obtain⟨t0,t1,t2,t3,t4,t5,tf⟩:=qaa HT11.out.s.p;clear t0 t1 t2 t3 t4 tf;go_wp2_with fail
        all_goals
         refine(qan g (P+7) _ _ HT11.out.s.r a_ a_ a_).mono ?_;rintro e w12 ⟨v12,rfl,v1,v2,r12,o12⟩;have HT12:=hI_ (HT11.out.next r12 o12);clear r12 o12 t5;obtain⟨kd_,ea_,eb_,ec_,et_,c0,c1,c2,c3,c4,cf,ct⟩:=HT12.out.cells;go_wp2_with fail
         go_meet;exact(HT12.out.set1 _).mono a_
    case rest=>
     obtain⟨w11,rfl⟩:∃ W,W=wc:=⟨_,rfl⟩
     have HT11:=hI_ hcut;clear hcut;go_wp2_with fail
     refine(qan g (P+30) 40 w11 HT11.out.s.r a_ a_ a_).mono ?_;rintro e w12 ⟨sv,rfl,sv1,sv2,r12,o12⟩;have HT12:=hI_ (HT11.out.next r12 o12);clear r12 o12;go_upto_block 1 with fail
     go_cut [] (fun wx=>EvT g (P+40) w ⟨s,bd,fs,ls,ks,ps⟩ (.slice (some ⟨b0,o0,none⟩) fs.length fc) (.slice lA ls.length lc) (.slice (some ⟨a0,p0,none⟩) ks.length ac) (.slice nA ps.length nc) w.heap.size y wx)
     case first=>
      by_cases hsv:sv≠0∧sv≠1∧sv≠2∧sv≠3
      · obtain⟨q0,q1,q2,q3⟩:=hsv;have k0:(sv==0)=false:=by rw[beq_eq_false_iff_ne];exact q0
        have k1:(sv==1)=false:=by rw[beq_eq_false_iff_ne];exact q1
        have k2:(sv==2)=false:=by rw[beq_eq_false_iff_ne];exact q2
        have k3:(sv==3)=false:=by rw[beq_eq_false_iff_ne];exact q3
        clear q0 q1 q2 q3;go_wp2_with fail
        go_meet;exact HT12.out.mono a_
      have hs4:sv=0∨sv=1∨sv=2∨sv=3:=a_;clear hsv;rcases hs4 with rfl|rfl|rfl|rfl
      · as_aux_lemma=>
         go_wp2_with fail
         refine(qan g (P+31) 11 w12 HT12.out.s.r a_ a_ a_).mono ?_;rintro e w13 ⟨v13,rfl,v1,v2,r13,o13⟩;have HT13:=hI_ (HT12.out.next r13 o13);clear r13 o13;obtain⟨kd_,ea_,eb_,ec_,et_,c0,c1,c2,c3,c4,cf,ct⟩:=HT13.out.cells;go_wp2_with fail
         go_meet;exact(HT13.out.set0 _).mono a_
      · as_aux_lemma=>
         go_wp2_with fail
         refine(qan g (P+31) 14 w12 HT12.out.s.r a_ a_ a_).mono ?_;rintro e w13 ⟨v13,rfl,v1,v2,r13,o13⟩;have HT13:=hI_ (HT12.out.next r13 o13);clear r13 o13;obtain⟨kd_,ea_,eb_,ec_,et_,c0,c1,c2,c3,c4,cf,ct⟩:=HT13.out.cells;go_wp2_with fail
         go_meet;exact(HT13.out.set1 _).mono a_
      · as_aux_lemma=>
         go_wp2_with fail
         refine(qan g (P+31) 9 w12 HT12.out.s.r a_ a_ a_).mono ?_;rintro e w13 ⟨v13,rfl,v1,v2,r13,o13⟩;have HT13:=hI_ (HT12.out.next r13 o13);clear r13 o13;obtain⟨kd_,ea_,eb_,ec_,et_,c0,c1,c2,c3,c4,cf,ct⟩:=HT13.out.cells;go_wp2_with fail
         go_meet;exact(HT13.out.set2 _).mono a_
      · as_aux_lemma=>
         go_wp2_with fail
         refine(qan g (P+31) 18 w12 HT12.out.s.r a_ a_ a_).mono ?_;rintro e w13 ⟨v13,rfl,v1,v2,r13,o13⟩;have HT13:=hI_ (HT12.out.next r13 o13);clear r13 o13;obtain⟨kd_,ea_,eb_,ec_,et_,c0,c1,c2,c3,c4,cf,ct⟩:=HT13.out.cells;go_wp2_with fail
         go_meet;exact(HT13.out.set3 _).mono a_
     case rest=>
      obtain⟨w14,rfl⟩:∃ W,W=wc:=⟨_,rfl⟩
      have HT14:=hI_ hcut;clear hcut;obtain⟨kd_,ea_,eb_,ec_,et_,c0,c1,c2,c3,c4,cf,ct⟩:=HT14.out.cells;obtain⟨z0,z1,z2,z3,z4,zf⟩:=qck HT14.out.s.z;go_wp2_with fail
      refine bodyPost_ret (v:=.agg #[.int .i64 kd_,.int .i64 ea_,.int .i64 eb_,.int .i64 ec_,.string et_]) (by simp[results,Tryz.results48,go_sem,z0,z1,z2,z3,z4]) rfl (qos HT14.out a_ _ _ _ _ _ ct)
theorem qfn(g P:Nat)(w:World)(hr:Rdr w g P)(hP:P≤80000):Calls Tryz.prog 47 #[.pointer (some ⟨g,0,none⟩)] w (qi5 g (P+4000) w):=by
 have hgl:=hr.lt;obtain⟨W0,HW0⟩:=nm_ (w.alloc (.cells #[.int .i64 0,.int .i64 0,.slice none 0 0,.slice none 0 0,.slice none 0 0,.slice none 0 0] 28));have hb0:bB w W0:=by rw[←HW0.out];exact qab (bR_ _ _) _
 have hz0:W0.heap[w.heap.size]? =some (.cells #[.int .i64 0,.int .i64 0,.slice none 0 0,.slice none 0 0,.slice none 0 0,.slice none 0 0] 28 (0,0)):=by rw[←HW0.out];exact heap_alloc_new _ _
 have hr0:=hr.below hb0;have HO0:Hid (qbb g w W0):=hI_ (qbb.of_below hb0);have hne:∀ k,w.heap.size≤k→some k≠some g:=fun k hk e=>by have:=Option.some.inj e;omega
 have HNE:=hI_ hne;have HZ0:=hI_ hz0;clear hne hb0 hr hz0;go_enter Tryz.func47,Tryz.ntmps47
 go_wp2_with fail
 rw[HW0.out];refine(qiu g P W0 hr0 a_).mono ?_;rintro e w1 ⟨x,uF,uL,uA,uN,rfl,hd,hs,r1,o1⟩;obtain⟨⟨A1,c1,rfl⟩,⟨A2,c2,rfl⟩,⟨A3,c3,rfl⟩,⟨A4,c4,rfl⟩⟩:=hs.sl;have hz1:=(o1.block _ (qai HZ0.out) (HNE.out _ (nr_ _))).trans HZ0.out;have ho1:=HO0.out.trans o1;obtain⟨W1,HW1⟩:=nm_ (w1.alloc (.cells #[.int .i64 x.sec,.int .i64 x.bad,.slice A1 x.feeds.length c1,.slice A2 x.links.length c2,.slice A3 x.asked.length c3,.slice A4 x.net.length c4] 28));have HW:Hid (qg6 g (P+200) w w.heap.size w1.heap.size x (.slice A1 x.feeds.length c1) (.slice A2 x.links.length c2) (.slice A3 x.asked.length c3) (.slice A4 x.net.length c4) W1):=hI_ (by
  rw[←HW1.out];exact⟨qau hz1,heap_alloc_new _ _,hs.below (qab (bR_ _ _) _),r1.below (qab (bR_ _ _) _),ho1.thenB (qab (bR_ _ _) _),hd,rfl,qai hz1,hgl⟩)
 clear hr0 hd hs r1 o1 hz1 ho1;go_wp2_with fail
 rw[HW1.out];refine(qan g (P+200) 50 W1 HW.out.r a_ a_ a_).mono ?_;rintro e w2 ⟨n,rfl,n1,n2,r2,o2⟩;have HW2:=hI_ (HW.out.only o2 r2);clear r2 o2;obtain⟨y,hy⟩:∃ y,w1.heap.size=y:=⟨_,rfl⟩
 rw[hy] at HW2;go_wp2_with fail
 clear hy;go_loopw [5] (fun i wr=>∃ (x:Wd) (uF uL uA uN:Value) (i':Nat),i=.int .i64 i'∧(i':Int)≤n∧qg6 g (P+201+60*i') w w.heap.size y x uF uL uA uN wr) (fun i _=>(n-intOf i).toNat)
 case atStart=>exact⟨x,_,_,_,_,0,rfl,a_,HW2.out.mono a_⟩
 case round=>
  obtain⟨x,uF,uL,uA,uN,i,rfl,hik,hW⟩:=hrel;obtain⟨⟨A1,c1,rfl⟩,⟨A2,c2,rfl⟩,⟨A3,c3,rfl⟩,⟨A4,c4,rfl⟩⟩:=hW.s.sl;clear HW HW2;have HW:=hI_ hW;by_cases hlt:(i:Int)<n
  · obtain⟨y0,y1,y2,y3,y4,y5,yf⟩:=qaa hW.b;have hyl:=qai hW.b;have HWI:=hI_ hW.d.v.wi;clear hW;go_wp2_with fail
    go_region_with
     (first
       |(go_at_call 48;refine(qiv g (P+201+60*i) x _ _ _ _ _ (HW.out.r.below i_) a_ (HW.out.s.below i_) HWI.out a_).mono ?_;rintro e w8 ⟨⟨kd,ea,eb,ec,et⟩,rfl,ht,r8,o8⟩
         have HW8:=hI_ (HW.out.only ((qbb.of_below i_).trans o8) r8);obtain⟨t0,t1,t2,t3,t4,t5,tf⟩:=qaa HW8.out.b;have HT:=hI_ ht;clear r8 o8 ht)
       |(go_at_call 54;refine(qnJ x ⟨kd,ea,eb,ec,et⟩ _ _ _ _ w8 HW8.out.s HWI.out a_ (Nat.le_trans HT.out s_)).mono ?_;rintro e w9 ⟨vF',vL',vA',vN',rfl,hs9,hb9⟩
         obtain⟨x',HX'⟩:∃ x',Hid (wdo x ⟨kd,ea,eb,ec,et⟩=x'):=⟨_,hI_ rfl⟩
         rw[HX'.out] at hs9;rw[HX'.out];obtain⟨⟨B1,d1,rfl⟩,⟨B2,d2,rfl⟩,⟨B3,d3,rfl⟩,⟨B4,d4,rfl⟩⟩:=hs9.sl;have HS9:=hI_ hs9;have HB9:=hI_ hb9;obtain⟨s0,s1,s2,s3,s4,s5,sf⟩:=qaa (HW8.out.below hb9).b;clear hs9 hb9 t0 t1 t2 t3 t4 t5 tf y0 y1 y2 y3 y4 y5 yf))
    all_goals
     go_wp2
     go_roundw
     case rel=>exact⟨x',_,_,_,_,i+1,t_,a_,(HW8.out.put HB9.out HS9.out (by rw[←HX'.out];exact HW8.out.d.do_ _)).mono a_⟩
     case measure=>simp[intOf];omega
  · obtain⟨y0,y1,y2,y3,y4,y5,yf⟩:=qaa hW.b;obtain⟨z0,z1,z2,z3,z4,z5,zf⟩:=qaa hW.z;have HRET:=hI_ (hW.mono (P':=P+4000) a_).ret;clear hW;go_wp2_with fail
    refine bodyPost_ret (v:=.agg #[.int .i64 x.sec,.int .i64 x.bad,.slice A1 x.feeds.length c1,.slice A2 x.links.length c2,.slice A3 x.asked.length c3,.slice A4 x.net.length c4]) (by simp[results,Tryz.results47,go_sem,z0,z1,z2,z3,z4,z5]) rfl HRET.out
end Go.Proofs.YtekaaekpdebloaaGreatDoor
namespace Go.Proofs.YtekaaekpdebloaaGreatDoor
open Go.RowKit

theorem qhE(l:List (Int×Int))(va vb:Value)(w:World)(ha:RP w va l)(hb:RP w vb l):
 gV 31 #[va,vb] w (.bool true):=by
 have HA:=hI_ ha;have HB:=hI_ hb;have hm:=ha.len;obtain⟨A,c,rfl⟩:=ha.sl;obtain⟨A2,c2,rfl⟩:=hb.sl;unfold maxLen at hm;clear ha hb;have hnn:((l.length:Int)!=(l.length:Int))=false:=k_;go_enter Tryz.func31,Tryz.ntmps31
 go_wp2
 go_loopw [5] (fun i wr=>∃ k:Nat,k≤l.length∧i=.int .i64 k∧bB w wr) (fun i _=>l.length-(intOf i).toNat)
 case atStart=>exact⟨0,Nat.zero_le _,rfl,bR_ _ _⟩
 case round=>
  obtain⟨k,hk,rfl,hbw⟩:=hrel;by_cases hlt:k<l.length
  · obtain⟨b,o,rfl,hbs,e0,e1⟩:=(HA.out.below hbw).at_ hlt;obtain⟨b',o',rfl,hbs',d0,d1⟩:=(HB.out.below hbw).at_ hlt;generalize l[k]=x at*
    have hup:=qap wr;have hki:(k:Int)<(l.length:Int):=a_;have hk0:(0:Int)≤(k:Int):=a_;go_wp2
    refine qoH ?_;repeat(go_big_quiet_step (fail))
    refine wq_ fun w1 hb1=>?_;clear hup;go_wp2
    go_roundw
    case rel=>exact⟨k+1,a_,t_,hbw.trans (hb1.mono hbw.size)⟩
    case measure=>simp[intOf];omega
  · go_wp2
    go_ret;exact⟨rfl,hbw⟩
theorem qn5{w w':World}{a b:Obj}(h:Below ((w.alloc a).alloc b).heap.size ((w.alloc a).alloc b) w'):bB w w':=(((bR_ _ _).alloc (nr_ _) a).alloc k_ b).trans (h.mono n_)
theorem qcK(x:Wd)(vF vL vA vN uF uL uA uN:Value)(w:World)(hv:WdR w x vF vL vA vN)(hu:WdR w x uF uL uA uN):
 gV 17 #[.agg #[.int .i64 x.sec,.int .i64 x.bad,vF,vL,vA,vN],.agg #[.int .i64 x.sec,.int .i64 x.bad,uF,uL,uA,uN]] w (.bool true):=by
 obtain⟨W2,HW2⟩:=nm_ ((w.alloc (.cells #[.int .i64 x.sec,.int .i64 x.bad,vF,vL,vA,vN] 28)).alloc (.cells #[.int .i64 x.sec,.int .i64 x.bad,uF,uL,uA,uN] 28));have hb2:bB w W2:=by rw[←HW2.out];exact((bR_ _ _).alloc (nr_ _) _).alloc k_ _
 have hp:W2.heap[w.heap.size]? =some (.cells #[.int .i64 x.sec,.int .i64 x.bad,vF,vL,vA,vN] 28 (0,0)):=by
  rw[←HW2.out,heap_alloc_old _ _ k_];exact heap_alloc_new w _
 have hq:W2.heap[w.heap.size+1]? =some (.cells #[.int .i64 x.sec,.int .i64 x.bad,uF,uL,uA,uN] 28 (0,0)):=by
  rw[←HW2.out];have:=heap_alloc_new (w.alloc (.cells #[.int .i64 x.sec,.int .i64 x.bad,vF,vL,vA,vN] 28)) (.cells #[.int .i64 x.sec,.int .i64 x.bad,uF,uL,uA,uN] 28);simpa using this
 have lp:=(Array.getElem?_eq_some_iff.1 hp).1;have lq:=(Array.getElem?_eq_some_iff.1 hq).1;have HV:=hI_ (hv.below hb2);have HU:=hI_ (hu.below hb2);have HB2:=hI_ hb2;obtain⟨FA,Fc,rfl⟩:=hv.feeds.sl;obtain⟨LA,Lc,rfl⟩:=hv.links.sl;obtain⟨AA,Ac,rfl⟩:=hv.asked.sl;obtain⟨NA,Nc,rfl⟩:=hv.net.sl;obtain⟨FB_,Fd_,rfl⟩:=hu.feeds.sl;obtain⟨LB_,Ld,rfl⟩:=hu.links.sl;obtain⟨AB,Ad,rfl⟩:=hu.asked.sl;obtain⟨NB,Nd,rfl⟩:=hu.net.sl;have hm1:=hv.feeds.len;have hm2:=hv.links.len;have hm3:=hv.asked.len;have hm4:=hv.net.len;unfold maxLen at hm1 hm2 hm3 hm4;have p0:=qaa hp;have q0:=qaa hq;have HP:=hI_ hp;have HQ:=hI_ hq;clear hp hq hv hu hb2;have hss:(x.sec !=x.sec)=false:=k_;have hbb:(x.bad !=x.bad)=false:=k_;have hn1:((x.feeds.length:Int)!=(x.feeds.length:Int))=false:=k_;have hn2:((x.links.length:Int)!=(x.links.length:Int))=false:=k_;have hn3:((x.asked.length:Int)!=(x.asked.length:Int))=false:=k_;have hn4:((x.net.length:Int)!=(x.net.length:Int))=false:=k_;go_enter Tryz.func17,Tryz.ntmps17
 go_wp2_with fail
 rw[HW2.out];go_wp2_with fail
 clear p0 q0;go_loopw [5] (fun i wr=>∃ k:Nat,k≤x.feeds.length∧i=.int .i64 k∧bB W2 wr) (fun i _=>x.feeds.length-(intOf i).toNat)
 case atStart=>exact⟨0,Nat.zero_le _,rfl,bR_ _ _⟩
 case round=>
  obtain⟨k,hk,rfl,hbw⟩:=hrel;obtain⟨wr1,rfl⟩:∃ W,W=wr:=⟨_,rfl⟩
  have HBW:=hI_ hbw;have lp':=nL_ lp hbw.size;have lq':=nL_ lq hbw.size;have p0:=qaa ((hbw.block _ lp).trans HP.out);have q0:=qaa ((hbw.block _ lq).trans HQ.out);by_cases hlt:k<x.feeds.length
  · have hki:(k:Int)<(x.feeds.length:Int):=a_;have hk0:(0:Int)≤(k:Int):=a_;obtain⟨b,o,xb,xh,hA,hbs,f0,f1,f2,f3,f4,f5,hF⟩:=(HV.out.feeds.below hbw).at_ hlt;subst hA;obtain⟨b',o',yb,yh,hA,hbs',g0,g1,g2,g3,g4,g5,hG⟩:=(HU.out.feeds.below hbw).at_ hlt;subst hA;have HF:=hI_ hF;have HG:=hI_ hG;clear hF hG;generalize x.feeds[k]=f at*
    clear hbw;have hup:=qap wr1;go_wp2_with fail
    refine qoH ?_;repeat(go_big_quiet_step ((go_at_call 29;exact qal (qeR f _ _ _ _ _ (HF.out.below (qao _ _)) (HG.out.below (qao _ _))))))
    refine wq_ fun w1 hb1=>?_;clear hup p0 q0;have HBX:=hI_ (HBW.out.trans (hb1.mono HBW.out.size));go_wp2_with fail
    go_roundw
    case rel=>exact⟨k+1,a_,t_,HBX.out⟩
    case measure=>simp[intOf];omega
  · have hki:¬ (k:Int)<(x.feeds.length:Int):=a_;clear hbw;go_wp2_with fail
    clear p0 q0;go_loopw [6] (fun i wr=>∃ k:Nat,k≤x.asked.length∧i=.int .i64 k∧bB W2 wr) (fun i _=>x.asked.length-(intOf i).toNat)
    case atStart=>exact⟨0,Nat.zero_le _,rfl,HBW.out⟩
    case round=>
     obtain⟨k,hk,rfl,hbw⟩:=hrel;obtain⟨wr2,rfl⟩:∃ W,W=wr:=⟨_,rfl⟩
     have HBW:=hI_ hbw;have lp':=nL_ lp hbw.size;have lq':=nL_ lq hbw.size;have p0:=qaa ((hbw.block _ lp).trans HP.out);have q0:=qaa ((hbw.block _ lq).trans HQ.out);by_cases hlt:k<x.asked.length
     · have hki:(k:Int)<(x.asked.length:Int):=a_;have hk0:(0:Int)≤(k:Int):=a_;obtain⟨b,o,y,hA,hbs,e0,e1⟩:=(HV.out.asked.below hbw).at_ hlt;subst hA;obtain⟨b',o',z,hA,hbs',d0,d1⟩:=(HU.out.asked.below hbw).at_ hlt;subst hA;have HF:=hI_ e1;have HG:=hI_ d1;clear e1 d1;generalize x.asked[k]=f at*
       clear hbw;have hup:=qap wr2;go_wp2_with fail
       refine qoH ?_;repeat(go_big_quiet_step ((go_at_call 31;exact qal (qhE f _ _ _ (HF.out.below (qao _ _)) (HG.out.below (qao _ _))))))
       refine wq_ fun w1 hb1=>?_;clear hup p0 q0;have HBX:=hI_ (HBW.out.trans (hb1.mono HBW.out.size));go_wp2_with fail
       go_roundw
       case rel=>exact⟨k+1,a_,t_,HBX.out⟩
       case measure=>simp[intOf];omega
     · have hki:¬ (k:Int)<(x.asked.length:Int):=a_;clear hbw;go_wp2_with fail
       clear p0 q0;go_loopw [7] (fun i wr=>∃ k:Nat,k≤x.links.length∧i=.int .i64 k∧bB W2 wr) (fun i _=>x.links.length-(intOf i).toNat)
       case atStart=>exact⟨0,Nat.zero_le _,rfl,HBW.out⟩
       case round=>
        obtain⟨k,hk,rfl,hbw⟩:=hrel;obtain⟨wr3,rfl⟩:∃ W,W=wr:=⟨_,rfl⟩
        have HBW:=hI_ hbw;have lp':=nL_ lp hbw.size;have lq':=nL_ lq hbw.size;have p0:=qaa ((hbw.block _ lp).trans HP.out);have q0:=qaa ((hbw.block _ lq).trans HQ.out);by_cases hlt:k<x.links.length
        · have hki:(k:Int)<(x.links.length:Int):=a_;have hk0:(0:Int)≤(k:Int):=a_;obtain⟨b,o,hA,hbs,e0,e1⟩:=(HV.out.links.below hbw).at_ hlt;subst hA;obtain⟨b',o',hA,hbs',d0,d1⟩:=(HU.out.links.below hbw).at_ hlt;subst hA;generalize x.links[k]=y at*
          clear hbw;have hup:=qap wr3;go_wp2_with fail
          refine qoH ?_;repeat(go_big_quiet_step (fail))
          refine wq_ fun w1 hb1=>?_;clear hup p0 q0;have HBX:=hI_ (HBW.out.trans (hb1.mono HBW.out.size));go_wp2_with fail
          go_roundw
          case rel=>exact⟨k+1,a_,t_,HBX.out⟩
          case measure=>simp[intOf];omega
        · have hki:¬ (k:Int)<(x.links.length:Int):=a_;clear hbw;go_wp2_with fail
          clear p0 q0;go_loopw [8] (fun i wr=>∃ k:Nat,k≤x.net.length∧i=.int .i64 k∧bB W2 wr) (fun i _=>x.net.length-(intOf i).toNat)
          case atStart=>exact⟨0,Nat.zero_le _,rfl,HBW.out⟩
          case round=>
           obtain⟨k,hk,rfl,hbw⟩:=hrel;obtain⟨wr4,rfl⟩:∃ W,W=wr:=⟨_,rfl⟩
           have HBW:=hI_ hbw;have lp':=nL_ lp hbw.size;have lq':=nL_ lq hbw.size;have p0:=qaa ((hbw.block _ lp).trans HP.out);have q0:=qaa ((hbw.block _ lq).trans HQ.out);by_cases hlt:k<x.net.length
           · have hki:(k:Int)<(x.net.length:Int):=a_;have hk0:(0:Int)≤(k:Int):=a_;obtain⟨b,o,y,hA,hbs,e0,e1,e2,e3,e4,e5,hF⟩:=(HV.out.net.below hbw).at_ hlt;subst hA;obtain⟨b',o',z,hA,hbs',d0,d1,d2,d3,d4,d5,hG⟩:=(HU.out.net.below hbw).at_ hlt;subst hA;have HF:=hI_ hF;have HG:=hI_ hG;clear hF hG;generalize x.net[k]=f at*
             obtain⟨yA,yc,rfl⟩:=R1.sl' HF.out;obtain⟨zA,zc,rfl⟩:=R1.sl' HG.out;clear hbw;go_wp2_with (go_at_call 26;refine(qhF f.prf _ _ _ ((HF.out.alloc _).alloc _) ((HG.out.alloc _).alloc _)).mono ?_;rintro e w1 ⟨rfl,hb1⟩;have HBX:=hI_ (HBW.out.trans ((qn5 hb1).mono HBW.out.size)))
             go_roundw
             case rel=>exact⟨k+1,a_,t_,HBX.out⟩
             case measure=>simp[intOf];omega
           · have hki:¬ (k:Int)<(x.net.length:Int):=a_;clear hbw;go_wp2_with fail
             clear p0 q0;go_ret;exact⟨rfl,HB2.out.trans (HBW.out.mono HB2.out.size)⟩
def qi6(f0:Fd)(n g P:Nat)(w:World)(e:Ending)(w':World):Prop:=
 ∃ f ub uh,e=.returned (.agg #[.int .i64 f.pub,.int .i64 f.hd.len,.int .i64 f.hd.dg,.int .i64 f.hd.sg,ub,uh])∧qaK w.heap.size w' f ub uh∧f.bl.length≤n∧f.hv.length≤n+1∧(∀ x ∈ f.bl,x.size≤10)∧(f.hd=f0.hd∨∃ y:Int,f.hd={f0.hd with dg:=y})∧Rdr w' g P∧qbb g w w'
theorem qit(g P:Nat)(f:Fd)(vb vh:Value)(w:World)(hr:Rdr w g P)(hP:P≤200000)(hf:qaU w f vb vh)(hL1:f.bl.length≤17)(hL2:f.hv.length≤17)(hs:∀ x ∈ f.bl,x.size≤10):
 Calls Tryz.prog 99 #[.pointer (some ⟨g,0,none⟩),.agg #[.int .i64 f.pub,.int .i64 f.hd.len,.int .i64 f.hd.dg,.int .i64 f.hd.sg,vb,vh]] w (qi6 f (max f.bl.length f.hv.length) g (P+15) w):=by
 have hgl:=hr.lt;have HSZ:=hI_ hs;clear hs;obtain⟨W0,HW0⟩:=nm_ ((w.alloc (.cells #[.int .i64 f.pub,.int .i64 f.hd.len,.int .i64 f.hd.dg,.int .i64 f.hd.sg,vb,vh] 50)).alloc (.cells #[.int .i64 0,.int .i64 0,.int .i64 0,.int .i64 0,.slice none 0 0,.slice none 0 0] 50));have HB0:Hid (bB w W0):=hI_ r_;have hs0:w.heap.size+2=W0.heap.size:=by rw[←HW0.out];simp
 have hp0:W0.heap[w.heap.size]? =some (.cells #[.int .i64 f.pub,.int .i64 f.hd.len,.int .i64 f.hd.dg,.int .i64 f.hd.sg,vb,vh] 50 (0,0)):=by
  rw[←HW0.out];exact(((bR_ (w.heap.size+1) _).alloc k_ _).block w.heap.size a_).trans (heap_alloc_new w _)
 have hz0:W0.heap[w.heap.size+1]? =some (.cells #[.int .i64 0,.int .i64 0,.int .i64 0,.int .i64 0,.slice none 0 0,.slice none 0 0] 50 (0,0)):=by
  rw[←HW0.out];have:=heap_alloc_new (w.alloc (.cells #[.int .i64 f.pub,.int .i64 f.hd.len,.int .i64 f.hd.dg,.int .i64 f.hd.sg,vb,vh] 50)) (.cells #[.int .i64 0,.int .i64 0,.int .i64 0,.int .i64 0,.slice none 0 0,.slice none 0 0] 50);simpa using this
 have hl0:w.heap.size<W0.heap.size:=a_;have hl1:w.heap.size+1<W0.heap.size:=a_;have hgW:g<W0.heap.size:=a_;have hgp:g≠w.heap.size:=a_;have hgz:w.heap.size+1≠g:=a_;have HR0:=hI_ (hr.below HB0.out);have HF0:Hid (qaU W0 f vb vh):=hI_ (hf.below HB0.out);obtain⟨A,c,rfl,_,_,_⟩:=hf.bl;obtain⟨B,d,rfl,_,_,_⟩:=hf.hv;obtain⟨x0,x1,x2,x3,x4,x5,xf⟩:=qaa hp0;have HP0:=hI_ hp0;have HZ0:=hI_ hz0;clear hp0 hz0 hf hr;go_enter Tryz.func99,Tryz.ntmps99
 go_wp2_with fail
 rw[HW0.out];refine(qc1 f _ _ W0 HF0.out a_ a_).mono ?_;rintro e w1 ⟨ub,uh,rfl,ho1,hb1⟩;obtain⟨uA,uc,rfl⟩:=ho1.bl.sl;obtain⟨tA,tc,rfl⟩:=ho1.hv.sl;have hp1:=(hb1.block _ hl0).trans HP0.out;have hz1:=(hb1.block _ hl1).trans HZ0.out;have r1:=HR0.out.below hb1;obtain⟨v0,v1,v2,v3,v4,v5,vf⟩:=qaa hp1;have hf2:=FB.fill hp1 ho1;have r2:=qcw r1 hgl (.int .i64 f.pub) (.int .i64 f.hd.len) (.int .i64 f.hd.dg) (.int .i64 f.hd.sg) (.slice uA f.bl.length uc) (.slice tA f.hv.length tc);have oo2:qbb g w _:=qbZ (qbb.of_below (HB0.out.trans (hb1.mono (Nat.le_of_lt hl0)))) (nr_ w.heap.size) (.int .i64 f.pub) (.int .i64 f.hd.len) (.int .i64 f.hd.dg) (.int .i64 f.hd.sg) (.slice uA f.bl.length uc) (.slice tA f.hv.length tc);have hz2:=(qcN (w:=w1) (q:=w.heap.size) (k:=w.heap.size+1) a_ (.int .i64 f.pub) (.int .i64 f.hd.len) (.int .i64 f.hd.dg) (.int .i64 f.hd.sg) (.slice uA f.bl.length uc) (.slice tA f.hv.length tc)).trans hz1;have hW2:W0.heap.size≤((((((w1.setCell ⟨w.heap.size,0,none⟩ (.int .i64 f.pub)).setCell ⟨w.heap.size,1,none⟩ (.int .i64 f.hd.len)).setCell ⟨w.heap.size,2,none⟩ (.int .i64 f.hd.dg)).setCell ⟨w.heap.size,3,none⟩ (.int .i64 f.hd.sg)).setCell ⟨w.heap.size,4,none⟩ (.slice uA f.bl.length uc)).setCell ⟨w.heap.size,5,none⟩ (.slice tA f.hv.length tc)).heap.size:=by simpa using hb1.size
 go_wp2_with fail
 obtain⟨W2,HW2⟩:=nm_ (((((((w1.setCell ⟨w.heap.size,0,none⟩ (.int .i64 f.pub)).setCell ⟨w.heap.size,1,none⟩ (.int .i64 f.hd.len)).setCell ⟨w.heap.size,2,none⟩ (.int .i64 f.hd.dg)).setCell ⟨w.heap.size,3,none⟩ (.int .i64 f.hd.sg)).setCell ⟨w.heap.size,4,none⟩ (.slice uA f.bl.length uc)).setCell ⟨w.heap.size,5,none⟩ (.slice tA f.hv.length tc)));rw[HW2.out] at hf2 r2 oo2 hz2 hW2 ⊢;clear r1 hb1 ho1 hp1 hz1 v0 v1 v2 v3 v4 v5 vf x0 x1 x2 x3 x4 x5 xf;refine(qan g P 24 W2 r2 a_ a_ a_).mono ?_;rintro e w3 ⟨x,rfl,a1,a2,r3,o3⟩;have hf3:=hf2.only o3 hgW hgp;have hz3:=(o3.box (nL_ hl1 hW2) hgz).trans hz2;have oo3:=oo2.trans o3;have hW3:=Nat.le_trans hW2 o3.size;clear r2 hf2 hz2 oo2 o3 hW2;have hx:x=0∨x=1∨x=2∨x=3∨4≤x:=a_;rcases hx with rfl|rfl|rfl|rfl|hx
 · go_wp2_with fail
   refine(qeN g (P+1) w3 r3 a_).mono ?_;rintro e w4 ⟨y,rfl,b1,b2,r4,o4⟩;have hf4:=hf3.only o4 hgW hgp;have oo4:=oo3.trans o4;obtain⟨y0,y1,y2,y3,y4,y5,yf⟩:=qaa ((o4.box (nL_ hl1 hW3) hgz).trans hz3);have k0:=hf4.c0;have k1:=hf4.c1;have k2:=hf4.c2;have k3:=hf4.c3;have k4:=hf4.c4;have k5:=hf4.c5;have kf:=hf4.fz;have hf5:=hf4.set0 y;clear hf3 hf4 r3 hz3 oo3 o4;go_wp2
   refine bodyPost_ret (v:=.agg #[.int .i64 y,.int .i64 f.hd.len,.int .i64 f.hd.dg,.int .i64 f.hd.sg,.slice uA f.bl.length uc,.slice tA f.hv.length tc]) bO_ rfl ⟨{f with pub:=y},_,_,rfl,?_,Nat.le_max_left _ _,Nat.le_succ_of_le (Nat.le_max_right _ _),HSZ.out,.inl rfl,?_,?_⟩
   · exact(qaK.set6 hf5.fo hl1 _ _ _ _ _ _).mono (Nat.le_of_lt hl0)
   · exact(qcw (r4.set (p:=⟨w.heap.size,0,none⟩) hgl (.int .i64 y)) a_ _ _ _ _ _ _).mono a_
   · exact qbZ (oo4.set (p:=⟨w.heap.size,0,none⟩) (nr_ _) (.int .i64 y)) (Nat.le_succ _) _ _ _ _ _ _
 · go_wp2_with fail
   refine(qhw g (P+1) w3 r3 a_).mono ?_;rintro e w4 ⟨y,rfl,b1,b2,r4,o4⟩;have hf4:=hf3.only o4 hgW hgp;have oo4:=oo3.trans o4;obtain⟨y0,y1,y2,y3,y4,y5,yf⟩:=qaa ((o4.box (nL_ hl1 hW3) hgz).trans hz3);have k0:=hf4.c0;have k1:=hf4.c1;have k2:=hf4.c2;have k3:=hf4.c3;have k4:=hf4.c4;have k5:=hf4.c5;have kf:=hf4.fz;have hf5:=hf4.set2 y;clear hf3 hf4 r3 hz3 oo3 o4;go_wp2
   refine bodyPost_ret (v:=.agg #[.int .i64 f.pub,.int .i64 f.hd.len,.int .i64 y,.int .i64 f.hd.sg,.slice uA f.bl.length uc,.slice tA f.hv.length tc]) bO_ rfl ⟨{f with hd:={f.hd with dg:=y}},_,_,rfl,?_,Nat.le_max_left _ _,Nat.le_succ_of_le (Nat.le_max_right _ _),HSZ.out,.inr ⟨y,rfl⟩,?_,?_⟩
   · exact(qaK.set6 hf5.fo hl1 _ _ _ _ _ _).mono (Nat.le_of_lt hl0)
   · exact(qcw (r4.set (p:=⟨w.heap.size,2,none⟩) hgl (.int .i64 y)) a_ _ _ _ _ _ _).mono a_
   · exact qbZ (oo4.set (p:=⟨w.heap.size,2,none⟩) (nr_ _) (.int .i64 y)) (Nat.le_succ _) _ _ _ _ _ _
 · have k0:=hf3.c0;have k1:=hf3.c1;have k2:=hf3.c2;have k3:=hf3.c3;have k4:=hf3.c4;have k5:=hf3.c5;have kf:=hf3.fz
   go_wp2_with (at_builtin;refine qjL hf3.fo.hv a_ a_ rfl rfl rfl rfl ?_;intro v4 w4 ho4 hg4;obtain⟨zA,zn,zc,rfl,hz4⟩:=ho4.sl2
                obtain⟨y0,y1,y2,y3,y4,y5,yf⟩:=qaa ((hg4.block _ (nL_ hl1 hW3) (fun e=>by have:=(hf3.fo.hv.lt _ e.symm).1;omega)).trans hz3);obtain⟨m0,m1,m2,m3,m4,m5,mf⟩:=qaa ((hg4.block _ hf3.lt (fun e=>hf3.nh e.symm)).trans hf3.box);have hf5:=hf3.set5 hg4 ho4;have r5:=(r3.grown hg4 (fun r e=>nL_ hgW (hf3.fo.hv.lt r e).1)).set (p:=⟨w.heap.size,5,none⟩) hgl (.slice zA zn zc);have oo5:=(oo3.grown hg4 (fun r e=>Nat.le_trans (Nat.le_of_lt hl0) (hf3.fo.hv.lt r e).1)).set (p:=⟨w.heap.size,5,none⟩) (nr_ _) (.slice zA zn zc);clear ho4 hg4)
   refine bodyPost_ret (v:=.agg #[.int .i64 f.pub,.int .i64 f.hd.len,.int .i64 f.hd.dg,.int .i64 f.hd.sg,.slice uA f.bl.length uc,.slice zA zn zc]) bO_ rfl ⟨{f with hv:=f.hv++[true]},_,_,rfl,?_,Nat.le_max_left _ _,(by have:=Nat.le_max_right f.bl.length f.hv.length;simp;omega),HSZ.out,.inl rfl,?_,?_⟩
   · exact(qaK.set6 hf5.fo hl1 _ _ _ _ _ _).mono (Nat.le_of_lt hl0)
   · exact(qcw r5 a_ _ _ _ _ _ _).mono a_
   · exact qbZ oo5 (Nat.le_succ _) _ _ _ _ _ _
 · by_cases hl:f.bl.length=0
   · have hl2:¬ (0:Int)<(f.bl.length:Int):=a_;clear hl;have k0:=hf3.c0;have k1:=hf3.c1;have k2:=hf3.c2;have k3:=hf3.c3;have k4:=hf3.c4;have k5:=hf3.c5;have kf:=hf3.fz;obtain⟨y0,y1,y2,y3,y4,y5,yf⟩:=qaa hz3;go_wp2
     refine bodyPost_ret (v:=.agg #[.int .i64 f.pub,.int .i64 f.hd.len,.int .i64 f.hd.dg,.int .i64 f.hd.sg,.slice uA f.bl.length uc,.slice tA f.hv.length tc]) bO_ rfl ⟨f,_,_,rfl,?_,Nat.le_max_left _ _,Nat.le_succ_of_le (Nat.le_max_right _ _),HSZ.out,.inl rfl,?_,?_⟩
     · exact(qaK.set6 hf3.fo hl1 _ _ _ _ _ _).mono (Nat.le_of_lt hl0)
     · exact(qcw r3 a_ _ _ _ _ _ _).mono a_
     · exact qbZ oo3 (Nat.le_succ _) _ _ _ _ _ _
   · have hl2:(0:Int)<(f.bl.length:Int):=a_;obtain⟨gb,cap,hA,hgb1,hgb2⟩:=hf3.fo.bl.form a_;cases hA;have k0:=hf3.c0;have k1:=hf3.c1;have k2:=hf3.c2;have k3:=hf3.c3;have k4:=hf3.c4;have k5:=hf3.c5;have kf:=hf3.fz;have hgbp:gb≠w.heap.size:=a_;have hgbp':¬ gb=w.heap.size:=a_;have hfd:=hf3.below (qac (bR_ _ _));have rd:=r3.below (qac (bR_ _ _));have ood:=oo3.thenB (qac (bR_ _ _));have hzd:w3.drew.heap[w.heap.size+1]? =_:=hz3;have hWd:W0.heap.size≤w3.drew.heap.size:=hW3;go_wp2_with fail
     go_region_held3 (fun w'=>w'.cell? ⟨w.heap.size,4,none⟩=some (.slice (some ⟨gb,0,none⟩) f.bl.length uc)) (first|exact k4|exact s4|exact s5|go_keep)
      (first
        |(go_at_call 49;refine(qan g (P+1) f.bl.length _ rd a_ a_ a_).mono ?_;rintro e w4 ⟨u,rfl,u1,u2,r4,o4⟩;obtain⟨m,rfl⟩:∃ m:Nat,u=m:=⟨u.toNat,a_⟩;have hf4:=hfd.only o4 hgW hgp;have s4:=hf4.c4)
        |(go_at_call 97;refine(qc4 g (P+2) _ r4 a_).mono ?_;rintro e w5 ⟨t,rfl,ht,r5,o5⟩;have hf5:=hf4.only o5 hgW hgp;have s5:=hf5.c4;obtain⟨e1,e2⟩:=hf5.fo.bl.at_ (j:=m) a_;have e1':∃ u,w5.cell? ⟨gb,m,none⟩=some u:=⟨_,e1⟩;clear e1;obtain⟨ue,e1⟩:=e1'))
     have hf6:=hf5.setAt (m:=m) a_ t;have hgbz:gb≠w.heap.size+1:=a_;have hgbz':¬ gb=w.heap.size+1:=a_;have hgbz2:¬ w.heap.size+1=gb:=a_;have hgbp2:¬ w.heap.size=gb:=a_;obtain⟨y0,y1,y2,y3,y4,y5,yf⟩:=qaa ((o5.box (by have:=o4.size;omega) hgz).trans ((o4.box a_ hgz).trans hzd));have oo5:=(ood.trans o4).trans o5;have k0:=hf5.c0;have k1:=hf5.c1;have k2:=hf5.c2;have k3:=hf5.c3;have k4:=hf5.c4;have k5:=hf5.c5;have kf:=hf5.fz;clear s4 s5 hf4 hfd hf3 r3 rd r4 oo3 ood hz3 hzd;go_wp2
     refine bodyPost_ret (v:=.agg #[.int .i64 f.pub,.int .i64 f.hd.len,.int .i64 f.hd.dg,.int .i64 f.hd.sg,.slice (some ⟨gb,0,none⟩) f.bl.length uc,.slice tA f.hv.length tc]) bO_ rfl ⟨{f with bl:=f.bl.set m t},_,_,rfl,?_,(by have:=Nat.le_max_left f.bl.length f.hv.length;simp;omega),Nat.le_succ_of_le (Nat.le_max_right _ _),qiC HSZ.out ht,.inl rfl,?_,?_⟩
     · exact(qaK.set6 hf6.fo hl1 _ _ _ _ _ _).mono (Nat.le_of_lt hl0)
     · exact(qcw (r5.set (p:=⟨gb,m,none⟩) (by show g<gb;omega) (.string t)) a_ _ _ _ _ _ _).mono a_
     · exact qbZ (oo5.set (p:=⟨gb,m,none⟩) (by show w.heap.size≤gb;omega) (.string t)) (Nat.le_succ _) _ _ _ _ _ _
 · have n0:(x==0)=false:=by rw[beq_eq_false_iff_ne];omega
   have n1:(x==1)=false:=by rw[beq_eq_false_iff_ne];omega
   have n2:(x==2)=false:=by rw[beq_eq_false_iff_ne];omega
   have n3:(x==3)=false:=by rw[beq_eq_false_iff_ne];omega
   have k0:=hf3.c0;have k1:=hf3.c1;have k2:=hf3.c2;have k3:=hf3.c3;have k4:=hf3.c4;have k5:=hf3.c5;have kf:=hf3.fz;obtain⟨y0,y1,y2,y3,y4,y5,yf⟩:=qaa hz3;go_wp2
   refine bodyPost_ret (v:=.agg #[.int .i64 f.pub,.int .i64 f.hd.len,.int .i64 f.hd.dg,.int .i64 f.hd.sg,.slice uA f.bl.length uc,.slice tA f.hv.length tc]) bO_ rfl ⟨f,_,_,rfl,?_,Nat.le_max_left _ _,Nat.le_succ_of_le (Nat.le_max_right _ _),HSZ.out,.inl rfl,?_,?_⟩
   · exact(qaK.set6 hf3.fo hl1 _ _ _ _ _ _).mono (Nat.le_of_lt hl0)
   · exact(qcw r3 a_ _ _ _ _ _ _).mono a_
   · exact qbZ oo3 (Nat.le_succ _) _ _ _ _ _ _
end Go.Proofs.YtekaaekpdebloaaGreatDoor

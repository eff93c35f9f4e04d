/- Words and walks of the law. -/
import Derived.Test.YtekaaekpdebloaaGreatDoorCN5
import Derived.IntWalk
set_option linter.unusedVariables false
set_option linter.unusedSimpArgs false
set_option maxHeartbeats 12800000
set_option maxRecDepth 100000
namespace Go.Proofs.YtekaaekpdebloaaGreatDoor
open Go.RowKit
attribute [local go_sem ↓] Go.wp_at_zero Go.wp_at_succ

theorem MI.netPost{B q o:Nat}{x:Wd}{w W w8:World}{vF vL vA vN v:Value}{ps:List Pc}(h:MI B q o x w vF vL vA vN)(hb:bB w W)(hg:W.grownBy w8 vN.ownBlock)(hp:qbd B w8.heap.size w8 v ps):
 qrH B q o w {x with net:=ps} (.returned (.tuple #[])) (w8.setCell ⟨q,o+5,none⟩ v):=by
 have h1:=h.below hb;have hrow:∀ r,vN.ownBlock=some r→∃ cur fr,W.heap[r]? =some (.cells cur 57 fr):=fun r hr=>by
  obtain⟨_,F,h2,_⟩:=h1.p.N;exact h2.row r hr
 have hqk:w8.heap[q]? =W.heap[q]? :=hg.block q h1.lt (fun e=>by
  obtain⟨cur,fr,hh⟩:=hrow q e.symm;exact h1.bx.row hh e_ rfl)
 have hk:qaA [50,9,4,99,54,109] W w8:=qaA.of_grown hg (fun r hr=>by obtain⟨cur,fr,hh⟩:=hrow r hr;exact⟨cur,_,fr,hh,e_⟩);have hs:=hg.size;have hlo:∀ r,vN.ownBlock=some r→B≤r:=fun r hr=>by
  obtain⟨_,F,h2,_⟩:=h1.p.N;exact(h2.lt r hr).1
 have hbb:Below B w w8:=Below.grown (hb.mono h.bs) hg h1.bs hlo;refine⟨rfl,_,_,_,_,MI.mkN (h1.bx.heap hqk) ((h1.p.F.nextT hk e_ e_ e_).mono (nr_ _) hs) ((h1.p.L.keepT hk e_).mono (nr_ _) hs) ((h1.p.A.nextT hk e_ e_).mono (nr_ _) hs) hp h.bq,qaN hbb h.bq,fun j hj=> ?_⟩;rw[World.cell?_setCell_other _ _ _ _ (by simp <;> omega),World.cell?_of_block hqk];exact World.cell?_of_block (hb.block q h.lt)
theorem qsB{x:Wd}{a b c:Int}{t:ByteArray}(h:qfj x a b c=false):qbO x a b c t=x:=by unfold qbO;rw[h];rfl
theorem qty{x:Wd}{a b c:Int}{t:ByteArray}(h:¬ (qdP x b c t).size≤8):qbO x a b c t=x:=by unfold qbO;rw[decide_eq_false h,Bool.and_false];rfl
theorem qtV{x:Wd}{a b c:Int}{t:ByteArray}(h:qfj x a b c=true)(h2:(qdP x b c t).size≤8):qbO x a b c t={x with net:=x.net++[⟨b,a,(x.feed b).hd.len,c,qdP x b c t,qaQ ((lvs x.f0.bl).take (x.feed b).hd.len.toNat) c⟩]}:=by
 unfold qbO;rw[h,decide_eq_true h2];rfl
theorem qtc{f:Fd}{k:Nat}(h:qiS f k=true):k<f.hv.length∧f.hv.getD k false=true:=by
 unfold qiS at h;rw[Bool.and_eq_true,qak] at h;rw[Int.toNat_natCast] at h;exact⟨a_,h.2⟩
theorem qtP{f:Fd}{k:Nat}{r:Bool}(h:qiS f k=r):f.hv.getD k false=r:=by
 cases r
 · unfold qiS at h;rw[Int.toNat_natCast] at h;by_cases hk:k<f.hv.length
   · rw[show inB (k:Int) 0 ((f.hv.length:Int)-1)=true from qak.2 a_,Bool.true_and] at h;exact h
   · rw[List.getD_eq_getElem?_getD,List.getElem?_eq_none a_];rfl
 · exact(qtc h).2
theorem qt2(x:Wd)(a b c:Int)(t:ByteArray)(q o B:Nat)(vF vL vA vN:Value)(w:World)(h:MI B q o x w vF vL vA vN)(hv:WV x)(hl:qbk x a b=true)(ht:t.size≤maxLen):
 Calls Tryz.prog 189 #[.pointer (some ⟨q,o,none⟩),.int .i64 a,.int .i64 b,.int .i64 c,.string t] w (qrH B q o w (qbO x a b c t)):=by
 obtain⟨i,j,rfl,rfl,hi,hj⟩:=hv.wi.lk hl;obtain⟨g,cF,rfl,hB,hgs,hqg,cur,hh⟩:=h.form a_;have HM:=hI_ h;have HWI:=hI_ hv.wi;have hn0:0<x.feeds.length:=a_;have hi':(i:Int)<(x.feeds.length:Int):=a_;have hj':(j:Int)<(x.feeds.length:Int):=a_;have hi0:(0:Int)≤(i:Int):=a_;have hj0:(0:Int)≤(j:Int):=a_;have hka:i<x.asked.length:=by have:=hv.na;omega
 have hka':(i:Int)<(x.asked.length:Int):=a_;obtain⟨_,_,yb,yh,hA,hgl,f0,f1,f2,f3,f4,f5,hFj⟩:=h.p.F.r.at_ hj;cases hA;rw[Nat.zero_add] at f0 f1 f2 f3 f4 f5;obtain⟨vAA,vAc,rfl⟩:=h.p.A.r.sl;obtain⟨bK,oK,vk,hA,hab,ek,hRK⟩:=h.p.A.r.at_ hka;subst hA;obtain⟨vNA,vNc,rfl⟩:=h.p.N.r.sl;have HFD:Hid (x.feed j=x.feeds[j]):=hI_ (hv.wi.fd hj);have HAS:Hid (x.asks i=x.asked[i]):=hI_ (hv.wi.as_ hi);obtain⟨nj,hnj,hm1,hm2,hm3,hm4⟩:=hv.wi.hd hj;have HTX:Hid (∀ t ∈ x.feeds[j].bl,t.size≤8):=hI_ (qbH (hv.wi.fv j hj).1);have HWN:=hI_ (qbt.1 (hv.wd i hka));obtain⟨fj,HFJ⟩:=nm_ (x.feeds[j]);obtain⟨lk,HLK⟩:=nm_ (x.asked[i]);rw[HFJ.out] at f0 f1 f2 f3 hFj hnj hm3 hm4 HFD HTX;obtain⟨ybA,ybc,rfl⟩:=hFj.bl.sl';obtain⟨yhA,yhc,rfl⟩:=hFj.hv.sl';rw[HLK.out] at hRK HAS HWN;rw[hnj] at f1;have HNJ:=hI_ hnj;have HLN:Hid (fj.bl.length=nj∧fj.hv.length=nj):=hI_ ⟨hm3,hm4⟩;have HNB:=hI_ hm1;have hnn:x.net.length≤12:=hv.nn;obtain⟨W1,HW1⟩:=nm_ (w.alloc (.cells #[.int .i64 fj.pub,.int .i64 (nj:Int),.int .i64 fj.hd.dg,.int .i64 fj.hd.sg,.slice ybA fj.bl.length ybc,.slice yhA fj.hv.length yhc] 50));have hB1:bB w W1:=by rw[←HW1.out];exact qab (bR_ _ _) _
 have HB1:=hI_ hB1;have HY:Hid (W1.heap[w.heap.size]? =some (.cells #[.int .i64 fj.pub,.int .i64 (nj:Int),.int .i64 fj.hd.dg,.int .i64 fj.hd.sg,.slice ybA fj.bl.length ybc,.slice yhA fj.hv.length yhc] 50 (0,0))):=hI_ (by rw[←HW1.out];exact heap_alloc_new _ _);have ly:w.heap.size<W1.heap.size:=qai HY.out;have lq1:q<W1.heap.size:=nL_ h.lt hB1.size;have HRK:=hI_ hRK;have HFR:=hI_ hFj;have HHV:Hid (∀ W,bB w W→RB W (.slice yhA fj.hv.length yhc) fj.hv):=hI_ (fun W hW=>hFj.hv.below hW);have t2:=h.bx.c2;have u1:=(hB1.cell (p:=⟨q,o+1,none⟩) h.lt).trans h.bx.c1;have u2:=(hB1.cell (p:=⟨q,o+2,none⟩) h.lt).trans h.bx.c2;have u4:=(hB1.cell (p:=⟨q,o+4,none⟩) h.lt).trans h.bx.c4;have u5:=(hB1.cell (p:=⟨q,o+5,none⟩) h.lt).trans h.bx.c5;have uk:=(hB1.cell (p:=⟨bK,oK+i,none⟩) hab).trans ek;obtain⟨v1,HV1⟩:=nm_ (qc8 lk ((j:Int),c));have HMA:Hid (qfj x i j c=(v1&&qiS fj c&&decide (x.net.length<12))):=hI_ (by
  unfold qfj;rw[hl,HFD.out,HAS.out,HV1.out];rfl)
 have HTS:=hI_ ht;have hbd:x.bad=x.bad:=rfl;clear hRK hFj hm1 hm2 hm3 hm4 hnj ek hh cur h hv hl hB1 ht hB hbd;cases v1
 · have HR:Hid (qbO x i j c t=x):=hI_ (qsB a9_);go_enter Tryz.func189,Tryz.ntmps189
   go_upto_region 1 with fail
   rw[HW1.out];go_wp2_with (first|(go_at_call 147;refine(qdn (a:=((j:Int),_)) HV1 _ _ (HRK.out.below HB1.out)).mono ?_;rintro e w2 ⟨rfl,hb2⟩;have HB2:Hid (bB w w2):=hI_ (HB1.out.trans (hb2.mono HB1.out.size));have t5:=(hb2.cell (p:=⟨q,o+5,none⟩) lq1).trans u5;have t1:=(hb2.cell (p:=⟨q,o+1,none⟩) lq1).trans u1;have t2:=(hb2.cell (p:=⟨q,o+2,none⟩) lq1).trans u2;obtain⟨y0,y1,y2,y3,y4,y5,yf⟩:=qaa ((hb2.block _ ly).trans HY.out);have ly2:=nL_ ly hb2.size;clear hb2 u1 u2 u5))
   refine bodyPost_end (results_none Tryz.results189 _ _ _) rfl ?_;rw[HR.out];exact qrH.same HM.out HB2.out
 rw[Bool.true_and] at HMA;obtain⟨k,rfl⟩:∃ k:Nat,c=k:=by
  have h1:=HWN.out.ok _ (qjU HV1.out);unfold qcB at h1;rw[Bool.and_eq_true,qak,qak] at h1;exact⟨c.toNat,by have:=h1.2.1;simp only at this;omega⟩
 obtain⟨v2,HV2'⟩:∃ v,Hid (qiS fj k=v):=⟨_,hI_ rfl⟩
 rw[HV2'.out] at HMA;have HV2:=hI_ (qtP HV2'.out);cases v2
 · have HR:Hid (qbO x i j k t=x):=hI_ (qsB a9_);go_enter Tryz.func189,Tryz.ntmps189
   go_upto_region 1 with fail
   rw[HW1.out];go_wp2_with (first|(go_at_call 147;refine(qdn (a:=((j:Int),_)) HV1 _ _ (HRK.out.below HB1.out)).mono ?_;rintro e w2 ⟨rfl,hb2⟩;have HB2:Hid (bB w w2):=hI_ (HB1.out.trans (hb2.mono HB1.out.size));have t5:=(hb2.cell (p:=⟨q,o+5,none⟩) lq1).trans u5;have t1:=(hb2.cell (p:=⟨q,o+1,none⟩) lq1).trans u1;have t2:=(hb2.cell (p:=⟨q,o+2,none⟩) lq1).trans u2;obtain⟨y0,y1,y2,y3,y4,y5,yf⟩:=qaa ((hb2.block _ ly).trans HY.out);have ly2:=nL_ ly hb2.size;clear hb2 u1 u2 u5)|(go_at_call 245;(refine(qsu fj.hv k _ _ (HHV.out _ HB2.out) HV2).mono ?_;rintro e w3 ⟨rfl,rfl⟩)))
   refine bodyPost_end (results_none Tryz.results189 _ _ _) rfl ?_;rw[HR.out];exact qrH.same HM.out HB2.out
 rw[Bool.true_and] at HMA;by_cases h12:x.net.length=12
 · have h12':(x.net.length:Int)=12:=a_;have HR:Hid (qbO x i j k t=x):=hI_ (qsB a3_);go_enter Tryz.func189,Tryz.ntmps189
   go_upto_region 1 with fail
   rw[HW1.out];go_wp2_with (first|(go_at_call 147;refine(qdn (a:=((j:Int),_)) HV1 _ _ (HRK.out.below HB1.out)).mono ?_;rintro e w2 ⟨rfl,hb2⟩;have HB2:Hid (bB w w2):=hI_ (HB1.out.trans (hb2.mono HB1.out.size));have t5:=(hb2.cell (p:=⟨q,o+5,none⟩) lq1).trans u5;have t1:=(hb2.cell (p:=⟨q,o+1,none⟩) lq1).trans u1;have t2:=(hb2.cell (p:=⟨q,o+2,none⟩) lq1).trans u2;obtain⟨y0,y1,y2,y3,y4,y5,yf⟩:=qaa ((hb2.block _ ly).trans HY.out);have ly2:=nL_ ly hb2.size;clear hb2 u1 u2 u5)|(go_at_call 245;(refine(qsu fj.hv k _ _ (HHV.out _ HB2.out) HV2).mono ?_;rintro e w3 ⟨rfl,rfl⟩)))
   refine bodyPost_end (results_none Tryz.results189 _ _ _) rfl ?_;rw[HR.out];exact qrH.same HM.out HB2.out
 have h12':¬ (x.net.length:Int)=12:=a_;have HMT:Hid (qfj x i j k=true):=hI_ a3_;obtain⟨hkl,_⟩:=qtc HV2'.out;have hnn2:x.net.length+1≤100000000000:=a_;have hlen:=HLN.out;have hkb:k<fj.bl.length:=a_;have hkb':(k:Int)<(fj.bl.length:Int):=a_;have hk0:(0:Int)≤(k:Int):=a_;obtain⟨bt,ot,hA,hbt,et⟩:=HFR.out.bl.at_ hkb;subst hA;have HET:Hid (∀ W,bB w W→W.cell? ⟨bt,ot+k,none⟩=some (.string fj.bl[k])):=hI_ (fun W hW=>(hW.cell (p:=⟨bt,ot+k,none⟩) hbt).trans et);obtain⟨tx,HTT⟩:=nm_ (qdP x j k t);have HAT:Hid (if (j:Int)!=x.bad then fj.bl[k]=tx else t=tx):=hI_ (by
  have h1:=HTT.out;unfold qdP at h1;rw[HFD.out] at h1;simp only[Int.toNat_natCast] at h1;rw[qam hkb] at h1;split at h1
  · rename_i h2;rw[if_pos h2];exact h1
  · rename_i h2;rw[if_neg h2];exact h1)
 have htm:tx.size≤9223372036854775807:=by
  have h1:=HAT.out;have h2:=HTS.out;unfold maxLen at h2;split at h1
  · rw[←h1];exact Nat.le_trans (HTX.out _ (List.getElem_mem hkb)) a_
  · rw[←h1];exact h2
 obtain⟨pr,HPR⟩:=nm_ (qaQ ((lvs (x.feeds.getD 0 Fd.none).bl).take nj) k);have HR8:Hid (tx.size≤8→qbO x i j k t={x with net:=x.net++[⟨j,i,nj,k,tx,pr⟩]}):=hI_ (by
  intro h8;have h1:=qtV HMT.out (by rw[HTT.out];exact h8:(qdP x j k t).size≤8);rw[HTT.out,HFD.out,HNJ.out] at h1;simp only[Int.toNat_natCast] at h1;have h2:qaQ ((lvs x.f0.bl).take nj) k=pr:=HPR.out;rw[h2] at h1;exact h1)
 have HCL:Hid (∀ W,bB w W→Calls Tryz.prog 145 #[.pointer (some ⟨q,o,none⟩),.int .i64 (nj:Int)] W fun e w'=>∃ v',e=.returned v'∧O1 (Value.int .i64) W.heap.size 3 w' v' ((lvs (x.feeds.getD 0 Fd.none).bl).take nj)∧bB W w'):=
  hI_ fun W hW=>qj1 x.feeds nj q o _ W ((hW.cell (p:=⟨q,o+2,none⟩) HM.out.lt).trans HM.out.bx.c2) (HM.out.p.F.r.below hW) hn0 HNB.out HWI.out.len0.2.1 HWI.out.txt
 have HFZ:Hid (∀ w2 w8:World,bB w w2→w2.grownBy w8 (Value.slice vNA x.net.length vNc).ownBlock→w8.heap[q]? =w2.heap[q]? ∧w8.frozen? ⟨q,o+5,none⟩=false):=hI_ (fun w2 w8 hb hg=>by
  have h1:=HM.out.below hb;have hqk:w8.heap[q]? =w2.heap[q]? :=hg.block q h1.lt (fun e=>by
   obtain⟨_,F,h2,_⟩:=h1.p.N;obtain⟨cur,fr,hh⟩:=h2.row q e.symm;exact h1.bx.row hh e_ rfl)
  obtain⟨cur,e',hh,_⟩:=h1.bx.ty;exact⟨hqk,qgI (hqk.trans hh) _⟩)
 clear hlen et hkl;go_enter Tryz.func189,Tryz.ntmps189
 go_upto_region 1 with fail
 rw[HW1.out];go_upto_if 50 with(first|(go_at_call 147;refine(qdn (a:=((j:Int),_)) HV1 _ _ (HRK.out.below HB1.out)).mono ?_;rintro e w2 ⟨rfl,hb2⟩;have HB2:Hid (bB w w2):=hI_ (HB1.out.trans (hb2.mono HB1.out.size));have t5:=(hb2.cell (p:=⟨q,o+5,none⟩) lq1).trans u5;have t1:=(hb2.cell (p:=⟨q,o+1,none⟩) lq1).trans u1;have t2:=(hb2.cell (p:=⟨q,o+2,none⟩) lq1).trans u2;obtain⟨y0,y1,y2,y3,y4,y5,yf⟩:=qaa ((hb2.block _ ly).trans HY.out);have ly2:=nL_ ly hb2.size;clear hb2 u1 u2 u5)|(go_at_call 245;(refine(qsu fj.hv k _ _ (HHV.out _ HB2.out) HV2).mono ?_;rintro e w3 ⟨rfl,rfl⟩)))
 have gt:=HET.out _ HB2.out;go_cut [4] (fun s4 wx=>s4=.string tx∧wx=w2)
 case first=>
  have e:=HAT.out;by_cases hjb:(j:Int)=x.bad
  · have hjb1:((j:Int)==x.bad)=true:=by rw[beq_iff_eq];exact hjb
    have hjb2:((j:Int)!=x.bad)=false:=by simp[hjb]
    rw[if_neg (by simp[hjb])] at e;have HE:=hI_ e;clear e hjb;go_wp2_with fail
    go_meet;exact⟨by rw[HE.out],rfl⟩
  · have hjb1:((j:Int)==x.bad)=false:=by rw[beq_eq_false_iff_ne];exact hjb
    have hjb2:((j:Int)!=x.bad)=true:=by simp[hjb]
    rw[if_pos hjb2] at e;have HE:=hI_ e;clear e hjb;go_wp2_with fail
    go_meet;exact⟨by rw[←HE.out],rfl⟩
 case rest=>
  obtain⟨rfl,hwc⟩:=hcut;obtain rfl:w2=wc:=hwc.symm;by_cases h8:8<tx.size
  · have h8':¬ (tx.size:Int)≤(8:Int):=a_;have HR:Hid (qbO x i j k t=x):=hI_ (qty (by rw[HTT.out];omega));clear h8;go_wp2_with fail
    refine bodyPost_end (results_none Tryz.results189 _ _ _) rfl ?_;rw[HR.out];exact qrH.same HM.out HB2.out
  have h8':(tx.size:Int)≤(8:Int):=a_;have HR:=hI_ (HR8.out a_);clear h8;go_upto_region 5 with fail
  have lq2:q<w2.heap.size:=nL_ HM.out.lt HB2.out.size;clear t1 t2 y0 y2 y3 y4 y5 yf gt;have z5:w2.drew.cell? ⟨q,o+5,none⟩=_:=t5;have z1:w2.drew.cell? ⟨w.heap.size,1,none⟩=_:=y1;refine qci (fun w'=>w'.cell? ⟨q,o+5,none⟩=some (.slice vNA x.net.length vNc)∧w'.cell? ⟨w.heap.size,1,none⟩=some (.int .i64 (nj:Int))) 24 d_ ⟨z5,z1⟩ (fun hS hT=> ?_);refine gT_ ?_ hT hS;clear hT;refine tT_ 0 ?_;refine tT_ 1 ?_;refine tT_ 2 ?_;refine tT_ 3 ?_;refine tT_ 4 ?_;refine tT_ 5 ?_;refine tT_ 6 ?_;refine tT_ 7 ?_;refine tT_ 8 ?_;refine tT_ 9 ?_;refine tT_ 10 ?_;refine tT_ 11 ?_;refine tT_ 12 ?_;refine tT_ 13 ?_;refine tT_ 14 ?_;refine tT_ 15 ?_;refine tT_ 17 ?_;refine eT_ fun hT=>?_;refine qba (i:=16) hT rfl d_ a_ (fun K1 hK1=> ?_);go_simp;go_at_call 145
  refine(HCL.out _ (qac HB2.out)).mono ?_;rintro e w4 ⟨v4,rfl,ho4,hb4⟩;have hb24:bB w2 w4:=(qac (bR_ w2.heap.size w2)).trans hb4;refine hK1.out _ _ ⟨(hb24.cell (p:=⟨q,o+5,none⟩) lq2).trans t5,(hb24.cell (p:=⟨w.heap.size,1,none⟩) ly2).trans y1⟩ (fun hT=> ?_);refine qba (i:=18) hT rfl d_ a_ (fun K2 hK2=> ?_);go_simp;go_at_call 144
  refine(qfE _ (k:Int) _ _ ho4.r1).mono ?_;rintro e w5 ⟨v5,rfl,ho5,hb5⟩;rw[HPR.out] at ho5;obtain⟨A5,n5,c5,rfl,hn5⟩:=ho5.sl2;have hb25:bB w2 w5:=hb24.trans (hb5.mono hb24.size);have lq5:q<w5.heap.size:=nL_ lq2 hb25.size;have ly5:w.heap.size<w5.heap.size:=nL_ ly2 hb25.size;have s5:=(hb25.cell (p:=⟨q,o+5,none⟩) lq2).trans t5;have s1:=(hb25.cell (p:=⟨w.heap.size,1,none⟩) ly2).trans y1;refine hK2.out _ _ ⟨s5,s1⟩ (fun hT=> ?_);refine qba (i:=19) hT rfl d_ a_ (fun K3 hK3=> ?_);go_simp;refine hK3.out _ _ ⟨s5,s1⟩ (fun hT=> ?_);refine qba (i:=20) hT rfl d_ a_ (fun K4 hK4=> ?_);go_simp;refine hK4.out _ _ ⟨(Below.cell (B:=w5.heap.size) (qab (bR_ _ _) _) (p:=⟨q,o+5,none⟩) lq5).trans s5,(Below.cell (B:=w5.heap.size) (qab (bR_ _ _) _) (p:=⟨w.heap.size,1,none⟩) ly5).trans s1⟩ (fun hT=> ?_);refine qba (i:=21) hT rfl d_ a_ (fun K5 hK5=> ?_);have hW5:bB w w5:=HB2.out.trans (hb25.mono HB2.out.size);have hc45:w.heap.size≤w4.heap.size:=Nat.le_trans HB2.out.size hb24.size;refine qa9 p_ ?_;refine qmn (base:=B) (C:=w.heap.size) (ps:=x.net) (p:=⟨j,i,nj,k,tx,pr⟩) (HM.out.p.N.below hW5) ho5 hc45 (Nat.le_trans HM.out.bs hc45) hnn2 (Nat.le_trans HM.out.bs hW5.size) hW5.size rfl rfl rfl rfl ?_;intro A8 c8 w8 ho8 hg8;obtain⟨hq8,f8⟩:=HFZ.out _ _ hW5 hg8;have hy8:w8.heap[w.heap.size]? =w5.heap[w.heap.size]? :=hg8.block _ ly5 (fun e=>Nat.lt_irrefl _ ((HM.out.p.N.1 _ e.symm)));have r5:=(World.cell?_of_block (a:=⟨q,o+5,none⟩) hq8).trans s5;have r1:=(World.cell?_of_block (a:=⟨w.heap.size,1,none⟩) hy8).trans s1;obtain⟨n8,HN8⟩:∃ n,x.net.length+1=n:=⟨_,rfl⟩
  rw[HN8] at ho8 ⊢;have HFIN:=hI_ (HM.out.netPost hW5 hg8 ho8);clear HN8;refine hK5.out _ _ ⟨r5,r1⟩ (fun hT=> ?_);refine qba (i:=22) hT rfl d_ a_ (fun K6 hK6=> ?_);go_simp;refine hK6.out _ _ ⟨r5,r1⟩ (fun hT=> ?_);refine qba (i:=23) hT rfl d_ a_ (fun K7 hK7=> ?_);go_simp;refine hK7.out _ _ ⟨r5,r1⟩ (fun hT=> ?_);refine qch rfl d_ d_ (fun K8 hK8=> ?_);go_simp;refine hK8.out _ _ ?_;go_wp2_with fail
  refine bodyPost_end (results_none Tryz.results189 _ _ _) rfl ?_;rw[HR.out];exact HFIN.out
end Go.Proofs.YtekaaekpdebloaaGreatDoor
namespace Go.Proofs.YtekaaekpdebloaaGreatDoor
open Go.RowKit Go.Shelf
attribute [local go_sem ↓] Go.wp_at_zero Go.wp_at_succ

theorem qcA.put{B C D g n cap j:Nat}{w:World}{ls:List (List (Int×Int))}{l:List (Int×Int)}{u:Value}(h:qcA B C w (.slice (some ⟨g,0,none⟩) n cap) ls)(hj:j<ls.length)(hp:qav D 109 w u l)(hC:C≤D)(hB:B≤D)(hs:C≤w.heap.size):
 qcA B w.heap.size (w.setCell ⟨g,j,none⟩ u) (.slice (some ⟨g,0,none⟩) n cap) (ls.set j l)∧w.grownBy (w.setCell ⟨g,j,none⟩ u) (some g):=by
 obtain⟨h0,F,h1,h2,h3⟩:=h;obtain⟨_,_,he⟩:=h1.rn.sl;obtain rfl:n=ls.length:=J_;obtain⟨h4,h5⟩:=h1.setAt (t:=j) a_ u;obtain⟨cur,fr,hty⟩:=h1.row g rfl;have hk:qaA [109] w _:=qaA.of_grown h5 (fun r hr=>by cases hr;exact⟨cur,_,fr,hty,e_⟩);have hup:∀ k (hk:k<ls.length),Up C (F k):=fun k hk=>(h2 k hk).1;refine⟨⟨h0.mono hs,_,by rw[List.length_set];exact h4,fun k hk'=> ?_,fun a b hab hb r hr=> ?_⟩,h5⟩
 · rw[List.length_set] at hk';by_cases hkj:k=j
   · subst hkj;rw[if_pos rfl,List.getElem_set_self];exact⟨fun r hr=>(hp.lt' r hr).2,(hp.next hk e_).mono hB⟩
   · rw[if_neg hkj,List.getElem_set_ne (Ne.symm hkj)];exact((h2 k hk').keepT hk e_).mono (nr_ _) hs
 · rw[List.length_set] at hb;by_cases haj:a=j
   · rw[if_pos haj] at hr;rw[if_neg a_];intro e;have h6:=(hp.lt' r hr).1;have h7:=hup b hb r e;omega
   · rw[if_neg haj] at hr;by_cases hbj:b=j
     · rw[if_pos hbj];intro e;have h6:=(hp.lt' r e).1;have h7:=hup a a_ r hr;omega
     · rw[if_neg hbj];exact h3 a b hab hb r hr
theorem MI.askPost{B q o g j cap:Nat}{x:Wd}{w W:World}{vF vL vN u:Value}{l:List (Int×Int)}{D:Nat}(h:MI B q o x w vF vL (.slice (some ⟨g,0,none⟩) x.asked.length cap) vN)(hb:bB w W)(hj:j<x.asked.length)(hp:qav D 109 W u l)(hD:w.heap.size≤D):
 qrH B q o w {x with asked:=x.asked.set j l} (.returned (.tuple #[])) (W.setCell ⟨g,j,none⟩ u):=by
 obtain⟨h1,h2⟩:=(h.p.A.below hb).put hj hp hD (Nat.le_trans h.bs hD) hb.size;have hW:=h.below hb;obtain⟨_,F,h3,_⟩:=hW.p.A;obtain⟨cur,hty⟩:=h3.row0 g rfl;have hqg:q≠g:=hW.bx.row hty e_;have hlo:=(h3.lt g rfl).1;have hk:qaA [50,9,4,99,57,3] W (W.setCell ⟨g,j,none⟩ u):=qaA.of_grown h2 (fun r hr=>by cases hr;exact⟨cur,_,_,hty,e_⟩);have hs:=h2.size;refine⟨rfl,_,_,_,_,⟨hW.bx.grown h2 hqg,⟨(hW.p.F.nextT hk e_ e_ e_).mono (nr_ _) hs,(hW.p.L.keepT hk e_).mono (nr_ _) hs,h1.mono (nr_ _) hs,(hW.p.N.nextT hk e_ e_).mono (nr_ _) hs⟩,h.bq⟩,Below.grown (hb.mono h.bs) h2 hW.bs (fun r hr=>by cases hr;exact hlo),fun t _=> ?_⟩;rw[World.cell?_of_block (h2.block q hW.lt (fun e=>by cases e;exact hqg rfl))];exact World.cell?_of_block (hb.block q h.lt)
def quG(w0 wx:World)(o1 o2:Obj)(s8 s9:Value):Prop:=∃ y z,s8=.pointer (some ⟨y,0,none⟩)∧s9=.pointer (some ⟨z,0,none⟩)∧wx.heap[y]? =some o1∧wx.heap[z]? =some o2∧bB w0 wx
theorem quD(w:World)(o1 o2:Obj):quG w (((w.alloc o1).alloc o2).drew) o1 o2 (.pointer (some ⟨w.heap.size,0,none⟩)) (.pointer (some ⟨w.heap.size+1,0,none⟩)):=
 ⟨_,_,rfl,rfl,qbI (qau (at0 _ _)),qbI (at1 _ _ _),qac (qab (qab (bR_ _ _) _) _)⟩
theorem quE(w:World)(o1 o2:Obj):quG w (((w.alloc o2).alloc o1).drew) o1 o2 (.pointer (some ⟨w.heap.size+1,0,none⟩)) (.pointer (some ⟨w.heap.size,0,none⟩)):=
 ⟨_,_,rfl,rfl,qbI (at1 _ _ _),qbI (qau (at0 _ _)),qac (qab (qab (bR_ _ _) _) _)⟩
theorem qtn{l:List Bool}(h:l.length≤16):0≤qeG l∧qeG l≤(l.length:Int):=by
 unfold qeG;rw[if_pos h];have:=qlr l;omega
theorem qvD{x:Wd}{a b c:Int}(h:qgE x a b c=false):qiT x a b c=x:=by unfold qiT;rw[h];rfl
theorem quH(x:Wd)(a b c:Int)(q o B:Nat)(vF vL vA vN:Value)(w:World)(h:MI B q o x w vF vL vA vN)(hv:WV x)(hl:qbk x a b=true):
 Calls Tryz.prog 188 #[.pointer (some ⟨q,o,none⟩),.int .i64 a,.int .i64 b,.int .i64 c] w (qrH B q o w (qiT x a b c)):=by
 obtain⟨i,j,rfl,rfl,hi,hj⟩:=hv.wi.lk hl;obtain⟨g,cF,rfl,hB,hgl,hqg,cur,hh⟩:=h.form a_;have HM:=hI_ h;have hql:=h.lt;have hi':(i:Int)<(x.feeds.length:Int):=a_;have hj':(j:Int)<(x.feeds.length:Int):=a_;have hi0:(0:Int)≤(i:Int):=a_;have hj0:(0:Int)≤(j:Int):=a_;have hka:i<x.asked.length:=by have:=hv.na;omega
 have hka':(i:Int)<(x.asked.length:Int):=a_;obtain⟨_,_,ib,ih,hA,_,f0,f1,f2,f3,f4,f5,hFi⟩:=h.p.F.r.at_ hi;cases hA;obtain⟨_,_,jb,jh,hA,_,g0,g1,g2,g3,g4,g5,hFj⟩:=h.p.F.r.at_ hj;cases hA;rw[Nat.zero_add] at f0 f1 f2 f3 f4 f5 g0 g1 g2 g3 g4 g5;obtain⟨bK,vAc,rfl⟩:∃ g c,vA=.slice (some ⟨g,0,none⟩) x.asked.length c:=by
  obtain⟨_,F,h1,_⟩:=h.p.A;obtain⟨g,c,h2,_⟩:=h1.form a_;exact⟨g,c,h2⟩
 obtain⟨_,oK,vk,hA,hab,ek,hRK⟩:=h.p.A.r.at_ hka;cases hA;rw[Nat.zero_add] at ek;have HFD:Hid (x.feed i=x.feeds[i]∧x.feed j=x.feeds[j]):=hI_ ⟨hv.wi.fd hi,hv.wi.fd hj⟩;have HAS:Hid (x.asks i=x.asked[i]):=hI_ (hv.wi.as_ hi);have HLI:Hid (x.feeds[i].hv.length≤16):=hI_ (by obtain⟨n,_,_,h16,_,h5⟩:=hv.wi.hd hi;omega);have HKL:Hid (x.asked[i].length≤1000000):=hI_ (by have:=(qbt.1 (hv.wd i hka)).len;omega);obtain⟨fi,HFI⟩:=nm_ (x.feeds[i]);obtain⟨fj,HFJ⟩:=nm_ (x.feeds[j]);obtain⟨lk,HLK⟩:=nm_ (x.asked[i]);rw[HFI.out] at f0 f1 f2 f3 hFi HFD HLI;rw[HFJ.out] at g0 g1 g2 g3 hFj HFD;rw[HLK.out] at hRK HAS HKL;obtain⟨iA,ic,rfl⟩:=hFi.bl.sl';obtain⟨iH,id,rfl⟩:=hFi.hv.sl';obtain⟨jA,jc,rfl⟩:=hFj.bl.sl';obtain⟨jH,jd,rfl⟩:=hFj.hv.sl';have HHI:Hid (∀ W,bB w W→RB W (.slice iH fi.hv.length id) fi.hv):=hI_ (fun W hW=>hFi.hv.below hW);have HHJ:Hid (∀ W,bB w W→RB W (.slice jH fj.hv.length jd) fj.hv):=hI_ (fun W hW=>hFj.hv.below hW);have HRK:Hid (∀ W,bB w W→RP W vk lk):=hI_ (fun W hW=>hRK.below hW);have HEK:Hid (∀ W,bB w W→W.cell? ⟨bK,i,none⟩=some vk∧W.cell? ⟨q,o+4,none⟩=some (.slice (some ⟨bK,0,none⟩) x.asked.length vAc)):=hI_ (fun W hW=>⟨(hW.cell (p:=⟨bK,i,none⟩) hab).trans ek,(hW.cell (p:=⟨q,o+4,none⟩) hql).trans h.bx.c4⟩);have HAF:Hid (∀ W,bB w W→W.frozen? ⟨bK,i,none⟩=false):=hI_ (fun W hW=>by
  obtain⟨_,F,h1,_⟩:=(h.below hW).p.A;obtain⟨cur,hty⟩:=h1.row0 bK rfl;exact qgI hty _)
 have HMA:Hid (qgE x i j c=((fi.hd.len==fj.hd.len)&&qiS fj c&& !fi.hv.getD c.toNat false)):=hI_ (by
  unfold qgE;rw[hl,HFD.out.1,HFD.out.2,Bool.true_and])
 have t2:=h.bx.c2;have HSAME:Hid (∀ W,bB w W→qiT x i j c=x→qrH B q o w (qiT x i j c) (.returned (.tuple #[])) W):=hI_ (fun W hW he=>by rw[he];exact qrH.same HM.out hW);clear hRK hFi hFj ek cur hh h hv hl hB;go_enter Tryz.func188,Tryz.ntmps188
 go_upto_region 0 with fail
 go_cut [8,9] (fun s8 s9 wx=>quG w wx (.cells #[.int .i64 fi.pub,.int .i64 fi.hd.len,.int .i64 fi.hd.dg,.int .i64 fi.hd.sg,.slice iA fi.bl.length ic,.slice iH fi.hv.length id] 50) (.cells #[.int .i64 fj.pub,.int .i64 fj.hd.len,.int .i64 fj.hd.dg,.int .i64 fj.hd.sg,.slice jA fj.bl.length jc,.slice jH fj.hv.length jd] 50) s8 s9)
 case first=>
  go_region_held3 (fun w'=>w'.cell? ⟨q,o+2,none⟩=some (.slice (some ⟨g,0,none⟩) x.feeds.length cF)∧w'.cell? ⟨g,i*6,none⟩=some (.int .i64 fi.pub)∧w'.cell? ⟨g,i*6+1,none⟩=some (.int .i64 fi.hd.len)∧w'.cell? ⟨g,i*6+2,none⟩=some (.int .i64 fi.hd.dg)∧w'.cell? ⟨g,i*6+3,none⟩=some (.int .i64 fi.hd.sg)∧w'.cell? ⟨g,i*6+4,none⟩=some (.slice iA fi.bl.length ic)∧w'.cell? ⟨g,i*6+5,none⟩=some (.slice iH fi.hv.length id)∧w'.cell? ⟨g,j*6,none⟩=some (.int .i64 fj.pub)∧w'.cell? ⟨g,j*6+1,none⟩=some (.int .i64 fj.hd.len)∧w'.cell? ⟨g,j*6+2,none⟩=some (.int .i64 fj.hd.dg)∧w'.cell? ⟨g,j*6+3,none⟩=some (.int .i64 fj.hd.sg)∧w'.cell? ⟨g,j*6+4,none⟩=some (.slice jA fj.bl.length jc)∧w'.cell? ⟨g,j*6+5,none⟩=some (.slice jH fj.hv.length jd))
   (with_reducible refine⟨Eq.trans (Below.cell (B:=w.heap.size) ?_ hql) t2,Eq.trans (Below.cell (B:=w.heap.size) ?_ hgl) f0,Eq.trans (Below.cell (B:=w.heap.size) ?_ hgl) f1,Eq.trans (Below.cell (B:=w.heap.size) ?_ hgl) f2,Eq.trans (Below.cell (B:=w.heap.size) ?_ hgl) f3,Eq.trans (Below.cell (B:=w.heap.size) ?_ hgl) f4,Eq.trans (Below.cell (B:=w.heap.size) ?_ hgl) f5,Eq.trans (Below.cell (B:=w.heap.size) ?_ hgl) g0,Eq.trans (Below.cell (B:=w.heap.size) ?_ hgl) g1,Eq.trans (Below.cell (B:=w.heap.size) ?_ hgl) g2,Eq.trans (Below.cell (B:=w.heap.size) ?_ hgl) g3,Eq.trans (Below.cell (B:=w.heap.size) ?_ hgl) g4,Eq.trans (Below.cell (B:=w.heap.size) ?_ hgl) g5⟩ <;> (repeat(first|with_reducible exact bR_ _ _|with_reducible refine qab ?_ _|with_reducible refine qac ?_|(with_reducible refine qae ?_ ?_ _ _ _ _ _ _;rotate_left;(first|exact nr_ _|omega|(simp;done)|(simp;omega)))));done)
   (fail)
  all_goals
   go_wp2
   go_meet
  · exact quD w _ _
  · exact quE w _ _
 case rest=>
  obtain⟨y,z,rfl,rfl,hy,hz,hb1⟩:=hcut;obtain⟨w1,rfl⟩:∃ W,W=wc:=⟨_,rfl⟩
  have HB1:=hI_ hb1;have HY:=hI_ hy;have HZ:=hI_ hz;obtain⟨y0,y1,y2,y3,y4,y5,yf⟩:=qaa hy;obtain⟨z0,z1,z2,z3,z4,z5,zf⟩:=qaa hz;clear hy hz hb1 t2 f0 f1 f2 f3 f4 f5 g0 g1 g2 g3 g4 g5;by_cases hlen:fi.hd.len=fj.hd.len;rotate_left
  · go_wp2_with fail
    refine bodyPost_end (results_none Tryz.results188 _ _ _) rfl ?_;exact HSAME.out _ HB1.out (qvD (by rw[HMA.out];simp[hlen]))
  by_cases hc0:c<0
  · go_wp2_with fail
    refine bodyPost_end (results_none Tryz.results188 _ _ _) rfl ?_;exact HSAME.out _ HB1.out (qvD (by rw[HMA.out];unfold qiS;rw[show inB c 0 ((fj.hv.length:Int)-1)=false from qfT.2 a_];simp))
  obtain⟨k,rfl⟩:∃ k:Nat,c=k:=⟨c.toNat,a_⟩
  have hk0:¬ (k:Int)<0:=a_;clear hc0;rw[Int.toNat_natCast] at HMA;obtain⟨v2,HV2'⟩:∃ v,Hid (qiS fj k=v):=⟨_,hI_ rfl⟩
  rw[HV2'.out] at HMA;have HV2:=hI_ (qtP HV2'.out);obtain⟨v3,HV3⟩:=nm_ (fi.hv.getD k false);rw[HV3.out] at HMA;cases v2
  · go_wp2_with (first|(go_at_call 245;first|(refine(qsu fj.hv k _ _ (HHJ.out _ HB1.out) HV2).mono ?_;rintro e w3 ⟨rfl,rfl⟩;clear HV2)|(refine(qsu fi.hv k _ _ (HHI.out _ HB1.out) HV3).mono ?_;rintro e w3 ⟨rfl,rfl⟩)))
    refine bodyPost_end (results_none Tryz.results188 _ _ _) rfl ?_;exact HSAME.out _ HB1.out (qvD (by rw[HMA.out];simp))
  cases v3
  rotate_left
  · go_wp2_with (first|(go_at_call 245;first|(refine(qsu fj.hv k _ _ (HHJ.out _ HB1.out) HV2).mono ?_;rintro e w3 ⟨rfl,rfl⟩;clear HV2)|(refine(qsu fi.hv k _ _ (HHI.out _ HB1.out) HV3).mono ?_;rintro e w3 ⟨rfl,rfl⟩)))
    refine bodyPost_end (results_none Tryz.results188 _ _ _) rfl ?_;exact HSAME.out _ HB1.out (qvD (by rw[HMA.out];simp))
  have HMT:Hid (qgE x i j k=true):=hI_ (by rw[HMA.out];simp[hlen]);obtain⟨n,HBC⟩:=nm_ (qeG fi.hv);have hnb:=qtn HLI.out;rw[HBC.out] at hnb;have hli:=HLI.out;go_upto_region 2 with(first|(go_at_call 245;first|(refine(qsu fj.hv k _ _ (HHJ.out _ HB1.out) HV2).mono ?_;rintro e w3 ⟨rfl,rfl⟩;clear HV2)|(refine(qsu fi.hv k _ _ (HHI.out _ HB1.out) HV3).mono ?_;rintro e w3 ⟨rfl,rfl⟩)))
  have ly:=qai HY.out;have hup:=qap w1;go_wp2_with fail
  refine qoH ?_;repeat(go_big_quiet_step ((go_at_call 24;exact qaj (qg7 _ _ _ ((HHI.out _ HB1.out).below (qao _ _))))))
  refine wpQuiet_nil ?_;intro w2 hw2;have hb2:=qay hw2;have HB2:Hid (bB w w2):=hI_ (HB1.out.trans (hb2.mono HB1.out.size));clear hw2 hup hb2;obtain⟨en,HEN⟩:=nm_ (decide (wrap64 ((fi.hv.length:Int)-qeG fi.hv)≤2));rw[HEN.out];have HAE:Hid (qh2 x i=en):=hI_ (by
   rw[←HEN.out];unfold qh2;rw[HFD.out.1];rw[HBC.out];have h1:wrap64 ((fi.hv.length:Int)-n)=(fi.hv.length:Int)-n:=Go.IntWalk.wrap64_in _ a_;rw[h1])
  obtain⟨⟨r,ok⟩,HWA⟩:∃ r,Hid (qfs lk ((j:Int),(k:Int)) en=r):=⟨_,hI_ rfl⟩
  have HRES:Hid (qiT x i j k=if ok=true then {x with asked:=x.asked.set i r} else x):=hI_ (by
   unfold qiT;rw[HMT.out,HAE.out,HAS.out,HWA.out,Bool.true_and,Int.toNat_natCast])
  have HWC:Hid (∀ W,bB w W→Calls Tryz.prog 246 #[vk,.agg #[.int .i64 (j:Int),.int .i64 (k:Int)],.bool en] W (qhV r ok W)):=hI_ (fun W hW=>by
   have h1:=qsS lk ((j:Int),(k:Int)) en vk W (HRK.out _ hW) HKL.out;rw[HWA.out] at h1;exact h1)
  obtain⟨ek,e4⟩:=HEK.out _ HB2.out;clear hlen hnb hli y0 y1 y2 y3 y4 y5 yf z0 z1 z2 z3 z4 z5 zf;cases ok
  · go_wp2_with (go_at_call 246;refine(HWC.out _ HB2.out).mono ?_;rintro e w3 ⟨v',rfl,hp3,hb3⟩;have HB3:Hid (bB w w3):=hI_ (HB2.out.trans (hb3.mono HB2.out.size)))
    refine bodyPost_end (results_none Tryz.results188 _ _ _) rfl ?_;exact HSAME.out _ HB3.out (by rw[HRES.out];rfl)
  · go_wp2_with (go_at_call 246;refine(HWC.out _ HB2.out).mono ?_;rintro e w3 ⟨v',rfl,hp3,hb3⟩;have HB3:Hid (bB w w3):=hI_ (HB2.out.trans (hb3.mono HB2.out.size));obtain⟨ek3,e43⟩:=HEK.out _ HB3.out;have f3:=HAF.out _ HB3.out;have HP3:=hI_ hp3;have HS2:=hI_ HB2.out.size;obtain⟨A3,n3,c3,rfl⟩:∃ A n c,v'=Value.slice A n c:=by obtain⟨A,c,h⟩:=hp3.r.sl;exact⟨A,_,c,h⟩)
    refine bodyPost_end (results_none Tryz.results188 _ _ _) rfl ?_;rw[HRES.out,if_pos trivial];exact HM.out.askPost HB3.out hka HP3.out HS2.out
end Go.Proofs.YtekaaekpdebloaaGreatDoor
namespace Go.Proofs.YtekaaekpdebloaaGreatDoor
open Go.RowKit
attribute [local go_sem ↓] Go.wp_at_zero Go.wp_at_succ

theorem qrL{w:World}{p:Nat}{t:TypeId}{x0 x1 x2 x3 x4:Value}(h:w.heap[p]? =some (.cells #[x0,x1,x2,x3,x4] t (0,0))):
 w.cell? ⟨p,0,none⟩=some x0∧w.cell? ⟨p,1,none⟩=some x1∧w.cell? ⟨p,2,none⟩=some x2∧w.cell? ⟨p,3,none⟩=some x3∧w.cell? ⟨p,4,none⟩=some x4∧∀ i,w.frozen? ⟨p,i,none⟩=false:=
 ⟨cell_of_row _ _ 0 _ _ _ h,cell_of_row _ _ 1 _ _ _ h,cell_of_row _ _ 2 _ _ _ h,cell_of_row _ _ 3 _ _ _ h,cell_of_row _ _ 4 _ _ _ h,fun i=>am_⟩
theorem qrH.pre{B q o:Nat}{x y:Wd}{w w1 w':World}{vF vL vA vN:Value}{e:Ending}(h:MI B q o x w vF vL vA vN)(hb:bB w w1)(hp:qrH B q o w1 y e w'):qrH B q o w y e w':=by
 obtain⟨rfl,a,b,c,d,h1,h2,h3⟩:=hp;exact⟨rfl,a,b,c,d,h1,(hb.mono h.bs).trans h2,fun i hi=>(h3 i hi).trans (World.cell?_of_block (hb.block q h.lt))⟩
def qsP(x:Wd)(e:Ev):Wd:=if e.kind=4 then qa0 x e.a e.b else if e.kind=5 then qiT x e.a e.b e.c else if e.kind=6 then qbO x e.a e.b e.c e.txt else x
theorem qtS(x:Wd)(e:Ev)(q o B:Nat)(vF vL vA vN:Value)(w:World)(h:MI B q o x w vF vL vA vN)(hv:WV x)(hl:qbk x e.a e.b=true)(ht:e.txt.size≤maxLen):
 Calls Tryz.prog 112 #[.pointer (some ⟨q,o,none⟩),.agg (evC e)] w (qrH B q o w (qsP x e)):=by
 obtain⟨k,a,b,c,t⟩:=e;unfold evC qsP;dsimp only at*;obtain⟨w1,HW1⟩:=nm_ (w.alloc (.cells #[.int .i64 k,.int .i64 a,.int .i64 b,.int .i64 c,.string t] 30));have HB1:Hid (bB w w1):=hI_ af_;obtain⟨e0,e1,e2,e3,e4,ef⟩:=qrL (show w1.heap[w.heap.size]? =some (.cells #[.int .i64 k,.int .i64 a,.int .i64 b,.int .i64 c,.string t] 30 (0,0)) by rw[←HW1.out];exact heap_alloc_new _ _);have HM:=hI_ h;have H4:Hid (Calls Tryz.prog 142 #[.pointer (some ⟨q,o,none⟩),.int .i64 a,.int .i64 b] w1 (qrH B q o w1 (qa0 x a b))):=hI_ (qtp x a b q o B _ _ _ _ w1 (h.below HB1.out) hv hl);have H5:Hid (Calls Tryz.prog 188 #[.pointer (some ⟨q,o,none⟩),.int .i64 a,.int .i64 b,.int .i64 c] w1 (qrH B q o w1 (qiT x a b c))):=hI_ (quH x a b c q o B _ _ _ _ w1 (h.below HB1.out) hv hl);have H6:Hid (Calls Tryz.prog 189 #[.pointer (some ⟨q,o,none⟩),.int .i64 a,.int .i64 b,.int .i64 c,.string t] w1 (qrH B q o w1 (qbO x a b c t))):=hI_ (qt2 x a b c t q o B _ _ _ _ w1 (h.below HB1.out) hv hl ht);clear h hv hl ht;by_cases h4:k=4
 · subst h4;go_enter Tryz.func112,Tryz.ntmps112
   go_upto_region 1 with fail
   rw[HW1.out];go_wp2_with (go_at_call 142;refine H4.out.mono ?_;rintro e w2 hp;obtain⟨rfl,hq⟩:=hp;have HP:Hid (qrH B q o w1 (qa0 x a b) (.returned (.tuple #[])) w2):=hI_ ⟨rfl,hq⟩;clear hq)
   refine bodyPost_end (results_none Tryz.results112 _ _ _) rfl ?_;exact HP.out.pre HM.out HB1.out
 by_cases h5:k=5
 · subst h5;go_enter Tryz.func112,Tryz.ntmps112
   go_upto_region 1 with fail
   rw[HW1.out];go_wp2_with (go_at_call 188;refine H5.out.mono ?_;rintro e w2 hp;obtain⟨rfl,hq⟩:=hp;have HP:Hid (qrH B q o w1 (qiT x a b c) (.returned (.tuple #[])) w2):=hI_ ⟨rfl,hq⟩;clear hq)
   refine bodyPost_end (results_none Tryz.results112 _ _ _) rfl ?_;exact HP.out.pre HM.out HB1.out
 by_cases h6:k=6
 · subst h6;go_enter Tryz.func112,Tryz.ntmps112
   go_upto_region 1 with fail
   rw[HW1.out];go_wp2_with (go_at_call 189;refine H6.out.mono ?_;rintro e w2 hp;obtain⟨rfl,hq⟩:=hp;have HP:Hid (qrH B q o w1 (qbO x a b c t) (.returned (.tuple #[])) w2):=hI_ ⟨rfl,hq⟩;clear hq)
   refine bodyPost_end (results_none Tryz.results112 _ _ _) rfl ?_;exact HP.out.pre HM.out HB1.out
 · rw[if_neg h4,if_neg h5,if_neg h6];go_enter Tryz.func112,Tryz.ntmps112
   go_upto_region 1 with fail
   rw[HW1.out];go_wp2_with fail
   refine bodyPost_end (results_none Tryz.results112 _ _ _) rfl ?_;exact qrH.same HM.out HB1.out
theorem qrH.drew{B q o:Nat}{y:Wd}{w w':World}{e:Ending}(h:qrH B q o w y e w'):qrH B q o w y e w'.drew:=by
 obtain⟨rfl,a,b,c,d,h1,h2,h3⟩:=h;exact⟨rfl,a,b,c,d,h1.below (qac (bR_ _ _)),h2.trans ((qac (bR_ _ _)).mono (Nat.le_trans (Nat.le_trans h1.bq (Nat.le_of_lt h1.lt)) (nr_ _))),fun i hi=>h3 i hi⟩
def quw(B q o:Nat)(w:World)(x:Wd)(j:Nat)(f:Fd)(fr:Int)(vF vL vA vN:Value):Bool→Ending→World→Prop
 |true,e,w'=>e=.returned .nilIface∧MI B q o {x with feeds:=x.feeds.set j f} w' vF vL vA vN∧w.grownBy w' vF.ownBlock
 |false,e,w'=>∃ r,e=.returned (.iface 214 (.pointer (some ⟨r,0,none⟩)))∧w'.heap[r]? =some (.cells #[.int .i64 fr] 223 (0,0))∧bB w w'
theorem qur(x:Wd)(fr ln ix:Int)(tx:ByteArray)(pr:List Int)(vp:Value)(j:Nat)(f2:Fd)(ok:Bool)(q o B:Nat)(vF vL vA vN:Value)(w:World)(h:MI B q o x w vF vL vA vN)(hj:j<x.feeds.length)(hn6:x.feeds.length≤6)(ht:tx.size≤maxLen)(hp:RI w vp pr)(HFP:Hid (qes x.feeds[j] ix tx pr=(f2,ok))):
 Calls Tryz.prog 191 #[.pointer (some ⟨q,o,none⟩),.agg #[.int .i64 fr,.int .i64 (j:Int),.int .i64 ln,.int .i64 ix,.string tx,vp]] w (quw B q o w x j f2 fr vF vL vA vN ok):=by
 obtain⟨g,cF,rfl,hB,hgs,hqg,cur,hh⟩:=h.form a_;obtain⟨pA,pc,rfl⟩:=hp.sl';have HM:=hI_ h;have HCUR:Hid (∃ cur:Array Value,∀ W,bB w W→W.heap[g]? =some (.cells cur 50 (0,0))):=hI_ ⟨cur,fun W hW=>(hW.block _ hgs).trans hh⟩;have HPR:=hI_ hp;have HTS:=hI_ ht;have hj':(j:Int)<(x.feeds.length:Int):=a_;have hj0:(0:Int)≤(j:Int):=a_;obtain⟨_,_,jb,jh,hA,_,g0,g1,g2,g3,g4,g5,hFj⟩:=h.p.F.r.at_ hj;cases hA;rw[Nat.zero_add] at g0 g1 g2 g3 g4 g5;obtain⟨fj,HFJ⟩:=nm_ (x.feeds[j]);rw[HFJ.out] at g0 g1 g2 g3 hFj HFP;obtain⟨jA,jc,rfl⟩:=hFj.bl.sl';obtain⟨jH,jd,rfl⟩:=hFj.hv.sl';have hfz:=h.bx.fz;obtain⟨w1,HW1⟩:=nm_ (w.alloc (.cells #[.int .i64 fr,.int .i64 (j:Int),.int .i64 ln,.int .i64 ix,.string tx,.slice pA pr.length pc] 57));have hb01':bB w w1:=by rw[←HW1.out];exact qab (bR_ _ _) _
 have HB1:=hI_ hb01';have hgl:g<w1.heap.size:=nL_ hgs hb01'.size;have hql:q<w1.heap.size:=nL_ h.lt hb01'.size;have t2:=(hb01'.cell (p:=⟨q,o+2,none⟩) h.lt).trans h.bx.c2;replace g0:=(hb01'.cell (p:=⟨g,j*6,none⟩) hgs).trans g0;replace g1:=(hb01'.cell (p:=⟨g,j*6+1,none⟩) hgs).trans g1;replace g2:=(hb01'.cell (p:=⟨g,j*6+2,none⟩) hgs).trans g2;replace g3:=(hb01'.cell (p:=⟨g,j*6+3,none⟩) hgs).trans g3;replace g4:=(hb01'.cell (p:=⟨g,j*6+4,none⟩) hgs).trans g4;replace g5:=(hb01'.cell (p:=⟨g,j*6+5,none⟩) hgs).trans g5;have hyb:w1.heap[w.heap.size]? =some (.cells #[.int .i64 fr,.int .i64 (j:Int),.int .i64 ln,.int .i64 ix,.string tx,.slice pA pr.length pc] 57 (0,0)):=by rw[←HW1.out];exact heap_alloc_new _ _
 have hyl:=qai hyb;obtain⟨z0,z1,z2,z3,z4,z5,zf⟩:=qaa hyb;have HFj:Hid (qaU w1 fj (.slice jA fj.bl.length jc) (.slice jH fj.hv.length jd)):=hI_ (hFj.below' hb01');replace HPR:=hI_ (HPR.out.below hb01');clear hFj hyb h hB hh cur hb01' ht hp hfz;go_enter Tryz.func191,Tryz.ntmps191
 go_upto_region 1 with fail
 rw[HW1.out];go_cut [5,6] (fun s5 s6 wx=>qop w1.heap.size w1 wx f2 ok s5 s6)
 case first=>
  go_region_held3 (fun w'=>w'.cell? ⟨q,o+2,none⟩=some (.slice (some ⟨g,0,none⟩) x.feeds.length cF)∧w'.cell? ⟨g,j*6,none⟩=some (.int .i64 fj.pub)∧w'.cell? ⟨g,j*6+1,none⟩=some (.int .i64 fj.hd.len)∧w'.cell? ⟨g,j*6+2,none⟩=some (.int .i64 fj.hd.dg)∧w'.cell? ⟨g,j*6+3,none⟩=some (.int .i64 fj.hd.sg)∧w'.cell? ⟨g,j*6+4,none⟩=some (.slice jA fj.bl.length jc)∧w'.cell? ⟨g,j*6+5,none⟩=some (.slice jH fj.hv.length jd)∧w'.cell? ⟨w.heap.size,1,none⟩=some (.int .i64 (j:Int))∧w'.cell? ⟨w.heap.size,3,none⟩=some (.int .i64 ix)∧w'.cell? ⟨w.heap.size,4,none⟩=some (.string tx)∧w'.cell? ⟨w.heap.size,5,none⟩=some (.slice pA pr.length pc))
   (with_reducible refine⟨Eq.trans (Below.cell (B:=w1.heap.size) ?_ hql) t2,Eq.trans (Below.cell (B:=w1.heap.size) ?_ hgl) g0,Eq.trans (Below.cell (B:=w1.heap.size) ?_ hgl) g1,Eq.trans (Below.cell (B:=w1.heap.size) ?_ hgl) g2,Eq.trans (Below.cell (B:=w1.heap.size) ?_ hgl) g3,Eq.trans (Below.cell (B:=w1.heap.size) ?_ hgl) g4,Eq.trans (Below.cell (B:=w1.heap.size) ?_ hgl) g5,Eq.trans (Below.cell (B:=w1.heap.size) ?_ hyl) z1,Eq.trans (Below.cell (B:=w1.heap.size) ?_ hyl) z3,Eq.trans (Below.cell (B:=w1.heap.size) ?_ hyl) z4,Eq.trans (Below.cell (B:=w1.heap.size) ?_ hyl) z5⟩ <;> (repeat(first|with_reducible exact bR_ _ _|with_reducible exact hb06|with_reducible refine qab ?_ _|with_reducible refine qac ?_|(with_reducible refine qae ?_ ?_ _ _ _ _ _ _;rotate_left;(first|exact nr_ _|omega|(simp;done)|(simp;omega)))));done)
   ((go_at_call 143;refine(qkj HFP _ _ _ _ (HFj.out.below' W_) HTS.out (HPR.out.below W_)).mono ?_;rintro e w6 ⟨ub,uh,rfl,ho6,hb6⟩;obtain⟨uA,uc,rfl⟩:=ho6.bl.sl;obtain⟨hA,hc,rfl⟩:=ho6.hv.sl;have hb06:bB w1 w6:=qb6 W_ hb6;have hs6:=hb6.size;have hs06:=hb06.size;try(have hz6:=(hb6.block _ (qaB w1 _)).trans (heap_alloc_new w1 _);obtain⟨k0,k1,k2,k3,k4,k5,kf⟩:=qaa hz6)))
  all_goals
   go_wp2
   go_meet
  · exact qnl ho6 (nr_ _) hb06 hs06
  · exact qgZ ho6 (qaB _ _) hb06 hz6 (nr_ _)
 case rest=>
  obtain⟨y8,vb8,vh8,rfl,rfl,hfb,hb8,hy8⟩:=hcut;obtain⟨wx,rfl⟩:∃ W,W=wc:=⟨_,rfl⟩
  have HBX:Hid (bB w wx):=hI_ (HB1.out.trans (hb8.mono HB1.out.size));have u0:=(hb8.cell (p:=⟨w.heap.size,0,none⟩) hyl).trans z0;have u1:=(hb8.cell (p:=⟨w.heap.size,1,none⟩) hyl).trans z1;have u2:=(hb8.cell (p:=⟨q,o+2,none⟩) hql).trans t2;clear z0 z1 z3 z4 z5 zf t2 g0 g1 g2 g3 g4 g5;cases ok
  · clear hfb;go_wp2_with fail
    refine bodyPost_ret (v:=.iface 214 (.pointer (some ⟨wx.heap.size,0,none⟩))) (by simp[results,Tryz.results191,go_sem]) rfl ?_;exact⟨_,rfl,heap_alloc_new _ _,qab HBX.out _⟩
  · obtain⟨vA8,vc8,rfl⟩:=hfb.fo.bl.sl;obtain⟨uA8,uc8,rfl⟩:=hfb.fo.hv.sl;go_upto_region 4 with fail
    have d2:wx.drew.cell? ⟨q,o+2,none⟩=_:=u2;have d1:wx.drew.cell? ⟨w.heap.size,1,none⟩=_:=u1;have e0:wx.drew.cell? ⟨y8,0,none⟩=_:=hfb.c0;have e1:wx.drew.cell? ⟨y8,1,none⟩=_:=hfb.c1;have e2:wx.drew.cell? ⟨y8,2,none⟩=_:=hfb.c2;have e3:wx.drew.cell? ⟨y8,3,none⟩=_:=hfb.c3;have e4:wx.drew.cell? ⟨y8,4,none⟩=_:=hfb.c4;have e5:wx.drew.cell? ⟨y8,5,none⟩=_:=hfb.c5;have HFX:=HM.out.p.F.below HBX.out;obtain⟨h1,h2⟩:=HFX.put hj (hfb.fo.mono HB1.out.size) (nr_ _);obtain⟨W18,HW18⟩:=nm_ (((((((wx.setCell ⟨g,j*6,none⟩ (.int .i64 f2.pub)).setCell ⟨g,j*6+1,none⟩ (.int .i64 f2.hd.len)).setCell ⟨g,j*6+2,none⟩ (.int .i64 f2.hd.dg)).setCell ⟨g,j*6+3,none⟩ (.int .i64 f2.hd.sg)).setCell ⟨g,j*6+4,none⟩ (.slice vA8 f2.bl.length vc8)).setCell ⟨g,j*6+5,none⟩ (.slice uA8 f2.hv.length uc8)));rw[HW18.out] at h1 h2;have HRES:=hI_ ((HM.out.below HBX.out).setF hqg (HCUR.out.choose_spec wx HBX.out) (h1.mono (nr_ _) h2.size) h2);have HGR:=hI_ (qat (qaP HBX.out) h2);obtain⟨⟨F,hF⟩,hFf⟩:=HFX.cells;have s0:=hF (j*6) a_;have s1:=hF (j*6+1) a_;have s2:=hF (j*6+2) a_;have s3:=hF (j*6+3) a_;have s4:=hF (j*6+4) a_;have s5:=hF (j*6+5) a_;have n1:g≠y8:=a_;have n2:y8≠g:=a_;clear hfb hb8 HFX h1 h2 hF u0 u1 u2;refine qci (fun w'=>w'.cell? ⟨q,o+2,none⟩=some (.slice (some ⟨g,0,none⟩) x.feeds.length cF)∧w'.cell? ⟨w.heap.size,1,none⟩=some (.int .i64 (j:Int))∧w'.cell? ⟨y8,0,none⟩=some (.int .i64 f2.pub)∧w'.cell? ⟨y8,1,none⟩=some (.int .i64 f2.hd.len)∧w'.cell? ⟨y8,2,none⟩=some (.int .i64 f2.hd.dg)∧w'.cell? ⟨y8,3,none⟩=some (.int .i64 f2.hd.sg)∧w'.cell? ⟨y8,4,none⟩=some (.slice vA8 f2.bl.length vc8)∧w'.cell? ⟨y8,5,none⟩=some (.slice uA8 f2.hv.length uc8)) 8 d_ ⟨d2,d1,e0,e1,e2,e3,e4,e5⟩ (fun hS hT=> ?_);refine gT_ ?_ hT hS;clear hT;refine tT_ 0 ?_;refine tT_ 1 ?_;refine tT_ 2 ?_;refine tT_ 3 ?_;refine tT_ 4 ?_;refine tT_ 5 ?_;refine tT_ 6 ?_;refine tT_ 7 ?_;refine eT_ fun hT=>?_;refine qch rfl d_ d_ (fun K7 hK7=> ?_);go_simp;rw[HW18.out];refine hK7.out _ _ ?_;go_wp2_with fail
    refine bodyPost_ret (v:=.nilIface) (by simp[results,Tryz.results191,go_sem]) rfl ?_;exact⟨rfl,HRES.out.below (qac (bR_ _ _)),qat HGR.out (qaP (qac (bR_ _ _)))⟩
end Go.Proofs.YtekaaekpdebloaaGreatDoor
namespace Go.Proofs.YtekaaekpdebloaaGreatDoor
open Go.RowKit

theorem qt3(e t:Addr)(old:Value)(w:World)(hg:w.cell? ⟨0,0,none⟩=some (.iface 276 (.agg #[.pointer (some ⟨1,217,none⟩)])))(ht0:w.cell? t=some old)(hf0:w.frozen? t=false):
 Calls Tryz.prog 190 #[.iface 214 (.pointer (some e)),.iface 219 (.pointer (some t))] w fun ev w'=>ev=.returned (.bool true)∧w'.cell? t=some (.pointer (some e))∧w.grownBy w' (some t.block):=by
 refine(qux e t old w hg ht0 hf0).mono ?_;rintro ev w' ⟨rfl,rfl⟩;have htl:t.block<w.heap.size:=by
  rcases Nat.lt_or_ge t.block w.heap.size with h|h
  · exact h
  · simp[World.cell?,Array.getElem?_eq_none h] at ht0
 obtain⟨W,HW⟩:=nm_ ((((w.alloc (.cells #[.pointer (some t)] 219)).alloc (.cells #[.pointer (some ⟨1,219,none⟩),.pointer (some ⟨w.heap.size,0,none⟩),.int .u64 150] 259)).alloc (.cells #[.pointer (some ⟨1,219,none⟩),.pointer (some ⟨w.heap.size,0,none⟩),.int .u64 150] 259)).alloc (.cells #[.pointer (some e)] 214));have hb:bB w W:=by rw[←HW.out];exact qab (qab (qab (qab (bR_ _ _) _) _) _) _
 rw[HW.out];refine⟨rfl,World.cell?_setCell_same _ _ _ ((hb.cell (p:=t) htl).trans ht0),qat (qaP hb) ⟨rfl,rfl,rfl,a0_,fun k _ hk=>Below.heap_setCell W t _ k (fun e=>hk (by rw[e]))⟩⟩
end Go.Proofs.YtekaaekpdebloaaGreatDoor

/- Walk: the law FnWorldWrong. No condition but the package's own variable. -/
import Derived.Test.YtekaaekpdebloaaGreatDoorCU
import Derived.Test.YtekaaekpdebloaaGreatDoorCR
import Derived.Test.YtekaaekpdebloaaGreatDoorCW
set_option linter.unusedVariables false
set_option linter.unusedSimpArgs false
namespace Go.Proofs.YtekaaekpdebloaaGreatDoor
open Go.RowKit
attribute [local go_sem ↓] Go.wp_at_zero Go.wp_at_succ

set_option maxHeartbeats 12800000 in
set_option maxRecDepth 100000 in
theorem FnWorldWrong_any(bs:List UInt8)(v u:Value)(cs:List UInt8)(w:World)(hv:RU w v bs)(hu:RU w u cs)(he:qsC w):Calls Tryz.prog 8 #[v,u] w fun e w'=>e=.returned (.bool true)∧Below w.heap.size w w':=by
 have HV:=hI_ hv;have HER:=hI_ he;have HLT:=hI_ he.lt;clear he;obtain⟨A,c,rfl,n1,n2,n3⟩:=hv;unfold maxLen at n2;have hbm:bs.length≤9223372036854775807:=by have:=n1.1;omega
 obtain⟨UA,uc,rfl,m1,m2,m3⟩:=hu;unfold maxLen at m2;have hcm:cs.length≤9223372036854775807:=by have:=m1.1;omega
 clear n1 n2 n3 m1 m2 m3;by_cases hl:1048576<bs.length
 · have hl':(1048576:Int)<(bs.length:Int):=a_;go_enter Tryz.func8,Tryz.ntmps8
   go_wp2
   go_ret;exact⟨rfl,bR_ _ _⟩
 have hl':¬ (1048576:Int)<(bs.length:Int):=a_;clear hl;by_cases hc:1048576<cs.length
 · have hc':(1048576:Int)<(cs.length:Int):=a_;go_enter Tryz.func8,Tryz.ntmps8
   go_wp2
   go_ret;exact⟨rfl,bR_ _ _⟩
 have hc':¬ (1048576:Int)<(cs.length:Int):=a_;have HCS:Hid (cs.length≤1048576):=hI_ (Nat.le_of_not_lt hc);clear hc;go_enter Tryz.func8,Tryz.ntmps8
 go_wp2_with fail
 refine(qr9 bs _ w HV.out).mono ?_;rintro e w1 ⟨x,uF,uL,uA,uN,⟨kd,ea,eb,ec,et⟩,rfl,hd,hs,ht,hb1⟩;obtain⟨⟨A1,c1,rfl⟩,⟨A2,c2,rfl⟩,⟨A3,c3,rfl⟩,⟨A4,c4,rfl⟩⟩:=hs.sl;unfold evC;simp only at ht;obtain⟨p,HPP⟩:=nm_ w1.heap.size;obtain⟨W1,HW1⟩:=nm_ ((w1.alloc (.cells #[.int .i64 x.sec,.int .i64 x.bad,.slice A1 x.feeds.length c1,.slice A2 x.links.length c2,.slice A3 x.asked.length c3,.slice A4 x.net.length c4] 28)).alloc (.cells #[.int .i64 kd,.int .i64 ea,.int .i64 eb,.int .i64 ec,.string et] 30));have HB1:Hid (Below w.heap.size w W1):=hI_ bv_;have HS1:Hid (WdS W1 x (.slice A1 x.feeds.length c1) (.slice A2 x.links.length c2) (.slice A3 x.asked.length c3) (.slice A4 x.net.length c4)):=hI_ bo_;have HX1:Hid (W1.heap[p]? =some (.cells #[.int .i64 x.sec,.int .i64 x.bad,.slice A1 x.feeds.length c1,.slice A2 x.links.length c2,.slice A3 x.asked.length c3,.slice A4 x.net.length c4] 28 (0,0))):=hI_ bn_;have HE1:Hid (W1.heap[p+1]? =some (.cells #[.int .i64 kd,.int .i64 ea,.int .i64 eb,.int .i64 ec,.string et] 30 (0,0))):=hI_ bq_;have HD:=hI_ hd;have HTE:Hid (et.size≤maxLen):=hI_ (Nat.le_trans ht s_);clear hd hs hb1 ht hbm hl' hcm hc';obtain⟨t0,t1,t2,t3,t4,t5,tf⟩:=qaa HX1.out;obtain⟨v0,v1,v2,v3,v4,vf⟩:=qrL HE1.out;go_upto_region 4 with fail
 rw[HW1.out,HPP.out];go_wp2_with fail
 refine(qtD x ⟨kd,ea,eb,ec,et⟩ _ _ _ _ W1 HS1.out.r HD.out.t HTE.out (HER.out.next HLT.out HB1.out)).mono ?_;rintro e w2 ⟨vF,vL,vA,vN,rfl,hp2,hb2⟩;have hs2:=hp2.st;obtain⟨y,HY⟩:=nm_ (quj x ⟨kd,ea,eb,ec,et⟩);rw[HY.out] at hs2 ⊢;obtain⟨⟨B1,d1,rfl⟩,⟨B2,d2,rfl⟩,⟨B3,d3,rfl⟩,⟨B4,d4,rfl⟩⟩:=hs2.sl;obtain⟨q,HQ⟩:=nm_ w2.heap.size;obtain⟨W2,HW2⟩:=nm_ (w2.alloc (.cells #[.int .i64 y.sec,.int .i64 y.bad,.slice B1 y.feeds.length d1,.slice B2 y.links.length d2,.slice B3 y.asked.length d3,.slice B4 y.net.length d4] 28));have hb12:Below W1.heap.size W1 W2:=by rw[←HW2.out];exact qab hb2 _
 have HX2:=hI_ ((hb12.block _ (qai HX1.out)).trans HX1.out);have HE2:=hI_ ((hb12.block _ (qai HE1.out)).trans HE1.out);have HY2:Hid (W2.heap[q]? =some (.cells #[.int .i64 y.sec,.int .i64 y.bad,.slice B1 y.feeds.length d1,.slice B2 y.links.length d2,.slice B3 y.asked.length d3,.slice B4 y.net.length d4] 28 (0,0))):=hI_ bh_;have HS2:=hI_ (HS1.out.below hb12);have HT2:Hid (WdS W2 y (.slice B1 y.feeds.length d1) (.slice B2 y.links.length d2) (.slice B3 y.asked.length d3) (.slice B4 y.net.length d4)):=hI_ bi_;have HB2:=hI_ (HB1.out.trans (hb12.mono HB1.out.size));clear hp2 hb2 hs2 hb12 t0 t1 t2 t3 t4 t5 tf v0 v1 v2 v3 v4 vf;obtain⟨t0,t1,t2,t3,t4,t5,tf⟩:=qaa HX2.out;obtain⟨v0,v1,v2,v3,v4,vf⟩:=qrL HE2.out;go_upto_region 5 with fail
 rw[HW2.out,HQ.out];go_wp2_with fail
 refine(qtE x ⟨kd,ea,eb,ec,et⟩ _ _ _ _ W2 HS2.out HD.out.t HTE.out).mono ?_;rintro e w3 ⟨vF,vL,vA,vN,rfl,hs3,hb3⟩;rw[HY.out] at hs3 ⊢;obtain⟨⟨E1,e1,rfl⟩,⟨E2,e2,rfl⟩,⟨E3,e3,rfl⟩,⟨E4,e4,rfl⟩⟩:=hs3.sl;obtain⟨r,HR⟩:=nm_ w3.heap.size;obtain⟨W3,HW3⟩:=nm_ (w3.alloc (.cells #[.int .i64 y.sec,.int .i64 y.bad,.slice E1 y.feeds.length e1,.slice E2 y.links.length e2,.slice E3 y.asked.length e3,.slice E4 y.net.length e4] 28));have hb23:Below W2.heap.size W2 W3:=by rw[←HW3.out];exact qab hb3 _
 have HC3:Hid (DoW w p q r x y ⟨kd,ea,eb,ec,et⟩ (.slice A1 x.feeds.length c1) (.slice A2 x.links.length c2) (.slice A3 x.asked.length c3) (.slice A4 x.net.length c4) (.slice B1 y.feeds.length d1) (.slice B2 y.links.length d2) (.slice B3 y.asked.length d3) (.slice B4 y.net.length d4) (.slice E1 y.feeds.length e1) (.slice E2 y.links.length e2) (.slice E3 y.asked.length e3) (.slice E4 y.net.length e4) W3):=hI_ ⟨(hb23.block _ (qai HX2.out)).trans HX2.out,(hb23.block _ (qai HE2.out)).trans HE2.out,(hb23.block _ (qai HY2.out)).trans HY2.out,bj_,HS2.out.below hb23,HT2.out.below hb23,bk_,HB2.out.trans (hb23.mono HB2.out.size)⟩;clear hb23 hb3 hs3 t0 t1 t2 t3 t4 t5 tf v0 v1 v2 v3 v4 vf HX1 HE1 HX2 HE2 HY2 HS1 HS2 HT2 HB1 HB2;obtain⟨t0,t1,t2,t3,t4,t5,tf⟩:=qaa HC3.out.by_;obtain⟨z0,z1,z2,z3,z4,z5,zf⟩:=qaa HC3.out.bz;go_upto_region 6 with fail
 rw[HW3.out,HR.out];go_wp2_with fail
 refine(qcK y _ _ _ _ _ _ _ _ W3 HC3.out.sy.r HC3.out.sz.r).mono ?_;rintro e w4 ⟨rfl,hb4⟩;have HC4:=hI_ (HC3.out.below hb4);clear hb4 t0 t1 t2 t3 t4 t5 tf z0 z1 z2 z3 z4 z5 zf HC3;obtain⟨t0,t1,t2,t3,t4,t5,tf⟩:=qaa HC4.out.bx;go_wp2_with fail
 refine(qdO x _ _ _ _ w4 HC4.out.sx.r HD.out.t).mono ?_;rintro e w5 ⟨rfl,hb5⟩;have HC5:=hI_ (HC4.out.below hb5);clear hb5 t0 t1 t2 t3 t4 t5 tf HC4;obtain⟨bv,HBV⟩:=nm_ (qcc x);rw[HBV.out];obtain⟨t0,t1,t2,t3,t4,t5,tf⟩:=qaa HC5.out.by_;obtain⟨z0,z1,z2,z3,z4,z5,zf⟩:=qaa HC5.out.bz;cases bv
 · go_wp2_with fail
   refine(qcK y _ _ _ _ _ _ _ _ w5 HC5.out.sy.r HC5.out.sz.r).mono ?_;rintro e w6 ⟨rfl,hb6⟩;have HC6:=hI_ (HC5.out.below hb6);clear hb6 t0 t1 t2 t3 t4 t5 tf z0 z1 z2 z3 z4 z5 zf;go_wp2_with fail
   go_ret;exact⟨rfl,HC6.out.o⟩
 have HWX:Hid (WV x):=hI_ (qcq.1 HBV.out);have HWY:Hid (WV y):=hI_ bz_;have HYD:Hid (wdo x ⟨kd,ea,eb,ec,et⟩=y):=hI_ bB_;obtain⟨p0,p1,p2,p3,p4,p5,pf⟩:=qaa HC5.out.bx;have hnm:=HWX.out.nn;have hsm:=HCS.out;by_cases hz:x.net.length=0
 · have hz':((x.net.length:Int)==0)=true:=by rw[hz];rfl
   clear hz;go_wp2_with fail
   refine(qcK y _ _ _ _ _ _ _ _ w5 HC5.out.sy.r HC5.out.sz.r).mono ?_;rintro e w6 ⟨rfl,hb6⟩;have HC6:=hI_ (HC5.out.below hb6);clear hb6 t0 t1 t2 t3 t4 t5 tf z0 z1 z2 z3 z4 z5 zf p0 p1 p2 p3 p4 p5 pf;go_wp2_with fail
   go_ret;exact⟨rfl,HC6.out.o⟩
 have hz':((x.net.length:Int)==0)=false:=by simpa using hz
 clear t0 t1 t2 t3 t4 t5 tf z0 z1 z2 z3 z4 z5 zf;obtain⟨k,HK⟩:∃ k:Nat,Hid (cs.length%x.net.length=k):=⟨_,hI_ rfl⟩
 have hkn:k<x.net.length:=by rw[←HK.out];exact Nat.mod_lt _ a_
 have htm:((cs.length:Int)).tmod (x.net.length:Int)=(k:Int):=by rw[←HK.out,Int.tmod_eq_emod_of_nonneg (Int.natCast_nonneg _)];rfl
 have hki:(k:Int)<(x.net.length:Int):=a_;have hk0:(0:Int)≤(k:Int):=a_;obtain⟨z,HZE⟩:=nm_ (qgz x k false);have HZD:Hid (quj x ⟨7,k,0,0,⟨#[]⟩⟩=z):=hI_ (by rw[qr7 HBV.out,←HZE.out];rfl);have HWZ:Hid (WV z):=hI_ (by rw[←HZE.out];exact HWX.out.net_ _ _);have HTZ:Hid ((⟨#[]⟩:ByteArray).size≤maxLen):=hI_ (Nat.zero_le _);have hdn:=qvF HWX.out hkn;rw[HZE.out] at hdn;have hsz8:=(HWX.out.wi.pcs k hkn).2.2.1;obtain⟨t,m,ht,hm,hto,hidx,hnet,hcs⟩:=hdn;obtain⟨pc,HPE⟩:=nm_ (x.net[k]);obtain⟨bn,on,vp,hA,hbn,n0,n1,n2,n3,n4,n5,hRI⟩:=HC5.out.sx.r.net.at_ hkn;subst hA;rw[HPE.out] at n0 n1 n2 n3 n4 hRI;obtain⟨vA,vc,rfl⟩:=hRI.sl';obtain⟨gp,HGP⟩:=nm_ w5.heap.size;obtain⟨V0,HV0⟩:=nm_ (w5.alloc (.cells #[.int .i64 pc.fr,.int .i64 pc.to_,.int .i64 pc.len,.int .i64 pc.idx,.string pc.txt,.slice vA pc.prf.length vc] 57));have hb50:Below w5.heap.size w5 V0:=by rw[←HV0.out];exact qab (bR_ _ _) _
 have HC0_:=hI_ (HC5.out.below hb50);have HNP:Hid (V0.heap[gp]? =some (.cells #[.int .i64 pc.fr,.int .i64 pc.to_,.int .i64 pc.len,.int .i64 pc.idx,.string pc.txt,.slice vA pc.prf.length vc] 57 (0,0))):=hI_ (by rw[←HV0.out,←HGP.out];exact heap_alloc_new _ _);rw[HPE.out] at hto hidx hcs hsz8;have HKN:=hI_ hkn;have HTM:=hI_ (And.intro ht (And.intro hm (And.intro hto (And.intro hidx hsz8))));have HNL:Hid (z.net.length+1=x.net.length):=hI_ (by rw[hnet,List.length_eraseIdx,if_pos hkn];omega);have HCS2:=hI_ hcs;clear hcs hto hidx hnet ht hm hb50 hsz8 hRI;go_upto_region 10 with fail
 rw[HV0.out,HGP.out];clear p0 p1 p2 p3 p4 p5 pf htm n0 n1 n2 n3 n4 n5 hbn;obtain⟨p0,p1,p2,p3,p4,p5,pf⟩:=qaa HC0_.out.bx;go_wp2_with fail
 refine(qtD x ⟨7,k,0,0,⟨#[]⟩⟩ _ _ _ _ _ HC0_.out.sx.r HD.out.t HTZ.out (HER.out.next HLT.out HC0_.out.o)).mono ?_;rintro e v1 ⟨vF,vL,vA,vN,rfl,hp6,hb6⟩;have hs6:=hp6.st;rw[HZD.out] at hs6 ⊢;obtain⟨⟨F11,f11,rfl⟩,⟨F12,f12,rfl⟩,⟨F13,f13,rfl⟩,⟨F14,f14,rfl⟩⟩:=hs6.sl;obtain⟨g1,HG1⟩:=nm_ v1.heap.size;obtain⟨V1,HV1⟩:=nm_ (v1.alloc (.cells #[.int .i64 z.sec,.int .i64 z.bad,.slice F11 z.feeds.length f11,.slice F12 z.links.length f12,.slice F13 z.asked.length f13,.slice F14 z.net.length f14] 28));have hbn:Below v1.heap.size v1 V1:=by rw[←HV1.out];exact qab (bR_ _ _) _
 have hbo:=hb6.trans (hbn.mono hb6.size);have HC1_:=hI_ (HC0_.out.below hbo);have HN1:Hid (V1.heap[g1]? =some (.cells #[.int .i64 z.sec,.int .i64 z.bad,.slice F11 z.feeds.length f11,.slice F12 z.links.length f12,.slice F13 z.asked.length f13,.slice F14 z.net.length f14] 28 (0,0))):=hI_ bV_;have HS1:=hI_ (hs6.below hbn);replace HNP:=hI_ ((hbo.block _ (qai HNP.out)).trans HNP.out);clear hp6 hb6 hs6 hbn hbo p0 p1 p2 p3 p4 p5 pf;go_upto_region 11 with fail
 rw[HV1.out,HG1.out];obtain⟨p0,p1,p2,p3,p4,p5,pf⟩:=qaa HC1_.out.bx;obtain⟨q10,q11,q12,q13,q14,q15,q1f⟩:=qaa HN1.out;obtain⟨r0,r1,r2,r3,r4,r5,rf⟩:=qaa HNP.out;rw[HTM.out.2.2.1] at r1;rw[HTM.out.2.2.2.1] at r3;have hn0:0<x.feeds.length:=HWX.out.wi.n1;have hn0':(0:Int)<(x.feeds.length:Int):=a_;obtain⟨b1,o1,xb,xh,hA,hbs,e0,e1,e2,e3,e4,e5,hF0⟩:=HC1_.out.sx.r.feeds.at0 hn0;subst hA;obtain⟨f0,HF0⟩:=nm_ x.f0;rw[show x.feeds.getD 0 Fd.none=f0 from HF0.out] at hF0;have hm:m<f0.bl.length:=by rw[←HF0.out];exact HTM.out.2.1
 have hm':(m:Int)<(f0.bl.length:Int):=a_;have hm0:(0:Int)≤(m:Int):=a_;obtain⟨A7,c7,rfl⟩:=hF0.bl.sl';obtain⟨b5,o5,hA,hbs5,h5⟩:=R1.at_ hF0.bl hm;subst hA;obtain⟨T,HT⟩:=nm_ (f0.bl[m]);rw[HT.out] at h5;have HSZ:Hid (T.size≤8):=hI_ (by
  rw[←HT.out];have:=qbH HWX.out.v0;rw[HF0.out] at this;exact this _ (List.getElem_mem hm))
 obtain⟨dT,HDT⟩:=nm_ (qbi pc.txt.data.toList);obtain⟨dB,HDB⟩:=nm_ (qbi T.data.toList);have HSAME:Hid (¬ dT=dB→z.feeds.getD t Fd.none=x.feeds.getD t Fd.none):=hI_ (fun hne=>by
  rcases HCS2.out with h|h|h
  · exact h.1
  · refine absurd ?_ hne;have:=h.2.2.2.1;rw[HDT.out,HF0.out,qam hm,HT.out,HDB.out] at this;exact this
  · exact h.1)
 have lp:=qai HC1_.out.bx;have l1:=qai HN1.out;have l2:=qai HNP.out;have hup:=qap V1;clear hF0 e0 e1 e2 e3 e5;refine qoH ?_;repeat(go_big_quiet_step (first
  |(go_at_call_of 28 (Value.string pc.txt);exact qaj (qbC HDT _ HTM.out.2.2.2.2))
  |(go_at_call_of 28 (Value.string T);exact qaj (qbC HDB _ HSZ.out))))
 refine wpQuiet_nil ?_;intro w8 hw8;have hb8:=qay hw8;have HC8:=hI_ (HC1_.out.below hb8);have HS8:=hI_ (HS1.out.below hb8);have HN8:=hI_ ((hb8.block _ (qai HN1.out)).trans HN1.out);have HP8:=hI_ ((hb8.block _ (qai HNP.out)).trans HNP.out);clear hw8 hup hb8 p0 p1 p2 p3 p4 p5 pf q10 q11 q12 q13 q14 q15 q1f r0 r1 r2 r3 r4 r5 rf e4 h5 hbs hbs5 hm' hm0 hn0';obtain⟨p0,p1,p2,p3,p4,p5,pf⟩:=qaa HC8.out.bx;obtain⟨q10,q11,q12,q13,q14,q15,q1f⟩:=qaa HN8.out;by_cases hd:dT=dB
 · have hd':(dT==dB)=true:=by rw[hd];simp
   clear hd;go_wp2_with fail
   refine(qiO z HWZ.out _ _ _ _ w8 HS8.out.r.feeds).mono ?_;rintro e w9 ⟨rfl,hb9⟩;clear p0 p1 p2 p3 p4 p5 pf q10 q11 q12 q13 q14 q15 q1f;go_wp2_with fail
   go_ret;exact⟨rfl,HC8.out.o.trans (hb9.mono HC8.out.o.size)⟩
 · have hd':(dT==dB)=false:=by simpa using hd
   have hsm:=HSAME.out hd;clear hd;obtain⟨r0,r1,r2,r3,r4,r5,rf⟩:=qaa HP8.out;rw[HTM.out.2.2.1] at r1;have ht:=HTM.out.1;have hzn:z.feeds.length=x.feeds.length:=by rw[←HZE.out];exact qvh ⟨7,k,0,0,⟨#[]⟩⟩
   have htz:t<z.feeds.length:=by rw[hzn];exact ht
   have ht':(t:Int)<(x.feeds.length:Int):=a_;have htz':(t:Int)<(z.feeds.length:Int):=a_;have ht0:(0:Int)≤(t:Int):=a_;obtain⟨_,_,xb,xh,hA,hbs,e0,e1,e2,e3,e4,e5,hFk⟩:=HC8.out.sx.r.feeds.at_ ht;cases hA;obtain⟨b2,o2,yb,yh,hA,hbs2,u0,u1,u2,u3,u4,u5,hG⟩:=HS8.out.r.feeds.at_ htz;subst hA;rw[qam htz,qam ht] at hsm;rw[hsm] at u0 u1 u2 u3 hG;obtain⟨f,HFE⟩:=nm_ (x.feeds[t]);rw[HFE.out] at e0 e1 e2 e3 hFk u0 u1 u2 u3 hG;have HFK:=hI_ hFk;have HGK:=hI_ hG;have hnl:((z.net.length:Int)==(x.net.length:Int)-1)=true:=by rw[beq_iff_eq];have:=HNL.out;omega
   have lp:=qai HC8.out.bx;have l1:=qai HN8.out;have l2:=qai HP8.out;have hup:=qap w8;clear hFk hG hsm hzn;go_wp2_with fail
   refine qoH ?_;repeat(go_big_quiet_step (first
    |(go_at_call 29;exact qal (qeR f _ _ _ _ _ (HGK.out.below (qao _ _)) (HFK.out.below (qao _ _))))))
   refine wpQuiet_nil ?_;intro w9 hw9;have HB9:=hI_ (qay hw9);clear hw9 hup p0 p1 p2 p3 p4 p5 pf q10 q11 q12 q13 q14 q15 q1f r0 r1 r2 r3 r4 r5 rf e0 e1 e2 e3 e4 e5 u0 u1 u2 u3 u4 u5;go_wp2_with fail
   go_ret;exact⟨rfl,HC8.out.o.trans (HB9.out.mono HC8.out.o.size)⟩
end Go.Proofs.YtekaaekpdebloaaGreatDoor

/- Walk: the law FnWorldLink. No condition but the package's own variable. -/
import Derived.Test.YtekaaekpdebloaaGreatDoorCU
import Derived.Test.YtekaaekpdebloaaGreatDoorCR
import Derived.Test.YtekaaekpdebloaaGreatDoorCW
set_option linter.unusedVariables false
set_option linter.unusedSimpArgs false
namespace Go.Proofs.YtekaaekpdebloaaGreatDoor
open Go.RowKit
attribute [local go_sem ↓] Go.wp_at_zero Go.wp_at_succ

set_option maxHeartbeats 12800000 in
set_option maxRecDepth 100000 in
theorem FnWorldLink_any(bs:List UInt8)(v u:Value)(cs:List UInt8)(w:World)(hv:RU w v bs)(hu:RU w u cs)(he:qsC w):Calls Tryz.prog 7 #[v,u] w fun e w'=>e=.returned (.bool true)∧Below w.heap.size w w':=by
 have HV:=hI_ hv;have HER:=hI_ he;have HLT:=hI_ he.lt;clear he;obtain⟨A,c,rfl,n1,n2,n3⟩:=hv;unfold maxLen at n2;have hbm:bs.length≤9223372036854775807:=by have:=n1.1;omega
 obtain⟨UA,uc,rfl,m1,m2,m3⟩:=hu;unfold maxLen at m2;have hcm:cs.length≤9223372036854775807:=by have:=m1.1;omega
 clear n1 n2 n3 m1 m2 m3;by_cases hl:1048576<bs.length
 · have hl':(1048576:Int)<(bs.length:Int):=a_;go_enter Tryz.func7,Tryz.ntmps7
   go_wp2
   go_ret;exact⟨rfl,bR_ _ _⟩
 have hl':¬ (1048576:Int)<(bs.length:Int):=a_;clear hl;by_cases hc:1048576<cs.length
 · have hc':(1048576:Int)<(cs.length:Int):=a_;go_enter Tryz.func7,Tryz.ntmps7
   go_wp2
   go_ret;exact⟨rfl,bR_ _ _⟩
 have hc':¬ (1048576:Int)<(cs.length:Int):=a_;have HCS:Hid (cs.length≤1048576):=hI_ (Nat.le_of_not_lt hc);clear hc;go_enter Tryz.func7,Tryz.ntmps7
 go_wp2_with fail
 refine(qr9 bs _ w HV.out).mono ?_;rintro e w1 ⟨x,uF,uL,uA,uN,⟨kd,ea,eb,ec,et⟩,rfl,hd,hs,ht,hb1⟩;obtain⟨⟨A1,c1,rfl⟩,⟨A2,c2,rfl⟩,⟨A3,c3,rfl⟩,⟨A4,c4,rfl⟩⟩:=hs.sl;unfold evC;simp only at ht;obtain⟨p,HPP⟩:=nm_ w1.heap.size;obtain⟨W1,HW1⟩:=nm_ ((w1.alloc (.cells #[.int .i64 x.sec,.int .i64 x.bad,.slice A1 x.feeds.length c1,.slice A2 x.links.length c2,.slice A3 x.asked.length c3,.slice A4 x.net.length c4] 28)).alloc (.cells #[.int .i64 kd,.int .i64 ea,.int .i64 eb,.int .i64 ec,.string et] 30));have HB1:Hid (Below w.heap.size w W1):=hI_ bv_;have HS1:Hid (WdS W1 x (.slice A1 x.feeds.length c1) (.slice A2 x.links.length c2) (.slice A3 x.asked.length c3) (.slice A4 x.net.length c4)):=hI_ bo_;have HX1:Hid (W1.heap[p]? =some (.cells #[.int .i64 x.sec,.int .i64 x.bad,.slice A1 x.feeds.length c1,.slice A2 x.links.length c2,.slice A3 x.asked.length c3,.slice A4 x.net.length c4] 28 (0,0))):=hI_ bn_;have HE1:Hid (W1.heap[p+1]? =some (.cells #[.int .i64 kd,.int .i64 ea,.int .i64 eb,.int .i64 ec,.string et] 30 (0,0))):=hI_ bq_;have HD:=hI_ hd;have HTE:Hid (et.size≤maxLen):=hI_ (Nat.le_trans ht s_);clear hd hs hb1 ht hbm hl' hcm hc';obtain⟨t0,t1,t2,t3,t4,t5,tf⟩:=qaa HX1.out;obtain⟨v0,v1,v2,v3,v4,vf⟩:=qrL HE1.out;go_upto_region 4 with fail
 rw[HW1.out,HPP.out];go_wp2_with fail
 refine(qtD x ⟨kd,ea,eb,ec,et⟩ _ _ _ _ W1 HS1.out.r HD.out.t HTE.out (HER.out.next HLT.out HB1.out)).mono ?_;rintro e w2 ⟨vF,vL,vA,vN,rfl,hp2,hb2⟩;have hs2:=hp2.st;obtain⟨y,HY⟩:=nm_ (quj x ⟨kd,ea,eb,ec,et⟩);rw[HY.out] at hs2 ⊢;obtain⟨⟨B1,d1,rfl⟩,⟨B2,d2,rfl⟩,⟨B3,d3,rfl⟩,⟨B4,d4,rfl⟩⟩:=hs2.sl;obtain⟨q,HQ⟩:=nm_ w2.heap.size;obtain⟨W2,HW2⟩:=nm_ (w2.alloc (.cells #[.int .i64 y.sec,.int .i64 y.bad,.slice B1 y.feeds.length d1,.slice B2 y.links.length d2,.slice B3 y.asked.length d3,.slice B4 y.net.length d4] 28));have hb12:Below W1.heap.size W1 W2:=by rw[←HW2.out];exact qab hb2 _
 have HX2:=hI_ ((hb12.block _ (qai HX1.out)).trans HX1.out);have HE2:=hI_ ((hb12.block _ (qai HE1.out)).trans HE1.out);have HY2:Hid (W2.heap[q]? =some (.cells #[.int .i64 y.sec,.int .i64 y.bad,.slice B1 y.feeds.length d1,.slice B2 y.links.length d2,.slice B3 y.asked.length d3,.slice B4 y.net.length d4] 28 (0,0))):=hI_ bh_;have HS2:=hI_ (HS1.out.below hb12);have HT2:Hid (WdS W2 y (.slice B1 y.feeds.length d1) (.slice B2 y.links.length d2) (.slice B3 y.asked.length d3) (.slice B4 y.net.length d4)):=hI_ bi_;have HB2:=hI_ (HB1.out.trans (hb12.mono HB1.out.size));clear hp2 hb2 hs2 hb12 t0 t1 t2 t3 t4 t5 tf v0 v1 v2 v3 v4 vf;obtain⟨t0,t1,t2,t3,t4,t5,tf⟩:=qaa HX2.out;obtain⟨v0,v1,v2,v3,v4,vf⟩:=qrL HE2.out;go_upto_region 5 with fail
 rw[HW2.out,HQ.out];go_wp2_with fail
 refine(qtE x ⟨kd,ea,eb,ec,et⟩ _ _ _ _ W2 HS2.out HD.out.t HTE.out).mono ?_;rintro e w3 ⟨vF,vL,vA,vN,rfl,hs3,hb3⟩;rw[HY.out] at hs3 ⊢;obtain⟨⟨E1,e1,rfl⟩,⟨E2,e2,rfl⟩,⟨E3,e3,rfl⟩,⟨E4,e4,rfl⟩⟩:=hs3.sl;obtain⟨r,HR⟩:=nm_ w3.heap.size;obtain⟨W3,HW3⟩:=nm_ (w3.alloc (.cells #[.int .i64 y.sec,.int .i64 y.bad,.slice E1 y.feeds.length e1,.slice E2 y.links.length e2,.slice E3 y.asked.length e3,.slice E4 y.net.length e4] 28));have hb23:Below W2.heap.size W2 W3:=by rw[←HW3.out];exact qab hb3 _
 have HC3:Hid (DoW w p q r x y ⟨kd,ea,eb,ec,et⟩ (.slice A1 x.feeds.length c1) (.slice A2 x.links.length c2) (.slice A3 x.asked.length c3) (.slice A4 x.net.length c4) (.slice B1 y.feeds.length d1) (.slice B2 y.links.length d2) (.slice B3 y.asked.length d3) (.slice B4 y.net.length d4) (.slice E1 y.feeds.length e1) (.slice E2 y.links.length e2) (.slice E3 y.asked.length e3) (.slice E4 y.net.length e4) W3):=hI_ ⟨(hb23.block _ (qai HX2.out)).trans HX2.out,(hb23.block _ (qai HE2.out)).trans HE2.out,(hb23.block _ (qai HY2.out)).trans HY2.out,bj_,HS2.out.below hb23,HT2.out.below hb23,bk_,HB2.out.trans (hb23.mono HB2.out.size)⟩;clear hb23 hb3 hs3 t0 t1 t2 t3 t4 t5 tf v0 v1 v2 v3 v4 vf HX1 HE1 HX2 HE2 HY2 HS1 HS2 HT2 HB1 HB2;obtain⟨t0,t1,t2,t3,t4,t5,tf⟩:=qaa HC3.out.by_;obtain⟨z0,z1,z2,z3,z4,z5,zf⟩:=qaa HC3.out.bz;go_upto_region 6 with fail
 rw[HW3.out,HR.out];go_wp2_with fail
 refine(qcK y _ _ _ _ _ _ _ _ W3 HC3.out.sy.r HC3.out.sz.r).mono ?_;rintro e w4 ⟨rfl,hb4⟩;have HC4:=hI_ (HC3.out.below hb4);clear hb4 t0 t1 t2 t3 t4 t5 tf z0 z1 z2 z3 z4 z5 zf HC3;obtain⟨t0,t1,t2,t3,t4,t5,tf⟩:=qaa HC4.out.bx;go_wp2_with fail
 refine(qdO x _ _ _ _ w4 HC4.out.sx.r HD.out.t).mono ?_;rintro e w5 ⟨rfl,hb5⟩;have HC5:=hI_ (HC4.out.below hb5);clear hb5 t0 t1 t2 t3 t4 t5 tf HC4;obtain⟨bv,HBV⟩:=nm_ (qcc x);rw[HBV.out];obtain⟨t0,t1,t2,t3,t4,t5,tf⟩:=qaa HC5.out.by_;obtain⟨z0,z1,z2,z3,z4,z5,zf⟩:=qaa HC5.out.bz;cases bv
 · go_wp2_with fail
   refine(qcK y _ _ _ _ _ _ _ _ w5 HC5.out.sy.r HC5.out.sz.r).mono ?_;rintro e w6 ⟨rfl,hb6⟩;have HC6:=hI_ (HC5.out.below hb6);clear hb6 t0 t1 t2 t3 t4 t5 tf z0 z1 z2 z3 z4 z5 zf;go_wp2_with fail
   go_ret;exact⟨rfl,HC6.out.o⟩
 have HWX:Hid (WV x):=hI_ (qcq.1 HBV.out);have HWY:Hid (WV y):=hI_ bz_;have HYD:Hid (wdo x ⟨kd,ea,eb,ec,et⟩=y):=hI_ bB_;have hsm:=HCS.out;have HC0_:=HC5;have HTZ:Hid ((⟨#[]⟩:ByteArray).size≤maxLen):=hI_ (Nat.zero_le _);obtain⟨p0,p1,p2,p3,p4,p5,pf⟩:=qaa HC5.out.bx;have hm1:=HC5.out.sx.r.feeds.len;unfold maxLen at hm1;by_cases hn2:x.feeds.length<2
 · have hn2':(x.feeds.length:Int)<2:=a_;clear hn2;go_wp2_with fail
   refine(qcK y _ _ _ _ _ _ _ _ w5 HC5.out.sy.r HC5.out.sz.r).mono ?_;rintro e w6 ⟨rfl,hb6⟩;have HC6:=hI_ (HC5.out.below hb6);clear hb6 t0 t1 t2 t3 t4 t5 tf z0 z1 z2 z3 z4 z5 zf p0 p1 p2 p3 p4 p5 pf;go_wp2_with fail
   go_ret;exact⟨rfl,HC6.out.o⟩
 have hn2':¬ (x.feeds.length:Int)<2:=a_;clear t0 t1 t2 t3 t4 t5 tf z0 z1 z2 z3 z4 z5 zf;obtain⟨i,HI⟩:∃ k:Nat,Hid (cs.length%x.feeds.length=k):=⟨_,hI_ rfl⟩
 have hi:i<x.feeds.length:=by rw[←HI.out];exact Nat.mod_lt _ a_
 have htm:((cs.length:Int)).tmod (x.feeds.length:Int)=(i:Int):=by rw[←HI.out,Int.tmod_eq_emod_of_nonneg (Int.natCast_nonneg _)];rfl
 obtain⟨c0,HC0⟩:∃ k:Nat,Hid (cs.length/8=k):=⟨_,hI_ rfl⟩
 have htd:((cs.length:Int)).tdiv 8=(c0:Int):=by rw[←HC0.out,Int.tdiv_eq_ediv_of_nonneg (Int.natCast_nonneg _)];rfl
 obtain⟨c1_,HC1⟩:∃ k:Nat,Hid (c0%(x.feeds.length-1)=k):=⟨_,hI_ rfl⟩
 have hc1:c1_<x.feeds.length-1:=by rw[←HC1.out];exact Nat.mod_lt _ a_
 have htm2:((c0:Int)).tmod ((x.feeds.length:Int)-1)=(c1_:Int):=by
  rw[←HC1.out,Int.tmod_eq_emod_of_nonneg (Int.natCast_nonneg _),show(x.feeds.length:Int)-1=((x.feeds.length-1:Nat):Int) by omega];rfl
 obtain⟨j,HJ⟩:∃ k:Nat,Hid ((i+1+c1_)%x.feeds.length=k):=⟨_,hI_ rfl⟩
 have hj:j<x.feeds.length:=by rw[←HJ.out];exact Nat.mod_lt _ a_
 have htm3:(wrap64 ((i:Int)+1+(c1_:Int))).tmod (x.feeds.length:Int)=(j:Int):=by
  rw[show wrap64 ((i:Int)+1+(c1_:Int))=(i:Int)+1+(c1_:Int) by have:=HWX.out.wi.n6;unfold wrap64;omega,←HJ.out,show(i:Int)+1+(c1_:Int)=((i+1+c1_:Nat):Int) by omega,Int.tmod_eq_emod_of_nonneg (Int.natCast_nonneg _)];rfl
 have hij:i≠j:=by
  rw[←HJ.out];by_cases hlt:i+1+c1_<x.feeds.length
  · rw[Nat.mod_eq_of_lt hlt];omega
  · rw[Nat.mod_eq_sub_mod a_,Nat.mod_eq_of_lt a_];omega
 have hc0:c0≤1048576:=by rw[←HC0.out];omega
 have HIJ:=hI_ (And.intro hi (And.intro hj hij));have lp:=qai HC5.out.bx;have hup:=qap w5;go_wp2_with fail
 refine qoH ?_;repeat(go_big_quiet_step (fail))
 refine wpQuiet_nil ?_;intro w5_ hw5;replace HC0_:=hI_ (HC5.out.below (qay hw5));clear hw5 hup lp p0 p1 p2 p3 p4 p5 pf;obtain⟨p0,p1,p2,p3,p4,p5,pf⟩:=qaa HC0_.out.bx;obtain⟨a,HA⟩:=nm_ (qeh x i j true);obtain⟨b,HB⟩:=nm_ (qeh x i j false);have HWA:Hid (WV a):=hI_ (by rw[←HA.out];exact HWX.out.turn _ _ _);have HZ1:Hid (quj x ⟨2,i,j,0,⟨#[]⟩⟩=a):=hI_ (by rw[qr7 HBV.out,←HA.out];rfl);have HZ3:Hid (quj x ⟨3,i,j,0,⟨#[]⟩⟩=b):=hI_ (by rw[qr7 HBV.out,←HB.out];rfl);have HZ2:Hid (quj a ⟨3,j,i,0,⟨#[]⟩⟩=b):=hI_ (by
  rw[qr7 (qcq.2 HWA.out)];show qeh a j i false=b;rw[qv4,←HA.out,qvY HWX.out hij hi hj,HB.out])
 have HL1:Hid (qbk a i j=true):=hI_ (by rw[←HA.out];exact qv8 HWX.out hij hi hj);have HL2:Hid (qbk b i j=false):=hI_ (by rw[←HB.out];exact qv7 hij hi hj);go_wp2_with fail
 refine(qtD x ⟨2,i,j,0,⟨#[]⟩⟩ _ _ _ _ _ HC0_.out.sx.r HD.out.t HTZ.out (HER.out.next HLT.out HC0_.out.o)).mono ?_;rintro e v1 ⟨vF,vL,vA,vN,rfl,hp6,hb6⟩;have hs6:=hp6.st;rw[HZ1.out] at hs6 ⊢;obtain⟨⟨F11,f11,rfl⟩,⟨F12,f12,rfl⟩,⟨F13,f13,rfl⟩,⟨F14,f14,rfl⟩⟩:=hs6.sl;obtain⟨g1,HG1⟩:=nm_ v1.heap.size;obtain⟨V1,HV1⟩:=nm_ (v1.alloc (.cells #[.int .i64 a.sec,.int .i64 a.bad,.slice F11 a.feeds.length f11,.slice F12 a.links.length f12,.slice F13 a.asked.length f13,.slice F14 a.net.length f14] 28));have hbn:Below v1.heap.size v1 V1:=by rw[←HV1.out];exact qab (bR_ _ _) _
 have hbo:=hb6.trans (hbn.mono hb6.size);have HC1_:=hI_ (HC0_.out.below hbo);have HN1:Hid (V1.heap[g1]? =some (.cells #[.int .i64 a.sec,.int .i64 a.bad,.slice F11 a.feeds.length f11,.slice F12 a.links.length f12,.slice F13 a.asked.length f13,.slice F14 a.net.length f14] 28 (0,0))):=hI_ bV_;have HS1:=hI_ (hs6.below hbn);clear hp6 hb6 hs6 hbn hbo p0 p1 p2 p3 p4 p5 pf;go_upto_region 11 with fail
 rw[HV1.out,HG1.out];obtain⟨p0,p1,p2,p3,p4,p5,pf⟩:=qaa HC1_.out.bx;obtain⟨q10,q11,q12,q13,q14,q15,q1f⟩:=qaa HN1.out;go_wp2_with fail
 refine(qtD a ⟨3,j,i,0,⟨#[]⟩⟩ _ _ _ _ _ HS1.out.r (quF HWA.out) HTZ.out (HER.out.next HLT.out HC1_.out.o)).mono ?_;rintro e v2 ⟨vF,vL,vA,vN,rfl,hp6,hb6⟩;have hs6:=hp6.st;rw[HZ2.out] at hs6 ⊢;obtain⟨⟨F21,f21,rfl⟩,⟨F22,f22,rfl⟩,⟨F23,f23,rfl⟩,⟨F24,f24,rfl⟩⟩:=hs6.sl;obtain⟨g2,HG2⟩:=nm_ v2.heap.size;obtain⟨V2,HV2⟩:=nm_ (v2.alloc (.cells #[.int .i64 b.sec,.int .i64 b.bad,.slice F21 b.feeds.length f21,.slice F22 b.links.length f22,.slice F23 b.asked.length f23,.slice F24 b.net.length f24] 28));have hbn:Below v2.heap.size v2 V2:=by rw[←HV2.out];exact qab (bR_ _ _) _
 have hbo:=hb6.trans (hbn.mono hb6.size);have HC2_:=hI_ (HC1_.out.below hbo);have HN2:Hid (V2.heap[g2]? =some (.cells #[.int .i64 b.sec,.int .i64 b.bad,.slice F21 b.feeds.length f21,.slice F22 b.links.length f22,.slice F23 b.asked.length f23,.slice F24 b.net.length f24] 28 (0,0))):=hI_ (by rw[←HV2.out,←HG2.out];exact heap_alloc_new _ _);have HS2:=hI_ (hs6.below hbn);replace HN1:=hI_ ((hbo.block _ (qai HN1.out)).trans HN1.out);replace HS1:=hI_ (HS1.out.below hbo);clear hp6 hb6 hs6 hbn hbo p0 p1 p2 p3 p4 p5 pf q10 q11 q12 q13 q14 q15 q1f;go_upto_region 12 with fail
 rw[HV2.out,HG2.out];obtain⟨p0,p1,p2,p3,p4,p5,pf⟩:=qaa HC2_.out.bx;obtain⟨q10,q11,q12,q13,q14,q15,q1f⟩:=qaa HN1.out;obtain⟨q20,q21,q22,q23,q24,q25,q2f⟩:=qaa HN2.out;go_wp2_with fail
 refine(qtD x ⟨3,i,j,0,⟨#[]⟩⟩ _ _ _ _ _ HC2_.out.sx.r HD.out.t HTZ.out (HER.out.next HLT.out HC2_.out.o)).mono ?_;rintro e v3 ⟨vF,vL,vA,vN,rfl,hp6,hb6⟩;have hs6:=hp6.st;rw[HZ3.out] at hs6 ⊢;obtain⟨⟨F31,f31,rfl⟩,⟨F32,f32,rfl⟩,⟨F33,f33,rfl⟩,⟨F34,f34,rfl⟩⟩:=hs6.sl;obtain⟨g3,HG3⟩:=nm_ v3.heap.size;obtain⟨V3,HV3⟩:=nm_ (v3.alloc (.cells #[.int .i64 b.sec,.int .i64 b.bad,.slice F31 b.feeds.length f31,.slice F32 b.links.length f32,.slice F33 b.asked.length f33,.slice F34 b.net.length f34] 28));have hbn:Below v3.heap.size v3 V3:=by rw[←HV3.out];exact qab (bR_ _ _) _
 have hbo:=hb6.trans (hbn.mono hb6.size);have HC3_:=hI_ (HC2_.out.below hbo);have HN3:Hid (V3.heap[g3]? =some (.cells #[.int .i64 b.sec,.int .i64 b.bad,.slice F31 b.feeds.length f31,.slice F32 b.links.length f32,.slice F33 b.asked.length f33,.slice F34 b.net.length f34] 28 (0,0))):=hI_ (by rw[←HV3.out,←HG3.out];exact heap_alloc_new _ _);have HS3:=hI_ (hs6.below hbn);replace HN1:=hI_ ((hbo.block _ (qai HN1.out)).trans HN1.out);replace HS1:=hI_ (HS1.out.below hbo);replace HN2:=hI_ ((hbo.block _ (qai HN2.out)).trans HN2.out);replace HS2:=hI_ (HS2.out.below hbo);clear hp6 hb6 hs6 hbn hbo p0 p1 p2 p3 p4 p5 pf q10 q11 q12 q13 q14 q15 q1f q20 q21 q22 q23 q24 q25 q2f;go_upto_region 13 with fail
 rw[HV3.out,HG3.out];obtain⟨p0,p1,p2,p3,p4,p5,pf⟩:=qaa HC3_.out.bx;obtain⟨q10,q11,q12,q13,q14,q15,q1f⟩:=qaa HN1.out;obtain⟨q20,q21,q22,q23,q24,q25,q2f⟩:=qaa HN2.out;obtain⟨q30,q31,q32,q33,q34,q35,q3f⟩:=qaa HN3.out;have HCE:=HC3_;go_wp2_with fail
 refine(qvu HL1 _ _ _ _ _ HS1.out.r.links).mono ?_;rintro e u0 ⟨rfl,hb9⟩;have HCE:=hI_ (HCE.out.below hb9);replace HN1:=hI_ ((hb9.block _ (qai HN1.out)).trans HN1.out);replace HS1:=hI_ (HS1.out.below hb9);replace HN2:=hI_ ((hb9.block _ (qai HN2.out)).trans HN2.out);replace HS2:=hI_ (HS2.out.below hb9);replace HN3:=hI_ ((hb9.block _ (qai HN3.out)).trans HN3.out);replace HS3:=hI_ (HS3.out.below hb9);clear hb9 p0 p1 p2 p3 p4 p5 pf q10 q11 q12 q13 q14 q15 q1f q20 q21 q22 q23 q24 q25 q2f q30 q31 q32 q33 q34 q35 q3f;obtain⟨p0,p1,p2,p3,p4,p5,pf⟩:=qaa HCE.out.bx;obtain⟨q10,q11,q12,q13,q14,q15,q1f⟩:=qaa HN1.out;obtain⟨q20,q21,q22,q23,q24,q25,q2f⟩:=qaa HN2.out;obtain⟨q30,q31,q32,q33,q34,q35,q3f⟩:=qaa HN3.out;go_wp2_with fail
 refine(qvu HL2 _ _ _ _ _ HS2.out.r.links).mono ?_;rintro e u1 ⟨rfl,hb9⟩;have HCE:=hI_ (HCE.out.below hb9);replace HN1:=hI_ ((hb9.block _ (qai HN1.out)).trans HN1.out);replace HS1:=hI_ (HS1.out.below hb9);replace HN2:=hI_ ((hb9.block _ (qai HN2.out)).trans HN2.out);replace HS2:=hI_ (HS2.out.below hb9);replace HN3:=hI_ ((hb9.block _ (qai HN3.out)).trans HN3.out);replace HS3:=hI_ (HS3.out.below hb9);clear hb9 p0 p1 p2 p3 p4 p5 pf q10 q11 q12 q13 q14 q15 q1f q20 q21 q22 q23 q24 q25 q2f q30 q31 q32 q33 q34 q35 q3f;obtain⟨p0,p1,p2,p3,p4,p5,pf⟩:=qaa HCE.out.bx;obtain⟨q10,q11,q12,q13,q14,q15,q1f⟩:=qaa HN1.out;obtain⟨q20,q21,q22,q23,q24,q25,q2f⟩:=qaa HN2.out;obtain⟨q30,q31,q32,q33,q34,q35,q3f⟩:=qaa HN3.out;go_wp2_with fail
 refine(qcK b _ _ _ _ _ _ _ _ _ HS2.out.r HS3.out.r).mono ?_;rintro e u2 ⟨rfl,hb9⟩;have HCE:=hI_ (HCE.out.below hb9);replace HN1:=hI_ ((hb9.block _ (qai HN1.out)).trans HN1.out);replace HS1:=hI_ (HS1.out.below hb9);replace HN2:=hI_ ((hb9.block _ (qai HN2.out)).trans HN2.out);replace HS2:=hI_ (HS2.out.below hb9);replace HN3:=hI_ ((hb9.block _ (qai HN3.out)).trans HN3.out);replace HS3:=hI_ (HS3.out.below hb9);clear hb9 p0 p1 p2 p3 p4 p5 pf q10 q11 q12 q13 q14 q15 q1f q20 q21 q22 q23 q24 q25 q2f q30 q31 q32 q33 q34 q35 q3f;go_wp2_with fail
 go_ret;exact⟨rfl,HCE.out.o⟩
end Go.Proofs.YtekaaekpdebloaaGreatDoor

/- Walk: the law FnWorldOthers. No condition but the package's own variable. -/
import Derived.Test.YtcnpmbdkcflboaaGreatDoorCU
import Derived.Test.YtcnpmbdkcflboaaGreatDoorCT
set_option linter.unusedVariables false
set_option linter.unusedSimpArgs false
namespace Go.Proofs.YtcnpmbdkcflboaaGreatDoor
open Go.RowKit
attribute [local go_sem ↓] Go.wp_at_zero Go.wp_at_succ

set_option maxHeartbeats 12800000 in
set_option maxRecDepth 100000 in
theorem FnWorldOthers_any(bs:List UInt8)(v u:Value)(cs:List UInt8)(w:World)(hv:RU w v bs)(hu:RU w u cs)(he:qsC w):Calls Tryz.prog 14 #[v,u] w fun e w'=>e=.returned (.bool true)∧Below w.heap.size w w':=by
 have HV:=hI_ hv;have HER:=hI_ he;have HLT:=hI_ he.lt;clear he;obtain⟨A,c,rfl,n1,n2,n3⟩:=hv;unfold maxLen at n2;have hbm:bs.length≤9223372036854775807:=by have:=n1.1;omega
 obtain⟨UA,uc,rfl,m1,m2,m3⟩:=hu;unfold maxLen at m2;have hcm:cs.length≤9223372036854775807:=by have:=m1.1;omega
 clear n1 n2 n3 m1 m2 m3;by_cases hl:1048576<bs.length
 · have hl':(1048576:Int)<(bs.length:Int):=a_;go_enter Tryz.func14,Tryz.ntmps14
   go_wp2
   go_ret;exact⟨rfl,bR_ _ _⟩
 have hl':¬ (1048576:Int)<(bs.length:Int):=a_;clear hl;by_cases hc:1048576<cs.length
 · have hc':(1048576:Int)<(cs.length:Int):=a_;go_enter Tryz.func14,Tryz.ntmps14
   go_wp2
   go_ret;exact⟨rfl,bR_ _ _⟩
 have hc':¬ (1048576:Int)<(cs.length:Int):=a_;have HCS:Hid (cs.length≤1048576):=hI_ (Nat.le_of_not_lt hc);clear hc;go_enter Tryz.func14,Tryz.ntmps14
 go_wp2_with fail
 refine(qr9 bs _ w HV.out).mono ?_;rintro e w1 ⟨x,uF,uL,uA,uN,⟨kd,ea,eb,ec,et⟩,rfl,hd,hs,ht,hb1⟩;obtain⟨⟨A1,c1,rfl⟩,⟨A2,c2,rfl⟩,⟨A3,c3,rfl⟩,⟨A4,c4,rfl⟩⟩:=hs.sl;unfold evC;simp only at ht;obtain⟨p,HPP⟩:=nm_ w1.heap.size;obtain⟨W1,HW1⟩:=nm_ ((w1.alloc (.cells #[.int .i64 x.sec,.int .i64 x.bad,.slice A1 x.feeds.length c1,.slice A2 x.links.length c2,.slice A3 x.asked.length c3,.slice A4 x.net.length c4] 28)).alloc (.cells #[.int .i64 kd,.int .i64 ea,.int .i64 eb,.int .i64 ec,.string et] 52));have HB1:Hid (Below w.heap.size w W1):=hI_ bv_;have HS1:Hid (WdS W1 x (.slice A1 x.feeds.length c1) (.slice A2 x.links.length c2) (.slice A3 x.asked.length c3) (.slice A4 x.net.length c4)):=hI_ bo_;have HX1:Hid (W1.heap[p]? =some (.cells #[.int .i64 x.sec,.int .i64 x.bad,.slice A1 x.feeds.length c1,.slice A2 x.links.length c2,.slice A3 x.asked.length c3,.slice A4 x.net.length c4] 28 (0,0))):=hI_ bn_;have HE1:Hid (W1.heap[p+1]? =some (.cells #[.int .i64 kd,.int .i64 ea,.int .i64 eb,.int .i64 ec,.string et] 52 (0,0))):=hI_ bq_;have HD:=hI_ hd;have HTE:Hid (et.size≤maxLen):=hI_ (Nat.le_trans ht s_);clear hd hs hb1 ht hbm hl' hcm hc';obtain⟨t0,t1,t2,t3,t4,t5,tf⟩:=qaa HX1.out;obtain⟨v0,v1,v2,v3,v4,vf⟩:=qrL HE1.out;go_upto_region 4 with fail
 rw[HW1.out,HPP.out];go_wp2_with fail
 refine(qtD x ⟨kd,ea,eb,ec,et⟩ _ _ _ _ W1 HS1.out.r HD.out.t HTE.out (HER.out.next HLT.out HB1.out)).mono ?_;rintro e w2 ⟨vF,vL,vA,vN,rfl,hp2,hb2⟩;have hs2:=hp2.st;obtain⟨y,HY⟩:=nm_ (quj x ⟨kd,ea,eb,ec,et⟩);rw[HY.out] at hs2 ⊢;obtain⟨⟨B1,d1,rfl⟩,⟨B2,d2,rfl⟩,⟨B3,d3,rfl⟩,⟨B4,d4,rfl⟩⟩:=hs2.sl;obtain⟨q,HQ⟩:=nm_ w2.heap.size;obtain⟨W2,HW2⟩:=nm_ (w2.alloc (.cells #[.int .i64 y.sec,.int .i64 y.bad,.slice B1 y.feeds.length d1,.slice B2 y.links.length d2,.slice B3 y.asked.length d3,.slice B4 y.net.length d4] 28));have hb12:Below W1.heap.size W1 W2:=by rw[←HW2.out];exact qab hb2 _
 have HX2:=hI_ ((hb12.block _ (qai HX1.out)).trans HX1.out);have HE2:=hI_ ((hb12.block _ (qai HE1.out)).trans HE1.out);have HY2:Hid (W2.heap[q]? =some (.cells #[.int .i64 y.sec,.int .i64 y.bad,.slice B1 y.feeds.length d1,.slice B2 y.links.length d2,.slice B3 y.asked.length d3,.slice B4 y.net.length d4] 28 (0,0))):=hI_ bh_;have HS2:=hI_ (HS1.out.below hb12);have HT2:Hid (WdS W2 y (.slice B1 y.feeds.length d1) (.slice B2 y.links.length d2) (.slice B3 y.asked.length d3) (.slice B4 y.net.length d4)):=hI_ bi_;have HB2:=hI_ (HB1.out.trans (hb12.mono HB1.out.size));clear hp2 hb2 hs2 hb12 t0 t1 t2 t3 t4 t5 tf v0 v1 v2 v3 v4 vf;obtain⟨t0,t1,t2,t3,t4,t5,tf⟩:=qaa HX2.out;obtain⟨v0,v1,v2,v3,v4,vf⟩:=qrL HE2.out;go_upto_region 5 with fail
 rw[HW2.out,HQ.out];go_wp2_with fail
 refine(qtE x ⟨kd,ea,eb,ec,et⟩ _ _ _ _ W2 HS2.out HD.out.t HTE.out).mono ?_;rintro e w3 ⟨vF,vL,vA,vN,rfl,hs3,hb3⟩;rw[HY.out] at hs3 ⊢;obtain⟨⟨E1,e1,rfl⟩,⟨E2,e2,rfl⟩,⟨E3,e3,rfl⟩,⟨E4,e4,rfl⟩⟩:=hs3.sl;obtain⟨r,HR⟩:=nm_ w3.heap.size;obtain⟨W3,HW3⟩:=nm_ (w3.alloc (.cells #[.int .i64 y.sec,.int .i64 y.bad,.slice E1 y.feeds.length e1,.slice E2 y.links.length e2,.slice E3 y.asked.length e3,.slice E4 y.net.length e4] 28));have hb23:Below W2.heap.size W2 W3:=by rw[←HW3.out];exact qab hb3 _
 have HC3:Hid (DoW w p q r x y ⟨kd,ea,eb,ec,et⟩ (.slice A1 x.feeds.length c1) (.slice A2 x.links.length c2) (.slice A3 x.asked.length c3) (.slice A4 x.net.length c4) (.slice B1 y.feeds.length d1) (.slice B2 y.links.length d2) (.slice B3 y.asked.length d3) (.slice B4 y.net.length d4) (.slice E1 y.feeds.length e1) (.slice E2 y.links.length e2) (.slice E3 y.asked.length e3) (.slice E4 y.net.length e4) W3):=hI_ ⟨(hb23.block _ (qai HX2.out)).trans HX2.out,(hb23.block _ (qai HE2.out)).trans HE2.out,(hb23.block _ (qai HY2.out)).trans HY2.out,bj_,HS2.out.below hb23,HT2.out.below hb23,bk_,HB2.out.trans (hb23.mono HB2.out.size)⟩;clear hb23 hb3 hs3 t0 t1 t2 t3 t4 t5 tf v0 v1 v2 v3 v4 vf HX1 HE1 HX2 HE2 HY2 HS1 HS2 HT2 HB1 HB2;obtain⟨t0,t1,t2,t3,t4,t5,tf⟩:=qaa HC3.out.by_;obtain⟨z0,z1,z2,z3,z4,z5,zf⟩:=qaa HC3.out.bz;go_upto_region 6 with fail
 rw[HW3.out,HR.out];go_wp2_with fail
 refine(qcK y _ _ _ _ _ _ _ _ W3 HC3.out.sy.r HC3.out.sz.r).mono ?_;rintro e w4 ⟨rfl,hb4⟩;have HC4:=hI_ (HC3.out.below hb4);clear hb4 t0 t1 t2 t3 t4 t5 tf z0 z1 z2 z3 z4 z5 zf HC3;obtain⟨t0,t1,t2,t3,t4,t5,tf⟩:=qaa HC4.out.bx;go_wp2_with fail
 refine(qdO x _ _ _ _ w4 HC4.out.sx.r HD.out.t).mono ?_;rintro e w5 ⟨rfl,hb5⟩;have HC5:=hI_ (HC4.out.below hb5);clear hb5 t0 t1 t2 t3 t4 t5 tf HC4;obtain⟨bv,HBV⟩:=nm_ (qcc x);rw[HBV.out];obtain⟨t0,t1,t2,t3,t4,t5,tf⟩:=qaa HC5.out.by_;obtain⟨z0,z1,z2,z3,z4,z5,zf⟩:=qaa HC5.out.bz;cases bv
 · go_wp2_with fail
   refine(qcK y _ _ _ _ _ _ _ _ w5 HC5.out.sy.r HC5.out.sz.r).mono ?_;rintro e w6 ⟨rfl,hb6⟩;have HC6:=hI_ (HC5.out.below hb6);clear hb6 t0 t1 t2 t3 t4 t5 tf z0 z1 z2 z3 z4 z5 zf;go_wp2_with fail
   go_ret;exact⟨rfl,HC6.out.o⟩
 have HWX:Hid (WV x):=hI_ (qcq.1 HBV.out);have HWY:Hid (WV y):=hI_ bz_;have HYD:Hid (wdo x ⟨kd,ea,eb,ec,et⟩=y):=hI_ bB_;obtain⟨p0,p1,p2,p3,p4,p5,pf⟩:=qaa HC5.out.bx;have hnm:=HWX.out.nn;have hsm:=HCS.out;by_cases hz:x.net.length=0
 · have hz':((x.net.length:Int)==0)=true:=by rw[hz];rfl
   clear hz;go_wp2_with fail
   refine(qcK y _ _ _ _ _ _ _ _ w5 HC5.out.sy.r HC5.out.sz.r).mono ?_;rintro e w6 ⟨rfl,hb6⟩;have HC6:=hI_ (HC5.out.below hb6);clear hb6 t0 t1 t2 t3 t4 t5 tf z0 z1 z2 z3 z4 z5 zf p0 p1 p2 p3 p4 p5 pf;go_wp2_with fail
   go_ret;exact⟨rfl,HC6.out.o⟩
 have hz':((x.net.length:Int)==0)=false:=by simpa using hz
 clear t0 t1 t2 t3 t4 t5 tf z0 z1 z2 z3 z4 z5 zf;obtain⟨k,HK⟩:∃ k:Nat,Hid (cs.length%x.net.length=k):=⟨_,hI_ rfl⟩
 have hkn:k<x.net.length:=by rw[←HK.out];exact Nat.mod_lt _ a_
 have htm:((cs.length:Int)).tmod (x.net.length:Int)=(k:Int):=by rw[←HK.out,Int.tmod_eq_emod_of_nonneg (Int.natCast_nonneg _)];rfl
 obtain⟨z,HZE⟩:=nm_ (qgz x k false);have HZD:Hid (quj x ⟨7,k,0,0,⟨#[]⟩⟩=z):=hI_ (by rw[qr7 HBV.out,←HZE.out];rfl);have HTZ:Hid ((⟨#[]⟩:ByteArray).size≤maxLen):=hI_ (Nat.zero_le _);have HKN:=hI_ hkn;go_wp2_with fail
 refine(qtD x ⟨7,k,0,0,⟨#[]⟩⟩ _ _ _ _ w5 HC5.out.sx.r HD.out.t HTZ.out (HER.out.next HLT.out HC5.out.o)).mono ?_;rintro e w6 ⟨vF,vL,vA,vN,rfl,hp6,hb6⟩;have hs6:=hp6.st;rw[HZD.out] at hs6 ⊢;obtain⟨⟨F1,f1,rfl⟩,⟨F2,f2,rfl⟩,⟨F3,f3,rfl⟩,⟨F4,f4,rfl⟩⟩:=hs6.sl;obtain⟨g,HG⟩:=nm_ w6.heap.size;obtain⟨W7,HW7⟩:=nm_ (w6.alloc (.cells #[.int .i64 z.sec,.int .i64 z.bad,.slice F1 z.feeds.length f1,.slice F2 z.links.length f2,.slice F3 z.asked.length f3,.slice F4 z.net.length f4] 28));have hb67:Below w6.heap.size w6 W7:=by rw[←HW7.out];exact qab (bR_ _ _) _
 have HC7:=hI_ ((HC5.out.below hb6).below hb67);have HS7:=hI_ (hs6.below hb67);have HN7:Hid (W7.heap[g]? =some (.cells #[.int .i64 z.sec,.int .i64 z.bad,.slice F1 z.feeds.length f1,.slice F2 z.links.length f2,.slice F3 z.asked.length f3,.slice F4 z.net.length f4] 28 (0,0))):=hI_ bD_;clear hp6 hb6 hs6 hb67 p0 p1 p2 p3 p4 p5 pf htm hkn;go_upto_region 10 with fail
 rw[HW7.out,HG.out];have lp:=qai HC7.out.bx;have lg:=qai HN7.out;have hm1:=HC7.out.sx.r.feeds.len;unfold maxLen at hm1;have hzn:z.feeds.length=x.feeds.length:=by rw[←HZE.out];exact qvh ⟨7,k,0,0,⟨#[]⟩⟩
 have HZN:=hI_ hzn;have HNA:=hI_ HWX.out.na;clear hzn;go_wp2_with fail
 go_loopw [11] (fun i wr=>∃ j:Nat,j≤x.feeds.length∧i=.int .i64 j∧Below W7.heap.size W7 wr) (fun i _=>x.feeds.length-(intOf i).toNat)
 case atStart=>exact⟨0,Nat.zero_le _,rfl,bR_ _ _⟩
 case round=>
  obtain⟨j,hj,rfl,hbw⟩:=hrel;obtain⟨wr1,rfl⟩:∃ W,W=wr:=⟨_,rfl⟩
  have HBW:=hI_ hbw;obtain⟨p0,p1,p2,p3,p4,p5,pf⟩:=qaa ((hbw.block _ lp).trans HC7.out.bx);by_cases hlt:j<x.feeds.length
  · have hji:(j:Int)<(x.feeds.length:Int):=a_;have hj0:(0:Int)≤(j:Int):=a_;have hzl:j<z.feeds.length:=by rw[HZN.out];exact hlt
    have hzl':(j:Int)<(z.feeds.length:Int):=a_;have hkn:=HKN.out;have hki:(k:Int)<(x.net.length:Int):=a_;have hk0:(0:Int)≤(k:Int):=a_;have lp':=nL_ lp hbw.size;have lg':=nL_ lg hbw.size;obtain⟨g0,g1,g2,g3,g4,g5,gf⟩:=qaa ((hbw.block _ lg).trans HN7.out);obtain⟨bn,on,_,hA,hbn,_,n1,_,_,_,_,_⟩:=(HC7.out.sx.r.net.below hbw).at_ hkn;subst hA;have hto:=qak.1 (HWX.out.wi.pcs k hkn).2.1;obtain⟨tt,HTT⟩:=nm_ (x.net[k].to_);rw[HTT.out] at n1 hto;have hup:=qap wr1;have HREL:Hid (∀ W,Below wr1.heap.size wr1 W→Below W7.heap.size W7 W):=hI_ (fun W h=>HBW.out.trans (h.mono HBW.out.size));by_cases hq:(j:Int)=tt
    · have hq':((j:Int)!=tt)=false:=by rw[hq];simp
      clear hq hbw;go_wp2_with fail
      refine qoH ?_;repeat(go_big_quiet_step (fail))
      refine wq_ fun w1 hb1=>?_;clear hup p0 p1 p2 p3 p4 p5 pf g0 g1 g2 g3 g4 g5 gf;go_wp2_with fail
      go_roundw
      case rel=>exact⟨j+1,a_,t_,HREL.out _ hb1⟩
      case measure=>simp[intOf];omega
    · have hq':((j:Int)!=tt)=true:=bne_iff_ne.2 hq;have hd:=qvj hkn (i:=j) (by rw[HTT.out];omega);rw[HZE.out] at hd;obtain⟨r1,r2,r3,r4⟩:=hd;have hla:j<x.asked.length:=by rw[HNA.out];exact hlt
      have hlz:j<z.asked.length:=by rw[r4];exact hla
      have hla':(j:Int)<(x.asked.length:Int):=a_;have hlz':(j:Int)<(z.asked.length:Int):=a_;obtain⟨b,o,xb,xh,hA,hbs,e0,e1,e2,e3,e4,e5,hFk⟩:=(HC7.out.sx.r.feeds.below hbw).at_ hlt;subst hA;obtain⟨b2,o2,yb,yh,hA,hbs2,u0,u1,u2,u3,u4,u5,hG⟩:=(HS7.out.r.feeds.below hbw).at_ hzl;subst hA;obtain⟨b3,o3,va,hA,hbs3,h3,hR3⟩:=(HC7.out.sx.r.asked.below hbw).at_ hla;subst hA;obtain⟨b4,o4,vb,hA,hbs4,h4,hR4⟩:=(HS7.out.r.asked.below hbw).at_ hlz;subst hA;rw[qam hzl,qam hlt] at r1;rw[qam hlz,qam hla] at r2;rw[r1] at u0 u1 u2 u3 hG;rw[r2] at hR4;obtain⟨f,HFE⟩:=nm_ (x.feeds[j]);rw[HFE.out] at e0 e1 e2 e3 hFk u0 u1 u2 u3 hG;have HFK:=hI_ hFk;have HGK:=hI_ hG;have HR3:=hI_ hR3;have HR4:=hI_ hR4;clear hq hbw hFk hG hR3 hR4 r1 r2 r3 r4;go_wp2_with fail
      refine qoH ?_;repeat(go_big_quiet_step (first
       |(go_at_call 31;exact qal (qeR f _ _ _ _ _ (HGK.out.below (qao _ _)) (HFK.out.below (qao _ _))))
       |(go_at_call 32;exact qal (qhE x.asked[j] _ _ _ (HR4.out.below (qao _ _)) (HR3.out.below (qao _ _))))))
      refine wq_ fun w1 hb1=>?_;clear hup p0 p1 p2 p3 p4 p5 pf g0 g1 g2 g3 g4 g5 gf;go_wp2_with fail
      go_roundw
      case rel=>exact⟨j+1,a_,t_,HREL.out _ hb1⟩
      case measure=>simp[intOf];omega
  have hji:¬ (j:Int)<(x.feeds.length:Int):=a_;clear hbw;go_wp2_with fail
  go_ret;exact⟨rfl,HC7.out.o.trans (HBW.out.mono HC7.out.o.size)⟩
end Go.Proofs.YtcnpmbdkcflboaaGreatDoor

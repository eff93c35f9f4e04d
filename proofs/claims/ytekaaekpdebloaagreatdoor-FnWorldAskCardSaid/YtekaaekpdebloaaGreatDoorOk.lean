/- Walk: the law FnWorldAsk. No condition but the package's own variable. -/
import Derived.Test.YtekaaekpdebloaaGreatDoorCU
import Derived.Test.YtekaaekpdebloaaGreatDoorCR
import Derived.Test.YtekaaekpdebloaaGreatDoorCW
set_option linter.unusedVariables false
set_option linter.unusedSimpArgs false
namespace Go.Proofs.YtekaaekpdebloaaGreatDoor
open Go.RowKit
attribute [local go_sem ↓] Go.wp_at_zero Go.wp_at_succ

set_option maxHeartbeats 12800000 in
set_option maxRecDepth 100000 in
theorem FnWorldAsk_any(bs:List UInt8)(v:Value)(w:World)(hv:RU w v bs)(he:qsC w):Calls Tryz.prog 5 #[v] w fun e w'=>e=.returned (.bool true)∧Below w.heap.size w w':=by
 have HV:=hI_ hv;have HER:=hI_ he;have HLT:=hI_ he.lt;clear he;obtain⟨A,c,rfl,n1,n2,n3⟩:=hv;unfold maxLen at n2;have hbm:bs.length≤9223372036854775807:=by have:=n1.1;omega
 clear n1 n2 n3;by_cases hl:1048576<bs.length
 · have hl':(1048576:Int)<(bs.length:Int):=a_;go_enter Tryz.func5,Tryz.ntmps5
   go_wp2
   go_ret;exact⟨rfl,bR_ _ _⟩
 have hl':¬ (1048576:Int)<(bs.length:Int):=a_;clear hl;go_enter Tryz.func5,Tryz.ntmps5
 go_wp2_with fail
 refine(qr9 bs _ w HV.out).mono ?_;rintro e w1 ⟨x,uF,uL,uA,uN,⟨kd,ea,eb,ec,et⟩,rfl,hd,hs,ht,hb1⟩;obtain⟨⟨A1,c1,rfl⟩,⟨A2,c2,rfl⟩,⟨A3,c3,rfl⟩,⟨A4,c4,rfl⟩⟩:=hs.sl;unfold evC;simp only at ht;obtain⟨p,HPP⟩:=nm_ w1.heap.size;obtain⟨W1,HW1⟩:=nm_ ((w1.alloc (.cells #[.int .i64 x.sec,.int .i64 x.bad,.slice A1 x.feeds.length c1,.slice A2 x.links.length c2,.slice A3 x.asked.length c3,.slice A4 x.net.length c4] 28)).alloc (.cells #[.int .i64 kd,.int .i64 ea,.int .i64 eb,.int .i64 ec,.string et] 30));have HB1:Hid (Below w.heap.size w W1):=hI_ bv_;have HS1:Hid (WdS W1 x (.slice A1 x.feeds.length c1) (.slice A2 x.links.length c2) (.slice A3 x.asked.length c3) (.slice A4 x.net.length c4)):=hI_ bo_;have HX1:Hid (W1.heap[p]? =some (.cells #[.int .i64 x.sec,.int .i64 x.bad,.slice A1 x.feeds.length c1,.slice A2 x.links.length c2,.slice A3 x.asked.length c3,.slice A4 x.net.length c4] 28 (0,0))):=hI_ bn_;have HE1:Hid (W1.heap[p+1]? =some (.cells #[.int .i64 kd,.int .i64 ea,.int .i64 eb,.int .i64 ec,.string et] 30 (0,0))):=hI_ bq_;have HD:=hI_ hd;have HTE:Hid (et.size≤maxLen):=hI_ (Nat.le_trans ht s_);clear hd hs hb1 ht hbm hl';obtain⟨t0,t1,t2,t3,t4,t5,tf⟩:=qaa HX1.out;obtain⟨v0,v1,v2,v3,v4,vf⟩:=qrL HE1.out;go_upto_region 4 with fail
 rw[HW1.out,HPP.out];go_wp2_with fail
 refine(qtD x ⟨kd,ea,eb,ec,et⟩ _ _ _ _ W1 HS1.out.r HD.out.t HTE.out (HER.out.next HLT.out HB1.out)).mono ?_;rintro e w2 ⟨vF,vL,vA,vN,rfl,hp2,hb2⟩;have hs2:=hp2.st;obtain⟨y,HY⟩:=nm_ (quj x ⟨kd,ea,eb,ec,et⟩);rw[HY.out] at hs2 ⊢;obtain⟨⟨B1,d1,rfl⟩,⟨B2,d2,rfl⟩,⟨B3,d3,rfl⟩,⟨B4,d4,rfl⟩⟩:=hs2.sl;obtain⟨q,HQ⟩:=nm_ w2.heap.size;obtain⟨W2,HW2⟩:=nm_ (w2.alloc (.cells #[.int .i64 y.sec,.int .i64 y.bad,.slice B1 y.feeds.length d1,.slice B2 y.links.length d2,.slice B3 y.asked.length d3,.slice B4 y.net.length d4] 28));have hb12:Below W1.heap.size W1 W2:=by rw[←HW2.out];exact qab hb2 _
 have HX2:=hI_ ((hb12.block _ (qai HX1.out)).trans HX1.out);have HE2:=hI_ ((hb12.block _ (qai HE1.out)).trans HE1.out);have HY2:Hid (W2.heap[q]? =some (.cells #[.int .i64 y.sec,.int .i64 y.bad,.slice B1 y.feeds.length d1,.slice B2 y.links.length d2,.slice B3 y.asked.length d3,.slice B4 y.net.length d4] 28 (0,0))):=hI_ bh_;have HS2:=hI_ (HS1.out.below hb12);have HT2:Hid (WdS W2 y (.slice B1 y.feeds.length d1) (.slice B2 y.links.length d2) (.slice B3 y.asked.length d3) (.slice B4 y.net.length d4)):=hI_ bi_;have HB2:=hI_ (HB1.out.trans (hb12.mono HB1.out.size));clear hp2 hb2 hs2 hb12 t0 t1 t2 t3 t4 t5 tf v0 v1 v2 v3 v4 vf;obtain⟨t0,t1,t2,t3,t4,t5,tf⟩:=qaa HX2.out;obtain⟨v0,v1,v2,v3,v4,vf⟩:=qrL HE2.out;go_upto_region 5 with fail
 rw[HW2.out,HQ.out];go_wp2_with fail
 refine(qtE x ⟨kd,ea,eb,ec,et⟩ _ _ _ _ W2 HS2.out HD.out.t HTE.out).mono ?_;rintro e w3 ⟨vF,vL,vA,vN,rfl,hs3,hb3⟩;rw[HY.out] at hs3 ⊢;obtain⟨⟨E1,e1,rfl⟩,⟨E2,e2,rfl⟩,⟨E3,e3,rfl⟩,⟨E4,e4,rfl⟩⟩:=hs3.sl;obtain⟨r,HR⟩:=nm_ w3.heap.size;obtain⟨W3,HW3⟩:=nm_ (w3.alloc (.cells #[.int .i64 y.sec,.int .i64 y.bad,.slice E1 y.feeds.length e1,.slice E2 y.links.length e2,.slice E3 y.asked.length e3,.slice E4 y.net.length e4] 28));have hb23:Below W2.heap.size W2 W3:=by rw[←HW3.out];exact qab hb3 _
 have HC3:Hid (DoW w p q r x y ⟨kd,ea,eb,ec,et⟩ (.slice A1 x.feeds.length c1) (.slice A2 x.links.length c2) (.slice A3 x.asked.length c3) (.slice A4 x.net.length c4) (.slice B1 y.feeds.length d1) (.slice B2 y.links.length d2) (.slice B3 y.asked.length d3) (.slice B4 y.net.length d4) (.slice E1 y.feeds.length e1) (.slice E2 y.links.length e2) (.slice E3 y.asked.length e3) (.slice E4 y.net.length e4) W3):=hI_ ⟨(hb23.block _ (qai HX2.out)).trans HX2.out,(hb23.block _ (qai HE2.out)).trans HE2.out,(hb23.block _ (qai HY2.out)).trans HY2.out,bj_,HS2.out.below hb23,HT2.out.below hb23,bk_,HB2.out.trans (hb23.mono HB2.out.size)⟩;clear hb23 hb3 hs3 t0 t1 t2 t3 t4 t5 tf v0 v1 v2 v3 v4 vf HX1 HE1 HX2 HE2 HY2 HS1 HS2 HT2 HB1 HB2;obtain⟨t0,t1,t2,t3,t4,t5,tf⟩:=qaa HC3.out.by_;obtain⟨z0,z1,z2,z3,z4,z5,zf⟩:=qaa HC3.out.bz;go_upto_region 6 with fail
 rw[HW3.out,HR.out];obtain⟨p0,p1,p2,p3,p4,p5,pf⟩:=qaa HC3.out.bx;obtain⟨v0,v1,v2,v3,v4,vf⟩:=qrL HC3.out.be;have lp:=qai HC3.out.bx;have lv:=qai HC3.out.be;have lq:=qai HC3.out.by_;have lr:=qai HC3.out.bz;have hm1:=HC3.out.sx.r.feeds.len;unfold maxLen at hm1;have hup:=qap W3;obtain⟨bv,HBV⟩:=nm_ (qcc x);cases bv
 · refine qoH ?_;repeat(go_big_quiet_step (first
    |(go_at_call 17;exact qal (qcK y _ _ _ _ _ _ _ _ _ (HC3.out.sy.r.below (qao _ _)) (HC3.out.sz.r.below (qao _ _))))
    |(go_at_call 18;exact qal (qvs HBV _ _ _ _ _ (HC3.out.sx.r.below (qao _ _)) HD.out.t))))
   refine wpQuiet_nil ?_;intro w5 hw5;have HC5:=hI_ (HC3.out.below (qay hw5));clear hw5 hup t0 t1 t2 t3 t4 t5 tf z0 z1 z2 z3 z4 z5 zf p0 p1 p2 p3 p4 p5 pf v0 v1 v2 v3 v4 vf;obtain⟨t0,t1,t2,t3,t4,t5,tf⟩:=qaa HC5.out.by_;obtain⟨z0,z1,z2,z3,z4,z5,zf⟩:=qaa HC5.out.bz;go_wp2_with fail
   refine(qcK y _ _ _ _ _ _ _ _ w5 HC5.out.sy.r HC5.out.sz.r).mono ?_;rintro e w6 ⟨rfl,hb6⟩;have HC6:=hI_ (HC5.out.below hb6);clear hb6 t0 t1 t2 t3 t4 t5 tf z0 z1 z2 z3 z4 z5 zf;go_wp2_with fail
   go_ret;exact⟨rfl,HC6.out.o⟩
 have HWX:Hid (WV x):=hI_ (qcq.1 HBV.out);have HWY:Hid (WV y):=hI_ bz_;have HYD:Hid (wdo x ⟨kd,ea,eb,ec,et⟩=y):=hI_ bB_;by_cases hk:kd=5;rotate_left
 · have hk':¬ (kd=5):=hk;have hk1:(kd !=5)=true:=by simpa using hk
   have hk2:(kd==5)=false:=by simpa using hk
   clear hk;refine qoH ?_;repeat(go_big_quiet_step (first
    |(go_at_call 17;exact qal (qcK y _ _ _ _ _ _ _ _ _ (HC3.out.sy.r.below (qao _ _)) (HC3.out.sz.r.below (qao _ _))))
    |(go_at_call 18;exact qal (qvs HBV _ _ _ _ _ (HC3.out.sx.r.below (qao _ _)) HD.out.t))))
   refine wpQuiet_nil ?_;intro w5 hw5;have HC5:=hI_ (HC3.out.below (qay hw5));clear hw5 hup t0 t1 t2 t3 t4 t5 tf z0 z1 z2 z3 z4 z5 zf p0 p1 p2 p3 p4 p5 pf v0 v1 v2 v3 v4 vf;obtain⟨t0,t1,t2,t3,t4,t5,tf⟩:=qaa HC5.out.by_;obtain⟨z0,z1,z2,z3,z4,z5,zf⟩:=qaa HC5.out.bz;go_wp2_with fail
   refine(qcK y _ _ _ _ _ _ _ _ w5 HC5.out.sy.r HC5.out.sz.r).mono ?_;rintro e w6 ⟨rfl,hb6⟩;have HC6:=hI_ (HC5.out.below hb6);clear hb6 t0 t1 t2 t3 t4 t5 tf z0 z1 z2 z3 z4 z5 zf;go_wp2_with fail
   go_ret;exact⟨rfl,HC6.out.o⟩
 subst hk;by_cases hneg:ea<0
 · refine qoH ?_;repeat(go_big_quiet_step (first
    |(go_at_call 17;exact qal (qcK y _ _ _ _ _ _ _ _ _ (HC3.out.sy.r.below (qao _ _)) (HC3.out.sz.r.below (qao _ _))))
    |(go_at_call 18;exact qal (qvs HBV _ _ _ _ _ (HC3.out.sx.r.below (qao _ _)) HD.out.t))))
   refine wpQuiet_nil ?_;intro w5 hw5;have HC5:=hI_ (HC3.out.below (qay hw5));clear hw5 hup t0 t1 t2 t3 t4 t5 tf z0 z1 z2 z3 z4 z5 zf p0 p1 p2 p3 p4 p5 pf v0 v1 v2 v3 v4 vf;obtain⟨t0,t1,t2,t3,t4,t5,tf⟩:=qaa HC5.out.by_;obtain⟨z0,z1,z2,z3,z4,z5,zf⟩:=qaa HC5.out.bz;go_wp2_with fail
   refine(qcK y _ _ _ _ _ _ _ _ w5 HC5.out.sy.r HC5.out.sz.r).mono ?_;rintro e w6 ⟨rfl,hb6⟩;have HC6:=hI_ (HC5.out.below hb6);clear hb6 t0 t1 t2 t3 t4 t5 tf z0 z1 z2 z3 z4 z5 zf;go_wp2_with fail
   go_ret;exact⟨rfl,HC6.out.o⟩
 by_cases hge:(x.feeds.length:Int)≤ea
 · refine qoH ?_;repeat(go_big_quiet_step (first
    |(go_at_call 17;exact qal (qcK y _ _ _ _ _ _ _ _ _ (HC3.out.sy.r.below (qao _ _)) (HC3.out.sz.r.below (qao _ _))))
    |(go_at_call 18;exact qal (qvs HBV _ _ _ _ _ (HC3.out.sx.r.below (qao _ _)) HD.out.t))))
   refine wpQuiet_nil ?_;intro w5 hw5;have HC5:=hI_ (HC3.out.below (qay hw5));clear hw5 hup t0 t1 t2 t3 t4 t5 tf z0 z1 z2 z3 z4 z5 zf p0 p1 p2 p3 p4 p5 pf v0 v1 v2 v3 v4 vf;obtain⟨t0,t1,t2,t3,t4,t5,tf⟩:=qaa HC5.out.by_;obtain⟨z0,z1,z2,z3,z4,z5,zf⟩:=qaa HC5.out.bz;go_wp2_with fail
   refine(qcK y _ _ _ _ _ _ _ _ w5 HC5.out.sy.r HC5.out.sz.r).mono ?_;rintro e w6 ⟨rfl,hb6⟩;have HC6:=hI_ (HC5.out.below hb6);clear hb6 t0 t1 t2 t3 t4 t5 tf z0 z1 z2 z3 z4 z5 zf;go_wp2_with fail
   go_ret;exact⟨rfl,HC6.out.o⟩
 obtain⟨i,rfl⟩:∃ i:Nat,ea=i:=⟨ea.toNat,a_⟩
 have hi:i<x.feeds.length:=a_;have hyn:y.feeds.length=x.feeds.length:=by rw[←HYD.out];exact qvh _
 have hia:i<x.asked.length:=by rw[HWX.out.na];exact hi
 have hiy:i<y.asked.length:=by rw[HWY.out.na,hyn];exact hi
 have hia':(i:Int)<(x.asked.length:Int):=a_;have hiy':(i:Int)<(y.asked.length:Int):=a_;have hi0:(0:Int)≤(i:Int):=a_;clear hyn;obtain⟨b3,o3,va,hA,hbs3,h3,hR3⟩:=HC3.out.sz.r.asked.at_ hiy;subst hA;obtain⟨b4,o4,vb,hA,hbs4,h4,hR4⟩:=HC3.out.sx.r.asked.at_ hia;subst hA;obtain⟨A5,c5,rfl⟩:=hR3.sl;obtain⟨A6,c6,rfl⟩:=hR4.sl;have hq3:=hR3.len;have hq4:=hR4.len;unfold maxLen at hq3 hq4;clear hR3 hR4;by_cases hq:(y.asked[i]).length=(x.asked[i]).length
 · have hq':(((y.asked[i]).length:Int)==((x.asked[i]).length:Int))=true:=by rw[hq];simp
   clear hq;refine qoH ?_;repeat(go_big_quiet_step (first
    |(go_at_call 17;exact qal (qcK y _ _ _ _ _ _ _ _ _ (HC3.out.sy.r.below (qao _ _)) (HC3.out.sz.r.below (qao _ _))))
    |(go_at_call 18;exact qal (qvs HBV _ _ _ _ _ (HC3.out.sx.r.below (qao _ _)) HD.out.t))))
   refine wpQuiet_nil ?_;intro w5 hw5;have HC5:=hI_ (HC3.out.below (qay hw5));clear hw5 hup t0 t1 t2 t3 t4 t5 tf z0 z1 z2 z3 z4 z5 zf p0 p1 p2 p3 p4 p5 pf v0 v1 v2 v3 v4 vf h3 h4;obtain⟨t0,t1,t2,t3,t4,t5,tf⟩:=qaa HC5.out.by_;obtain⟨z0,z1,z2,z3,z4,z5,zf⟩:=qaa HC5.out.bz;go_wp2_with fail
   refine(qcK y _ _ _ _ _ _ _ _ w5 HC5.out.sy.r HC5.out.sz.r).mono ?_;rintro e w6 ⟨rfl,hb6⟩;have HC6:=hI_ (HC5.out.below hb6);clear hb6 t0 t1 t2 t3 t4 t5 tf z0 z1 z2 z3 z4 z5 zf;go_wp2_with fail
   go_ret;exact⟨rfl,HC6.out.o⟩
 have hq':(((y.asked[i]).length:Int)==((x.asked[i]).length:Int))=false:=by simpa using(fun h=>hq a_)
 have hask:y=qiT x i eb ec:=by rw[←HYD.out];rfl
 have hans:=qwk HWX.out (a:=i) (b:=eb) (c:=ec) (by rw[←hask,Int.toNat_natCast,qam hiy,qam hia];exact hq);obtain⟨i',j,k,hi2,hj,hii,rfl,rfl,hL,hlen,k1,k2,hv1,hv2,hln⟩:=hans;obtain rfl:i=i':=a_;rw[←hask,qam hiy,qam hia] at hln;have HHD:Hid (x.feeds[i].hd=x.feeds[j].hd):=hI_ (quY ⟨HWX.out,HD.out.z HBV.out⟩ hi hj hlen);obtain⟨f,HFE⟩:=nm_ (x.feeds[i]);obtain⟨g,HGE⟩:=nm_ (x.feeds[j]);rw[HFE.out,HGE.out] at HHD;rw[HFE.out] at k1 hv2;rw[HGE.out] at k2 hv1;have HL:=hI_ hL;clear hL hask hq hlen;refine qoH ?_;repeat(go_big_quiet_step (first
  |(go_at_call 17;exact qal (qcK y _ _ _ _ _ _ _ _ _ (HC3.out.sy.r.below (qao _ _)) (HC3.out.sz.r.below (qao _ _))))
  |(go_at_call 18;exact qal (qvs HBV _ _ _ _ _ (HC3.out.sx.r.below (qao _ _)) HD.out.t))))
 refine wpQuiet_nil ?_;intro w5 hw5;have HC5:=hI_ (HC3.out.below (qay hw5));clear hw5 hup t0 t1 t2 t3 t4 t5 tf z0 z1 z2 z3 z4 z5 zf p0 p1 p2 p3 p4 p5 pf v0 v1 v2 v3 v4 vf h3 h4 hq' lp lv lq lr;obtain⟨p0,p1,p2,p3,p4,p5,pf⟩:=qaa HC5.out.bx;obtain⟨v0,v1,v2,v3,v4,vf⟩:=qrL HC5.out.be;obtain⟨t0,t1,t2,t3,t4,t5,tf⟩:=qaa HC5.out.by_;obtain⟨b3,o3,va,hA,hbs3,h3,hR3⟩:=HC5.out.sy.r.asked.at_ hiy;subst hA;obtain⟨_,_,vb,hA,hbs4,h4,hR4⟩:=HC5.out.sx.r.asked.at_ hia;cases hA;obtain⟨A5,c5,rfl⟩:=hR3.sl;obtain⟨A6,c6,rfl⟩:=hR4.sl;have hw64:wrap64 (((x.asked[i]).length:Int)+1)=((x.asked[i]).length:Int)+1:=by unfold wrap64;omega
 have hln':(((y.asked[i]).length:Int)==wrap64 (((x.asked[i]).length:Int)+1))=true:=by rw[hw64,hln];simp
 clear hw64;have hj':(j:Int)<(x.feeds.length:Int):=a_;have hj0:(0:Int)≤(j:Int):=a_;have hi':(i:Int)<(x.feeds.length:Int):=a_;obtain⟨b1,o1,xb,xh,hA,hbs,e0,e1,e2,e3,e4,e5,hFi⟩:=HC5.out.sx.r.feeds.at_ hi;subst hA;obtain⟨_,_,yb,yh,hA,hbs',u0,u1,u2,u3,u4,u5,hFj⟩:=HC5.out.sx.r.feeds.at_ hj;cases hA;rw[HFE.out] at e1 e2 e3 hFi;rw[HGE.out] at u1 u2 u3 hFj;rw[HHD.out] at e1 e2 e3;obtain⟨A7,c7,rfl⟩:=hFi.hv.sl';obtain⟨A8,c8,rfl⟩:=hFj.hv.sl';obtain⟨b5,o5,hA,hbs5,h5⟩:=R1.at_ hFi.hv k1;subst hA;obtain⟨b6,o6,hA,hbs6,h6⟩:=R1.at_ hFj.hv k2;subst hA;rw[qam k1] at hv2;rw[qam k2] at hv1;rw[hv2] at h5;rw[hv1] at h6;have hk1:(k:Int)<(f.hv.length:Int):=a_;have hk2:(k:Int)<(g.hv.length:Int):=a_;have hk0:(0:Int)≤(k:Int):=a_;have lp:=qai HC5.out.bx;have lv:=qai HC5.out.be;have lq:=qai HC5.out.by_;have hup:=qap w5;clear hR3 hR4 hFi hFj e0 e4 u0 u4 hv1 hv2 hln;go_wp2_with fail
 refine qoH ?_;repeat(go_big_quiet_step (first|(go_at_call 27;exact qal (qvu HL _ _ _ _ _ (HC5.out.sx.r.below (qao _ _)).links))))
 refine wpQuiet_nil ?_;intro w8 hw8;have HB8:=hI_ (qay hw8);clear hw8 hup p0 p1 p2 p3 p4 p5 pf v0 v1 v2 v3 v4 vf t0 t1 t2 t3 t4 t5 tf h3 h4 h5 h6 e1 e2 e3 e5 u1 u2 u3 u5;go_wp2_with fail
 go_ret;exact⟨rfl,HC5.out.o.trans (HB8.out.mono HC5.out.o.size)⟩
end Go.Proofs.YtekaaekpdebloaaGreatDoor

/- Walk: the law FnWorldAnswer. No condition but the package's own variable. -/
import Derived.Test.YtcnpmbdkcflboaaGreatDoorCU
import Derived.Test.YtcnpmbdkcflboaaGreatDoorCT
set_option linter.unusedVariables false
set_option linter.unusedSimpArgs false
namespace Go.Proofs.YtcnpmbdkcflboaaGreatDoor
open Go.RowKit
attribute [local go_sem ↓] Go.wp_at_zero Go.wp_at_succ

set_option maxHeartbeats 12800000 in
set_option maxRecDepth 100000 in
theorem FnWorldAnswer_any(bs:List UInt8)(v:Value)(w:World)(hv:RU w v bs)(he:qsC w):Calls Tryz.prog 7 #[v] w fun e w'=>e=.returned (.bool true)∧Below w.heap.size w w':=by
 have HV:=hI_ hv;have HER:=hI_ he;have HLT:=hI_ he.lt;clear he;obtain⟨A,c,rfl,n1,n2,n3⟩:=hv;unfold maxLen at n2;have hbm:bs.length≤9223372036854775807:=by have:=n1.1;omega
 clear n1 n2 n3;by_cases hl:1048576<bs.length
 · have hl':(1048576:Int)<(bs.length:Int):=a_;go_enter Tryz.func7,Tryz.ntmps7
   go_wp2
   go_ret;exact⟨rfl,bR_ _ _⟩
 have hl':¬ (1048576:Int)<(bs.length:Int):=a_;clear hl;go_enter Tryz.func7,Tryz.ntmps7
 go_wp2_with fail
 refine(qr9 bs _ w HV.out).mono ?_;rintro e w1 ⟨x,uF,uL,uA,uN,⟨kd,ea,eb,ec,et⟩,rfl,hd,hs,ht,hb1⟩;obtain⟨⟨A1,c1,rfl⟩,⟨A2,c2,rfl⟩,⟨A3,c3,rfl⟩,⟨A4,c4,rfl⟩⟩:=hs.sl;unfold evC;simp only at ht;obtain⟨p,HPP⟩:=nm_ w1.heap.size;obtain⟨W1,HW1⟩:=nm_ ((w1.alloc (.cells #[.int .i64 x.sec,.int .i64 x.bad,.slice A1 x.feeds.length c1,.slice A2 x.links.length c2,.slice A3 x.asked.length c3,.slice A4 x.net.length c4] 28)).alloc (.cells #[.int .i64 kd,.int .i64 ea,.int .i64 eb,.int .i64 ec,.string et] 52));have HB1:Hid (Below w.heap.size w W1):=hI_ bv_;have HS1:Hid (WdS W1 x (.slice A1 x.feeds.length c1) (.slice A2 x.links.length c2) (.slice A3 x.asked.length c3) (.slice A4 x.net.length c4)):=hI_ bo_;have HX1:Hid (W1.heap[p]? =some (.cells #[.int .i64 x.sec,.int .i64 x.bad,.slice A1 x.feeds.length c1,.slice A2 x.links.length c2,.slice A3 x.asked.length c3,.slice A4 x.net.length c4] 28 (0,0))):=hI_ bn_;have HE1:Hid (W1.heap[p+1]? =some (.cells #[.int .i64 kd,.int .i64 ea,.int .i64 eb,.int .i64 ec,.string et] 52 (0,0))):=hI_ bq_;have HD:=hI_ hd;have HTE:Hid (et.size≤maxLen):=hI_ (Nat.le_trans ht s_);clear hd hs hb1 ht hbm hl';obtain⟨t0,t1,t2,t3,t4,t5,tf⟩:=qaa HX1.out;obtain⟨v0,v1,v2,v3,v4,vf⟩:=qrL HE1.out;go_upto_region 4 with fail
 rw[HW1.out,HPP.out];go_wp2_with fail
 refine(qtD x ⟨kd,ea,eb,ec,et⟩ _ _ _ _ W1 HS1.out.r HD.out.t HTE.out (HER.out.next HLT.out HB1.out)).mono ?_;rintro e w2 ⟨vF,vL,vA,vN,rfl,hp2,hb2⟩;have hs2:=hp2.st;obtain⟨y,HY⟩:=nm_ (quj x ⟨kd,ea,eb,ec,et⟩);rw[HY.out] at hs2 ⊢;obtain⟨⟨B1,d1,rfl⟩,⟨B2,d2,rfl⟩,⟨B3,d3,rfl⟩,⟨B4,d4,rfl⟩⟩:=hs2.sl;obtain⟨q,HQ⟩:=nm_ w2.heap.size;obtain⟨W2,HW2⟩:=nm_ (w2.alloc (.cells #[.int .i64 y.sec,.int .i64 y.bad,.slice B1 y.feeds.length d1,.slice B2 y.links.length d2,.slice B3 y.asked.length d3,.slice B4 y.net.length d4] 28));have hb12:Below W1.heap.size W1 W2:=by rw[←HW2.out];exact qab hb2 _
 have HX2:=hI_ ((hb12.block _ (qai HX1.out)).trans HX1.out);have HE2:=hI_ ((hb12.block _ (qai HE1.out)).trans HE1.out);have HY2:Hid (W2.heap[q]? =some (.cells #[.int .i64 y.sec,.int .i64 y.bad,.slice B1 y.feeds.length d1,.slice B2 y.links.length d2,.slice B3 y.asked.length d3,.slice B4 y.net.length d4] 28 (0,0))):=hI_ bh_;have HS2:=hI_ (HS1.out.below hb12);have HT2:Hid (WdS W2 y (.slice B1 y.feeds.length d1) (.slice B2 y.links.length d2) (.slice B3 y.asked.length d3) (.slice B4 y.net.length d4)):=hI_ bi_;have HB2:=hI_ (HB1.out.trans (hb12.mono HB1.out.size));clear hp2 hb2 hs2 hb12 t0 t1 t2 t3 t4 t5 tf v0 v1 v2 v3 v4 vf;obtain⟨t0,t1,t2,t3,t4,t5,tf⟩:=qaa HX2.out;obtain⟨v0,v1,v2,v3,v4,vf⟩:=qrL HE2.out;go_upto_region 5 with fail
 rw[HW2.out,HQ.out];go_wp2_with fail
 refine(qtE x ⟨kd,ea,eb,ec,et⟩ _ _ _ _ W2 HS2.out HD.out.t HTE.out).mono ?_;rintro e w3 ⟨vF,vL,vA,vN,rfl,hs3,hb3⟩;rw[HY.out] at hs3 ⊢;obtain⟨⟨E1,e1,rfl⟩,⟨E2,e2,rfl⟩,⟨E3,e3,rfl⟩,⟨E4,e4,rfl⟩⟩:=hs3.sl;obtain⟨r,HR⟩:=nm_ w3.heap.size;obtain⟨W3,HW3⟩:=nm_ (w3.alloc (.cells #[.int .i64 y.sec,.int .i64 y.bad,.slice E1 y.feeds.length e1,.slice E2 y.links.length e2,.slice E3 y.asked.length e3,.slice E4 y.net.length e4] 28));have hb23:Below W2.heap.size W2 W3:=by rw[←HW3.out];exact qab hb3 _
 have HC3:Hid (DoW w p q r x y ⟨kd,ea,eb,ec,et⟩ (.slice A1 x.feeds.length c1) (.slice A2 x.links.length c2) (.slice A3 x.asked.length c3) (.slice A4 x.net.length c4) (.slice B1 y.feeds.length d1) (.slice B2 y.links.length d2) (.slice B3 y.asked.length d3) (.slice B4 y.net.length d4) (.slice E1 y.feeds.length e1) (.slice E2 y.links.length e2) (.slice E3 y.asked.length e3) (.slice E4 y.net.length e4) W3):=hI_ ⟨(hb23.block _ (qai HX2.out)).trans HX2.out,(hb23.block _ (qai HE2.out)).trans HE2.out,(hb23.block _ (qai HY2.out)).trans HY2.out,bj_,HS2.out.below hb23,HT2.out.below hb23,bk_,HB2.out.trans (hb23.mono HB2.out.size)⟩;clear hb23 hb3 hs3 t0 t1 t2 t3 t4 t5 tf v0 v1 v2 v3 v4 vf HX1 HE1 HX2 HE2 HY2 HS1 HS2 HT2 HB1 HB2;obtain⟨t0,t1,t2,t3,t4,t5,tf⟩:=qaa HC3.out.by_;obtain⟨z0,z1,z2,z3,z4,z5,zf⟩:=qaa HC3.out.bz;go_upto_region 6 with fail
 rw[HW3.out,HR.out];go_wp2_with fail
 refine(qcK y _ _ _ _ _ _ _ _ W3 HC3.out.sy.r HC3.out.sz.r).mono ?_;rintro e w4 ⟨rfl,hb4⟩;have HC4:=hI_ (HC3.out.below hb4);clear hb4 t0 t1 t2 t3 t4 t5 tf z0 z1 z2 z3 z4 z5 zf HC3;obtain⟨t0,t1,t2,t3,t4,t5,tf⟩:=qaa HC4.out.bx;go_wp2_with fail
 refine(qdO x _ _ _ _ w4 HC4.out.sx.r HD.out.t).mono ?_;rintro e w5 ⟨rfl,hb5⟩;have HC5:=hI_ (HC4.out.below hb5);clear hb5 t0 t1 t2 t3 t4 t5 tf HC4;obtain⟨bv,HBV⟩:=nm_ (qcc x);rw[HBV.out];obtain⟨t0,t1,t2,t3,t4,t5,tf⟩:=qaa HC5.out.by_;obtain⟨z0,z1,z2,z3,z4,z5,zf⟩:=qaa HC5.out.bz;cases bv
 · go_wp2_with fail
   refine(qcK y _ _ _ _ _ _ _ _ w5 HC5.out.sy.r HC5.out.sz.r).mono ?_;rintro e w6 ⟨rfl,hb6⟩;have HC6:=hI_ (HC5.out.below hb6);clear hb6 t0 t1 t2 t3 t4 t5 tf z0 z1 z2 z3 z4 z5 zf;go_wp2_with fail
   go_ret;exact⟨rfl,HC6.out.o⟩
 have HWX:Hid (WV x):=hI_ (qcq.1 HBV.out);have HWY:Hid (WV y):=hI_ bz_;have HYD:Hid (wdo x ⟨kd,ea,eb,ec,et⟩=y):=hI_ bB_;obtain⟨v0,v1,v2,v3,v4,vf⟩:=qrL HC5.out.be;by_cases hk:kd=6;rotate_left
 · have hk':¬ (kd=6):=hk;go_wp2_with fail
   refine(qcK y _ _ _ _ _ _ _ _ w5 HC5.out.sy.r HC5.out.sz.r).mono ?_;rintro e w6 ⟨rfl,hb6⟩;have HC6:=hI_ (HC5.out.below hb6);clear hb6 t0 t1 t2 t3 t4 t5 tf z0 z1 z2 z3 z4 z5 zf v0 v1 v2 v3 v4 vf;go_wp2_with fail
   go_ret;exact⟨rfl,HC6.out.o⟩
 subst hk;obtain⟨p0,p1,p2,p3,p4,p5,pf⟩:=qaa HC5.out.bx;have hnx:=HWX.out.nn;have hny:=HWY.out.nn;by_cases hn:y.net.length=x.net.length
 · have hn':((y.net.length:Int)==(x.net.length:Int))=true:=by rw[hn];simp
   clear hn;go_wp2_with fail
   refine(qcK y _ _ _ _ _ _ _ _ w5 HC5.out.sy.r HC5.out.sz.r).mono ?_;rintro e w6 ⟨rfl,hb6⟩;have HC6:=hI_ (HC5.out.below hb6);clear hb6 t0 t1 t2 t3 t4 t5 tf z0 z1 z2 z3 z4 z5 zf p0 p1 p2 p3 p4 p5 pf v0 v1 v2 v3 v4 vf;go_wp2_with fail
   go_ret;exact⟨rfl,HC6.out.o⟩
 have hn':((y.net.length:Int)==(x.net.length:Int))=false:=by simpa using(fun h=>hn a_)
 by_cases hb:eb=x.bad
 · have hb':(eb==x.bad)=true:=by rw[hb];simp
   clear hb;go_wp2_with fail
   refine(qcK y _ _ _ _ _ _ _ _ w5 HC5.out.sy.r HC5.out.sz.r).mono ?_;rintro e w6 ⟨rfl,hb6⟩;have HC6:=hI_ (HC5.out.below hb6);clear hb6 t0 t1 t2 t3 t4 t5 tf z0 z1 z2 z3 z4 z5 zf p0 p1 p2 p3 p4 p5 pf v0 v1 v2 v3 v4 vf;go_wp2_with fail
   go_ret;exact⟨rfl,HC6.out.o⟩
 have hb':(eb==x.bad)=false:=by simpa using hb
 have hans:=qvn HWX.out (a:=ea) (b:=eb) (c:=ec) (t:=et) hb;rw[←qvl (x:=x) (e:=⟨6,ea,eb,ec,et⟩) rfl,HYD.out] at hans;obtain⟨j,k,hj,hk,rfl,rfl,hnet,hsz,hck⟩:=hans hn;obtain⟨f,HFE⟩:=nm_ (x.feeds[j]);have hk':k<f.bl.length:=by rw[←HFE.out];exact hk
 obtain⟨T,HT⟩:=nm_ (f.bl[k]);have HTX:Hid (x.feeds[j].bl[k]=T):=hI_ (by rw[←HT.out];congr 1;rw[HFE.out]);rw[HTX.out,HFE.out] at hnet hck;rw[HTX.out] at hsz;obtain⟨prf,HPR⟩:=nm_ (qaQ ((lvs x.f0.bl).take f.hd.len.toNat) k);rw[HPR.out] at hnet hck;have HCK:=hI_ hck;have HSZ:=hI_ hsz;obtain⟨dT,HDT⟩:=nm_ (qbi T.data.toList);rw[HDT.out] at HCK;have hyl:x.net.length<y.net.length:=by rw[hnet];simp
 have hyn:y.net[x.net.length]=⟨j,ea,f.hd.len,k,T,prf⟩:=by simp only[hnet,List.getElem_concat_length]
 obtain⟨bn,on,vp,hA,hbn,n0,n1,n2,n3,n4,n5,hRI⟩:=HC5.out.sy.r.net.at_ hyl;subst hA;rw[hyn] at n0 n1 n2 n3 n4 hRI;obtain⟨vA,vc,rfl⟩:=hRI.sl';have HRI:=hI_ hRI;have hyl':(x.net.length:Int)<(y.net.length:Int):=a_;have hyl0:(0:Int)≤(x.net.length:Int):=a_;clear HTX hRI hyn hnet hck hsz hn hb hk;obtain⟨g,HG⟩:=nm_ w5.heap.size;obtain⟨W6,HW6⟩:=nm_ (w5.alloc (.cells #[.int .i64 j,.int .i64 ea,.int .i64 f.hd.len,.int .i64 k,.string T,.slice vA prf.length vc] 58));go_upto_region 9 with fail
 rw[HW6.out,HG.out];have hb56:Below w5.heap.size w5 W6:=by rw[←HW6.out];exact qab (bR_ _ _) _
 have HC6:=hI_ (HC5.out.below hb56);have HG6:Hid (W6.heap[g]? =some (.cells #[.int .i64 j,.int .i64 ea,.int .i64 f.hd.len,.int .i64 k,.string T,.slice vA prf.length vc] 58 (0,0))):=hI_ bE_;have HRI6:=hI_ (HRI.out.below hb56);clear hb56 t0 t1 t2 t3 t4 t5 tf z0 z1 z2 z3 z4 z5 zf p0 p1 p2 p3 p4 p5 pf v0 v1 v2 v3 v4 vf n0 n1 n2 n3 n4 n5;obtain⟨p0,p1,p2,p3,p4,p5,pf⟩:=qaa HC6.out.bx;obtain⟨v0,v1,v2,v3,v4,vf⟩:=qrL HC6.out.be;have hj':(j:Int)<(x.feeds.length:Int):=a_;have hj0:(0:Int)≤(j:Int):=a_;have hm1:=HC6.out.sx.r.feeds.len;unfold maxLen at hm1;obtain⟨b,o,xb,xh,hA,hbs,e0,e1,e2,e3,e4,e5,hFk⟩:=HC6.out.sx.r.feeds.at_ hj;subst hA;rw[HFE.out] at e1 e2 e3;obtain⟨h,HH⟩:=nm_ W6.heap.size;obtain⟨W7,HW7⟩:=nm_ (W6.alloc (.cells #[.int .i64 f.hd.len,.int .i64 f.hd.dg,.int .i64 f.hd.sg] 36));clear hFk;go_upto_region 10 with fail
 rw[HW7.out,HH.out];have hb67:Below W6.heap.size W6 W7:=by rw[←HW7.out];exact qab (bR_ _ _) _
 have HC7:=hI_ (HC6.out.below hb67);have HG7:=hI_ ((hb67.block _ (qai HG6.out)).trans HG6.out);have HH7:Hid (W7.heap[h]? =some (.cells #[.int .i64 f.hd.len,.int .i64 f.hd.dg,.int .i64 f.hd.sg] 36 (0,0))):=hI_ (by rw[←HW7.out,←HH.out];exact heap_alloc_new _ _);have HRI7:=hI_ (HRI6.out.below hb67);clear hb67 p0 p1 p2 p3 p4 p5 pf v0 v1 v2 v3 v4 vf e0 e1 e2 e3 e4 e5 hbs;obtain⟨p0,p1,p2,p3,p4,p5,pf⟩:=qaa HC7.out.bx;obtain⟨v0,v1,v2,v3,v4,vf⟩:=qrL HC7.out.be;obtain⟨g0,g1,g2,g3,g4,g5,gf⟩:=qaa HG7.out;obtain⟨h0,h1,h2,hf⟩:=qaS HH7.out;obtain⟨_,_,xb,xh,hA,hbs,e0,e1,e2,e3,e4,e5,hFk⟩:=HC7.out.sx.r.feeds.at_ hj;cases hA;rw[HFE.out] at hFk;obtain⟨xA,xc,rfl⟩:=hFk.bl.sl';have hkb:(k:Int)<(f.bl.length:Int):=a_;have hkb0:(0:Int)≤(k:Int):=a_;obtain⟨b2,o2,hA,hbs2,h4⟩:=R1.at_ hFk.bl hk';subst hA;rw[HT.out] at h4;have lp:=qai HC7.out.bx;have lv:=qai HC7.out.be;have lg:=qai HG7.out;have lh:=qai HH7.out;have hup:=qap W7;clear e0 e1 e2 e3 e5 hFk;refine qoH ?_;repeat(go_big_quiet_step (first
  |(go_at_call 30;exact qaj (qbC HDT _ HSZ.out))
  |(go_at_call 29;exact qal (qff HCK _ _ (HRI7.out.below (qao _ _))))))
 refine wpQuiet_nil ?_;intro w8 hw8;have HB8:=hI_ (qay hw8);clear hw8 hup p0 p1 p2 p3 p4 p5 pf v0 v1 v2 v3 v4 vf g0 g1 g2 g3 g4 g5 gf h0 h1 h2 hf h4 e4;go_wp2_with fail
 go_ret;exact⟨rfl,HC7.out.o.trans (HB8.out.mono HC7.out.o.size)⟩
end Go.Proofs.YtcnpmbdkcflboaaGreatDoor

/- Walk: the law FnWorldKeepsBlocks. No condition but the package's own variable. -/
import Derived.Test.YtcnpmbdkcflboaaGreatDoorCU
import Derived.Test.YtcnpmbdkcflboaaGreatDoorCT
set_option linter.unusedVariables false
set_option linter.unusedSimpArgs false
namespace Go.Proofs.YtcnpmbdkcflboaaGreatDoor
open Go.RowKit
attribute [local go_sem ↓] Go.wp_at_zero Go.wp_at_succ

set_option maxHeartbeats 12800000 in
set_option maxRecDepth 100000 in
theorem FnWorldKeepsBlocks_any(bs:List UInt8)(v:Value)(w:World)(hv:RU w v bs)(he:qsC w):Calls Tryz.prog 12 #[v] w fun e w'=>e=.returned (.bool true)∧Below w.heap.size w w':=by
 have HV:=hI_ hv;have HER:=hI_ he;have HLT:=hI_ he.lt;clear he;obtain⟨A,c,rfl,n1,n2,n3⟩:=hv;unfold maxLen at n2;have hbm:bs.length≤9223372036854775807:=by have:=n1.1;omega
 clear n1 n2 n3;by_cases hl:1048576<bs.length
 · have hl':(1048576:Int)<(bs.length:Int):=a_;go_enter Tryz.func12,Tryz.ntmps12
   go_wp2
   go_ret;exact⟨rfl,bR_ _ _⟩
 have hl':¬ (1048576:Int)<(bs.length:Int):=a_;clear hl;go_enter Tryz.func12,Tryz.ntmps12
 go_wp2_with fail
 refine(qr9 bs _ w HV.out).mono ?_;rintro e w1 ⟨x,uF,uL,uA,uN,⟨kd,ea,eb,ec,et⟩,rfl,hd,hs,ht,hb1⟩;obtain⟨⟨A1,c1,rfl⟩,⟨A2,c2,rfl⟩,⟨A3,c3,rfl⟩,⟨A4,c4,rfl⟩⟩:=hs.sl;unfold evC;simp only at ht;obtain⟨p,HPP⟩:=nm_ w1.heap.size;obtain⟨W1,HW1⟩:=nm_ ((w1.alloc (.cells #[.int .i64 x.sec,.int .i64 x.bad,.slice A1 x.feeds.length c1,.slice A2 x.links.length c2,.slice A3 x.asked.length c3,.slice A4 x.net.length c4] 28)).alloc (.cells #[.int .i64 kd,.int .i64 ea,.int .i64 eb,.int .i64 ec,.string et] 52));have HB1:Hid (Below w.heap.size w W1):=hI_ bv_;have HS1:Hid (WdS W1 x (.slice A1 x.feeds.length c1) (.slice A2 x.links.length c2) (.slice A3 x.asked.length c3) (.slice A4 x.net.length c4)):=hI_ bo_;have HX1:Hid (W1.heap[p]? =some (.cells #[.int .i64 x.sec,.int .i64 x.bad,.slice A1 x.feeds.length c1,.slice A2 x.links.length c2,.slice A3 x.asked.length c3,.slice A4 x.net.length c4] 28 (0,0))):=hI_ bn_;have HE1:Hid (W1.heap[p+1]? =some (.cells #[.int .i64 kd,.int .i64 ea,.int .i64 eb,.int .i64 ec,.string et] 52 (0,0))):=hI_ bq_;have HD:=hI_ hd;have HTE:Hid (et.size≤maxLen):=hI_ (Nat.le_trans ht s_);clear hd hs hb1 ht hbm hl';obtain⟨t0,t1,t2,t3,t4,t5,tf⟩:=qaa HX1.out;obtain⟨v0,v1,v2,v3,v4,vf⟩:=qrL HE1.out;go_upto_region 4 with fail
 rw[HW1.out,HPP.out];go_wp2_with fail
 refine(qtD x ⟨kd,ea,eb,ec,et⟩ _ _ _ _ W1 HS1.out.r HD.out.t HTE.out (HER.out.next HLT.out HB1.out)).mono ?_;rintro e w2 ⟨vF,vL,vA,vN,rfl,hp2,hb2⟩;have hs2:=hp2.st;obtain⟨y,HY⟩:=nm_ (quj x ⟨kd,ea,eb,ec,et⟩);rw[HY.out] at hs2 ⊢;obtain⟨⟨B1,d1,rfl⟩,⟨B2,d2,rfl⟩,⟨B3,d3,rfl⟩,⟨B4,d4,rfl⟩⟩:=hs2.sl;obtain⟨q,HQ⟩:=nm_ w2.heap.size;obtain⟨W2,HW2⟩:=nm_ (w2.alloc (.cells #[.int .i64 y.sec,.int .i64 y.bad,.slice B1 y.feeds.length d1,.slice B2 y.links.length d2,.slice B3 y.asked.length d3,.slice B4 y.net.length d4] 28));have hb12:Below W1.heap.size W1 W2:=by rw[←HW2.out];exact qab hb2 _
 have HX2:=hI_ ((hb12.block _ (qai HX1.out)).trans HX1.out);have HE2:=hI_ ((hb12.block _ (qai HE1.out)).trans HE1.out);have HY2:Hid (W2.heap[q]? =some (.cells #[.int .i64 y.sec,.int .i64 y.bad,.slice B1 y.feeds.length d1,.slice B2 y.links.length d2,.slice B3 y.asked.length d3,.slice B4 y.net.length d4] 28 (0,0))):=hI_ bh_;have HS2:=hI_ (HS1.out.below hb12);have HT2:Hid (WdS W2 y (.slice B1 y.feeds.length d1) (.slice B2 y.links.length d2) (.slice B3 y.asked.length d3) (.slice B4 y.net.length d4)):=hI_ bi_;have HB2:=hI_ (HB1.out.trans (hb12.mono HB1.out.size));clear hp2 hb2 hs2 hb12 t0 t1 t2 t3 t4 t5 tf v0 v1 v2 v3 v4 vf;obtain⟨t0,t1,t2,t3,t4,t5,tf⟩:=qaa HX2.out;obtain⟨v0,v1,v2,v3,v4,vf⟩:=qrL HE2.out;go_upto_region 5 with fail
 rw[HW2.out,HQ.out];go_wp2_with fail
 refine(qtE x ⟨kd,ea,eb,ec,et⟩ _ _ _ _ W2 HS2.out HD.out.t HTE.out).mono ?_;rintro e w3 ⟨vF,vL,vA,vN,rfl,hs3,hb3⟩;rw[HY.out] at hs3 ⊢;obtain⟨⟨E1,e1,rfl⟩,⟨E2,e2,rfl⟩,⟨E3,e3,rfl⟩,⟨E4,e4,rfl⟩⟩:=hs3.sl;obtain⟨r,HR⟩:=nm_ w3.heap.size;obtain⟨W3,HW3⟩:=nm_ (w3.alloc (.cells #[.int .i64 y.sec,.int .i64 y.bad,.slice E1 y.feeds.length e1,.slice E2 y.links.length e2,.slice E3 y.asked.length e3,.slice E4 y.net.length e4] 28));have hb23:Below W2.heap.size W2 W3:=by rw[←HW3.out];exact qab hb3 _
 have HC3:Hid (DoW w p q r x y ⟨kd,ea,eb,ec,et⟩ (.slice A1 x.feeds.length c1) (.slice A2 x.links.length c2) (.slice A3 x.asked.length c3) (.slice A4 x.net.length c4) (.slice B1 y.feeds.length d1) (.slice B2 y.links.length d2) (.slice B3 y.asked.length d3) (.slice B4 y.net.length d4) (.slice E1 y.feeds.length e1) (.slice E2 y.links.length e2) (.slice E3 y.asked.length e3) (.slice E4 y.net.length e4) W3):=hI_ ⟨(hb23.block _ (qai HX2.out)).trans HX2.out,(hb23.block _ (qai HE2.out)).trans HE2.out,(hb23.block _ (qai HY2.out)).trans HY2.out,bj_,HS2.out.below hb23,HT2.out.below hb23,bk_,HB2.out.trans (hb23.mono HB2.out.size)⟩;clear hb23 hb3 hs3 t0 t1 t2 t3 t4 t5 tf v0 v1 v2 v3 v4 vf HX1 HE1 HX2 HE2 HY2 HS1 HS2 HT2 HB1 HB2;obtain⟨t0,t1,t2,t3,t4,t5,tf⟩:=qaa HC3.out.by_;obtain⟨z0,z1,z2,z3,z4,z5,zf⟩:=qaa HC3.out.bz;go_upto_region 6 with fail
 rw[HW3.out,HR.out];go_wp2_with fail
 refine(qcK y _ _ _ _ _ _ _ _ W3 HC3.out.sy.r HC3.out.sz.r).mono ?_;rintro e w4 ⟨rfl,hb4⟩;have HC4:=hI_ (HC3.out.below hb4);clear hb4 t0 t1 t2 t3 t4 t5 tf z0 z1 z2 z3 z4 z5 zf HC3;obtain⟨t0,t1,t2,t3,t4,t5,tf⟩:=qaa HC4.out.bx;go_wp2_with fail
 refine(qdO x _ _ _ _ w4 HC4.out.sx.r HD.out.t).mono ?_;rintro e w5 ⟨rfl,hb5⟩;have HC5:=hI_ (HC4.out.below hb5);clear hb5 t0 t1 t2 t3 t4 t5 tf HC4;obtain⟨bv,HBV⟩:=nm_ (qcc x);rw[HBV.out];obtain⟨t0,t1,t2,t3,t4,t5,tf⟩:=qaa HC5.out.by_;obtain⟨z0,z1,z2,z3,z4,z5,zf⟩:=qaa HC5.out.bz;cases bv
 · go_wp2_with fail
   refine(qcK y _ _ _ _ _ _ _ _ w5 HC5.out.sy.r HC5.out.sz.r).mono ?_;rintro e w6 ⟨rfl,hb6⟩;have HC6:=hI_ (HC5.out.below hb6);clear hb6 t0 t1 t2 t3 t4 t5 tf z0 z1 z2 z3 z4 z5 zf;go_wp2_with fail
   go_ret;exact⟨rfl,HC6.out.o⟩
 have HWX:Hid (WV x):=hI_ (qcq.1 HBV.out);have HWY:Hid (WV y):=hI_ bz_;have HYD:Hid (wdo x ⟨kd,ea,eb,ec,et⟩=y):=hI_ bB_;have hyn:y.feeds.length=x.feeds.length:=by rw[←HYD.out];exact qvh _
 have HYN:=hI_ hyn;have hm1:=HC5.out.sx.r.feeds.len;unfold maxLen at hm1;have lp:=qai HC5.out.bx;have lq:=qai HC5.out.by_;have HP:=hI_ HC5.out.bx;have HQB:=hI_ HC5.out.by_;have HV:=hI_ HC5.out.sx.r.feeds;have HU:=hI_ HC5.out.sy.r.feeds;rw[hyn] at t2;clear hyn;clear t0 t1 t2 t3 t4 t5 tf z0 z1 z2 z3 z4 z5 zf;go_wp2_with fail
 go_loopw [7] (fun i wr=>∃ k:Nat,k≤x.feeds.length∧i=.int .i64 k∧Below w5.heap.size w5 wr) (fun i _=>x.feeds.length-(intOf i).toNat)
 case atStart=>exact⟨0,Nat.zero_le _,rfl,bR_ _ _⟩
 case round=>
  obtain⟨k,hk,rfl,hbw⟩:=hrel;obtain⟨wr1,rfl⟩:∃ W,W=wr:=⟨_,rfl⟩
  have HBW:=hI_ hbw;obtain⟨p0,p1,p2,p3,p4,p5,pf⟩:=qaa ((hbw.block _ lp).trans HP.out);by_cases hlt:k<x.feeds.length
  · have hki:(k:Int)<(x.feeds.length:Int):=a_;have hk0:(0:Int)≤(k:Int):=a_;have hlty:k<y.feeds.length:=by rw[HYN.out];exact hlt
    have hkiy:(k:Int)<(y.feeds.length:Int):=a_;have lp':=nL_ lp hbw.size;have lq':=nL_ lq hbw.size;obtain⟨q0,q1,q2,q3,q4,q5,qf⟩:=qaa ((hbw.block _ lq).trans HQB.out);obtain⟨b,o,xb,xh,hA,hbs,e0,e1,e2,e3,e4,e5,hFk⟩:=(HV.out.below hbw).at_ hlt;subst hA;obtain⟨b',o',yb,yh,hA,hbs',g0,g1,g2,g3,g4,g5,hG⟩:=(HU.out.below hbw).at_ hlty;subst hA;obtain⟨f,HFE⟩:=nm_ (x.feeds[k]);obtain⟨g,HGE⟩:=nm_ (y.feeds[k]);have HKB:Hid (KB f g):=hI_ (by
     have:=HWX.out.keeps ⟨kd,ea,eb,ec,et⟩ k;rw[HYD.out,qam hlt,qam hlty,HFE.out,HGE.out] at this;exact this)
    have HFL:Hid (f.bl.length=f.hv.length):=hI_ (by rw[←HFE.out];exact(qax (HWX.out.fd k hlt).v).1);have HGL:Hid (g.bl.length=g.hv.length):=hI_ (by rw[←HGE.out];exact(qax (HWY.out.fd k hlty).v).1);have HFT:Hid (∀ t ∈ f.bl,t.size≤8):=hI_ (by rw[←HFE.out];exact qbH (HWX.out.fd k hlt).v);rw[HFE.out] at e1;rw[HGE.out] at g1;have hle:¬ g.hd.len<f.hd.len:=Int.not_lt.2 HKB.out.len;clear hbw e0 e2 e3 e4 e5 g0 g2 g3 g4 g5 hFk hG;have hup:=qap wr1;go_wp2_with fail
    refine qoH ?_;repeat(go_big_quiet_step (fail))
    refine wpQuiet_nil ?_;intro wx hwx;have hbx:=qay hwx;have HBX:=hI_ (HBW.out.trans (hbx.mono HBW.out.size));clear hwx hbx hup p0 p1 p2 p3 p4 p5 pf q0 q1 q2 q3 q4 q5 qf e1 g1 lp' lq' hbs hbs';go_wp2_with fail
    clear hle;go_loopw [8] (fun i wr=>∃ j:Nat,j≤f.hv.length∧i=.int .i64 j∧Below w5.heap.size w5 wr) (fun i _=>f.hv.length-(intOf i).toNat)
    case atStart=>exact⟨0,Nat.zero_le _,rfl,HBX.out⟩
    case round=>
     obtain⟨j,hj,rfl,hbw⟩:=hrel;obtain⟨wr2,rfl⟩:∃ W,W=wr:=⟨_,rfl⟩
     have HBY:=hI_ hbw;have lp':=nL_ lp hbw.size;have lq':=nL_ lq hbw.size;obtain⟨p0,p1,p2,p3,p4,p5,pf⟩:=qaa ((hbw.block _ lp).trans HP.out);obtain⟨q0,q1,q2,q3,q4,q5,qf⟩:=qaa ((hbw.block _ lq).trans HQB.out);obtain⟨_,_,xb,xh,hA,hbs,e0,e1,e2,e3,e4,e5,hFk⟩:=(HV.out.below hbw).at_ hlt;cases hA;obtain⟨_,_,yb,yh,hA,hbs',g0,g1,g2,g3,g4,g5,hG⟩:=(HU.out.below hbw).at_ hlty;cases hA;rw[HFE.out] at hFk;rw[HGE.out] at hG;obtain⟨xA,xc,rfl⟩:=hFk.bl.sl';obtain⟨yA,yc,rfl⟩:=hFk.hv.sl';obtain⟨uA,uc,rfl⟩:=hG.bl.sl';obtain⟨vA,vc,rfl⟩:=hG.hv.sl';have hml:=hFk.hv.len;unfold maxLen at hml;clear e0 e1 e2 e3 g0 g1 g2 g3 hbw;by_cases hjt:j<f.hv.length
     · have hji:(j:Int)<(f.hv.length:Int):=a_;have hj0:(0:Int)≤(j:Int):=a_;have hjb:j<f.bl.length:=by rw[HFL.out];exact hjt
       have hjb':(j:Int)<(f.bl.length:Int):=a_;obtain⟨b1,o1,hA,hbs1,h1⟩:=R1.at_ hFk.hv hjt;subst hA;obtain⟨b2,o2,hA,hbs2,h2⟩:=R1.at_ hFk.bl hjb;subst hA;obtain⟨hv,HHV⟩:=nm_ (f.hv[j]);obtain⟨t,HT⟩:=nm_ (f.bl[j]);rw[HHV.out] at h1;rw[HT.out] at h2;have hup:=qap wr2;cases hv
       · clear hFk hG;go_wp2_with fail
         refine qoH ?_;repeat(go_big_quiet_step (fail))
         refine wq_ fun w1 hb1=>?_;clear hup p0 p1 p2 p3 p4 p5 pf q0 q1 q2 q3 q4 q5 qf;have HBZ:=hI_ (HBY.out.trans (hb1.mono HBY.out.size));go_wp2_with fail
         go_roundw
         case rel=>exact⟨j+1,a_,t_,HBZ.out⟩
         case measure=>simp[intOf];omega
       · have hkb:=HKB.out.hv j (by rw[qam hjt,HHV.out]);have hjg:=quV hkb.1;have hjh:j<g.bl.length:=by rw[HGL.out];exact hjg
         have hjg':(j:Int)<(g.hv.length:Int):=a_;have hjh':(j:Int)<(g.bl.length:Int):=a_;obtain⟨b3,o3,hA,hbs3,h3⟩:=R1.at_ hG.hv hjg;subst hA;obtain⟨b4,o4,hA,hbs4,h4⟩:=R1.at_ hG.bl hjh;subst hA;rw[qam hjg,qam hjh,qam hjb,HT.out] at hkb;rw[hkb.1] at h3;rw[hkb.2] at h4;clear hkb hFk hG;go_wp2_with fail
         refine qoH ?_;repeat(go_big_quiet_step (fail))
         refine wq_ fun w1 hb1=>?_;clear hup p0 p1 p2 p3 p4 p5 pf q0 q1 q2 q3 q4 q5 qf;have HBZ:=hI_ (HBY.out.trans (hb1.mono HBY.out.size));go_wp2_with fail
         go_roundw
         case rel=>exact⟨j+1,a_,t_,HBZ.out⟩
         case measure=>simp[intOf];omega
     have hji:¬ (j:Int)<(f.hv.length:Int):=a_;clear hFk hG;go_wp2_with fail
     go_roundw
     case rel=>exact⟨k+1,a_,t_,HBY.out⟩
     case measure=>simp[intOf];omega
  have hki:¬ (k:Int)<(x.feeds.length:Int):=a_;clear hbw;go_wp2_with fail
  go_ret;exact⟨rfl,HC5.out.o.trans (HBW.out.mono HC5.out.o.size)⟩
end Go.Proofs.YtcnpmbdkcflboaaGreatDoor

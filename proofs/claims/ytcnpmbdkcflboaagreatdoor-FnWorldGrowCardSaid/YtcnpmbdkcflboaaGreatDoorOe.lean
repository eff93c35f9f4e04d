/- Walk: the law FnWorldGrow. No condition but the package's own variable. -/
import Derived.Test.YtcnpmbdkcflboaaGreatDoorCU
import Derived.Test.YtcnpmbdkcflboaaGreatDoorCT
set_option linter.unusedVariables false
set_option linter.unusedSimpArgs false
namespace Go.Proofs.YtcnpmbdkcflboaaGreatDoor
open Go.RowKit
attribute [local go_sem ↓] Go.wp_at_zero Go.wp_at_succ

set_option maxHeartbeats 12800000 in
set_option maxRecDepth 100000 in
theorem FnWorldGrow_any(bs:List UInt8)(v u:Value)(cs:List UInt8)(w:World)(hv:RU w v bs)(hu:RU w u cs)(he:qsC w):Calls Tryz.prog 9 #[v,u] w fun e w'=>e=.returned (.bool true)∧Below w.heap.size w w':=by
 have HV:=hI_ hv;have HER:=hI_ he;have HLT:=hI_ he.lt;clear he;obtain⟨A,c,rfl,n1,n2,n3⟩:=hv;unfold maxLen at n2;have hbm:bs.length≤9223372036854775807:=by have:=n1.1;omega
 obtain⟨UA,uc,rfl,m1,m2,m3⟩:=hu;unfold maxLen at m2;have hcm:cs.length≤9223372036854775807:=by have:=m1.1;omega
 clear n1 n2 n3 m1 m2 m3;by_cases hl:1048576<bs.length
 · have hl':(1048576:Int)<(bs.length:Int):=a_;go_enter Tryz.func9,Tryz.ntmps9
   go_wp2
   go_ret;exact⟨rfl,bR_ _ _⟩
 have hl':¬ (1048576:Int)<(bs.length:Int):=a_;clear hl;by_cases hc:1048576<cs.length
 · have hc':(1048576:Int)<(cs.length:Int):=a_;go_enter Tryz.func9,Tryz.ntmps9
   go_wp2
   go_ret;exact⟨rfl,bR_ _ _⟩
 have hc':¬ (1048576:Int)<(cs.length:Int):=a_;have HCS:Hid (cs.length≤1048576):=hI_ (Nat.le_of_not_lt hc);clear hc;go_enter Tryz.func9,Tryz.ntmps9
 go_wp2_with fail
 refine(qr9 bs _ w HV.out).mono ?_;rintro e w1 ⟨x,uF,uL,uA,uN,⟨kd,ea,eb,ec,et⟩,rfl,hd,hs,ht,hb1⟩;obtain⟨⟨A1,c1,rfl⟩,⟨A2,c2,rfl⟩,⟨A3,c3,rfl⟩,⟨A4,c4,rfl⟩⟩:=hs.sl;unfold evC;simp only at ht;obtain⟨p,HPP⟩:=nm_ w1.heap.size;obtain⟨W1,HW1⟩:=nm_ ((w1.alloc (.cells #[.int .i64 x.sec,.int .i64 x.bad,.slice A1 x.feeds.length c1,.slice A2 x.links.length c2,.slice A3 x.asked.length c3,.slice A4 x.net.length c4] 28)).alloc (.cells #[.int .i64 kd,.int .i64 ea,.int .i64 eb,.int .i64 ec,.string et] 52));have HB1:Hid (Below w.heap.size w W1):=hI_ bv_;have HS1:Hid (WdS W1 x (.slice A1 x.feeds.length c1) (.slice A2 x.links.length c2) (.slice A3 x.asked.length c3) (.slice A4 x.net.length c4)):=hI_ bo_;have HX1:Hid (W1.heap[p]? =some (.cells #[.int .i64 x.sec,.int .i64 x.bad,.slice A1 x.feeds.length c1,.slice A2 x.links.length c2,.slice A3 x.asked.length c3,.slice A4 x.net.length c4] 28 (0,0))):=hI_ bn_;have HE1:Hid (W1.heap[p+1]? =some (.cells #[.int .i64 kd,.int .i64 ea,.int .i64 eb,.int .i64 ec,.string et] 52 (0,0))):=hI_ bq_;have HD:=hI_ hd;have HTE:Hid (et.size≤maxLen):=hI_ (Nat.le_trans ht s_);clear hd hs hb1 ht hbm hl' hcm hc';obtain⟨t0,t1,t2,t3,t4,t5,tf⟩:=qaa HX1.out;obtain⟨v0,v1,v2,v3,v4,vf⟩:=qrL HE1.out;go_upto_region 4 with fail
 rw[HW1.out,HPP.out];go_wp2_with fail
 refine(qtD x ⟨kd,ea,eb,ec,et⟩ _ _ _ _ W1 HS1.out.r HD.out.t HTE.out (HER.out.next HLT.out HB1.out)).mono ?_;rintro e w2 ⟨vF,vL,vA,vN,rfl,hp2,hb2⟩;have hs2:=hp2.st;obtain⟨y,HY⟩:=nm_ (quj x ⟨kd,ea,eb,ec,et⟩);rw[HY.out] at hs2 ⊢;obtain⟨⟨B1,d1,rfl⟩,⟨B2,d2,rfl⟩,⟨B3,d3,rfl⟩,⟨B4,d4,rfl⟩⟩:=hs2.sl;obtain⟨q,HQ⟩:=nm_ w2.heap.size;obtain⟨W2,HW2⟩:=nm_ (w2.alloc (.cells #[.int .i64 y.sec,.int .i64 y.bad,.slice B1 y.feeds.length d1,.slice B2 y.links.length d2,.slice B3 y.asked.length d3,.slice B4 y.net.length d4] 28));have hb12:Below W1.heap.size W1 W2:=by rw[←HW2.out];exact qab hb2 _
 have HX2:=hI_ ((hb12.block _ (qai HX1.out)).trans HX1.out);have HE2:=hI_ ((hb12.block _ (qai HE1.out)).trans HE1.out);have HY2:Hid (W2.heap[q]? =some (.cells #[.int .i64 y.sec,.int .i64 y.bad,.slice B1 y.feeds.length d1,.slice B2 y.links.length d2,.slice B3 y.asked.length d3,.slice B4 y.net.length d4] 28 (0,0))):=hI_ bh_;have HS2:=hI_ (HS1.out.below hb12);have HT2:Hid (WdS W2 y (.slice B1 y.feeds.length d1) (.slice B2 y.links.length d2) (.slice B3 y.asked.length d3) (.slice B4 y.net.length d4)):=hI_ bi_;have HB2:=hI_ (HB1.out.trans (hb12.mono HB1.out.size));clear hp2 hb2 hs2 hb12 t0 t1 t2 t3 t4 t5 tf v0 v1 v2 v3 v4 vf;obtain⟨t0,t1,t2,t3,t4,t5,tf⟩:=qaa HX2.out;obtain⟨v0,v1,v2,v3,v4,vf⟩:=qrL HE2.out;go_upto_region 5 with fail
 rw[HW2.out,HQ.out];go_wp2_with fail
 refine(qtE x ⟨kd,ea,eb,ec,et⟩ _ _ _ _ W2 HS2.out HD.out.t HTE.out).mono ?_;rintro e w3 ⟨vF,vL,vA,vN,rfl,hs3,hb3⟩;rw[HY.out] at hs3 ⊢;obtain⟨⟨E1,e1,rfl⟩,⟨E2,e2,rfl⟩,⟨E3,e3,rfl⟩,⟨E4,e4,rfl⟩⟩:=hs3.sl;obtain⟨r,HR⟩:=nm_ w3.heap.size;obtain⟨W3,HW3⟩:=nm_ (w3.alloc (.cells #[.int .i64 y.sec,.int .i64 y.bad,.slice E1 y.feeds.length e1,.slice E2 y.links.length e2,.slice E3 y.asked.length e3,.slice E4 y.net.length e4] 28));have hb23:Below W2.heap.size W2 W3:=by rw[←HW3.out];exact qab hb3 _
 have HC3:Hid (DoW w p q r x y ⟨kd,ea,eb,ec,et⟩ (.slice A1 x.feeds.length c1) (.slice A2 x.links.length c2) (.slice A3 x.asked.length c3) (.slice A4 x.net.length c4) (.slice B1 y.feeds.length d1) (.slice B2 y.links.length d2) (.slice B3 y.asked.length d3) (.slice B4 y.net.length d4) (.slice E1 y.feeds.length e1) (.slice E2 y.links.length e2) (.slice E3 y.asked.length e3) (.slice E4 y.net.length e4) W3):=hI_ ⟨(hb23.block _ (qai HX2.out)).trans HX2.out,(hb23.block _ (qai HE2.out)).trans HE2.out,(hb23.block _ (qai HY2.out)).trans HY2.out,bj_,HS2.out.below hb23,HT2.out.below hb23,bk_,HB2.out.trans (hb23.mono HB2.out.size)⟩;clear hb23 hb3 hs3 t0 t1 t2 t3 t4 t5 tf v0 v1 v2 v3 v4 vf HX1 HE1 HX2 HE2 HY2 HS1 HS2 HT2 HB1 HB2;obtain⟨t0,t1,t2,t3,t4,t5,tf⟩:=qaa HC3.out.by_;obtain⟨z0,z1,z2,z3,z4,z5,zf⟩:=qaa HC3.out.bz;go_upto_region 6 with fail
 rw[HW3.out,HR.out];go_wp2_with fail
 refine(qcK y _ _ _ _ _ _ _ _ W3 HC3.out.sy.r HC3.out.sz.r).mono ?_;rintro e w4 ⟨rfl,hb4⟩;have HC4:=hI_ (HC3.out.below hb4);clear hb4 t0 t1 t2 t3 t4 t5 tf z0 z1 z2 z3 z4 z5 zf HC3;obtain⟨t0,t1,t2,t3,t4,t5,tf⟩:=qaa HC4.out.bx;go_wp2_with fail
 refine(qdO x _ _ _ _ w4 HC4.out.sx.r HD.out.t).mono ?_;rintro e w5 ⟨rfl,hb5⟩;have HC5:=hI_ (HC4.out.below hb5);clear hb5 t0 t1 t2 t3 t4 t5 tf HC4;obtain⟨bv,HBV⟩:=nm_ (qcc x);rw[HBV.out];obtain⟨t0,t1,t2,t3,t4,t5,tf⟩:=qaa HC5.out.by_;obtain⟨z0,z1,z2,z3,z4,z5,zf⟩:=qaa HC5.out.bz;cases bv
 · go_wp2_with fail
   refine(qcK y _ _ _ _ _ _ _ _ w5 HC5.out.sy.r HC5.out.sz.r).mono ?_;rintro e w6 ⟨rfl,hb6⟩;have HC6:=hI_ (HC5.out.below hb6);clear hb6 t0 t1 t2 t3 t4 t5 tf z0 z1 z2 z3 z4 z5 zf;go_wp2_with fail
   go_ret;exact⟨rfl,HC6.out.o⟩
 have HWX:Hid (WV x):=hI_ (qcq.1 HBV.out);have HWY:Hid (WV y):=hI_ bz_;have HYD:Hid (wdo x ⟨kd,ea,eb,ec,et⟩=y):=hI_ bB_;have hsm:=HCS.out;clear t0 t1 t2 t3 t4 t5 tf z0 z1 z2 z3 z4 z5 zf;obtain⟨k,HK⟩:∃ k:Nat,Hid (cs.length%4=k):=⟨_,hI_ rfl⟩
 have hk4:k<4:=by rw[←HK.out];exact Nat.mod_lt _ a_
 have htm:((cs.length:Int)).tmod 4=(k:Int):=by rw[←HK.out,Int.tmod_eq_emod_of_nonneg (Int.natCast_nonneg _)];rfl
 go_upto_region 8 with fail
 go_cut [9] (fun s9 wx=>∃ t:ByteArray,s9=.string t∧t.size≤8∧wx=w5)
 case first=>
  obtain rfl|rfl|rfl|rfl:k=0∨k=1∨k=2∨k=3:=a_;all_goals
   go_wp2_with fail
   go_meet;exact⟨_,rfl,e_,rfl⟩
 case rest=>
  obtain⟨t,rfl,ht8,hwc⟩:=hcut;subst hwc;have HT8:=hI_ ht8;obtain⟨z,HZE⟩:=nm_ (qd1 x t);have HZD:Hid (quj x ⟨1,0,0,0,t⟩=z):=hI_ (by rw[qr7 HBV.out,←HZE.out];rfl);have HTZ:Hid (t.size≤maxLen):=hI_ (Nat.le_trans ht8 s_);clear ht8 htm hk4 hsm;obtain⟨p0,p1,p2,p3,p4,p5,pf⟩:=qaa HC5.out.bx;go_wp2_with fail
  refine(qtD x ⟨1,0,0,0,t⟩ _ _ _ _ _ HC5.out.sx.r HD.out.t HTZ.out (HER.out.next HLT.out HC5.out.o)).mono ?_;rintro e w6 ⟨vF,vL,vA,vN,rfl,hp6,hb6⟩;have hs6:=hp6.st;rw[HZD.out] at hs6 ⊢;obtain⟨⟨F1,f1,rfl⟩,⟨F2,f2,rfl⟩,⟨F3,f3,rfl⟩,⟨F4,f4,rfl⟩⟩:=hs6.sl;obtain⟨g,HG⟩:=nm_ w6.heap.size;obtain⟨D,HW7⟩:=nm_ (w6.alloc (.cells #[.int .i64 z.sec,.int .i64 z.bad,.slice F1 z.feeds.length f1,.slice F2 z.links.length f2,.slice F3 z.asked.length f3,.slice F4 z.net.length f4] 28));have hb67:Below w6.heap.size w6 D:=by rw[←HW7.out];exact qab (bR_ _ _) _
  have HC7:=hI_ ((HC5.out.below hb6).below hb67);have HS7:=hI_ (hs6.below hb67);have HN7:Hid (D.heap[g]? =some (.cells #[.int .i64 z.sec,.int .i64 z.bad,.slice F1 z.feeds.length f1,.slice F2 z.links.length f2,.slice F3 z.asked.length f3,.slice F4 z.net.length f4] 28 (0,0))):=hI_ bD_;clear hp6 hb6 hs6 hb67 p0 p1 p2 p3 p4 p5 pf;go_upto_region 10 with fail
  rw[HW7.out,HG.out];have hn0:0<x.feeds.length:=HWX.out.wi.n1;have hn0':(0:Int)<(x.feeds.length:Int):=a_;obtain⟨p0,p1,p2,p3,p4,p5,pf⟩:=qaa HC7.out.bx;obtain⟨f0,HF0⟩:=nm_ x.f0;obtain⟨b,o,xb,xh,hA,hbs,e0,e1,e2,e3,e4,e5,hFk⟩:=HC7.out.sx.r.feeds.at0 hn0;subst hA;have hf0:x.feeds.getD 0 Fd.none=f0:=HF0.out;rw[hf0] at e0 e1 e2 e3 hFk;obtain⟨xA,xc,rfl⟩:=hFk.bl.sl';obtain⟨xB,xd,rfl⟩:=hFk.hv.sl';have HFK:=hI_ hFk;have HRW:Hid (∀ W,Below D.heap.size D W→W.cell? ⟨b,o+4,none⟩=some (.slice xA f0.bl.length xc)∧W.cell? ⟨b,o+5,none⟩=some (.slice xB f0.hv.length xd)):=hI_ (fun W hb=>⟨(hb.cell (p:=⟨b,o+4,none⟩) hbs).trans e4,(hb.cell (p:=⟨b,o+5,none⟩) hbs).trans e5⟩);have HLN:Hid (f0.bl.length≤16):=hI_ (by rw[←HF0.out];exact(qax HWX.out.v0).2.1);have hln:=HLN.out;clear hFk hf0;by_cases hfull:f0.bl.length=16
  · have hb':((f0.bl.length:Int)==16)=true:=by rw[hfull];rfl
    have hzx:x=z:=by rw[←HZE.out];exact(qvp (by rw[HF0.out];exact hfull)).symm
    subst hzx;clear hfull;obtain⟨g0,g1,g2,g3,g4,g5,gf⟩:=qaa HN7.out;go_wp2_with fail
    refine(qcK _ _ _ _ _ _ _ _ _ D HS7.out.r HC7.out.sx.r).mono ?_;rintro e w8 ⟨rfl,hb8⟩;clear p0 p1 p2 p3 p4 p5 pf g0 g1 g2 g3 g4 g5 gf e0 e1 e2 e3 e4 e5;go_wp2_with fail
    go_ret;exact⟨rfl,HC7.out.o.trans (hb8.mono HC7.out.o.size)⟩
  have hb':((f0.bl.length:Int)==16)=false:=by simpa using(fun h=>hfull a_)
  obtain⟨u,hzu,hu1,hu2,hu3⟩:=qvr HWX.out HT8.out (by rw[HF0.out];exact hfull);rw[HZE.out] at hzu;rw[HF0.out] at hu1 hu2;have HZF:Hid (z.feeds=x.feeds.set 0 u):=hI_ (by rw[hzu]);have HZP:Hid (z.sec=x.sec∧z.bad=x.bad∧z.links=x.links∧z.asked=x.asked∧z.net=x.net):=hI_ (by rw[hzu];exact⟨rfl,rfl,rfl,rfl,rfl⟩);have HU:=hI_ (And.intro hu1 (And.intro hu2 hu3));clear hzu hu1 hu2 hu3 hfull;obtain⟨g0,g1,g2,g3,g4,g5,gf⟩:=qaa HN7.out;go_upto_region 14 with fail
  obtain⟨h,HH⟩:=nm_ D.heap.size;obtain⟨W8,HW8⟩:=nm_ (D.alloc (.cells #[.int .i64 z.sec,.int .i64 z.bad,.slice F1 z.feeds.length f1,.slice F2 z.links.length f2,.slice F3 z.asked.length f3,.slice F4 z.net.length f4] 28));rw[HW8.out,HH.out];have HB8:Hid (Below D.heap.size D W8):=hI_ (by rw[←HW8.out];exact qab (bR_ _ _) _);have HH8:Hid (W8.heap[h]? =some (.cells #[.int .i64 z.sec,.int .i64 z.bad,.slice F1 z.feeds.length f1,.slice F2 z.links.length f2,.slice F3 z.asked.length f3,.slice F4 z.net.length f4] 28 (0,0))):=hI_ (by rw[←HW8.out,←HH.out];exact heap_alloc_new _ _);have HG8:=hI_ ((HB8.out.block _ (qai HN7.out)).trans HN7.out);have HDH:Hid (D.heap.size≤h):=hI_ (Nat.le_of_eq HH.out);have HHS:=hI_ (qai HH8.out);have hzl:z.feeds.length=x.feeds.length:=by rw[HZF.out,List.length_set]
  have HZL:=hI_ hzl;have hzm:z.feeds.length≤100000000000:=by rw[hzl];have:=HWX.out.wi.n6;omega
  clear hzl p0 p1 p2 p3 p4 p5 pf g0 g1 g2 g3 g4 g5 gf e0 e1 e2 e3 e4 e5;obtain⟨g0,g1,g2,g3,g4,g5,gf⟩:=qaa HG8.out;have gE:(W8.alloc (.cells #[] 40)).cell? ⟨g,2,none⟩=some (.slice F1 z.feeds.length f1):=((qab (bR_ W8.heap.size W8) _).cell (p:=⟨g,2,none⟩) (qai HG8.out)).trans g2;go_wp2_with (first
   |(at_builtin
     refine qaF rfl fun K hK=>qvq (w0:=D) (B:=W8.heap.size) (F:=fun _=>.slice none 0 0) (ON.empty (heap_alloc_new W8 _) (nr_ _)) HB8.out.size (Nat.le_of_lt (qaB _ _)) HS7.out.r.feeds (qab HB8.out _) hzm rfl rfl rfl (fun A c w9 G ho hG hg hb=>hK _ _ ?_);have HO9:=hI_ ho;have HGG:=hI_ hG;have HB9:=hI_ hb;have HH9:=hI_ ((hg.block h (Nat.lt_trans HHS.out (qaB _ _)) (fun e=>by cases e;exact absurd HHS.out (Nat.lt_irrefl _))).trans ((qab (bR_ W8.heap.size W8) _).block h HHS.out |>.trans HH8.out));clear ho hG hg hb gE g0 g1 g2 g3 g4 g5 gf;obtain⟨h0,h1,h2,h3,h4,h5,hf⟩:=qaa HH9.out))
  have hz0:0<z.feeds.length:=by rw[HZL.out];exact hn0
  have hz0':(0:Int)<(z.feeds.length:Int):=a_;obtain⟨m,_,hA,hm1,hm2⟩:=HO9.out.form hz0;cases hA;obtain⟨W10,HW10⟩:=nm_ (w9.setCell ⟨h,2,none⟩ (.slice (some ⟨m,0,none⟩) z.feeds.length c));rw[HW10.out];obtain⟨D2,HD2⟩:=nm_ W10.drew;have HO10:Hid (ON 6 W8.heap.size 40 D2 (.slice (some ⟨m,0,none⟩) z.feeds.length c) z.feeds.length G):=hI_ (by
   have h1:ON 6 W8.heap.size 40 W10 (.slice (some ⟨m,0,none⟩) z.feeds.length c) z.feeds.length G:=by rw[←HW10.out];exact HO9.out.setb (p:=⟨h,2,none⟩) HHS.out _
   rw[←HD2.out];exact h1.below (qac (bR_ _ _)))
  have HB10:Hid (Below D.heap.size D D2):=hI_ (by rw[←HD2.out];refine qac ?_;rw[←HW10.out];exact HB9.out.setCell HDH.out _);have HH10:Hid (D2.heap[h]? =some (.cells #[.int .i64 x.sec,.int .i64 x.bad,.slice (some ⟨m,0,none⟩) z.feeds.length c,.slice F2 z.links.length f2,.slice F3 z.asked.length f3,.slice F4 z.net.length f4] 28 (0,0))):=hI_ (by
   rw[←HD2.out];show W10.heap[h]? =_;rw[←HW10.out,←HZP.out.1,←HZP.out.2.1];exact qas (i:=2) HH9.out _)
  have HMH:Hid (h≠m):=hI_ (by have:=HHS.out;omega);have HDM:Hid (D.heap.size≤m):=hI_ (by have:=HHS.out;have:=HDH.out;omega);clear h0 h1 h2 h3 h4 h5 hf hm1 hm2;have hS0:W10.drew.cell? ⟨p,2,none⟩=some (.slice (some ⟨b,o,none⟩) x.feeds.length c1)∧W10.drew.cell? ⟨h,2,none⟩=some (.slice (some ⟨m,0,none⟩) z.feeds.length c)∧W10.drew.cell? ⟨b,o,none⟩=some (.int .i64 f0.pub)∧W10.drew.cell? ⟨b,o+1,none⟩=some (.int .i64 f0.hd.len)∧W10.drew.cell? ⟨b,o+2,none⟩=some (.int .i64 f0.hd.dg)∧W10.drew.cell? ⟨b,o+3,none⟩=some (.int .i64 f0.hd.sg)∧W10.drew.cell? ⟨b,o+4,none⟩=some (.slice xA f0.bl.length xc)∧W10.drew.cell? ⟨b,o+5,none⟩=some (.slice xB f0.hv.length xd):=by
   rw[HD2.out];obtain⟨p0,p1,p2,p3,p4,p5,pf⟩:=qaa (HC7.out.below HB10.out).bx;obtain⟨h0,h1,h2,h3,h4,h5,hf⟩:=qaa HH10.out;obtain⟨b_,o_,xb_,xh_,hA,hbs,e0,e1,e2,e3,e4,e5,hFk⟩:=(HC7.out.below HB10.out).sx.r.feeds.at0 hn0;cases hA;rw[show x.feeds.getD 0 Fd.none=f0 from HF0.out] at e0 e1 e2 e3;exact⟨p2,h2,e0,e1,e2,e3,(HRW.out _ HB10.out).1,(HRW.out _ HB10.out).2⟩
  refine qrO (fun w'=>w'.cell? ⟨p,2,none⟩=some (.slice (some ⟨b,o,none⟩) x.feeds.length c1)∧w'.cell? ⟨h,2,none⟩=some (.slice (some ⟨m,0,none⟩) z.feeds.length c)∧w'.cell? ⟨b,o,none⟩=some (.int .i64 f0.pub)∧w'.cell? ⟨b,o+1,none⟩=some (.int .i64 f0.hd.len)∧w'.cell? ⟨b,o+2,none⟩=some (.int .i64 f0.hd.dg)∧w'.cell? ⟨b,o+3,none⟩=some (.int .i64 f0.hd.sg)∧w'.cell? ⟨b,o+4,none⟩=some (.slice xA f0.bl.length xc)∧w'.cell? ⟨b,o+5,none⟩=some (.slice xB f0.hv.length xd)) (fun i=>decide (i<7)) d_ hS0 (fun hS hI=> ?_);rw[HD2.out] at hS ⊢;clear hS0;refine gU_ ?_ hI hS;clear hI;refine tU_ 0 ?_;refine tU_ 1 ?_;refine tU_ 2 ?_;refine tU_ 3 ?_;refine tU_ 4 ?_;refine tU_ 5 ?_;refine tU_ 6 ?_;refine eU_ fun hI=>?_;clear hS;obtain⟨W11,HW11⟩:=nm_ ((((((D2.setCell ⟨m,0,none⟩ (.int .i64 f0.pub)).setCell ⟨m,1,none⟩ (.int .i64 f0.hd.len)).setCell ⟨m,2,none⟩ (.int .i64 f0.hd.dg)).setCell ⟨m,3,none⟩ (.int .i64 f0.hd.sg)).setCell ⟨m,4,none⟩ (.slice xA f0.bl.length xc)).setCell ⟨m,5,none⟩ (.slice xB f0.hv.length xd));have m0:=HO10.out.at_ (t:=0) a_;have m1:=HO10.out.at_ (t:=1) a_;have m2:=HO10.out.at_ (t:=2) a_;have m3:=HO10.out.at_ (t:=3) a_;have m4:=HO10.out.at_ (t:=4) a_;have m5:=HO10.out.at_ (t:=5) a_;obtain⟨m0,n0⟩:=m0;obtain⟨m1,n1⟩:=m1;obtain⟨m2,n2⟩:=m2;obtain⟨m3,n3⟩:=m3;obtain⟨m4,n4⟩:=m4;obtain⟨m5,n5⟩:=m5;refine qrK (i:=7) hI rfl d_ rfl (fun Kc hKc=> ?_);go_simp;rw[HW11.out];clear m0 m1 m2 m3 m4 m5 n0 n1 n2 n3 n4 n5;refine hKc.out _ _ (fun hI=> ?_);refine qrM d_ ?_;have HB11:Hid (Below D.heap.size D W11):=hI_ (by rw[←HW11.out];exact qae HB10.out HDM.out _ _ _ _ _ _);have HH11:Hid (W11.heap[h]? =some (.cells #[.int .i64 x.sec,.int .i64 x.bad,.slice (some ⟨m,0,none⟩) z.feeds.length c,.slice F2 z.links.length f2,.slice F3 z.asked.length f3,.slice F4 z.net.length f4] 28 (0,0))):=hI_ (by rw[←HW11.out];exact(qcN HMH.out _ _ _ _ _ _).trans HH10.out);have HR11:Hid (WdR W11 x (.slice (some ⟨m,0,none⟩) z.feeds.length c) (.slice F2 z.links.length f2) (.slice F3 z.asked.length f3) (.slice F4 z.net.length f4)):=hI_ (by
   refine⟨?_,?_,?_,?_⟩
   · have hfs:x.feeds=z.feeds.set 0 f0:=by
      rw[HZF.out,List.set_set,←HF0.out,HWX.out.f0_];exact(List.set_getElem_self hn0).symm
     rw[hfs,←HW11.out];exact qvo (HO10.out.mono HB8.out.size) rfl hz0 HGG.out (HFK.out) HB10.out
   · have:=HS7.out.r.links.below HB11.out;rw[HZP.out.2.2.1] at this ⊢;exact this
   · have:=HS7.out.r.asked.below HB11.out;rw[HZP.out.2.2.2.1] at this ⊢;exact this
   · have:=HS7.out.r.net.below HB11.out;rw[HZP.out.2.2.2.2] at this ⊢;exact this)
  have HC11:=hI_ (HC7.out.below HB11.out);have HG11:=hI_ ((HB11.out.block _ (qai HN7.out)).trans HN7.out);clear hI;obtain⟨p0,p1,p2,p3,p4,p5,pf⟩:=qaa HC11.out.bx;obtain⟨g0,g1,g2,g3,g4,g5,gf⟩:=qaa HG11.out;obtain⟨h0,h1,h2,h3,h4,h5,hf⟩:=qaa HH11.out;have hu0:z.feeds.getD 0 Fd.none=u:=by rw[HZF.out,quS hn0]
  obtain⟨b2,o2,ub,uh,hA,hbs2,e0,e1,e2,e3,e4,e5,hFu⟩:=(HS7.out.r.feeds.below HB11.out).at0 hz0;subst hA;rw[hu0] at e0 e1 e2 e3 hFu;obtain⟨uA,uc_,rfl⟩:=hFu.bl.sl';have hub:f0.bl.length<u.bl.length:=by rw[HU.out.1];simp
  have hub':(f0.bl.length:Int)<(u.bl.length:Int):=a_;have hub0:(0:Int)≤(f0.bl.length:Int):=a_;obtain⟨b3,o3,hA,hbs3,h6⟩:=R1.at_ hFu.bl hub;subst hA;rw[show u.bl[f0.bl.length]=t by simp only[HU.out.1,List.getElem_concat_length]] at h6;have hq:(u.hd.len==(f0.bl.length:Int)+1)=true:=by rw[HU.out.2.1];simp
  have HCK:Hid (qbE u.pub u.hd=true):=hI_ HU.out.2.2;have lp:=qai HC11.out.bx;have lg:=qai HG11.out;have lh:=qai HH11.out;have hup:=qap W11;clear hFu hu0;go_wp2_with fail
  refine qoH ?_;repeat(go_big_quiet_step (first
   |(go_at_call 19;exact qal (qbq HCK _))
   |(go_at_call 18;exact qal (qcK x _ _ _ _ _ _ _ _ _ (HR11.out.below (qao _ _)) (HC11.out.sx.r.below (qao _ _))))))
  refine wpQuiet_nil ?_;intro w12 hw12;have HB12:=hI_ (qay hw12);clear hw12 hup p0 p1 p2 p3 p4 p5 pf g0 g1 g2 g3 g4 g5 gf h0 h1 h2 h3 h4 h5 hf e0 e1 e2 e3 e4 e5 h6;go_wp2_with fail
  go_ret;exact⟨rfl,HC11.out.o.trans (HB12.out.mono HC11.out.o.size)⟩
end Go.Proofs.YtcnpmbdkcflboaaGreatDoor

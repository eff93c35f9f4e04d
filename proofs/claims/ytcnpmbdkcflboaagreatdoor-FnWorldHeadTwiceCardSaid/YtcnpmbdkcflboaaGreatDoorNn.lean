/- Walk: the law FnWorldHeadTwice. No condition but the package's own variable. -/
import Derived.Test.YtcnpmbdkcflboaaGreatDoorCU
import Derived.Test.YtcnpmbdkcflboaaGreatDoorCT
set_option linter.unusedVariables false
set_option linter.unusedSimpArgs false
namespace Go.Proofs.YtcnpmbdkcflboaaGreatDoor
open Go.RowKit
attribute [local go_sem ↓] Go.wp_at_zero Go.wp_at_succ

set_option maxHeartbeats 12800000 in
set_option maxRecDepth 100000 in
theorem FnWorldHeadTwice_any(bs:List UInt8)(v:Value)(w:World)(hv:RU w v bs)(he:qsC w):Calls Tryz.prog 10 #[v] w fun e w'=>e=.returned (.bool true)∧Below w.heap.size w w':=by
 have HV:=hI_ hv;have HER:=hI_ he;have HLT:=hI_ he.lt;clear he;obtain⟨A,c,rfl,n1,n2,n3⟩:=hv;unfold maxLen at n2;have hbm:bs.length≤9223372036854775807:=by have:=n1.1;omega
 clear n1 n2 n3;by_cases hl:1048576<bs.length
 · have hl':(1048576:Int)<(bs.length:Int):=a_;go_enter Tryz.func10,Tryz.ntmps10
   go_wp2
   go_ret;exact⟨rfl,bR_ _ _⟩
 have hl':¬ (1048576:Int)<(bs.length:Int):=a_;clear hl;go_enter Tryz.func10,Tryz.ntmps10
 go_wp2_with fail
 refine(qr9 bs _ w HV.out).mono ?_;rintro e w1 ⟨x,uF,uL,uA,uN,⟨kd,ea,eb,ec,et⟩,rfl,hd,hs,ht,hb1⟩;obtain⟨⟨A1,c1,rfl⟩,⟨A2,c2,rfl⟩,⟨A3,c3,rfl⟩,⟨A4,c4,rfl⟩⟩:=hs.sl;unfold evC;simp only at ht;obtain⟨p,HPP⟩:=nm_ w1.heap.size;obtain⟨W1,HW1⟩:=nm_ ((w1.alloc (.cells #[.int .i64 x.sec,.int .i64 x.bad,.slice A1 x.feeds.length c1,.slice A2 x.links.length c2,.slice A3 x.asked.length c3,.slice A4 x.net.length c4] 28)).alloc (.cells #[.int .i64 kd,.int .i64 ea,.int .i64 eb,.int .i64 ec,.string et] 52));have HB1:Hid (Below w.heap.size w W1):=hI_ bv_;have HS1:Hid (WdS W1 x (.slice A1 x.feeds.length c1) (.slice A2 x.links.length c2) (.slice A3 x.asked.length c3) (.slice A4 x.net.length c4)):=hI_ bo_;have HX1:Hid (W1.heap[p]? =some (.cells #[.int .i64 x.sec,.int .i64 x.bad,.slice A1 x.feeds.length c1,.slice A2 x.links.length c2,.slice A3 x.asked.length c3,.slice A4 x.net.length c4] 28 (0,0))):=hI_ bn_;have HE1:Hid (W1.heap[p+1]? =some (.cells #[.int .i64 kd,.int .i64 ea,.int .i64 eb,.int .i64 ec,.string et] 52 (0,0))):=hI_ bq_;have HD:=hI_ hd;have HTE:Hid (et.size≤maxLen):=hI_ (Nat.le_trans ht s_);clear hd hs hb1 ht hbm hl';obtain⟨t0,t1,t2,t3,t4,t5,tf⟩:=qaa HX1.out;obtain⟨v0,v1,v2,v3,v4,vf⟩:=qrL HE1.out;go_upto_region 4 with fail
 rw[HW1.out,HPP.out];go_wp2_with fail
 refine(qtD x ⟨kd,ea,eb,ec,et⟩ _ _ _ _ W1 HS1.out.r HD.out.t HTE.out (HER.out.next HLT.out HB1.out)).mono ?_;rintro e w2 ⟨vF,vL,vA,vN,rfl,hp2,hb2⟩;have hs2:=hp2.st;obtain⟨y,HY⟩:=nm_ (quj x ⟨kd,ea,eb,ec,et⟩);rw[HY.out] at hs2 ⊢;obtain⟨⟨B1,d1,rfl⟩,⟨B2,d2,rfl⟩,⟨B3,d3,rfl⟩,⟨B4,d4,rfl⟩⟩:=hs2.sl;obtain⟨q,HQ⟩:=nm_ w2.heap.size;obtain⟨W2,HW2⟩:=nm_ (w2.alloc (.cells #[.int .i64 y.sec,.int .i64 y.bad,.slice B1 y.feeds.length d1,.slice B2 y.links.length d2,.slice B3 y.asked.length d3,.slice B4 y.net.length d4] 28));have hb12:Below W1.heap.size W1 W2:=by rw[←HW2.out];exact qab hb2 _
 have HX2:=hI_ ((hb12.block _ (qai HX1.out)).trans HX1.out);have HE2:=hI_ ((hb12.block _ (qai HE1.out)).trans HE1.out);have HY2:Hid (W2.heap[q]? =some (.cells #[.int .i64 y.sec,.int .i64 y.bad,.slice B1 y.feeds.length d1,.slice B2 y.links.length d2,.slice B3 y.asked.length d3,.slice B4 y.net.length d4] 28 (0,0))):=hI_ bh_;have HS2:=hI_ (HS1.out.below hb12);have HT2:Hid (WdS W2 y (.slice B1 y.feeds.length d1) (.slice B2 y.links.length d2) (.slice B3 y.asked.length d3) (.slice B4 y.net.length d4)):=hI_ bi_;have HB2:=hI_ (HB1.out.trans (hb12.mono HB1.out.size));clear hp2 hb2 hs2 hb12 t0 t1 t2 t3 t4 t5 tf v0 v1 v2 v3 v4 vf;obtain⟨t0,t1,t2,t3,t4,t5,tf⟩:=qaa HX2.out;obtain⟨v0,v1,v2,v3,v4,vf⟩:=qrL HE2.out;go_upto_region 5 with fail
 rw[HW2.out,HQ.out];go_wp2_with fail
 refine(qtE x ⟨kd,ea,eb,ec,et⟩ _ _ _ _ W2 HS2.out HD.out.t HTE.out).mono ?_;rintro e w3 ⟨vF,vL,vA,vN,rfl,hs3,hb3⟩;rw[HY.out] at hs3 ⊢;obtain⟨⟨E1,e1,rfl⟩,⟨E2,e2,rfl⟩,⟨E3,e3,rfl⟩,⟨E4,e4,rfl⟩⟩:=hs3.sl;obtain⟨r,HR⟩:=nm_ w3.heap.size;obtain⟨W3,HW3⟩:=nm_ (w3.alloc (.cells #[.int .i64 y.sec,.int .i64 y.bad,.slice E1 y.feeds.length e1,.slice E2 y.links.length e2,.slice E3 y.asked.length e3,.slice E4 y.net.length e4] 28));have hb23:Below W2.heap.size W2 W3:=by rw[←HW3.out];exact qab hb3 _
 have HC3:Hid (DoW w p q r x y ⟨kd,ea,eb,ec,et⟩ (.slice A1 x.feeds.length c1) (.slice A2 x.links.length c2) (.slice A3 x.asked.length c3) (.slice A4 x.net.length c4) (.slice B1 y.feeds.length d1) (.slice B2 y.links.length d2) (.slice B3 y.asked.length d3) (.slice B4 y.net.length d4) (.slice E1 y.feeds.length e1) (.slice E2 y.links.length e2) (.slice E3 y.asked.length e3) (.slice E4 y.net.length e4) W3):=hI_ ⟨(hb23.block _ (qai HX2.out)).trans HX2.out,(hb23.block _ (qai HE2.out)).trans HE2.out,(hb23.block _ (qai HY2.out)).trans HY2.out,bj_,HS2.out.below hb23,HT2.out.below hb23,bk_,HB2.out.trans (hb23.mono HB2.out.size)⟩;clear hb23 hb3 hs3 t0 t1 t2 t3 t4 t5 tf v0 v1 v2 v3 v4 vf HX1 HE1 HX2 HE2 HY2 HS1 HS2 HT2 HB1 HB2;obtain⟨t0,t1,t2,t3,t4,t5,tf⟩:=qaa HC3.out.by_;obtain⟨z0,z1,z2,z3,z4,z5,zf⟩:=qaa HC3.out.bz;go_upto_region 6 with fail
 rw[HW3.out,HR.out];go_wp2_with fail
 refine(qcK y _ _ _ _ _ _ _ _ W3 HC3.out.sy.r HC3.out.sz.r).mono ?_;rintro e w4 ⟨rfl,hb4⟩;have HC4:=hI_ (HC3.out.below hb4);clear hb4 t0 t1 t2 t3 t4 t5 tf z0 z1 z2 z3 z4 z5 zf HC3;obtain⟨t0,t1,t2,t3,t4,t5,tf⟩:=qaa HC4.out.bx;go_wp2_with fail
 refine(qdO x _ _ _ _ w4 HC4.out.sx.r HD.out.t).mono ?_;rintro e w5 ⟨rfl,hb5⟩;have HC5:=hI_ (HC4.out.below hb5);clear hb5 t0 t1 t2 t3 t4 t5 tf HC4;obtain⟨bv,HBV⟩:=nm_ (qcc x);rw[HBV.out];obtain⟨t0,t1,t2,t3,t4,t5,tf⟩:=qaa HC5.out.by_;obtain⟨z0,z1,z2,z3,z4,z5,zf⟩:=qaa HC5.out.bz;cases bv
 · go_wp2_with fail
   refine(qcK y _ _ _ _ _ _ _ _ w5 HC5.out.sy.r HC5.out.sz.r).mono ?_;rintro e w6 ⟨rfl,hb6⟩;have HC6:=hI_ (HC5.out.below hb6);clear hb6 t0 t1 t2 t3 t4 t5 tf z0 z1 z2 z3 z4 z5 zf;go_wp2_with fail
   go_ret;exact⟨rfl,HC6.out.o⟩
 have HWX:Hid (WV x):=hI_ (qcq.1 HBV.out);have HWY:Hid (WV y):=hI_ bz_;have HYD:Hid (wdo x ⟨kd,ea,eb,ec,et⟩=y):=hI_ bB_;obtain⟨v0,v1,v2,v3,v4,vf⟩:=qrL HC5.out.be;by_cases hk:kd=4;rotate_left
 · have hk':¬ (kd=4):=hk;go_wp2_with fail
   refine(qcK y _ _ _ _ _ _ _ _ w5 HC5.out.sy.r HC5.out.sz.r).mono ?_;rintro e w6 ⟨rfl,hb6⟩;have HC6:=hI_ (HC5.out.below hb6);clear hb6 t0 t1 t2 t3 t4 t5 tf z0 z1 z2 z3 z4 z5 zf v0 v1 v2 v3 v4 vf;go_wp2_with fail
   go_ret;exact⟨rfl,HC6.out.o⟩
 subst hk;have HTW:Hid (quj y ⟨4,ea,eb,ec,et⟩=y):=hI_ (by
  rw[qr7 (qcq.2 HWY.out),←HYD.out];exact qu6 HWX.out ea eb)
 clear z0 z1 z2 z3 z4 z5 zf;go_upto_region 8 with fail
 obtain⟨D,HD0⟩:∃ D,w5.drew=D:=⟨_,rfl⟩
 have HCD:=hI_ (HC5.out.below (qac (bR_ w5.heap.size w5)));have hS0:w5.drew.cell? ⟨q,0,none⟩=some (.int .i64 y.sec)∧w5.drew.cell? ⟨q,1,none⟩=some (.int .i64 y.bad)∧w5.drew.cell? ⟨q,2,none⟩=some (.slice B1 y.feeds.length d1)∧w5.drew.cell? ⟨q,3,none⟩=some (.slice B2 y.links.length d2)∧w5.drew.cell? ⟨q,4,none⟩=some (.slice B3 y.asked.length d3)∧w5.drew.cell? ⟨q,5,none⟩=some (.slice B4 y.net.length d4)∧w5.drew.cell? ⟨p+1,0,none⟩=some (.int .i64 4)∧w5.drew.cell? ⟨p+1,1,none⟩=some (.int .i64 ea)∧w5.drew.cell? ⟨p+1,2,none⟩=some (.int .i64 eb)∧w5.drew.cell? ⟨p+1,3,none⟩=some (.int .i64 ec)∧w5.drew.cell? ⟨p+1,4,none⟩=some (.string et):=⟨t0,t1,t2,t3,t4,t5,v0,v1,v2,v3,v4⟩
 refine qrO (fun w'=>w'.cell? ⟨q,0,none⟩=some (.int .i64 y.sec)∧w'.cell? ⟨q,1,none⟩=some (.int .i64 y.bad)∧w'.cell? ⟨q,2,none⟩=some (.slice B1 y.feeds.length d1)∧w'.cell? ⟨q,3,none⟩=some (.slice B2 y.links.length d2)∧w'.cell? ⟨q,4,none⟩=some (.slice B3 y.asked.length d3)∧w'.cell? ⟨q,5,none⟩=some (.slice B4 y.net.length d4)∧w'.cell? ⟨p+1,0,none⟩=some (.int .i64 4)∧w'.cell? ⟨p+1,1,none⟩=some (.int .i64 ea)∧w'.cell? ⟨p+1,2,none⟩=some (.int .i64 eb)∧w'.cell? ⟨p+1,3,none⟩=some (.int .i64 ec)∧w'.cell? ⟨p+1,4,none⟩=some (.string et)) (fun i=>decide (i<4)) d_ hS0 (fun hS hI=> ?_);rw[HD0] at hS HCD ⊢;clear HD0 hS0 HC5 t0 t1 t2 t3 t4 t5 tf v0 v1 v2 v3 v4 vf;refine gU_ ?_ hI hS;clear hI;refine tU_ 0 ?_;refine tU_ 1 ?_;refine tU_ 3 ?_;refine eU_ fun hI=>?_;refine qrQ (i:=2) hI rfl d_ (fun Ka hKa=> ?_);go_simp;go_at_call 26
 refine(qtD y ⟨4,ea,eb,ec,et⟩ _ _ _ _ D HCD.out.sy.r (quF HWY.out) HTE.out (HER.out.next HLT.out HCD.out.o)).mono ?_;rintro e w6 ⟨gF,gL,gA,gN,rfl,hp6,hb6⟩;have hs6:=hp6.st;rw[HTW.out] at hs6 ⊢;have HS6:=hI_ hs6;obtain⟨⟨G1,g1,rfl⟩,⟨G2,g2,rfl⟩,⟨G3,g3,rfl⟩,⟨G4,g4,rfl⟩⟩:=hs6.sl;have HC6:=hI_ (HCD.out.below hb6);clear hb6 hp6 hs6 HCD hS;obtain⟨t0,t1,t2,t3,t4,t5,tf⟩:=qaa HC6.out.by_;obtain⟨v0,v1,v2,v3,v4,vf⟩:=qrL HC6.out.be;refine hKa.out _ _ ⟨t0,t1,t2,t3,t4,t5,v0,v1,v2,v3,v4⟩ (fun hI=> ?_);clear t0 t1 t2 t3 t4 t5 tf v0 v1 v2 v3 v4 vf;refine qrK (i:=4) hI rfl d_ rfl (fun Kb hKb=> ?_);go_simp;go_at_call 18
 refine(qcK y _ _ _ _ _ _ _ _ w6 HS6.out.r HC6.out.sy.r).mono ?_;rintro e w7 ⟨rfl,hb7⟩;have HC7:=hI_ (HC6.out.below hb7);clear hb7;refine hKb.out _ _ (fun hI=> ?_);refine qrK (i:=5) hI rfl d_ rfl (fun Kc hKc=> ?_);go_simp;refine hKc.out _ _ (fun hI=> ?_);refine qrM d_ ?_;go_wp2_with fail
 go_ret;exact⟨rfl,HC7.out.o⟩
end Go.Proofs.YtcnpmbdkcflboaaGreatDoor

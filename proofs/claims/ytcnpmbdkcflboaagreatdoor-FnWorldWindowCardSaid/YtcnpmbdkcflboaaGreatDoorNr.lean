/- Walk: the law FnWorldWindow. No condition but the package's own variable. -/
import Derived.Test.YtcnpmbdkcflboaaGreatDoorCV
set_option linter.unusedVariables false
set_option linter.unusedSimpArgs false
namespace Go.Proofs.YtcnpmbdkcflboaaGreatDoor
open Go.RowKit
attribute [local go_sem ↓] Go.wp_at_zero Go.wp_at_succ

set_option maxHeartbeats 12800000 in
set_option maxRecDepth 100000 in
theorem FnWorldWindow_any(bs:List UInt8)(v:Value)(w:World)(hv:RU w v bs)(he:qsC w):Calls Tryz.prog 4 #[v] w fun e w'=>e=.returned (.bool true)∧Below w.heap.size w w':=by
 have HV:=hI_ hv;have HER:=hI_ he;have HLT:=hI_ he.lt;clear he;obtain⟨A,c,rfl,n1,n2,n3⟩:=hv;unfold maxLen at n2;have hbm:bs.length≤9223372036854775807:=by have:=n1.1;omega
 clear n1 n2 n3;by_cases hl:1048576<bs.length
 · have hl':(1048576:Int)<(bs.length:Int):=a_;go_enter Tryz.func4,Tryz.ntmps4
   go_wp2
   go_ret;exact⟨rfl,bR_ _ _⟩
 have hl':¬ (1048576:Int)<(bs.length:Int):=a_;clear hl;go_enter Tryz.func4,Tryz.ntmps4
 go_wp2_with fail
 refine(quK bs _ w HV.out).mono ?_;rintro e w1 ⟨x,uF,uL,uA,uN,es,vE,rfl,hd,hs,hE,ht,hn81,hb1⟩;obtain⟨⟨A1,c1,rfl⟩,⟨A2,c2,rfl⟩,⟨A3,c3,rfl⟩,⟨A4,c4,rfl⟩⟩:=hs.sl;obtain⟨EA,Ec,rfl⟩:=hE.sl;obtain⟨p,HPP⟩:=nm_ w1.heap.size;obtain⟨W1,HW1⟩:=nm_ (w1.alloc (.cells #[.int .i64 x.sec,.int .i64 x.bad,.slice A1 x.feeds.length c1,.slice A2 x.links.length c2,.slice A3 x.asked.length c3,.slice A4 x.net.length c4] 28));have HB1:Hid (Below w.heap.size w W1):=hI_ bA_;have hb01:Below w1.heap.size w1 W1:=by rw[←HW1.out];exact qab (bR_ _ _) _
 have HS1:Hid (WdS W1 x (.slice A1 x.feeds.length c1) (.slice A2 x.links.length c2) (.slice A3 x.asked.length c3) (.slice A4 x.net.length c4)):=hI_ (hs.below hb01);have HX1:Hid (W1.heap[p]? =some (.cells #[.int .i64 x.sec,.int .i64 x.bad,.slice A1 x.feeds.length c1,.slice A2 x.links.length c2,.slice A3 x.asked.length c3,.slice A4 x.net.length c4] 28 (0,0))):=hI_ bp_;have HE1:=hI_ (hE.below hb01);have HD:=hI_ hd;have HTE:Hid (∀ j (hj:j<es.length),es[j].txt.size≤maxLen):=hI_ (fun j hj=>Nat.le_trans (ht j hj) s_);have HN81:=hI_ hn81;clear hd hs hb1 ht hbm hl' hn81 hE hb01;obtain⟨t0,t1,t2,t3,t4,t5,tf⟩:=qaa HX1.out;go_upto_region 4 with fail
 rw[HW1.out,HPP.out];go_wp2_with fail
 refine(quP x es _ _ _ _ _ W1 HS1.out.r HD.out.txts HE1.out HTE.out (HER.out.next HLT.out HB1.out)).mono ?_;rintro e w2 ⟨vF,vL,vA,vN,rfl,hs2,hb2⟩;obtain⟨y,HY⟩:=nm_ (quL x es);obtain⟨ok,HOK⟩:=nm_ (quM x es);rw[HY.out] at hs2 ⊢;rw[HOK.out];obtain⟨⟨B1,d1,rfl⟩,⟨B2,d2,rfl⟩,⟨B3,d3,rfl⟩,⟨B4,d4,rfl⟩⟩:=hs2.sl;obtain⟨q,HQ⟩:=nm_ w2.heap.size;obtain⟨W2,HW2⟩:=nm_ (w2.alloc (.cells #[.int .i64 y.sec,.int .i64 y.bad,.slice B1 y.feeds.length d1,.slice B2 y.links.length d2,.slice B3 y.asked.length d3,.slice B4 y.net.length d4] 28));have hb12:Below W1.heap.size W1 W2:=by rw[←HW2.out];exact qab hb2 _
 have HX2:=hI_ ((hb12.block _ (qai HX1.out)).trans HX1.out);have HE2:=hI_ (HE1.out.below hb12);have HY2:Hid (W2.heap[q]? =some (.cells #[.int .i64 y.sec,.int .i64 y.bad,.slice B1 y.feeds.length d1,.slice B2 y.links.length d2,.slice B3 y.asked.length d3,.slice B4 y.net.length d4] 28 (0,0))):=hI_ bh_;have HS2:=hI_ (HS1.out.below hb12);have HT2:Hid (WdS W2 y (.slice B1 y.feeds.length d1) (.slice B2 y.links.length d2) (.slice B3 y.asked.length d3) (.slice B4 y.net.length d4)):=hI_ bi_;have HB2:=hI_ (HB1.out.trans (hb12.mono HB1.out.size));clear hb2 hs2 hb12 t0 t1 t2 t3 t4 t5 tf;obtain⟨t0,t1,t2,t3,t4,t5,tf⟩:=qaa HX2.out;go_upto_region 5 with fail
 rw[HW2.out,HQ.out];go_wp2_with fail
 refine(quQ x es _ _ _ _ _ W2 HS2.out HD.out.txts HE2.out HTE.out).mono ?_;rintro e w3 ⟨vF,vL,vA,vN,rfl,hs3,hb3⟩;rw[HY.out] at hs3 ⊢;rw[HOK.out];obtain⟨⟨E1,e1,rfl⟩,⟨E2,e2,rfl⟩,⟨E3,e3,rfl⟩,⟨E4,e4,rfl⟩⟩:=hs3.sl;obtain⟨r,HR⟩:=nm_ w3.heap.size;obtain⟨W3,HW3⟩:=nm_ (w3.alloc (.cells #[.int .i64 y.sec,.int .i64 y.bad,.slice E1 y.feeds.length e1,.slice E2 y.links.length e2,.slice E3 y.asked.length e3,.slice E4 y.net.length e4] 28));have hb23:Below W2.heap.size W2 W3:=by rw[←HW3.out];exact qab hb3 _
 have HC3:Hid (qvf w p q r x y (.slice A1 x.feeds.length c1) (.slice A2 x.links.length c2) (.slice A3 x.asked.length c3) (.slice A4 x.net.length c4) (.slice B1 y.feeds.length d1) (.slice B2 y.links.length d2) (.slice B3 y.asked.length d3) (.slice B4 y.net.length d4) (.slice E1 y.feeds.length e1) (.slice E2 y.links.length e2) (.slice E3 y.asked.length e3) (.slice E4 y.net.length e4) W3):=hI_ ⟨(hb23.block _ (qai HX2.out)).trans HX2.out,(hb23.block _ (qai HY2.out)).trans HY2.out,bj_,HS2.out.below hb23,HT2.out.below hb23,bk_,HB2.out.trans (hb23.mono HB2.out.size)⟩;have HE3:=hI_ (HE2.out.below hb23);clear hb23 hb3 hs3 t0 t1 t2 t3 t4 t5 tf HX1 HE1 HX2 HE2 HY2 HS1 HS2 HT2 HB1 HB2;obtain⟨t0,t1,t2,t3,t4,t5,tf⟩:=qaa HC3.out.by_;obtain⟨z0,z1,z2,z3,z4,z5,zf⟩:=qaa HC3.out.bz;go_upto_region 6 with fail
 rw[HW3.out,HR.out];cases ok
 · have hff:(false !=false)=false:=rfl;go_wp2_with fail
   refine(qcK y _ _ _ _ _ _ _ _ W3 HC3.out.sy.r HC3.out.sz.r).mono ?_;rintro e w4 ⟨rfl,hb4⟩;have HC4:=hI_ (HC3.out.below hb4);clear hb4 t0 t1 t2 t3 t4 t5 tf z0 z1 z2 z3 z4 z5 zf HC3;obtain⟨t0,t1,t2,t3,t4,t5,tf⟩:=qaa HC4.out.by_;obtain⟨z0,z1,z2,z3,z4,z5,zf⟩:=qaa HC4.out.bz;go_wp2_with fail
   refine(qcK y _ _ _ _ _ _ _ _ w4 HC4.out.sy.r HC4.out.sz.r).mono ?_;rintro e w5 ⟨rfl,hb5⟩;have HC5:=hI_ (HC4.out.below hb5);clear hb5 t0 t1 t2 t3 t4 t5 tf z0 z1 z2 z3 z4 z5 zf;go_wp2_with fail
   go_ret;exact⟨rfl,HC5.out.o⟩
 go_wp2_with fail
 refine(qcK y _ _ _ _ _ _ _ _ W3 HC3.out.sy.r HC3.out.sz.r).mono ?_;rintro e w4 ⟨rfl,hb4⟩;have HC4:=hI_ (HC3.out.below hb4);clear hb4 t0 t1 t2 t3 t4 t5 tf z0 z1 z2 z3 z4 z5 zf HC3;have HWY:Hid (WV y):=hI_ bs_;obtain⟨t0,t1,t2,t3,t4,t5,tf⟩:=qaa HC4.out.by_;have hnn:(y.net.length:Int)≤12:=by have:=HWY.out.nn;omega
 have HNN:=hI_ hnn;have hm1:=HC4.out.sy.r.asked.len;unfold maxLen at hm1;clear hnn;have lp:=qai HC4.out.by_;have HP:=hI_ HC4.out.by_;have HA:=hI_ HC4.out.sy.r.asked;go_wp2_with fail
 clear t0 t1 t2 t3 t4 t5 tf;go_loopw [9] (fun i wr=>∃ k:Nat,k≤y.asked.length∧i=.int .i64 k∧Below w4.heap.size w4 wr) (fun i _=>y.asked.length-(intOf i).toNat)
 case atStart=>exact⟨0,Nat.zero_le _,rfl,bR_ _ _⟩
 case round=>
  obtain⟨k,hk,rfl,hbw⟩:=hrel;obtain⟨wr1,rfl⟩:∃ W,W=wr:=⟨_,rfl⟩
  have HBW:=hI_ hbw;obtain⟨t0,t1,t2,t3,t4,t5,tf⟩:=qaa ((hbw.block _ lp).trans HP.out);by_cases hlt:k<y.asked.length
  · have hki:(k:Int)<(y.asked.length:Int):=a_;have hk0:(0:Int)≤(k:Int):=a_;obtain⟨b,o,ya,hA,hbs,h1,hR⟩:=(HA.out.below hbw).at_ hlt;subst hA;have HRA:=hI_ hR;have HWN:Hid (qaG y.asked[k]=true):=hI_ (HWY.out.wd k hlt);clear hR hbw;go_wp2_with fail
    refine(qgu HWN _ wr1 HRA.out).mono ?_;rintro e w5 ⟨rfl,hb5⟩;have HBX:=hI_ (HBW.out.trans (hb5.mono HBW.out.size));clear hb5 t0 t1 t2 t3 t4 t5 tf h1;go_wp2_with fail
    go_roundw
    case rel=>exact⟨k+1,a_,t_,HBX.out⟩
    case measure=>simp[intOf];omega
  have hki:¬ (k:Int)<(y.asked.length:Int):=a_;have hnn:=HNN.out;clear hbw;go_wp2_with fail
  go_ret;exact⟨k_,HC4.out.o.trans (HBW.out.mono HC4.out.o.size)⟩
end Go.Proofs.YtcnpmbdkcflboaaGreatDoor

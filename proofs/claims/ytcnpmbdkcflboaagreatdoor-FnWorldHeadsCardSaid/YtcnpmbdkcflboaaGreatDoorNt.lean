/- Walk: the law FnWorldHeads. No condition but the package's own variable. -/
import Derived.Test.YtcnpmbdkcflboaaGreatDoorCV
set_option linter.unusedVariables false
set_option linter.unusedSimpArgs false
namespace Go.Proofs.YtcnpmbdkcflboaaGreatDoor
open Go.RowKit
attribute [local go_sem ↓] Go.wp_at_zero Go.wp_at_succ

set_option maxHeartbeats 12800000 in
set_option maxRecDepth 100000 in
theorem FnWorldHeads_any(bs:List UInt8)(v:Value)(w:World)(hv:RU w v bs)(he:qsC w):Calls Tryz.prog 3 #[v] w fun e w'=>e=.returned (.bool true)∧Below w.heap.size w w':=by
 have HV:=hI_ hv;have HER:=hI_ he;have HLT:=hI_ he.lt;clear he;obtain⟨A,c,rfl,n1,n2,n3⟩:=hv;unfold maxLen at n2;have hbm:bs.length≤9223372036854775807:=by have:=n1.1;omega
 clear n1 n2 n3;by_cases hl:1048576<bs.length
 · have hl':(1048576:Int)<(bs.length:Int):=a_;go_enter Tryz.func3,Tryz.ntmps3
   go_wp2
   go_ret;exact⟨rfl,bR_ _ _⟩
 have hl':¬ (1048576:Int)<(bs.length:Int):=a_;clear hl;go_enter Tryz.func3,Tryz.ntmps3
 go_wp2_with fail
 refine(quK bs _ w HV.out).mono ?_;rintro e w1 ⟨x,uF,uL,uA,uN,es,vE,rfl,hd,hs,hE,ht,hn81,hb1⟩;obtain⟨⟨A1,c1,rfl⟩,⟨A2,c2,rfl⟩,⟨A3,c3,rfl⟩,⟨A4,c4,rfl⟩⟩:=hs.sl;obtain⟨EA,Ec,rfl⟩:=hE.sl;obtain⟨p,HPP⟩:=nm_ w1.heap.size;obtain⟨W1,HW1⟩:=nm_ (w1.alloc (.cells #[.int .i64 x.sec,.int .i64 x.bad,.slice A1 x.feeds.length c1,.slice A2 x.links.length c2,.slice A3 x.asked.length c3,.slice A4 x.net.length c4] 28));have HB1:Hid (Below w.heap.size w W1):=hI_ bA_;have hb01:Below w1.heap.size w1 W1:=by rw[←HW1.out];exact qab (bR_ _ _) _
 have HS1:Hid (WdS W1 x (.slice A1 x.feeds.length c1) (.slice A2 x.links.length c2) (.slice A3 x.asked.length c3) (.slice A4 x.net.length c4)):=hI_ (hs.below hb01);have HX1:Hid (W1.heap[p]? =some (.cells #[.int .i64 x.sec,.int .i64 x.bad,.slice A1 x.feeds.length c1,.slice A2 x.links.length c2,.slice A3 x.asked.length c3,.slice A4 x.net.length c4] 28 (0,0))):=hI_ bp_;have HE1:=hI_ (hE.below hb01);have HD:=hI_ hd;have HTE:Hid (∀ j (hj:j<es.length),es[j].txt.size≤maxLen):=hI_ (fun j hj=>Nat.le_trans (ht j hj) s_);have HN81:=hI_ hn81;clear hd hs hb1 ht hbm hl' hn81 hE hb01;obtain⟨t0,t1,t2,t3,t4,t5,tf⟩:=qaa HX1.out;go_upto_region 4 with fail
 rw[HW1.out,HPP.out];go_wp2_with fail
 refine(quP x es _ _ _ _ _ W1 HS1.out.r HD.out.txts HE1.out HTE.out (HER.out.next HLT.out HB1.out)).mono ?_;rintro e w2 ⟨vF,vL,vA,vN,rfl,hs2,hb2⟩;obtain⟨y,HY⟩:=nm_ (quL x es);obtain⟨ok,HOK⟩:=nm_ (quM x es);rw[HY.out] at hs2 ⊢;rw[HOK.out];obtain⟨⟨B1,d1,rfl⟩,⟨B2,d2,rfl⟩,⟨B3,d3,rfl⟩,⟨B4,d4,rfl⟩⟩:=hs2.sl;obtain⟨q,HQ⟩:=nm_ w2.heap.size;obtain⟨W2,HW2⟩:=nm_ (w2.alloc (.cells #[.int .i64 y.sec,.int .i64 y.bad,.slice B1 y.feeds.length d1,.slice B2 y.links.length d2,.slice B3 y.asked.length d3,.slice B4 y.net.length d4] 28));have hb12:Below W1.heap.size W1 W2:=by rw[←HW2.out];exact qab hb2 _
 have HX2:=hI_ ((hb12.block _ (qai HX1.out)).trans HX1.out);have HE2:=hI_ (HE1.out.below hb12);have HY2:Hid (W2.heap[q]? =some (.cells #[.int .i64 y.sec,.int .i64 y.bad,.slice B1 y.feeds.length d1,.slice B2 y.links.length d2,.slice B3 y.asked.length d3,.slice B4 y.net.length d4] 28 (0,0))):=hI_ bh_;have HS2:=hI_ (HS1.out.below hb12);have HT2:Hid (WdS W2 y (.slice B1 y.feeds.length d1) (.slice B2 y.links.length d2) (.slice B3 y.asked.length d3) (.slice B4 y.net.length d4)):=hI_ bi_;have HB2:=hI_ (HB1.out.trans (hb12.mono HB1.out.size));clear hb2 hs2 hb12 t0 t1 t2 t3 t4 t5 tf;obtain⟨t0,t1,t2,t3,t4,t5,tf⟩:=qaa HX2.out;go_upto_region 5 with fail
 rw[HW2.out,HQ.out];go_wp2_with fail
 refine(quQ x es _ _ _ _ _ W2 HS2.out HD.out.txts HE2.out HTE.out).mono ?_;rintro e w3 ⟨vF,vL,vA,vN,rfl,hs3,hb3⟩;rw[HY.out] at hs3 ⊢;rw[HOK.out];obtain⟨⟨E1,e1,rfl⟩,⟨E2,e2,rfl⟩,⟨E3,e3,rfl⟩,⟨E4,e4,rfl⟩⟩:=hs3.sl;obtain⟨r,HR⟩:=nm_ w3.heap.size;obtain⟨W3,HW3⟩:=nm_ (w3.alloc (.cells #[.int .i64 y.sec,.int .i64 y.bad,.slice E1 y.feeds.length e1,.slice E2 y.links.length e2,.slice E3 y.asked.length e3,.slice E4 y.net.length e4] 28));have hb23:Below W2.heap.size W2 W3:=by rw[←HW3.out];exact qab hb3 _
 have HC3:Hid (qvf w p q r x y (.slice A1 x.feeds.length c1) (.slice A2 x.links.length c2) (.slice A3 x.asked.length c3) (.slice A4 x.net.length c4) (.slice B1 y.feeds.length d1) (.slice B2 y.links.length d2) (.slice B3 y.asked.length d3) (.slice B4 y.net.length d4) (.slice E1 y.feeds.length e1) (.slice E2 y.links.length e2) (.slice E3 y.asked.length e3) (.slice E4 y.net.length e4) W3):=hI_ ⟨(hb23.block _ (qai HX2.out)).trans HX2.out,(hb23.block _ (qai HY2.out)).trans HY2.out,bj_,HS2.out.below hb23,HT2.out.below hb23,bk_,HB2.out.trans (hb23.mono HB2.out.size)⟩;have HE3:=hI_ (HE2.out.below hb23);clear hb23 hb3 hs3 t0 t1 t2 t3 t4 t5 tf HX1 HE1 HX2 HE2 HY2 HS1 HS2 HT2 HB1 HB2;obtain⟨t0,t1,t2,t3,t4,t5,tf⟩:=qaa HC3.out.by_;obtain⟨z0,z1,z2,z3,z4,z5,zf⟩:=qaa HC3.out.bz;go_upto_region 6 with fail
 rw[HW3.out,HR.out];cases ok
 · have hff:(false !=false)=false:=rfl;go_wp2_with fail
   refine(qcK y _ _ _ _ _ _ _ _ W3 HC3.out.sy.r HC3.out.sz.r).mono ?_;rintro e w4 ⟨rfl,hb4⟩;have HC4:=hI_ (HC3.out.below hb4);clear hb4 t0 t1 t2 t3 t4 t5 tf z0 z1 z2 z3 z4 z5 zf HC3;obtain⟨t0,t1,t2,t3,t4,t5,tf⟩:=qaa HC4.out.by_;obtain⟨z0,z1,z2,z3,z4,z5,zf⟩:=qaa HC4.out.bz;go_wp2_with fail
   refine(qcK y _ _ _ _ _ _ _ _ w4 HC4.out.sy.r HC4.out.sz.r).mono ?_;rintro e w5 ⟨rfl,hb5⟩;have HC5:=hI_ (HC4.out.below hb5);clear hb5 t0 t1 t2 t3 t4 t5 tf z0 z1 z2 z3 z4 z5 zf;go_wp2_with fail
   go_ret;exact⟨rfl,HC5.out.o⟩
 go_wp2_with fail
 refine(qcK y _ _ _ _ _ _ _ _ W3 HC3.out.sy.r HC3.out.sz.r).mono ?_;rintro e w4 ⟨rfl,hb4⟩;have HC4:=hI_ (HC3.out.below hb4);clear hb4 t0 t1 t2 t3 t4 t5 tf z0 z1 z2 z3 z4 z5 zf HC3;have HWY:Hid (WV y):=hI_ bs_;obtain⟨t0,t1,t2,t3,t4,t5,tf⟩:=qaa HC4.out.by_;have HDY:Hid (DW y):=hI_ (by rw[←HY.out,quO HOK.out];exact qva HD.out es);have hm1:=HC4.out.sy.r.feeds.len;unfold maxLen at hm1;have hn0:0<y.feeds.length:=by have:=HWY.out.wi.n1;omega
 have hn0':(0:Int)<(y.feeds.length:Int):=a_;have lp:=qai HC4.out.by_;have HP:=hI_ HC4.out.by_;have HV:=hI_ HC4.out.sy.r.feeds;obtain⟨pk,HPK⟩:=nm_ (qhr y.sec);obtain⟨f0,HF0⟩:=nm_ y.f0;go_wp2_with fail
 clear t0 t1 t2 t3 t4 t5 tf;go_loopw [9] (fun i wr=>∃ k:Nat,k≤y.feeds.length∧i=.int .i64 k∧Below w4.heap.size w4 wr) (fun i _=>y.feeds.length-(intOf i).toNat)
 case atStart=>exact⟨0,Nat.zero_le _,rfl,bR_ _ _⟩
 case round=>
  obtain⟨k,hk,rfl,hbw⟩:=hrel;obtain⟨wr1,rfl⟩:∃ W,W=wr:=⟨_,rfl⟩
  have HBW:=hI_ hbw;have lp':=nL_ lp hbw.size;obtain⟨t0,t1,t2,t3,t4,t5,tf⟩:=qaa ((hbw.block _ lp).trans HP.out);by_cases hlt:k<y.feeds.length
  · have hki:(k:Int)<(y.feeds.length:Int):=a_;have hk0:(0:Int)≤(k:Int):=a_;obtain⟨b,o,xb,xh,hA,hbs,e0,e1,e2,e3,e4,e5,hFk⟩:=(HV.out.below hbw).at_ hlt;have hA':=hA;subst hA;obtain⟨f,HFE⟩:=nm_ (y.feeds[k]);rw[HFE.out] at e1 e2 e3;have HFD:Hid (qgA y.sec f0 f):=hI_ (by rw[←HF0.out,←HFE.out];exact HWY.out.fd k hlt);have hnn:=qvc HFD.out;have hle:=HFD.out.le;clear hbw e0 e4 e5 hFk hA';go_upto_region 12 with fail
    obtain⟨W5,HW5⟩:=nm_ (wr1.alloc (.cells #[.int .i64 f.hd.len,.int .i64 f.hd.dg,.int .i64 f.hd.sg] 36));obtain⟨g,HG⟩:=nm_ wr1.heap.size;have hb5:Below wr1.heap.size wr1 W5:=by rw[←HW5.out];exact qab (bR_ _ _) _
    have HB5:=hI_ (HBW.out.trans (hb5.mono HBW.out.size));have HHB:Hid (W5.heap[g]? =some (.cells #[.int .i64 f.hd.len,.int .i64 f.hd.dg,.int .i64 f.hd.sg] 36 (0,0))):=hI_ (by rw[←HW5.out,←HG.out];exact heap_alloc_new _ _);rw[HW5.out,HG.out];clear hb5 t0 t1 t2 t3 t4 t5 tf e1 e2 e3 lp' hbs;have lp':=nL_ lp HB5.out.size;have lg:=qai HHB.out;obtain⟨t0,t1,t2,t3,t4,t5,tf⟩:=qaa ((HB5.out.block _ lp).trans HP.out);obtain⟨h0,h1,h2,hf⟩:=qaS HHB.out;obtain⟨_,_,yb,yh,hA,hbs,_,g1,_,_,_,_,_⟩:=(HV.out.below HB5.out).at0 hn0;cases hA;have g1':W5.cell? ⟨b,o+1,none⟩=some (.int .i64 f0.hd.len):=by rw[←HF0.out];exact g1
    clear g1;have hle':¬ f0.hd.len<f.hd.len:=a_;have hup:=qap W5;have HREST:Hid (∀ w1,Below W5.heap.size W5 w1→w1.heap[g]? =some (.cells #[.int .i64 f.hd.len,.int .i64 f.hd.dg,.int .i64 f.hd.sg] 36 (0,0))∧Below w4.heap.size w4 w1):=hI_ (fun w1 h=>⟨(h.block _ (qai HHB.out)).trans HHB.out,HB5.out.trans (h.mono HB5.out.size)⟩);go_cut [87] (fun s87 wx=>s87=.bool false∧wx.heap[g]? =some (.cells #[.int .i64 f.hd.len,.int .i64 f.hd.dg,.int .i64 f.hd.sg] 36 (0,0))∧Below w4.heap.size w4 wx)
    case first=>
     by_cases hz:0<f.hd.len
     · have HCK:Hid (qbE pk f.hd=true):=hI_ (by rw[←HPK.out];exact qu5 HFD.out hz);refine qoH ?_;repeat(go_big_quiet_step (first
        |(go_at_call 20;exact qaj (qcr HPK _))
        |(go_at_call 19;exact qal (qbq HCK _))))
       refine wq_ fun w1 hb1=>?_;clear hup;go_wp2_with fail
       go_meet;exact⟨rfl,HREST.out _ hb1⟩
     · refine qoH ?_;repeat(go_big_quiet_step (fail))
       refine wq_ fun w1 hb1=>?_;clear hup;go_wp2_with fail
       go_meet;exact⟨rfl,HREST.out _ hb1⟩
    case rest=>
     obtain⟨rfl,hg,hb⟩:=hcut;obtain⟨wx,rfl⟩:∃ W,W=wc:=⟨_,rfl⟩
     have HBX:=hI_ hb;have HGX:=hI_ hg;clear hg hb t0 t1 t2 t3 t4 t5 tf h0 h1 h2 hf g1' lp' lg hup hle hle' hnn hbs;go_wp2_with fail
     go_loopw [11] (fun i wr=>∃ j:Nat,j≤k∧i=.int .i64 j∧wr.heap[g]? =some (.cells #[.int .i64 f.hd.len,.int .i64 f.hd.dg,.int .i64 f.hd.sg] 36 (0,0))∧Below w4.heap.size w4 wr) (fun i _=>k-(intOf i).toNat)
     case atStart=>exact⟨0,Nat.zero_le _,rfl,HGX.out,HBX.out⟩
     case round=>
      obtain⟨j,hj,rfl,hg,hbw⟩:=hrel;obtain⟨wr2,rfl⟩:∃ W,W=wr:=⟨_,rfl⟩
      have HBY:=hI_ hbw;have HGY:=hI_ hg;by_cases hjk:j<k
      · have hji:(j:Int)<(k:Int):=a_;have hj0:(0:Int)≤(j:Int):=a_;have hjt:j<y.feeds.length:=a_;have hjt':(j:Int)<(y.feeds.length:Int):=a_;have lp':=nL_ lp hbw.size;have lg:=qai hg;obtain⟨t0,t1,t2,t3,t4,t5,tf⟩:=qaa ((hbw.block _ lp).trans HP.out);obtain⟨h0,h1,h2,hf⟩:=qaS hg;obtain⟨_,_,yb,yh,hA,hbs,_,e1,e2,e3,_,_,_⟩:=(HV.out.below hbw).at_ hjt;cases hA;obtain⟨f2,HF2⟩:=nm_ (y.feeds[j]);rw[HF2.out] at e1 e2 e3;have hup:=qap wr2;have HREST:Hid (∀ w1,Below wr2.heap.size wr2 w1→w1.heap[g]? =some (.cells #[.int .i64 f.hd.len,.int .i64 f.hd.dg,.int .i64 f.hd.sg] 36 (0,0))∧Below w4.heap.size w4 w1):=hI_ (fun w1 h=>⟨(h.block _ (qai HGY.out)).trans HGY.out,HBY.out.trans (h.mono HBY.out.size)⟩);clear hbw hg;by_cases hq:f2.hd.len=f.hd.len
        · have hsame:f2.hd=f.hd:=by
           rw[←HF2.out,←HFE.out];exact quY HDY.out hjt hlt (by rw[HF2.out,HFE.out];exact hq)
          rw[hsame] at e1 e2 e3;clear hsame hq;go_wp2_with fail
          refine qoH ?_;repeat(go_big_quiet_step (fail))
          refine wq_ fun w1 hb1=>?_;clear hup t0 t1 t2 t3 t4 t5 tf h0 h1 h2 hf e1 e2 e3;go_wp2_with fail
          go_roundw
          case rel=>exact⟨j+1,a_,t_,HREST.out _ hb1⟩
          case measure=>simp[intOf];omega
        · have hq':(f2.hd.len==f.hd.len)=false:=by simpa using hq
          go_wp2_with fail
          refine qoH ?_;repeat(go_big_quiet_step (fail))
          refine wq_ fun w1 hb1=>?_;clear hup t0 t1 t2 t3 t4 t5 tf h0 h1 h2 hf e1 e2 e3;go_wp2_with fail
          go_roundw
          case rel=>exact⟨j+1,a_,t_,HREST.out _ hb1⟩
          case measure=>simp[intOf];omega
      have hji:¬ (j:Int)<(k:Int):=a_;clear hbw hg;go_wp2_with fail
      go_roundw
      case rel=>exact⟨k+1,a_,t_,HBY.out⟩
      case measure=>simp[intOf];omega
  have hki:¬ (k:Int)<(y.feeds.length:Int):=a_;clear hbw;go_wp2_with fail
  go_ret;exact⟨rfl,HC4.out.o.trans (HBW.out.mono HC4.out.o.size)⟩
end Go.Proofs.YtcnpmbdkcflboaaGreatDoor

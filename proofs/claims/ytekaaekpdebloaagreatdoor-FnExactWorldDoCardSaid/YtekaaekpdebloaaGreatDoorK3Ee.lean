/- Words and walks of the law. -/
import Derived.Test.YtekaaekpdebloaaGreatDoorK2Ee
set_option linter.unusedVariables false
set_option linter.unusedSimpArgs false
set_option maxHeartbeats 12800000
set_option maxRecDepth 100000
namespace Go.Proofs.YtekaaekpdebloaaGreatDoor
open Go.RowKit
attribute [local go_sem ↓] Go.wp_at_zero Go.wp_at_succ

theorem qwc(x:Wd)(e:Ev):qqP (quj x e)≤1048576:=by
 unfold quj;split
 · rename_i h
   exact Nat.le_trans (qrx ((qcq.1 h).do_ e)) e_
 · decide
theorem FnExactWorldDo_any(x:Wd)(kd ea eb ec:Int)(et:ByteArray)(vF vL vK vN:Value)(w:World)(hx:WdR w x vF vL vK vN)(ht:qrA x)(hte:et.size≤maxLen)(he:qsC w):
 gV 12 #[.agg #[.int .i64 x.sec,.int .i64 x.bad,vF,vL,vK,vN],.agg #[.int .i64 kd,.int .i64 ea,.int .i64 eb,.int .i64 ec,.string et]] w (.bool true):=by
 obtain⟨y,HY⟩:=nm_ (quj x ⟨kd,ea,eb,ec,et⟩);have HYS:Hid (qqP y≤1048576):=hI_ (by rw[←HY.out];exact qwc x _);have HX0:=hI_ hx;have HT:=hI_ ht;have HTE:=hI_ hte;have HER:=hI_ he;have HLT:=hI_ he.lt;obtain⟨q,HQQ⟩:=nm_ w.heap.size;have HSV:Hid (∀ (uF uL uK uN:Value) (W':World),WdS W' x uF uL uK uN→Calls Tryz.prog 16 #[.agg #[.int .i64 x.sec,.int .i64 x.bad,uF,uL,uK,uN],.agg #[.int .i64 kd,.int .i64 ea,.int .i64 eb,.int .i64 ec,.string et]] W' (qhd W' y)):=hI_ (fun uF uL uK uN W' h=>by
  have:=qtE x ⟨kd,ea,eb,ec,et⟩ uF uL uK uN W' h HT.out.n HTE.out;rwa[HY.out] at this)
 have HIV:Hid (∀ (uF uL uK uN:Value) (W':World),WdR W' x uF uL uK uN→bB w W'→Calls Tryz.prog 15 #[.agg #[.int .i64 x.sec,.int .i64 x.bad,uF,uL,uK,uN],.agg #[.int .i64 kd,.int .i64 ea,.int .i64 eb,.int .i64 ec,.string et]] W' (qk3 W' y)):=hI_ (fun uF uL uK uN W' h hb=>by
  have:=qtD x ⟨kd,ea,eb,ec,et⟩ uF uL uK uN W' h HT.out.n HTE.out (HER.out.next HLT.out hb);rwa[HY.out] at this)
 clear HY hx ht hte he;obtain⟨W0,HW0⟩:=nm_ ((w.alloc (.cells #[.int .i64 x.sec,.int .i64 x.bad,vF,vL,vK,vN] 68)).alloc (.cells #[.int .i64 kd,.int .i64 ea,.int .i64 eb,.int .i64 ec,.string et] 69));have HB0:Hid (bB w W0):=hI_ ai_;have HP:Hid (W0.heap[q]? =some (.cells #[.int .i64 x.sec,.int .i64 x.bad,vF,vL,vK,vN] 68 (0,0))):=hI_ (by rw[←HW0.out,←HQQ.out];exact qau (heap_alloc_new w _));have HE:Hid (W0.heap[q+1]? =some (.cells #[.int .i64 kd,.int .i64 ea,.int .i64 eb,.int .i64 ec,.string et] 69 (0,0))):=hI_ (by rw[←HW0.out,←HQQ.out];exact qbu k_);have HX:=hI_ (HX0.out.below HB0.out);have hw:w.heap.size=q:=HQQ.out;go_enter Tryz.func12,Tryz.ntmps12
 go_wp2_with fail
 clear hw;rw[HW0.out];refine(qre _ _ _ _ _ W0 HX.out HT.out).mono ?_;rintro e w1 ⟨r,rfl,hr,hz,hb1⟩;have HB1:=hI_ (HB0.out.trans (hb1.mono HB0.out.size));have HB01:=hI_ hb1;by_cases hn:r<0
 · go_wp2
   go_ret;exact⟨rfl,HB1.out⟩
 have HWS:=hI_ (hz a_);have HZ:=hI_ (qqh HWS.out);clear hz hb1;obtain⟨v0,v1,v2,v3,v4,vf⟩:=qrL ((HB01.out.block _ (qai HE.out)).trans HE.out);go_wp2_with fail
 refine(qvI kd ea eb ec et r w1 HTE.out a_ a_).mono ?_;rintro e w2 ⟨⟨r2,rfl,hr2,-⟩,hb2⟩;have HB2:=hI_ (HB01.out.trans (hb2.mono HB01.out.size));have HBW:=hI_ (HB0.out.trans (HB2.out.mono HB0.out.size));clear hb2 v0 v1 v2 v3 v4 vf;by_cases hn2:r2<0
 · go_wp2
   go_ret;exact⟨rfl,HBW.out⟩
 clear hr hr2 HB01 HB1;have HP2:=hI_ ((HB2.out.block _ (qai HP.out)).trans HP.out);have HE2:=hI_ ((HB2.out.block _ (qai HE.out)).trans HE.out);have HX2:=hI_ (HX.out.below HB2.out);clear HP HE HX HB2 HW0 HB0;go_upto_region 8 with fail
 clear hn hn2;go_cut [6] (fun s wx=>∃ (m:Nat) (E1 E2 E3 E4:Option Addr) (e1 e2 e3 e4:Nat),s=.pointer (some ⟨m,0,none⟩)∧wx.heap[m]? =some (.cells #[.int .i64 y.sec,.int .i64 y.bad,.slice E1 y.feeds.length e1,.slice E2 y.links.length e2,.slice E3 y.asked.length e3,.slice E4 y.net.length e4] 28 (0,0))∧bB w2 wx∧w2.heap.size≤m∧WdS wx y (.slice E1 y.feeds.length e1) (.slice E2 y.links.length e2) (.slice E3 y.asked.length e3) (.slice E4 y.net.length e4))
 case first=>
  obtain⟨D,HD0⟩:∃ D,w2.drew=D:=⟨_,rfl⟩
  have hbD:bB w2 D:=by rw[←HD0];exact qac (bR_ _ _)
  have HBD:=hI_ hbD;have HXD:=hI_ (HX2.out.below hbD);have HPD:=hI_ ((hbD.block _ (qai HP2.out)).trans HP2.out);have HED:=hI_ ((hbD.block _ (qai HE2.out)).trans HE2.out);have HSS:Hid (∀ W,bB D W→W.cell? ⟨q,0,none⟩=some (.int .i64 x.sec)∧W.cell? ⟨q,1,none⟩=some (.int .i64 x.bad)∧W.cell? ⟨q,2,none⟩=some (vF)∧W.cell? ⟨q,3,none⟩=some (vL)∧W.cell? ⟨q,4,none⟩=some (vK)∧W.cell? ⟨q,5,none⟩=some (vN)∧W.cell? ⟨q+1,0,none⟩=some (.int .i64 kd)∧W.cell? ⟨q+1,1,none⟩=some (.int .i64 ea)∧W.cell? ⟨q+1,2,none⟩=some (.int .i64 eb)∧W.cell? ⟨q+1,3,none⟩=some (.int .i64 ec)∧W.cell? ⟨q+1,4,none⟩=some (.string et)):=hI_ (fun W hb=>by
   obtain⟨p0,p1,p2,p3,p4,p5,-⟩:=qaa ((hb.block _ (qai HPD.out)).trans HPD.out);obtain⟨v0,v1,v2,v3,v4,-⟩:=qrL ((hb.block _ (qai HED.out)).trans HED.out);exact⟨p0,p1,p2,p3,p4,p5,v0,v1,v2,v3,v4⟩)
  clear hbD;refine qwE (fun i=>decide (i<6)) HD0 HSS.out (fun hS hI=> ?_);clear HD0;refine gU_ ?_ hI hS;clear hI;refine tU_ 0 ?_;refine tU_ 2 ?_;refine eU_ fun hI=>?_;clear hS;obtain⟨wc,HWC⟩:∃ W,Hid (W=D):=⟨_,hI_ rfl⟩
  rw[←HWC.out];have HB:Hid (bB D wc):=hI_ (by rw[HWC.out];exact bR_ _ _);clear HWC;iterate 4 (
   all_goals(first
    |refine qrN (rs:=[1,5]) bm_ k_ (.cons hI rfl d_ (fun K_ hK=> ?_) (.cons hI rfl d_ (fun K_ hK=> ?_) .nil))
    |refine qrN (rs:=[3,5]) bm_ k_ (.cons hI rfl d_ (fun K_ hK=> ?_) (.cons hI rfl d_ (fun K_ hK=> ?_) .nil))
    |refine qrN (rs:=[4,5]) bm_ k_ (.cons hI rfl d_ (fun K_ hK=> ?_) (.cons hI rfl d_ (fun K_ hK=> ?_) .nil))
    |refine qrN (rs:=[1]) bm_ k_ (.cons hI rfl d_ (fun K_ hK=> ?_) .nil)
    |refine qrN (rs:=[3]) bm_ k_ (.cons hI rfl d_ (fun K_ hK=> ?_) .nil)
    |refine qrN (rs:=[4]) bm_ k_ (.cons hI rfl d_ (fun K_ hK=> ?_) .nil)
    |refine qrN (rs:=[5]) bm_ k_ (.cons hI rfl d_ (fun K_ hK=> ?_) .nil))
   all_goals(clear hI;go_simp)
   all_goals(first
    |(obtain⟨wn,HWN⟩:=nm_ (wc.alloc (.cells #[.int .i64 0,.int .i64 0,.slice none 0 0,.slice none 0 0,.slice none 0 0,.slice none 0 0] 28))
      rw[HWN.out];obtain⟨m,HNM⟩:=nm_ wc.heap.size;rw[HNM.out];have hb:bB wc wn:=by rw[←HWN.out];exact qab (bR_ _ _) _
      have hnew:wn.heap[m]? =some (.cells #[.int .i64 0,.int .i64 0,.slice none 0 0,.slice none 0 0,.slice none 0 0,.slice none 0 0] 28 (0,0)):=by rw[←HWN.out,←HNM.out];exact heap_alloc_new _ _
      have hge:D.heap.size≤m:=by rw[←HNM.out];exact HB.out.size
      (try have HMB:Hid (m<B∨C≤m):=hI_ (Or.inr (by rw[←HNM.out];exact HCS.out)))
      replace HB:=hI_ (HB.out.trans (hb.mono HB.out.size))
      (try replace HMZ:=hI_ ((hb.block _ (qai HMZ.out)).trans HMZ.out))
      (try replace HOW:=hI_ (HOW.out.below hb))
      (try replace HPY:=hI_ (HPY.out.below hb))
      (try replace HCS:=hI_ (Nat.le_trans HCS.out hb.size))
      have HMZ:=hI_ hnew;have HMD:=hI_ hge;clear hb hnew hge HWN HNM;obtain⟨wc,rfl⟩:∃ W,W=wn:=⟨_,rfl⟩)
    |(go_at_call 37
      refine(qpF x vF vL vK vN wc (HXD.out.below HB.out) HZ.out).mono ?_;rintro e wn ⟨A1,a1,A2,a2,A3,a3,A4,a4,rfl,ho,hb⟩;replace HB:=hI_ (HB.out.trans (hb.mono HB.out.size))
      (try replace HMZ:=hI_ ((hb.block _ (qai HMZ.out)).trans HMZ.out))
      (try replace HOW:=hI_ (HOW.out.below hb))
      (try replace HPY:=hI_ (HPY.out.below hb))
      (try replace HCS:=hI_ (Nat.le_trans HCS.out hb.size))
      have HOW:=hI_ ho.p.st;clear ho hb;obtain⟨wc,rfl⟩:∃ W,W=wn:=⟨_,rfl⟩)
    |(go_at_call 38
      refine(qvw kd ea eb ec et wc).mono ?_;rintro e wn ⟨rfl,hb⟩;replace HB:=hI_ (HB.out.trans (hb.mono HB.out.size))
      (try replace HMZ:=hI_ ((hb.block _ (qai HMZ.out)).trans HMZ.out))
      (try replace HOW:=hI_ (HOW.out.below hb))
      (try replace HPY:=hI_ (HPY.out.below hb))
      (try replace HCS:=hI_ (Nat.le_trans HCS.out hb.size))
      clear hb;obtain⟨wc,rfl⟩:∃ W,W=wn:=⟨_,rfl⟩)
    |(go_at_call 16
      refine(HSV.out _ _ _ _ wc HOW.out).mono ?_;rintro e wn ⟨uF,uL,uA,uN,rfl,hs,hb⟩;obtain⟨⟨E1,e1,rfl⟩,⟨E2,e2,rfl⟩,⟨E3,e3,rfl⟩,⟨E4,e4,rfl⟩⟩:=hs.sl;replace HB:=hI_ (HB.out.trans (hb.mono HB.out.size))
      (try replace HMZ:=hI_ ((hb.block _ (qai HMZ.out)).trans HMZ.out))
      have HPY:=hI_ hs;clear hs hb;obtain⟨wc,rfl⟩:∃ W,W=wn:=⟨_,rfl⟩))
   all_goals(refine hK.out _ _ (HSS.out _ HB.out) (fun hI=> ?_);clear hK))
  all_goals
   have z0:=qaa HMZ.out;refine qrK (i:=6) hI rfl d_ rfl (fun K_ hK=> ?_);clear hI;go_simp;obtain⟨wn,HWN⟩:=nm_ ((((((wc.setCell ⟨m,0,none⟩ (.int .i64 y.sec)).setCell ⟨m,1,none⟩ (.int .i64 y.bad)).setCell ⟨m,2,none⟩ (.slice E1 y.feeds.length e1)).setCell ⟨m,3,none⟩ (.slice E2 y.links.length e2)).setCell ⟨m,4,none⟩ (.slice E3 y.asked.length e3)).setCell ⟨m,5,none⟩ (.slice E4 y.net.length e4));rw[HWN.out];clear z0;refine hK.out _ _ (fun hI=> ?_);clear hK;refine qrM d_ ?_;go_wp2
   go_meet;refine⟨m,E1,E2,E3,E4,e1,e2,e3,e4,rfl,?_,?_,?_,?_⟩
   · rw[←HWN.out];exact qcU HMZ.out _ _ _ _ _ _
   · rw[←HWN.out];exact qae (HBD.out.trans (HB.out.mono HBD.out.size)) (Nat.le_trans HBD.out.size HMD.out) _ _ _ _ _ _
   · exact Nat.le_trans HBD.out.size HMD.out
   · rw[←HWN.out];exact HPY.out.set6 HMZ.out _ _ _ _ _ _
 case rest=>
 obtain⟨m,E1,E2,E3,E4,e1,e2,e3,e4,rfl,hm,hb,hge,hs⟩:=hcut;obtain⟨W3,rfl⟩:∃ W,W=wc:=⟨_,rfl⟩
 have HM3:=hI_ hm;have HS3:=hI_ hs.r;have HP3:=hI_ ((hb.block _ (qai HP2.out)).trans HP2.out);have HE3:=hI_ ((hb.block _ (qai HE2.out)).trans HE2.out);have HX3:=hI_ (HX2.out.below hb);have HBW3:=hI_ (HBW.out.trans (hb.mono HBW.out.size));clear hm hs hb hge HP2 HE2 HX2 HBW;obtain⟨p0,p1,p2,p3,p4,p5,pf⟩:=qaa HP3.out;go_wp2_with fail
 clear p0 p1 p2 p3 p4 p5 pf;refine(qpF _ _ _ _ _ W3 HX3.out HZ.out).mono ?_;rintro e w4 ⟨X1,x1,X2,x2,X3,x3,X4,x4,rfl,ho4,hb4⟩;obtain⟨g,HGG⟩:=nm_ w4.heap.size;obtain⟨W4,HW4⟩:=nm_ (w4.alloc (.cells #[.int .i64 x.sec,.int .i64 x.bad,.slice X1 x.feeds.length x1,.slice X2 x.links.length x2,.slice X3 x.asked.length x3,.slice X4 x.net.length x4] 28));have hbx:bB w4 W4:=by rw[←HW4.out];exact(bR_ _ _).alloc (nr_ _) _
 have HG:Hid (W4.heap[g]? =some (.cells #[.int .i64 x.sec,.int .i64 x.bad,.slice X1 x.feeds.length x1,.slice X2 x.links.length x2,.slice X3 x.asked.length x3,.slice X4 x.net.length x4] 28 (0,0))):=hI_ (by rw[←HW4.out,←HGG.out];exact heap_alloc_new w4 _);have HB34:Hid (bB W3 W4):=hI_ (hb4.trans (hbx.mono hb4.size));have HO:=hI_ (ho4.below hbx);have HG4:Hid (g≤W4.heap.size):=hI_ (Nat.le_of_lt (qai HG.out));clear hbx ho4 hb4;go_upto_region 10 with fail
 rw[HW4.out,HGG.out];go_cut [8] (fun s wx=>∃ (m:Nat) (H1 H2 H3 H4:Option Addr) (h1 h2 h3 h4:Nat),s=.pointer (some ⟨m,0,none⟩)∧wx.heap[m]? =some (.cells #[.int .i64 y.sec,.int .i64 y.bad,.slice H1 y.feeds.length h1,.slice H2 y.links.length h2,.slice H3 y.asked.length h3,.slice H4 y.net.length h4] 28 (0,0))∧bB W4 wx∧W4.heap.size≤m∧(∃ B C,(m<B∨C≤m)∧W4.heap.size≤B∧B≤C∧C≤wx.heap.size∧WdP B C wx y (.slice H1 y.feeds.length h1) (.slice H2 y.links.length h2) (.slice H3 y.asked.length h3) (.slice H4 y.net.length h4)))
 case first=>
  obtain⟨D,HD0⟩:∃ D,W4.drew=D:=⟨_,rfl⟩
  have hbD:bB W4 D:=by rw[←HD0];exact qac (bR_ _ _)
  have HBD:=hI_ hbD;have HGD:=hI_ ((hbD.block _ (qai HG.out)).trans HG.out);have HED:=hI_ ((hbD.block _ (qai ((HB34.out.block _ (qai HE3.out)).trans HE3.out))).trans ((HB34.out.block _ (qai HE3.out)).trans HE3.out));have HOG:=hI_ (HO.out.p.st.below hbD);have HBW:=hI_ (HBW3.out.trans ((HB34.out.trans (hbD.mono HB34.out.size)).mono HBW3.out.size));have HSS:Hid (∀ W,bB D W→W.cell? ⟨g,0,none⟩=some (.int .i64 x.sec)∧W.cell? ⟨g,1,none⟩=some (.int .i64 x.bad)∧W.cell? ⟨g,2,none⟩=some (.slice X1 x.feeds.length x1)∧W.cell? ⟨g,3,none⟩=some (.slice X2 x.links.length x2)∧W.cell? ⟨g,4,none⟩=some (.slice X3 x.asked.length x3)∧W.cell? ⟨g,5,none⟩=some (.slice X4 x.net.length x4)∧W.cell? ⟨q+1,0,none⟩=some (.int .i64 kd)∧W.cell? ⟨q+1,1,none⟩=some (.int .i64 ea)∧W.cell? ⟨q+1,2,none⟩=some (.int .i64 eb)∧W.cell? ⟨q+1,3,none⟩=some (.int .i64 ec)∧W.cell? ⟨q+1,4,none⟩=some (.string et)):=hI_ (fun W hb=>by
   obtain⟨p0,p1,p2,p3,p4,p5,-⟩:=qaa ((hb.block _ (qai HGD.out)).trans HGD.out);obtain⟨v0,v1,v2,v3,v4,-⟩:=qrL ((hb.block _ (qai HED.out)).trans HED.out);exact⟨p0,p1,p2,p3,p4,p5,v0,v1,v2,v3,v4⟩)
  clear hbD;refine qwE (fun i=>decide (i<5)) HD0 HSS.out (fun hS hI=> ?_);clear HD0;refine gU_ ?_ hI hS;clear hI;refine tU_ 0 ?_;refine tU_ 1 ?_;refine eU_ fun hI=>?_;clear hS;obtain⟨wc,HWC⟩:∃ W,Hid (W=D):=⟨_,hI_ rfl⟩
  rw[←HWC.out];have HB:Hid (bB D wc):=hI_ (by rw[HWC.out];exact bR_ _ _);clear HWC;iterate 3 (
   all_goals(first
    |refine qrN (rs:=[2,4]) bm_ k_ (.cons hI rfl d_ (fun K_ hK=> ?_) (.cons hI rfl d_ (fun K_ hK=> ?_) .nil))
    |refine qrN (rs:=[3,4]) bm_ k_ (.cons hI rfl d_ (fun K_ hK=> ?_) (.cons hI rfl d_ (fun K_ hK=> ?_) .nil))
    |refine qrN (rs:=[2]) bm_ k_ (.cons hI rfl d_ (fun K_ hK=> ?_) .nil)
    |refine qrN (rs:=[3]) bm_ k_ (.cons hI rfl d_ (fun K_ hK=> ?_) .nil)
    |refine qrN (rs:=[4]) bm_ k_ (.cons hI rfl d_ (fun K_ hK=> ?_) .nil))
   all_goals(clear hI;go_simp)
   all_goals(first
    |(obtain⟨wn,HWN⟩:=nm_ (wc.alloc (.cells #[.int .i64 0,.int .i64 0,.slice none 0 0,.slice none 0 0,.slice none 0 0,.slice none 0 0] 28))
      rw[HWN.out];obtain⟨m,HNM⟩:=nm_ wc.heap.size;rw[HNM.out];have hb:bB wc wn:=by rw[←HWN.out];exact qab (bR_ _ _) _
      have hnew:wn.heap[m]? =some (.cells #[.int .i64 0,.int .i64 0,.slice none 0 0,.slice none 0 0,.slice none 0 0,.slice none 0 0] 28 (0,0)):=by rw[←HWN.out,←HNM.out];exact heap_alloc_new _ _
      have hge:D.heap.size≤m:=by rw[←HNM.out];exact HB.out.size
      (try have HMB:Hid (m<B∨C≤m):=hI_ (Or.inr (by rw[←HNM.out];exact HCS.out)))
      replace HB:=hI_ (HB.out.trans (hb.mono HB.out.size))
      (try replace HMZ:=hI_ ((hb.block _ (qai HMZ.out)).trans HMZ.out))
      (try replace HOW:=hI_ (HOW.out.below hb))
      (try replace HPY:=hI_ (HPY.out.below hb))
      (try replace HCS:=hI_ (Nat.le_trans HCS.out hb.size))
      have HMZ:=hI_ hnew;have HMD:=hI_ hge;clear hb hnew hge HWN HNM;obtain⟨wc,rfl⟩:∃ W,W=wn:=⟨_,rfl⟩)
    |(go_at_call 38
      refine(qvw kd ea eb ec et wc).mono ?_;rintro e wn ⟨rfl,hb⟩;replace HB:=hI_ (HB.out.trans (hb.mono HB.out.size))
      (try replace HMZ:=hI_ ((hb.block _ (qai HMZ.out)).trans HMZ.out))
      (try replace HOW:=hI_ (HOW.out.below hb))
      (try replace HPY:=hI_ (HPY.out.below hb))
      (try replace HCS:=hI_ (Nat.le_trans HCS.out hb.size))
      clear hb;obtain⟨wc,rfl⟩:∃ W,W=wn:=⟨_,rfl⟩)
    |(go_at_call 15
      refine(HIV.out _ _ _ _ wc (HOG.out.below HB.out).r (HBW.out.trans (HB.out.mono HBW.out.size))).mono ?_;rintro e wn ⟨uF,uL,uA,uN,rfl,hs,hb⟩;obtain⟨⟨H1,h1,rfl⟩,⟨H2,h2,rfl⟩,⟨H3,h3,rfl⟩,⟨H4,h4,rfl⟩⟩:=hs.st.sl;obtain⟨B,HBB⟩:=nm_ wc.heap.size;obtain⟨C,HCC⟩:=nm_ wn.heap.size
      (try have HMB:Hid (m<B∨C≤m):=hI_ (Or.inl (by rw[←HBB.out];exact qai HMZ.out)))
      have HDB:Hid (D.heap.size≤B):=hI_ (by rw[←HBB.out];exact HB.out.size);have HCS:Hid (C≤wn.heap.size):=hI_ (Nat.le_of_eq HCC.out.symm);have HBLE:Hid (B≤C):=hI_ (by rw[←HBB.out,←HCC.out];exact hb.size);rw[HBB.out,HCC.out] at hs;replace HB:=hI_ (HB.out.trans (hb.mono HB.out.size))
      (try replace HMZ:=hI_ ((hb.block _ (qai HMZ.out)).trans HMZ.out))
      have HPY:=hI_ hs;clear hs hb;obtain⟨wc,rfl⟩:∃ W,W=wn:=⟨_,rfl⟩))
   all_goals(refine hK.out _ _ (HSS.out _ HB.out) (fun hI=> ?_);clear hK))
  all_goals
   have z0:=qaa HMZ.out;refine qrK (i:=5) hI rfl d_ rfl (fun K_ hK=> ?_);clear hI;go_simp;obtain⟨wn,HWN⟩:=nm_ ((((((wc.setCell ⟨m,0,none⟩ (.int .i64 y.sec)).setCell ⟨m,1,none⟩ (.int .i64 y.bad)).setCell ⟨m,2,none⟩ (.slice H1 y.feeds.length h1)).setCell ⟨m,3,none⟩ (.slice H2 y.links.length h2)).setCell ⟨m,4,none⟩ (.slice H3 y.asked.length h3)).setCell ⟨m,5,none⟩ (.slice H4 y.net.length h4));rw[HWN.out];clear z0;refine hK.out _ _ (fun hI=> ?_);clear hK;refine qrM d_ ?_;go_wp2
   go_meet;refine⟨m,H1,H2,H3,H4,h1,h2,h3,h4,rfl,?_,?_,?_,?_⟩
   · rw[←HWN.out];exact qcU HMZ.out _ _ _ _ _ _
   · rw[←HWN.out];exact qae (HBD.out.trans (HB.out.mono HBD.out.size)) (Nat.le_trans HBD.out.size HMD.out) _ _ _ _ _ _
   · exact Nat.le_trans HBD.out.size HMD.out
   · rw[←HWN.out];exact⟨B,C,HMB.out,Nat.le_trans HBD.out.size HDB.out,HBLE.out,Nat.le_trans HCS.out (qae (bR_ 0 wc) (Nat.zero_le m) _ _ _ _ _ _).size,HPY.out.keep (qaA.set6 (T:=LT2) HMZ.out e_ _ _ _ _ _ _)⟩
 case rest=>
 obtain⟨n,H1,H2,H3,H4,h1,h2,h3,h4,rfl,hm,hb,hge,B,C,hBC,hWB,hBLE,hCw,hs⟩:=hcut;obtain⟨W5,rfl⟩:∃ W,W=wc:=⟨_,rfl⟩
 have HB45:=hI_ hb;have HN5:=hI_ hm;have HS5:=hI_ hs;have HBC:=hI_ hBC;have HWB:=hI_ hWB;have HCW:=hI_ hCw;have HBLE:=hI_ hBLE;have HN4:=hI_ hge;have HB35:Hid (bB W3 W5):=hI_ (HB34.out.trans (HB45.out.mono HB34.out.size));clear hm hs hb hge hBC hWB hCw hBLE;have m0:=qaa ((HB35.out.block _ (qai HM3.out)).trans HM3.out);have n0:=qaa HN5.out;go_wp2_with fail
 clear m0 n0;refine(qpC y _ _ _ _ _ _ _ _ W5 HS5.out.r (HS3.out.below HB35.out)).mono ?_;rintro e w6 ⟨rfl,hb6⟩;have HB36:Hid (bB W3 w6):=hI_ (HB35.out.trans (hb6.mono HB35.out.size));have HB46:=hI_ (HB45.out.trans (hb6.mono HB45.out.size));have HG6:=hI_ ((HB46.out.block _ (qai HG.out)).trans HG.out);have HP6:=hI_ ((HB36.out.block _ (qai HP3.out)).trans HP3.out);have HO6:=hI_ (HO.out.below HB46.out);have HX6:=hI_ (HX3.out.below HB36.out);have HS6:=hI_ (HS5.out.below hb6);have HN6:=hI_ ((hb6.block _ (qai HN5.out)).trans HN5.out);have HCW6:=hI_ (Nat.le_trans HCW.out hb6.size);clear hb6 HG HO HS5 HN5 HCW HB45;go_upto_region 13 with fail
 obtain⟨D,HD0⟩:∃ D,w6.drew=D:=⟨_,rfl⟩
 have hbD:bB w6 D:=by rw[←HD0];exact qac (bR_ _ _)
 have HBD:=hI_ hbD;have HGD:=hI_ ((hbD.block _ (qai HG6.out)).trans HG6.out);have HPD:=hI_ ((hbD.block _ (qai HP6.out)).trans HP6.out);have HSS:Hid (∀ W,bB D W→W.cell? ⟨g,0,none⟩=some (.int .i64 x.sec)∧W.cell? ⟨g,1,none⟩=some (.int .i64 x.bad)∧W.cell? ⟨g,2,none⟩=some (.slice X1 x.feeds.length x1)∧W.cell? ⟨g,3,none⟩=some (.slice X2 x.links.length x2)∧W.cell? ⟨g,4,none⟩=some (.slice X3 x.asked.length x3)∧W.cell? ⟨g,5,none⟩=some (.slice X4 x.net.length x4)∧W.cell? ⟨q,0,none⟩=some (.int .i64 x.sec)∧W.cell? ⟨q,1,none⟩=some (.int .i64 x.bad)∧W.cell? ⟨q,2,none⟩=some (vF)∧W.cell? ⟨q,3,none⟩=some (vL)∧W.cell? ⟨q,4,none⟩=some (vK)∧W.cell? ⟨q,5,none⟩=some (vN)):=hI_ (fun W hb=>by
  obtain⟨p0,p1,p2,p3,p4,p5,-⟩:=qaa ((hb.block _ (qai HGD.out)).trans HGD.out);obtain⟨v0,v1,v2,v3,v4,v5,-⟩:=qaa ((hb.block _ (qai HPD.out)).trans HPD.out);exact⟨p0,p1,p2,p3,p4,p5,v0,v1,v2,v3,v4,v5⟩)
 clear hbD;refine qwE (fun i=>decide (i<3)) HD0 HSS.out (fun hS hI=> ?_);clear HD0;refine gU_ ?_ hI hS;clear hI;refine tU_ 0 ?_;refine tU_ 1 ?_;refine eU_ fun hI=>?_;clear hS;refine qrQ (i:=2) hI rfl d_ (fun K_ hK=> ?_);clear hI;go_simp;go_at_call 37
 refine(qpF x vF vL vK vN D (HX6.out.below HBD.out) HZ.out).mono ?_;rintro e w7 ⟨B1,d1,B2,d2,B3,d3,B4,d4,rfl,ho7,hb7⟩;have HO7:=hI_ ho7.r;have HB7:=hI_ hb7;clear ho7 hb7;refine hK.out _ _ (HSS.out _ HB7.out) (fun hI=> ?_);clear hK;refine qrK (i:=3) hI rfl d_ rfl (fun K_ hK=> ?_);clear hI;go_simp;go_at_call 39
 refine(qpC x _ _ _ _ _ _ _ _ w7 ((HO6.out.below HBD.out).below HB7.out).r HO7.out).mono ?_;rintro e w8 ⟨rfl,hb8⟩;have HB68:=hI_ (HBD.out.trans ((HB7.out.trans (hb8.mono HB7.out.size)).mono HBD.out.size));clear hb8;refine hK.out _ _ (fun hI=> ?_);clear hK;refine qrK (i:=4) hI rfl d_ rfl (fun K_ hK=> ?_);clear hI;go_simp;refine hK.out _ _ (fun hI=> ?_);clear hK;refine qrM d_ ?_;have HB38:Hid (bB W3 w8):=hI_ (HB36.out.trans (HB68.out.mono HB36.out.size));have HO8:=hI_ (HO6.out.below HB68.out);have HS8:=hI_ (HS6.out.below HB68.out);have HN8:=hI_ ((HB68.out.block _ (qai HN6.out)).trans HN6.out);have HG8:=hI_ ((HB68.out.block _ (qai HG6.out)).trans HG6.out);have HSZ8:Hid (w4.heap.size≤w8.heap.size):=hI_ (by rw[HGG.out];exact Nat.le_of_lt (qai HG8.out));have HCW8:=hI_ (Nat.le_trans HCW6.out HB68.out.size);clear HGD HPD HSS HBD HO6 HS6 HN6 HG6 HP6 HX6 HB7 HO7;have g0:=qaa HG8.out;go_wp2_with fail
 refine(qqb x _ _ _ _ 1 W3.heap.size w4.heap.size w8 HO8.out HSZ8.out HWS.out a_).mono ?_;rintro e w9 ⟨rfl,hm9⟩;obtain⟨K,HK⟩:∃ K:Int,Hid (((qrg 1 x:Nat):Int)=K):=⟨_,hI_ rfl⟩
 have hK:¬ K<0:=by rw[←HK.out];omega
 rw[HK.out];have HS9:=hI_ (HS8.out.mid hm9 (by rw[HGG.out];exact Nat.le_trans HG4.out HWB.out));have HB39:Hid (bB W3 w9):=hI_ (HB38.out.trans (hm9.below (nr_ _) HB38.out.size));have HN9:=hI_ ((hm9.block n (qai HN8.out) (.inr (by rw[HGG.out];exact Nat.le_trans HG4.out HN4.out))).trans HN8.out);have HCW9:=hI_ (Nat.le_trans HCW8.out hm9.size);have n0:=qaa HN9.out;have m0:=qaa ((HB39.out.block _ (qai HM3.out)).trans HM3.out);clear hm9 g0;go_wp2_with fail
 clear m0 n0;refine(qpC y _ _ _ _ _ _ _ _ w9 HS9.out.r (HS3.out.below HB39.out)).mono ?_;rintro e w10 ⟨rfl,hb10⟩;have HS10:=hI_ (HS9.out.below hb10);have HB310:Hid (bB W3 w10):=hI_ (HB39.out.trans (hb10.mono HB39.out.size));have HN10:=hI_ ((hb10.block _ (qai HN9.out)).trans HN9.out);have HCW10:=hI_ (Nat.le_trans HCW9.out hb10.size);clear hb10;have n0:=qaa HN10.out;have HBW10:Hid (B≤w10.heap.size):=hI_ (Nat.le_trans HBLE.out HCW10.out);go_wp2_with fail
 clear n0;refine(qp1 y _ _ _ _ 1 B C w10 HS10.out HBW10.out HCW10.out HYS.out a_).mono ?_;rintro e w11 ⟨rfl,hs11,hm11⟩;obtain⟨M,HMM⟩:∃ M:Int,Hid (((qrg 1 y:Nat):Int)=M):=⟨_,hI_ rfl⟩
 have hM:¬ M<0:=by rw[←HMM.out];omega
 have hMM:(M !=M)=false:=k_;rw[HMM.out];have HS11:=hI_ hs11.r;have HB311:Hid (bB W3 w11):=hI_ (HB310.out.trans (hm11.below (Nat.le_trans HB34.out.size HWB.out) HB310.out.size));have HN11:=hI_ ((hm11.block n (qai HN10.out) HBC.out).trans HN10.out);clear hs11 hm11;have n0:=qaa HN11.out;go_wp2_with fail
 clear n0;refine(qpJ y _ _ _ _ _ _ 1 w11 HS11.out HYS.out a_).mono ?_;rintro e w12 ⟨rfl,hb12⟩;rw[HMM.out];have HB12:=hI_ hb12;have HB312:=hI_ (HB311.out.trans (hb12.mono HB311.out.size));have HP2:=hI_ ((HB312.out.block _ (qai HP3.out)).trans HP3.out);have HE2:=hI_ ((HB312.out.block _ (qai HE3.out)).trans HE3.out);have HX2:=hI_ (HX3.out.below HB312.out);have HBW12:=hI_ (HBW3.out.trans (HB312.out.mono HBW3.out.size));clear hb12;go_upto_region 27 with fail
 go_cut [12] (fun s wx=>∃ (m:Nat) (J1 J2 J3 J4:Option Addr) (j1 j2 j3 j4:Nat),s=.pointer (some ⟨m,0,none⟩)∧wx.heap[m]? =some (.cells #[.int .i64 y.sec,.int .i64 y.bad,.slice J1 y.feeds.length j1,.slice J2 y.links.length j2,.slice J3 y.asked.length j3,.slice J4 y.net.length j4] 28 (0,0))∧bB w12 wx∧w12.heap.size≤m∧WdS wx y (.slice J1 y.feeds.length j1) (.slice J2 y.links.length j2) (.slice J3 y.asked.length j3) (.slice J4 y.net.length j4))
 case first=>
  obtain⟨D,HD0⟩:∃ D,w12.drew=D:=⟨_,rfl⟩
  have hbD:bB w12 D:=by rw[←HD0];exact qac (bR_ _ _)
  have HBD:=hI_ hbD;have HXD:=hI_ (HX2.out.below hbD);have HPD:=hI_ ((hbD.block _ (qai HP2.out)).trans HP2.out);have HED:=hI_ ((hbD.block _ (qai HE2.out)).trans HE2.out);have HBW:=hI_ (HBW12.out.trans (hbD.mono HBW12.out.size));have HSS:Hid (∀ W,bB D W→W.cell? ⟨q,0,none⟩=some (.int .i64 x.sec)∧W.cell? ⟨q,1,none⟩=some (.int .i64 x.bad)∧W.cell? ⟨q,2,none⟩=some (vF)∧W.cell? ⟨q,3,none⟩=some (vL)∧W.cell? ⟨q,4,none⟩=some (vK)∧W.cell? ⟨q,5,none⟩=some (vN)∧W.cell? ⟨q+1,0,none⟩=some (.int .i64 kd)∧W.cell? ⟨q+1,1,none⟩=some (.int .i64 ea)∧W.cell? ⟨q+1,2,none⟩=some (.int .i64 eb)∧W.cell? ⟨q+1,3,none⟩=some (.int .i64 ec)∧W.cell? ⟨q+1,4,none⟩=some (.string et)):=hI_ (fun W hb=>by
   obtain⟨p0,p1,p2,p3,p4,p5,-⟩:=qaa ((hb.block _ (qai HPD.out)).trans HPD.out);obtain⟨v0,v1,v2,v3,v4,-⟩:=qrL ((hb.block _ (qai HED.out)).trans HED.out);exact⟨p0,p1,p2,p3,p4,p5,v0,v1,v2,v3,v4⟩)
  clear hbD;refine qwE (fun i=>decide (i<6)) HD0 HSS.out (fun hS hI=> ?_);clear HD0;refine gU_ ?_ hI hS;clear hI;refine tU_ 0 ?_;refine tU_ 2 ?_;refine eU_ fun hI=>?_;clear hS;obtain⟨wc,HWC⟩:∃ W,Hid (W=D):=⟨_,hI_ rfl⟩
  rw[←HWC.out];have HB:Hid (bB D wc):=hI_ (by rw[HWC.out];exact bR_ _ _);clear HWC;iterate 4 (
   all_goals(first
    |refine qrN (rs:=[1,5]) bm_ k_ (.cons hI rfl d_ (fun K_ hK=> ?_) (.cons hI rfl d_ (fun K_ hK=> ?_) .nil))
    |refine qrN (rs:=[3,5]) bm_ k_ (.cons hI rfl d_ (fun K_ hK=> ?_) (.cons hI rfl d_ (fun K_ hK=> ?_) .nil))
    |refine qrN (rs:=[4,5]) bm_ k_ (.cons hI rfl d_ (fun K_ hK=> ?_) (.cons hI rfl d_ (fun K_ hK=> ?_) .nil))
    |refine qrN (rs:=[1]) bm_ k_ (.cons hI rfl d_ (fun K_ hK=> ?_) .nil)
    |refine qrN (rs:=[3]) bm_ k_ (.cons hI rfl d_ (fun K_ hK=> ?_) .nil)
    |refine qrN (rs:=[4]) bm_ k_ (.cons hI rfl d_ (fun K_ hK=> ?_) .nil)
    |refine qrN (rs:=[5]) bm_ k_ (.cons hI rfl d_ (fun K_ hK=> ?_) .nil))
   all_goals(clear hI;go_simp)
   all_goals(first
    |(obtain⟨wn,HWN⟩:=nm_ (wc.alloc (.cells #[.int .i64 0,.int .i64 0,.slice none 0 0,.slice none 0 0,.slice none 0 0,.slice none 0 0] 28))
      rw[HWN.out];obtain⟨m,HNM⟩:=nm_ wc.heap.size;rw[HNM.out];have hb:bB wc wn:=by rw[←HWN.out];exact qab (bR_ _ _) _
      have hnew:wn.heap[m]? =some (.cells #[.int .i64 0,.int .i64 0,.slice none 0 0,.slice none 0 0,.slice none 0 0,.slice none 0 0] 28 (0,0)):=by rw[←HWN.out,←HNM.out];exact heap_alloc_new _ _
      have hge:D.heap.size≤m:=by rw[←HNM.out];exact HB.out.size
      (try have HMB:Hid (m<B∨C≤m):=hI_ (Or.inr (by rw[←HNM.out];exact HCS.out)))
      replace HB:=hI_ (HB.out.trans (hb.mono HB.out.size))
      (try replace HMZ:=hI_ ((hb.block _ (qai HMZ.out)).trans HMZ.out))
      (try replace HOW:=hI_ (HOW.out.below hb))
      (try replace HPY:=hI_ (HPY.out.below hb))
      (try replace HCS:=hI_ (Nat.le_trans HCS.out hb.size))
      have HMZ:=hI_ hnew;have HMD:=hI_ hge;clear hb hnew hge HWN HNM;obtain⟨wc,rfl⟩:∃ W,W=wn:=⟨_,rfl⟩)
    |(go_at_call 37
      refine(qpF x vF vL vK vN wc (HXD.out.below HB.out) HZ.out).mono ?_;rintro e wn ⟨A1,a1,A2,a2,A3,a3,A4,a4,rfl,ho,hb⟩;replace HB:=hI_ (HB.out.trans (hb.mono HB.out.size))
      (try replace HMZ:=hI_ ((hb.block _ (qai HMZ.out)).trans HMZ.out))
      (try replace HOW:=hI_ (HOW.out.below hb))
      (try replace HPY:=hI_ (HPY.out.below hb))
      (try replace HCS:=hI_ (Nat.le_trans HCS.out hb.size))
      have HOW:=hI_ ho.p.st;clear ho hb;obtain⟨wc,rfl⟩:∃ W,W=wn:=⟨_,rfl⟩)
    |(go_at_call 38
      refine(qvw kd ea eb ec et wc).mono ?_;rintro e wn ⟨rfl,hb⟩;replace HB:=hI_ (HB.out.trans (hb.mono HB.out.size))
      (try replace HMZ:=hI_ ((hb.block _ (qai HMZ.out)).trans HMZ.out))
      (try replace HOW:=hI_ (HOW.out.below hb))
      (try replace HPY:=hI_ (HPY.out.below hb))
      (try replace HCS:=hI_ (Nat.le_trans HCS.out hb.size))
      clear hb;obtain⟨wc,rfl⟩:∃ W,W=wn:=⟨_,rfl⟩)
    |(go_at_call 15
      refine(HIV.out _ _ _ _ wc HOW.out.r (HBW.out.trans (HB.out.mono HBW.out.size))).mono ?_;rintro e wn ⟨uF,uL,uA,uN,rfl,hs,hb⟩;obtain⟨⟨J1,j1,rfl⟩,⟨J2,j2,rfl⟩,⟨J3,j3,rfl⟩,⟨J4,j4,rfl⟩⟩:=hs.st.sl;replace HB:=hI_ (HB.out.trans (hb.mono HB.out.size))
      (try replace HMZ:=hI_ ((hb.block _ (qai HMZ.out)).trans HMZ.out))
      have HPY:=hI_ hs.st;clear hs hb;obtain⟨wc,rfl⟩:∃ W,W=wn:=⟨_,rfl⟩))
   all_goals(refine hK.out _ _ (HSS.out _ HB.out) (fun hI=> ?_);clear hK))
  all_goals
   have z0:=qaa HMZ.out;refine qrK (i:=6) hI rfl d_ rfl (fun K_ hK=> ?_);clear hI;go_simp;obtain⟨wn,HWN⟩:=nm_ ((((((wc.setCell ⟨m,0,none⟩ (.int .i64 y.sec)).setCell ⟨m,1,none⟩ (.int .i64 y.bad)).setCell ⟨m,2,none⟩ (.slice J1 y.feeds.length j1)).setCell ⟨m,3,none⟩ (.slice J2 y.links.length j2)).setCell ⟨m,4,none⟩ (.slice J3 y.asked.length j3)).setCell ⟨m,5,none⟩ (.slice J4 y.net.length j4));rw[HWN.out];clear z0;refine hK.out _ _ (fun hI=> ?_);clear hK;refine qrM d_ ?_;go_wp2
   go_meet;refine⟨m,J1,J2,J3,J4,j1,j2,j3,j4,rfl,?_,?_,?_,?_⟩
   · rw[←HWN.out];exact qcU HMZ.out _ _ _ _ _ _
   · rw[←HWN.out];exact qae (HBD.out.trans (HB.out.mono HBD.out.size)) (Nat.le_trans HBD.out.size HMD.out) _ _ _ _ _ _
   · exact Nat.le_trans HBD.out.size HMD.out
   · rw[←HWN.out];exact HPY.out.set6 HMZ.out _ _ _ _ _ _
 case rest=>
 obtain⟨r3,J1,J2,J3,J4,j1,j2,j3,j4,rfl,hm,hb,hge,hs⟩:=hcut;obtain⟨W14,rfl⟩:∃ W,W=wc:=⟨_,rfl⟩
 have HB14:=hI_ (HB12.out.trans (hb.mono HB12.out.size));have HS14:=hI_ hs.r;have n0:=qaa hm;have m0:=qaa ((hb.block _ (qai ((HB312.out.block _ (qai HM3.out)).trans HM3.out))).trans ((HB312.out.block _ (qai HM3.out)).trans HM3.out));clear hm hs hb hge;go_wp2_with fail
 clear m0 n0;refine(qpC y _ _ _ _ _ _ _ _ W14 HS14.out (HS3.out.below (HB311.out.trans (HB14.out.mono HB311.out.size)))).mono ?_;rintro e w15 ⟨rfl,hb15⟩;have HB15:=hI_ (qa3 HB14.out hb15);clear hb15;have n0:=qaa ((HB15.out.block _ (qai HN11.out)).trans HN11.out);go_wp2_with fail
 clear n0;refine(qpJ y _ _ _ _ _ _ 1 w15 (HS11.out.below HB15.out) HYS.out a_).mono ?_;rintro e w16 ⟨rfl,hb16⟩;rw[HMM.out];have HB16:=hI_ (qa3 HB15.out hb16);clear hb16;go_wp2
 go_ret;exact⟨rfl,HBW3.out.trans ((HB311.out.trans (HB16.out.mono HB311.out.size)).mono HBW3.out.size)⟩
end Go.Proofs.YtekaaekpdebloaaGreatDoor
namespace Go.Proofs.YtekaaekpdebloaaGreatDoor
open Go.RowKit Go.ChangeShapes Go.WideShapes Go.Deep

section
variable {H:Type} {enc:TypeId×Value→H} {P:Program} {w:World} {base:Nat} {held:Bool}
theorem qpZ{α:Type}[Inhabited α]{N:Nat}(hN:0<N){Q:List Value→α→Prop}{t e:TypeId}{fuel:Nat}{v:Value}{x:DataW H×List MemPlace}(ht:P.underlying t=some (.slice e))(hc:P.cellsOf e=N)
 (hd:∀ n cs y,cs.length=N→DataW.trod enc P w base (fun _=>true) held n e cs=some y→∃ z,Q cs z) (h:DataW.trod enc P w base (fun _=>true) held fuel t [v]=some x):
 ∃ (l:List α) (F:Nat→Value),RN N w v l.length F∧∀ j (hj:j<l.length),Q ((List.range N).map fun i=>F (j*N+i)) l[j]:=by
 rcases open_slice ht h with⟨h1,_⟩|⟨a,len,cap,m,n,D,Pl,h1,_,hl,hm,hmm,_,hx⟩
 · obtain rfl:v=.slice none 0 0:=bd_;exact⟨[],fun _=>.slice none 0 0,RN.nil w,fun j hj=>an_⟩
 · obtain rfl:v=.slice (some a) len cap:=bd_;have hm2:m=cap:=by simpa using hmm
   subst hm2;rw[hc] at hx;obtain⟨C,hC⟩:=choose_lt (n:=m) (p:=fun i (cs:List Value)=>w.cells? base (a.add (i*N)) N=some cs∧DataW.trod enc P w base (fun _=>true) held n e cs=some (D i,Pl i)) hx;obtain⟨Z,hZ⟩:=choose_lt (n:=m) (p:=fun i (z:α)=>Q (C i) z) (fun i hi=>hd _ _ _ (World.cells?_some (hC i hi).1).2.1 (hC i hi).2);refine⟨(List.range len).map Z,fun t=>((C (t/N))[t%N]?).getD (.slice none 0 0),?_,?_⟩
   · refine⟨some a,m,k_,⟨by simpa using hl,fun h=>by simp at h⟩,hm,fun h0=> ?_⟩;have h0':0<len:=by simpa using h0
     have hrd:∀ i,i<len→∀ k,k<N→w.cell? ((a.add (i*N)).add k)=(C i)[k]? :=fun i hi k hk=>(World.cells?_some (hC i a_).1).2.2 k a_;obtain⟨b,o,s⟩:=a;have hc0:=hrd 0 h0' 0 hN;have hl0:=(World.cells?_some (hC 0 a_).1).2.1;rw[List.getElem?_eq_getElem a_] at hc0;have hs:s=none:=by simpa[Addr.add] using World.cell?_spot hc0
     subst hs;refine⟨b,o,rfl,?_,fun t ht=> ?_⟩
     · apply Classical.byContradiction;intro hge;have:w.heap[b]? =none:=by simp;omega
       simp[Addr.add,World.cell?,this] at hc0
     · have ht':t<len*N:=by simpa using ht
       have hi:t/N<len:=Nat.div_lt_of_lt_mul (by rw[Nat.mul_comm];exact ht');have hk:t%N<N:=Nat.mod_lt _ hN;have h2:=hrd (t/N) hi (t%N) hk;have hll:=(World.cells?_some (hC (t/N) a_).1).2.1;rw[add_plain,add_plain,Nat.add_assoc,Nat.div_add_mod'] at h2;rw[h2];simp only;rw[List.getElem?_eq_getElem a_,Option.getD_some]
   · intro j hj;have hj':j<len:=ae_;have hll:=(World.cells?_some (hC j a_).1).2.1;rw[List.getElem_map,List.getElem_range];have he:((List.range N).map fun i=>((C ((j*N+i)/N))[(j*N+i)%N]?).getD (.slice none 0 0))=C j:=by
      apply List.ext_getElem (by simp[hll]);intro i h1 h2;have hi:i<N:=bd_;rw[List.getElem_map,List.getElem_range];rw[show(j*N+i)/N=j by rw[Nat.mul_comm,Nat.mul_add_div hN,Nat.div_eq_of_lt hi,Nat.add_zero],show(j*N+i)%N=i by rw[Nat.mul_comm,Nat.mul_add_mod,Nat.mod_eq_of_lt hi],List.getElem?_eq_getElem h2,Option.getD_some]
     rw[he];exact hZ j a_
theorem RN.r2{l:List (Int×Int)}{v:Value}{F:Nat→Value}(h:RN 2 w v l.length F)(hF:∀ j (hj:j<l.length),F (j*2)=.int .i64 l[j].1∧F (j*2+1)=.int .i64 l[j].2):RP w v l:=by
 obtain⟨A,c,hv,q1,q2,q3⟩:=h;refine⟨A,c,hv,q1,q2,fun hl=> ?_⟩;obtain⟨b,o,hA,hb,hc⟩:=q3 hl;refine⟨b,o,hA,hb,fun j hj=>⟨?_,?_⟩⟩
 · rw[hc _ a_,(hF j hj).1]
 · rw[Nat.add_assoc,hc _ a_,(hF j hj).2]
end
instance:Inhabited Fd:=⟨Fd.none⟩
instance:Inhabited Pc:=⟨Pc.none⟩
section
variable {H:Type} {enc:TypeId×Value→H} {w:World} {base:Nat} {held:Bool}
theorem C1:Tryz.prog.cellsOf 3=1:=by kernel_rfl
theorem qwy:Tryz.prog.cellsOf 181=3:=by kernel_rfl
theorem CS:Tryz.prog.cellsOf 47=1:=by kernel_rfl
theorem CB:Tryz.prog.cellsOf 48=1:=by kernel_rfl
theorem CI:Tryz.prog.cellsOf 43=1:=by kernel_rfl
theorem CT:Tryz.prog.cellsOf 9=1:=by kernel_rfl
theorem qwz:Tryz.prog.cellsOf 183=6:=by kernel_rfl
theorem qwA:Tryz.prog.cellsOf 243=2:=by kernel_rfl
theorem qwB:Tryz.prog.cellsOf 190=2:=by kernel_rfl
theorem qwu:Tryz.prog.cellsOf 185=1:=by kernel_rfl
theorem qwC:Tryz.prog.cellsOf 187=6:=by kernel_rfl
theorem qwD:Tryz.prog.cellsOf 68=6:=by kernel_rfl
theorem qwv:Tryz.prog.cellsOf 63=1:=by kernel_rfl
theorem qww:Tryz.prog.cellsOf 64=1:=by kernel_rfl
theorem qwr:Tryz.prog.cellsOf 65=1:=by kernel_rfl
theorem qwx:Tryz.prog.cellsOf 66=1:=by kernel_rfl
def qrz(w:World)(cs:List Value)(f:Fd):Prop:=∃ x y,cs=[.int .i64 f.pub,.int .i64 f.hd.len,.int .i64 f.hd.dg,.int .i64 f.hd.sg,x,y]∧qaU w f x y∧∀ s ∈ f.bl,s.size≤maxLen
theorem qqS(n:Nat)(cs:List Value)(y:DataW H×List MemPlace)(hl:cs.length=6)(h:DataW.trod enc Tryz.prog w base (fun _=>true) held n 183 cs=some y):∃ f,qrz w cs f:=by
 obtain⟨n,hf⟩:=qpx Tryz.underlying183 h
 match cs,hl with
 |[c0,c1,c2,c3,c4,c5],_=>
  obtain⟨y0,h0⟩:=hf 0 _ rfl;obtain⟨y1,h1⟩:=hf 1 _ rfl;obtain⟨y2,h2⟩:=hf 2 _ rfl;obtain⟨y3,h3⟩:=hf 3 _ rfl;simp[C1,qwy,CS,CB] at h0 h1 h2 h3;obtain⟨n0,e0,-,-⟩:=DataW.trod_int Tryz.underlying3 h0;obtain⟨m,hm⟩:=qpx Tryz.underlying181 h1;obtain⟨z0,k0⟩:=hm 0 _ rfl;obtain⟨z1,k1⟩:=hm 1 _ rfl;obtain⟨z2,k2⟩:=hm 2 _ rfl;simp[C1] at k0 k1 k2;obtain⟨n1,e1,-,-⟩:=DataW.trod_int Tryz.underlying3 k0;obtain⟨n2,e2,-,-⟩:=DataW.trod_int Tryz.underlying3 k1;obtain⟨n3,e3,-,-⟩:=DataW.trod_int Tryz.underlying3 k2;obtain⟨bl,hb,hbs⟩:=qrw Tryz.underlying47 Tryz.underlying9 d_ h2;obtain⟨hvs,hh⟩:=qru Tryz.underlying48 Tryz.underlying4 d_ h3;obtain rfl:c0=.int .i64 n0:=by simpa using e0
  obtain rfl:c1=.int .i64 n1:=by simpa using e1
  obtain rfl:c2=.int .i64 n2:=by simpa using e2
  obtain rfl:c3=.int .i64 n3:=by simpa using e3
  exact⟨⟨n0,⟨n1,n2,n3⟩,bl,hvs⟩,c4,c5,rfl,⟨hb,hh⟩,hbs⟩
def qri(cs:List Value)(p:Int×Int):Prop:=cs=[.int .i64 p.1,.int .i64 p.2]
theorem qq8(n:Nat)(cs:List Value)(y:DataW H×List MemPlace)(hl:cs.length=2)(h:DataW.trod enc Tryz.prog w base (fun _=>true) held n 243 cs=some y):∃ p,qri cs p:=by
 obtain⟨n,hf⟩:=qpx Tryz.underlying243 h
 match cs,hl with
 |[c0,c1],_=>
  obtain⟨y0,h0⟩:=hf 0 _ rfl;obtain⟨y1,h1⟩:=hf 1 _ rfl;simp[C1] at h0 h1;obtain⟨n0,e0,-,-⟩:=DataW.trod_int Tryz.underlying3 h0;obtain⟨n1,e1,-,-⟩:=DataW.trod_int Tryz.underlying3 h1;obtain rfl:c0=.int .i64 n0:=by simpa using e0
  obtain rfl:c1=.int .i64 n1:=by simpa using e1
  exact⟨(n0,n1),rfl⟩
theorem qqT(n:Nat)(cs:List Value)(y:DataW H×List MemPlace)(hl:cs.length=2)(h:DataW.trod enc Tryz.prog w base (fun _=>true) held n 190 cs=some y):∃ p,qri cs p:=by
 obtain⟨n,hf⟩:=qpx Tryz.underlying190 h
 match cs,hl with
 |[c0,c1],_=>
  obtain⟨y0,h0⟩:=hf 0 _ rfl;obtain⟨y1,h1⟩:=hf 1 _ rfl;simp[C1] at h0 h1;obtain⟨n0,e0,-,-⟩:=DataW.trod_int Tryz.underlying3 h0;obtain⟨n1,e1,-,-⟩:=DataW.trod_int Tryz.underlying3 h1;obtain rfl:c0=.int .i64 n0:=by simpa using e0
  obtain rfl:c1=.int .i64 n1:=by simpa using e1
  exact⟨(n0,n1),rfl⟩
theorem qqL{l:List (Int×Int)}{v:Value}{F:Nat→Value}(h:RN 2 w v l.length F)(hQ:∀ j (hj:j<l.length),qri ((List.range 2).map fun i=>F (j*2+i)) l[j]):RP w v l:=
 h.r2 fun j hj=>by have:=hQ j hj;simpa[qri,List.range_succ] using this
theorem qqR(n:Nat)(cs:List Value)(y:DataW H×List MemPlace)(hl:cs.length=1)(h:DataW.trod enc Tryz.prog w base (fun _=>true) held n 185 cs=some y):∃ l:List (Int×Int),∃ x,cs=[x]∧RP w x l:=by
 match cs,hl with
 |[x],_=>
  obtain⟨l,F,h1,h2⟩:=qpZ (N:=2) a_ Tryz.underlying185 qwA (qq8 (enc:=enc) (w:=w) (base:=base) (held:=held)) h;exact⟨l,x,rfl,qqL h1 h2⟩
def qry(w:World)(cs:List Value)(p:Pc):Prop:=∃ x,cs=[.int .i64 p.fr,.int .i64 p.to_,.int .i64 p.len,.int .i64 p.idx,.string p.txt,x]∧RI w x p.prf∧p.txt.size≤maxLen
theorem qqy(n:Nat)(cs:List Value)(y:DataW H×List MemPlace)(hl:cs.length=6)(h:DataW.trod enc Tryz.prog w base (fun _=>true) held n 187 cs=some y):∃ p,qry w cs p:=by
 obtain⟨n,hf⟩:=qpx Tryz.underlying187 h
 match cs,hl with
 |[c0,c1,c2,c3,c4,c5],_=>
  obtain⟨y0,h0⟩:=hf 0 _ rfl;obtain⟨y1,h1⟩:=hf 1 _ rfl;obtain⟨y2,h2⟩:=hf 2 _ rfl;obtain⟨y3,h3⟩:=hf 3 _ rfl;obtain⟨y4,h4⟩:=hf 4 _ rfl;obtain⟨y5,h5⟩:=hf 5 _ rfl;simp[C1,CT,CI] at h0 h1 h2 h3 h4 h5;obtain⟨n0,e0,-,-⟩:=DataW.trod_int Tryz.underlying3 h0;obtain⟨n1,e1,-,-⟩:=DataW.trod_int Tryz.underlying3 h1;obtain⟨n2,e2,-,-⟩:=DataW.trod_int Tryz.underlying3 h2;obtain⟨n3,e3,-,-⟩:=DataW.trod_int Tryz.underlying3 h3;obtain⟨s,e4,-,hs⟩:=DataW.trod_string Tryz.underlying9 h4;obtain⟨l,hp,-⟩:=qrv Tryz.underlying43 Tryz.underlying3 d_ h5;obtain rfl:c0=.int .i64 n0:=by simpa using e0
  obtain rfl:c1=.int .i64 n1:=by simpa using e1
  obtain rfl:c2=.int .i64 n2:=by simpa using e2
  obtain rfl:c3=.int .i64 n3:=by simpa using e3
  obtain rfl:c4=.string s:=by simpa using e4
  exact⟨⟨n0,n1,n2,n3,s,l⟩,c5,rfl,hp,hs⟩
theorem qqV{r:Reach}{b0:Nat}{v:Value}{d:DataW H}{p:List MemPlace}(hv:Value.okWide Tryz.prog w r b0 68 v)(h:DataW.Trod enc Tryz.prog w base (fun _=>true) held 68 v d p):
 ∃ (x:Wd) (vF vL vK vN:Value),v=.agg #[.int .i64 x.sec,.int .i64 x.bad,vF,vL,vK,vN]∧WdR w x vF vL vK vN∧qrA x:=by
 obtain⟨cs,n,rfl,hl,hf⟩:=qqD Tryz.underlying68 hv h;rw[qwD] at hl
 match cs,hl with
 |[c0,c1,c2,c3,c4,c5],_=>
  obtain⟨y0,h0⟩:=hf 0 _ rfl;obtain⟨y1,h1⟩:=hf 1 _ rfl;obtain⟨y2,h2⟩:=hf 2 _ rfl;obtain⟨y3,h3⟩:=hf 3 _ rfl;obtain⟨y4,h4⟩:=hf 4 _ rfl;obtain⟨y5,h5⟩:=hf 5 _ rfl;simp[C1,qwv,qww,qwr,qwx] at h0 h1 h2 h3 h4 h5;obtain⟨n0,e0,-,-⟩:=DataW.trod_int Tryz.underlying3 h0;obtain⟨n1,e1,-,-⟩:=DataW.trod_int Tryz.underlying3 h1;obtain rfl:c0=.int .i64 n0:=by simpa using e0
  obtain rfl:c1=.int .i64 n1:=by simpa using e1
  obtain⟨fs,F2,k2,q2⟩:=qpZ (N:=6) a_ Tryz.underlying63 qwz (qqS (enc:=enc) (w:=w) (base:=base) (held:=held)) h2;obtain⟨ls,F3,k3,q3⟩:=qpZ (N:=2) a_ Tryz.underlying64 qwB (qqT (enc:=enc) (w:=w) (base:=base) (held:=held)) h3;obtain⟨ks,F4,k4,q4⟩:=qpZ (N:=1) a_ Tryz.underlying65 qwu (qqR (enc:=enc) (w:=w) (base:=base) (held:=held)) h4;obtain⟨ps,F5,k5,q5⟩:=qpZ (N:=6) a_ Tryz.underlying66 qwC (qqy (enc:=enc) (w:=w) (base:=base) (held:=held)) h5;refine⟨⟨n0,n1,fs,ls,ks,ps⟩,c2,c3,c4,c5,rfl,⟨⟨F2,k2,fun j hj=> ?_⟩,qqL k3 q3,⟨F4,k4,fun j hj=> ?_⟩,⟨F5,k5,fun j hj=> ?_⟩⟩,⟨fun j hj=> ?_,fun j hj=> ?_⟩⟩
  · obtain⟨x,y,he,hr,_⟩:=q2 j hj;simp[List.range_succ] at he;obtain⟨g0,g1,g2,g3,g4,g5⟩:=he;rw[g4,g5];exact⟨g0,g1,g2,g3,hr⟩
  · obtain⟨x,he,hr⟩:=q4 j hj;simp[List.range_succ] at he;rw[he];exact hr
  · obtain⟨x,he,hr,_⟩:=q5 j hj;simp[List.range_succ] at he;obtain⟨g0,g1,g2,g3,g4,g5⟩:=he;rw[g5];exact⟨g0,g1,g2,g3,g4,hr⟩
  · obtain⟨x,y,he,hr,hs⟩:=q2 j hj;exact hs
  · obtain⟨x,he,hr,hs⟩:=q5 j hj;exact hs
end
section
variable {H:Type} {enc:TypeId×Value→H} {w:World} {base:Nat} {held:Bool}
theorem qws:Tryz.prog.cellsOf 69=5:=by kernel_rfl
theorem qv0{r:Reach}{b0:Nat}{v:Value}{d:DataW H}{p:List MemPlace}(hv:Value.okWide Tryz.prog w r b0 69 v)(h:DataW.Trod enc Tryz.prog w base (fun _=>true) held 69 v d p):
 ∃ e:Ev,v=.agg #[.int .i64 e.kind,.int .i64 e.a,.int .i64 e.b,.int .i64 e.c,.string e.txt]∧e.txt.size≤maxLen:=by
 obtain⟨cs,n,rfl,hl,hf⟩:=qqD Tryz.underlying69 hv h;rw[qws] at hl
 match cs,hl with
 |[c0,c1,c2,c3,c4],_=>
  obtain⟨y0,h0⟩:=hf 0 _ rfl;obtain⟨y1,h1⟩:=hf 1 _ rfl;obtain⟨y2,h2⟩:=hf 2 _ rfl;obtain⟨y3,h3⟩:=hf 3 _ rfl;obtain⟨y4,h4⟩:=hf 4 _ rfl;simp[C1,CT] at h0 h1 h2 h3 h4;obtain⟨n0,e0,-,-⟩:=DataW.trod_int Tryz.underlying3 h0;obtain⟨n1,e1,-,-⟩:=DataW.trod_int Tryz.underlying3 h1;obtain⟨n2,e2,-,-⟩:=DataW.trod_int Tryz.underlying3 h2;obtain⟨n3,e3,-,-⟩:=DataW.trod_int Tryz.underlying3 h3;obtain⟨s,e4,-,hs⟩:=DataW.trod_string Tryz.underlying9 h4;obtain rfl:c0=.int .i64 n0:=by simpa using e0
  obtain rfl:c1=.int .i64 n1:=by simpa using e1
  obtain rfl:c2=.int .i64 n2:=by simpa using e2
  obtain rfl:c3=.int .i64 n3:=by simpa using e3
  obtain rfl:c4=.string s:=by simpa using e4
  exact⟨⟨n0,n1,n2,n3,s⟩,rfl,hs⟩
end
end Go.Proofs.YtekaaekpdebloaaGreatDoor

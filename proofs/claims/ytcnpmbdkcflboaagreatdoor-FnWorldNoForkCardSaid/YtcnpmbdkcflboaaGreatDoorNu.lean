/- Walk: impl.ForkCheck and impl.ForkMeet where no fork is. No condition but that the heads of one length have one digest. -/
import Derived.Test.YtcnpmbdkcflboaaGreatDoorCR
set_option linter.unusedVariables false
set_option linter.unusedSimpArgs false
namespace Go.Proofs.YtcnpmbdkcflboaaGreatDoor
open Go.RowKit

theorem quN{W:World}{q:Nat}{x0 x1 x2 x3 x4 x5 x6:Value}{t:TypeId}(h:W.heap[q]? =some (.cells #[x0,x1,x2,x3,x4,x5,x6] t (0,0))):W.cell? ⟨q,0,none⟩=some x0∧W.cell? ⟨q,1,none⟩=some x1∧W.cell? ⟨q,2,none⟩=some x2∧W.cell? ⟨q,3,none⟩=some x3∧W.cell? ⟨q,4,none⟩=some x4∧W.cell? ⟨q,5,none⟩=some x5∧W.cell? ⟨q,6,none⟩=some x6∧∀ o,W.frozen? ⟨q,o,none⟩=false:=
 ⟨cell_of_row W q 0 _ _ (0,0) h,cell_of_row W q 1 _ _ (0,0) h,cell_of_row W q 2 _ _ (0,0) h,cell_of_row W q 3 _ _ (0,0) h,cell_of_row W q 4 _ _ (0,0) h,cell_of_row W q 5 _ _ (0,0) h,cell_of_row W q 6 _ _ (0,0) h,fun o=>am_⟩
set_option maxHeartbeats 800000 in
theorem qu0(p:Int)(a b:Hd)(w:World)(h:a.len=b.len→a.dg=b.dg):
 Calls Tryz.prog 50 #[.agg #[.int .i64 p,.int .i64 a.len,.int .i64 a.dg,.int .i64 a.sg,.int .i64 b.len,.int .i64 b.dg,.int .i64 b.sg]] w fun e w'=>e=.returned (.bool false)∧Below w.heap.size w w':=by
 obtain⟨W0,HW0⟩:=nm_ (w.alloc (.cells #[.int .i64 p,.int .i64 a.len,.int .i64 a.dg,.int .i64 a.sg,.int .i64 b.len,.int .i64 b.dg,.int .i64 b.sg] 48));have HB0:Hid (Below w.heap.size w W0):=hI_ (by rw[←HW0.out];exact qab (bR_ _ _) _);have HQ0:Hid (W0.heap[w.heap.size]? =some (.cells #[.int .i64 p,.int .i64 a.len,.int .i64 a.dg,.int .i64 a.sg,.int .i64 b.len,.int .i64 b.dg,.int .i64 b.sg] 48 (0,0))):=hI_ (by rw[←HW0.out];exact heap_alloc_new w _);obtain⟨b1,H1⟩:=nm_ (qbE p a);obtain⟨b2,H2⟩:=nm_ (qbE p b);have HH:=hI_ h;clear h;go_enter Tryz.func50,Tryz.ntmps50
 go_wp2_with fail
 rw[HW0.out];obtain⟨c0,c1,c2,c3,c4,c5,c6,cf⟩:=quN HQ0.out;go_wp2_with fail
 refine(qbq H1 W0).mono ?_;rintro e w1 ⟨rfl,hb1⟩;have HQ1:=hI_ ((hb1.block _ (qai HQ0.out)).trans HQ0.out);have HB1:=hI_ (HB0.out.trans (hb1.mono HB0.out.size));clear hb1 c0 c1 c2 c3 c4 c5 c6 cf;obtain⟨c0,c1,c2,c3,c4,c5,c6,cf⟩:=quN HQ1.out;cases b1
 · go_wp2_with fail
   go_ret;exact⟨rfl,HB1.out⟩
 go_wp2_with fail
 refine(qbq H2 w1).mono ?_;rintro e w2 ⟨rfl,hb2⟩;have HQ2:=hI_ ((hb2.block _ (qai HQ1.out)).trans HQ1.out);have HB2:=hI_ (HB1.out.trans (hb2.mono HB1.out.size));clear hb2 c0 c1 c2 c3 c4 c5 c6 cf;obtain⟨c0,c1,c2,c3,c4,c5,c6,cf⟩:=quN HQ2.out;cases b2
 · go_wp2_with fail
   go_ret;exact⟨rfl,HB2.out⟩
 by_cases hl:a.len=b.len
 · have e1:(a.len==b.len)=true:=beq_iff_eq.2 hl;have e2:(a.dg !=b.dg)=false:=by rw[HH.out hl];simp
   clear hl;go_wp2_with fail
   go_ret;exact⟨rfl,HB2.out⟩
 · have e1:(a.len==b.len)=false:=beq_eq_false_iff_ne.2 hl;clear hl;go_wp2_with fail
   go_ret;exact⟨rfl,HB2.out⟩
set_option maxHeartbeats 3200000 in
set_option maxRecDepth 100000 in
theorem quW(f g:Fd)(vb vh ub uh:Value)(w:World)(hf:qaU w f vb vh)(hg:qaU w g ub uh)(vf:qaq f=true)(vg:qaq g=true)(hp:f.pub=g.pub)(h:f.hd.len=g.hd.len→f.hd.dg=g.hd.dg):
 Calls Tryz.prog 23 #[.agg #[.int .i64 f.pub,.int .i64 f.hd.len,.int .i64 f.hd.dg,.int .i64 f.hd.sg,vb,vh],.agg #[.int .i64 g.pub,.int .i64 g.hd.len,.int .i64 g.hd.dg,.int .i64 g.hd.sg,ub,uh]] w fun e w'=>e=.returned (.tuple #[.agg #[.int .i64 0,.int .i64 0,.int .i64 0,.int .i64 0,.int .i64 0,.int .i64 0,.int .i64 0],.bool false])∧Below w.heap.size w w':=by
 obtain⟨q,HQ⟩:=nm_ w.heap.size;obtain⟨W0,HW0⟩:=nm_ (((w.alloc (.cells #[.int .i64 f.pub,.int .i64 f.hd.len,.int .i64 f.hd.dg,.int .i64 f.hd.sg,vb,vh] 40)).alloc (.cells #[.int .i64 g.pub,.int .i64 g.hd.len,.int .i64 g.hd.dg,.int .i64 g.hd.sg,ub,uh] 40)).alloc (.cells #[.int .i64 0,.int .i64 0,.int .i64 0,.int .i64 0,.int .i64 0,.int .i64 0,.int .i64 0] 48));have HB0:Hid (Below w.heap.size w W0):=hI_ R_;have hs0:W0.heap.size=q+3:=by rw[←HW0.out,←HQ.out];simp
 have HA0:Hid (W0.heap[q]? =some (.cells #[.int .i64 f.pub,.int .i64 f.hd.len,.int .i64 f.hd.dg,.int .i64 f.hd.sg,vb,vh] 40 (0,0))):=hI_ (by rw[←HW0.out,←HQ.out];exact qau (qau (heap_alloc_new _ _)));have HG0:Hid (W0.heap[q+1]? =some (.cells #[.int .i64 g.pub,.int .i64 g.hd.len,.int .i64 g.hd.dg,.int .i64 g.hd.sg,ub,uh] 40 (0,0))):=hI_ (by rw[←HW0.out,←HQ.out];exact qau (qbu k_));have HZ0:Hid (W0.heap[q+2]? =some (.cells #[.int .i64 0,.int .i64 0,.int .i64 0,.int .i64 0,.int .i64 0,.int .i64 0,.int .i64 0] 48 (0,0))):=hI_ (by rw[←HW0.out,←HQ.out];exact qbu k_);have HF:=hI_ (hf.below HB0.out);have HG:=hI_ (hg.below HB0.out);have HVF:=hI_ vf;have HVG:=hI_ vg;have HH:=hI_ h;have HP:(f.pub !=g.pub)=false:=by rw[hp];simp
 clear hf hg vf vg h hp;go_enter Tryz.func23,Tryz.ntmps23
 go_upto_region 1 with fail
 rw[HW0.out,HQ.out];obtain⟨a0,a1,a2,a3,a4,a5,af⟩:=qaa HA0.out;obtain⟨g0,g1,g2,g3,g4,g5,gf⟩:=qaa HG0.out;obtain⟨W1,HW1⟩:=nm_ (W0.alloc (.cells #[.int .i64 f.pub,.int .i64 f.hd.len,.int .i64 f.hd.dg,.int .i64 f.hd.sg,.int .i64 g.hd.len,.int .i64 g.hd.dg,.int .i64 g.hd.sg] 48));have hb1:Below W0.heap.size W0 W1:=by rw[←HW1.out];exact qab (bR_ _ _) _
 have HB1:=hI_ (HB0.out.trans (hb1.mono HB0.out.size));have HA1:=hI_ ((hb1.block _ (qai HA0.out)).trans HA0.out);have HG1:=hI_ ((hb1.block _ (qai HG0.out)).trans HG0.out);have HZ1:=hI_ ((hb1.block _ (qai HZ0.out)).trans HZ0.out);have HK1:Hid (W1.heap[q+3]? =some (.cells #[.int .i64 f.pub,.int .i64 f.hd.len,.int .i64 f.hd.dg,.int .i64 f.hd.sg,.int .i64 g.hd.len,.int .i64 g.hd.dg,.int .i64 g.hd.sg] 48 (0,0))):=hI_ (by rw[←HW1.out,←hs0];exact heap_alloc_new _ _);have HF1:=hI_ (HF.out.below hb1);have HGG1:=hI_ (HG.out.below hb1);clear hb1;go_upto_region 2 with fail
 rw[HW1.out];clear a0 a1 a2 a3 a4 a5 af g0 g1 g2 g3 g4 g5 gf hs0;obtain⟨a0,a1,a2,a3,a4,a5,af⟩:=qaa HA1.out;go_wp2_with fail
 refine(qbp HVF vb vh W1 HF1.out).mono ?_;rintro e w2 ⟨rfl,hb2⟩;have HB2:=hI_ (HB1.out.trans (hb2.mono HB1.out.size));have HA2:=hI_ ((hb2.block _ (qai HA1.out)).trans HA1.out);have HG2:=hI_ ((hb2.block _ (qai HG1.out)).trans HG1.out);have HZ2:=hI_ ((hb2.block _ (qai HZ1.out)).trans HZ1.out);have HK2:=hI_ ((hb2.block _ (qai HK1.out)).trans HK1.out);have HGG2:=hI_ (HGG1.out.below hb2);clear hb2 a0 a1 a2 a3 a4 a5 af;obtain⟨g0,g1,g2,g3,g4,g5,gf⟩:=qaa HG2.out;go_wp2_with fail
 refine(qbp HVG ub uh w2 HGG2.out).mono ?_;rintro e w3 ⟨rfl,hb3⟩;have HB3:=hI_ (HB2.out.trans (hb3.mono HB2.out.size));have HA3:=hI_ ((hb3.block _ (qai HA2.out)).trans HA2.out);have HG3:=hI_ ((hb3.block _ (qai HG2.out)).trans HG2.out);have HZ3:=hI_ ((hb3.block _ (qai HZ2.out)).trans HZ2.out);have HK3:=hI_ ((hb3.block _ (qai HK2.out)).trans HK2.out);clear hb3 g0 g1 g2 g3 g4 g5 gf;obtain⟨a0,a1,a2,a3,a4,a5,af⟩:=qaa HA3.out;obtain⟨g0,g1,g2,g3,g4,g5,gf⟩:=qaa HG3.out;obtain⟨k0,k1,k2,k3,k4,k5,k6,kf⟩:=quN HK3.out;go_wp2_with fail
 refine(qu0 f.pub f.hd g.hd w3 HH.out).mono ?_;rintro e w4 ⟨rfl,hb4⟩;have HB4:=hI_ (HB3.out.trans (hb4.mono HB3.out.size));have hz4:=(hb4.block _ (qai HZ3.out)).trans HZ3.out;clear hb4 a0 a1 a2 a3 a4 a5 af g0 g1 g2 g3 g4 g5 gf k0 k1 k2 k3 k4 k5 k6 kf;obtain⟨z0,z1,z2,z3,z4,z5,z6,zf⟩:=quN hz4;have HZ4:=hI_ hz4;clear hz4;obtain⟨W5,HW5⟩:=nm_ (((((((w4.setCell ⟨q+2,0,none⟩ (.int .i64 0)).setCell ⟨q+2,1,none⟩ (.int .i64 0)).setCell ⟨q+2,2,none⟩ (.int .i64 0)).setCell ⟨q+2,3,none⟩ (.int .i64 0)).setCell ⟨q+2,4,none⟩ (.int .i64 0)).setCell ⟨q+2,5,none⟩ (.int .i64 0)).setCell ⟨q+2,6,none⟩ (.int .i64 0));have hb5:Below w.heap.size w W5:=by rw[←HW5.out];exact Below.setCell (qae HB4.out bC_ _ _ _ _ _ _) (by show w.heap.size≤q+2;have:=HQ.out;omega) _
 have hz5:W5.heap[q+2]? =some (.cells #[.int .i64 0,.int .i64 0,.int .i64 0,.int .i64 0,.int .i64 0,.int .i64 0,.int .i64 0] 48 (0,0)):=by
  rw[←HW5.out];have a0:=qas (i:=0) HZ4.out (.int .i64 0);have a1:=qas (i:=1) a0 (.int .i64 0);have a2:=qas (i:=2) a1 (.int .i64 0);have a3:=qas (i:=3) a2 (.int .i64 0);have a4:=qas (i:=4) a3 (.int .i64 0);have a5:=qas (i:=5) a4 (.int .i64 0);exact qas (i:=6) a5 (.int .i64 0)
 go_wp2_with fail
 rw[HW5.out];clear z0 z1 z2 z3 z4 z5 z6 zf;obtain⟨z0,z1,z2,z3,z4,z5,z6,zf⟩:=quN hz5;refine bodyPost_ret (v:=.tuple #[.agg #[.int .i64 0,.int .i64 0,.int .i64 0,.int .i64 0,.int .i64 0,.int .i64 0,.int .i64 0],.bool false]) (by simp[results,Tryz.results23,go_sem,z0,z1,z2,z3,z4,z5,z6]) rfl ⟨rfl,hb5⟩
end Go.Proofs.YtcnpmbdkcflboaaGreatDoor

/- Words and walks of the law. -/
import Derived.Test.YtekaaekpdebloaaGreatDoorCB5
set_option linter.unusedVariables false
set_option linter.unusedSimpArgs false
set_option maxHeartbeats 12800000
set_option maxRecDepth 100000
namespace Go.Proofs.YtekaaekpdebloaaGreatDoor
open Go.RowKit
attribute [local go_sem ↓] Go.wp_at_zero Go.wp_at_succ

def qmq(B:Nat)(W wx:World)(f:Fd)(c:Int)(s9 s10:Value):Prop:=∃ y vb vh,s9=.pointer (some ⟨y,0,none⟩)∧s10=.int .i64 c∧FB B y wx f vb vh∧Below B W wx∧B≤y
theorem qlz{B:Nat}{W w:World}{f:Fd}{c:Int}{vb vh:Value}{D:Nat}(hf:qaK D w f vb vh)(hD:B≤D)(hb:Below B W w)(hB:B≤w.heap.size):
 qmq B W (w.alloc (.cells #[.int .i64 f.pub,.int .i64 f.hd.len,.int .i64 f.hd.dg,.int .i64 f.hd.sg,vb,vh] 50)) f c (.pointer (some ⟨w.heap.size,0,none⟩)) (.int .i64 c):=
 ⟨_,vb,vh,rfl,rfl,FB.made (hf.mono hD),hb.alloc hB _,hB⟩
theorem qhj{B y:Nat}{W w:World}{f:Fd}{c:Int}{vb vh x0 x1 x2 x3 x4 x5:Value}{D:Nat}(hf:qaK D w f vb vh)(hD:y<D)(hb:Below B W w)(hy:w.heap[y]? =some (.cells #[x0,x1,x2,x3,x4,x5] 50 (0,0)))(hB:B≤y):
 qmq B W ((((((w.setCell ⟨y,0,none⟩ (.int .i64 f.pub)).setCell ⟨y,1,none⟩ (.int .i64 f.hd.len)).setCell ⟨y,2,none⟩ (.int .i64 f.hd.dg)).setCell ⟨y,3,none⟩ (.int .i64 f.hd.sg)).setCell ⟨y,4,none⟩ vb).setCell ⟨y,5,none⟩ vh) f c (.pointer (some ⟨y,0,none⟩)) (.int .i64 c):=
 ⟨_,vb,vh,rfl,rfl,⟨qcU hy _ _ _ _ _ _,(hf.set6 hD _ _ _ _ _ _).mono a_⟩,qae hb hB _ _ _ _ _ _,hB⟩
theorem qis{K:Nat}(x:Wd)(a b:Int)(vF vL vA vN:Value)(w:World)(hx:WdS w x vF vL vA vN)(hw:WI K x)(hK:K≤1000000):
 Calls Tryz.prog 119 #[.agg #[.int .i64 x.sec,.int .i64 x.bad,vF,vL,vA,vN],.int .i64 a,.int .i64 b] w (qhd w (qa0 x a b)):=by
 have HSM:=hI_ (hw.sml hK);have HWI:=hI_ hw;clear hw;obtain⟨s,bd,fs,ls,ks,ps⟩:=x;obtain⟨fA,fc,rfl⟩:=hx.r.feeds.sl;obtain⟨lA,lc,rfl⟩:=hx.r.links.sl;obtain⟨aA,ac,rfl⟩:=hx.r.asked.sl;obtain⟨nA,nc,rfl⟩:=hx.r.net.sl;simp only at hx;obtain⟨W0,HW0⟩:=nm_ ((w.alloc (.cells #[.int .i64 s,.int .i64 bd,.slice fA fs.length fc,.slice lA ls.length lc,.slice aA ks.length ac,.slice nA ps.length nc] 28)).alloc (.cells #[.int .i64 0,.int .i64 0,.slice none 0 0,.slice none 0 0,.slice none 0 0,.slice none 0 0] 28));have HB0:Hid (bB w W0):=hI_ ai_;have hs0:w.heap.size+2=W0.heap.size:=by rw[←HW0.out];simp
 have HP0:Hid (W0.heap[w.heap.size]? =some (.cells #[.int .i64 s,.int .i64 bd,.slice fA fs.length fc,.slice lA ls.length lc,.slice aA ks.length ac,.slice nA ps.length nc] 28 (0,0))):=hI_ M_;have HZ0:Hid (W0.heap[w.heap.size+1]? =some (.cells #[.int .i64 0,.int .i64 0,.slice none 0 0,.slice none 0 0,.slice none 0 0,.slice none 0 0] 28 (0,0))):=hI_ D_;have HX0:Hid (WdS W0 ⟨s,bd,fs,ls,ks,ps⟩ (.slice fA fs.length fc) (.slice lA ls.length lc) (.slice aA ks.length ac) (.slice nA ps.length nc)):=hI_ (hx.below HB0.out);have HL0:Hid (RP W0 (.slice lA ls.length lc) ls):=hI_ HX0.out.r.links;have hl0:w.heap.size<W0.heap.size:=a_;have hl1:w.heap.size+1<W0.heap.size:=a_;clear hx hs0;have hno:∀ (x':Wd) (W:World),x'=⟨s,bd,fs,ls,ks,ps⟩→bB W0 W→qhd w x' (.returned (.agg #[.int .i64 s,.int .i64 bd,.slice fA fs.length fc,.slice lA ls.length lc,.slice aA ks.length ac,.slice nA ps.length nc]))
  ((((((W.setCell ⟨w.heap.size+1,0,none⟩ (.int .i64 s)).setCell ⟨w.heap.size+1,1,none⟩ (.int .i64 bd)).setCell ⟨w.heap.size+1,2,none⟩ (.slice fA fs.length fc)).setCell ⟨w.heap.size+1,3,none⟩ (.slice lA ls.length lc)).setCell ⟨w.heap.size+1,4,none⟩ (.slice aA ks.length ac)).setCell ⟨w.heap.size+1,5,none⟩ (.slice nA ps.length nc)):=by
  rintro x' W rfl hb;exact⟨_,_,_,_,rfl,(HX0.out.below hb).set6 ((hb.block _ hl1).trans HZ0.out) _ _ _ _ _ _,qae (HB0.out.trans (hb.mono (Nat.le_of_lt hl0))) (Nat.le_succ _) _ _ _ _ _ _⟩
 have HNO:=hI_ hno;clear hno;obtain⟨p0,p1,p2,p3,p4,p5,pf⟩:=qaa HP0.out;obtain⟨z0,z1,z2,z3,z4,z5,zf⟩:=qaa HZ0.out;obtain⟨v,HV⟩:=nm_ (qbk ⟨s,bd,fs,ls,ks,ps⟩ a b);cases v
 · have HR:Hid (qa0 ⟨s,bd,fs,ls,ks,ps⟩ a b=⟨s,bd,fs,ls,ks,ps⟩):=hI_ (by unfold qa0 qdj;rw[HV.out];rfl);go_enter Tryz.func119,Tryz.ntmps119
   go_wp2_with fail
   rw[HW0.out];go_wp2_with (go_at_call 194;refine(qbY ⟨s,bd,fs,ls,ks,ps⟩ _ _ _ _ _ _ _ HL0.out).mono ?_;rintro e w1 ⟨rfl,hb1⟩;rw[HV.out];have hl1s:=hb1.size;obtain⟨t0,t1,t2,t3,t4,t5,tf⟩:=qaa ((hb1.block _ hl0).trans HP0.out);obtain⟨y0,y1,y2,y3,y4,y5,yf⟩:=qaa ((hb1.block _ hl1).trans HZ0.out))
   refine bodyPost_ret (v:=.agg #[.int .i64 s,.int .i64 bd,.slice fA fs.length fc,.slice lA ls.length lc,.slice aA ks.length ac,.slice nA ps.length nc]) (by simp[results,Tryz.results119,go_sem,y0,y1,y2,y3,y4,y5]) rfl (HNO.out _ _ HR.out hb1)
 obtain⟨i,j,rfl,rfl,hi,hj⟩:=HWI.out.lk HV.out;simp only at hi hj;have hn0:0<fs.length:=a_;have hi':(i:Int)<(fs.length:Int):=a_;have hj':(j:Int)<(fs.length:Int):=a_;have hi0:(0:Int)≤(i:Int):=a_;have hj0:(0:Int)≤(j:Int):=a_;obtain⟨b0,o0,xb,xh,hA,hbs,e0,e1,e2,e3,e4,e5,hFi⟩:=HX0.out.r.feeds.at_ hi;subst hA;obtain⟨_,_,yb,yh,hA,_,f0,f1,f2,f3,f4,f5,hFj⟩:=HX0.out.r.feeds.at_ hj;cases hA;obtain⟨ni,hni,hn1,hn2,hn3,hn4⟩:=HWI.out.hd hi;obtain⟨nj,hnj,hm1,hm2,hm3,hm4⟩:=HWI.out.hd hj;have HFD:Hid ((⟨s,bd,fs,ls,ks,ps⟩:Wd).feed i=fs[i]∧(⟨s,bd,fs,ls,ks,ps⟩:Wd).feed j=fs[j]):=hI_ ⟨HWI.out.fd hi,HWI.out.fd hj⟩;simp only at hni hnj hn1 hm1;obtain⟨⟨dp,⟨dl,dd,dg⟩,dbl,dhv⟩,HFI⟩:∃ f,Hid (fs[i]=f):=⟨_,hI_ rfl⟩
 obtain⟨fj,HFJ⟩:=nm_ (fs[j]);rw[HFI.out] at e0 e1 e2 e3 hFi hni hn3 hn4 HFD;rw[HFJ.out] at f0 f1 f2 f3 hFj hnj hm3 hm4 HFD;simp only at e0 e1 e2 e3 hni hn3 hn4;subst hni;have HFJR:=hI_ hFj;have HEC:=hI_ (And.intro e1 (And.intro e2 e3));have HFC:=hI_ (And.intro f0 (And.intro f1 (And.intro f2 (And.intro f3 (And.intro f4 f5)))));have HN1:=hI_ hn1;clear hFi hFj e0 e4 e5 hn1 hnj hm1 hm2 hm3 hm4 hn2 hn3 hn4;have HWH:Hid (qa0 ⟨s,bd,fs,ls,ks,ps⟩ i j=if decide (fj.hd.len<ni)&&(qc9 fj ⟨ni,dd,dg⟩ (qcv ((lvs (fs.getD 0 Fd.none).bl).take ni) fj.hd.len)).2==0 then ⟨s,bd,fs.set j (qc9 fj ⟨ni,dd,dg⟩ (qcv ((lvs (fs.getD 0 Fd.none).bl).take ni) fj.hd.len)).1,ls,ks,ps⟩ else ⟨s,bd,fs,ls,ks,ps⟩):=hI_ (by
  unfold qa0 qdj qet;rw[HV.out,HFD.out.1,HFD.out.2];simp only[Bool.true_and,Int.toNat_natCast];rfl)
 by_cases hlt:fj.hd.len<(ni:Int);rotate_left
 · have HR:Hid (qa0 ⟨s,bd,fs,ls,ks,ps⟩ i j=⟨s,bd,fs,ls,ks,ps⟩):=hI_ (by rw[HWH.out,decide_eq_false hlt];rfl);have hle:(ni:Int)≤fj.hd.len:=a_;clear hlt;go_enter Tryz.func119,Tryz.ntmps119
   go_wp2_with fail
   rw[HW0.out];go_wp2_with (go_at_call 194;refine(qbY ⟨s,bd,fs,ls,ks,ps⟩ _ _ _ _ _ _ _ HL0.out).mono ?_;rintro e w1 ⟨rfl,hb1⟩;rw[HV.out];have hl1s:=hb1.size;obtain⟨t0,t1,t2,t3,t4,t5,tf⟩:=qaa ((hb1.block _ hl0).trans HP0.out);obtain⟨y0,y1,y2,y3,y4,y5,yf⟩:=qaa ((hb1.block _ hl1).trans HZ0.out);have e1:=(hb1.cell (p:=⟨b0,_,none⟩) hbs).trans HEC.out.1;have e2:=(hb1.cell (p:=⟨b0,_,none⟩) hbs).trans HEC.out.2.1;have e3:=(hb1.cell (p:=⟨b0,_,none⟩) hbs).trans HEC.out.2.2)
   obtain⟨W2,HW2⟩:=nm_ (w1.alloc (.cells #[.int .i64 (ni:Int),.int .i64 dd,.int .i64 dg] 46));have hB2:bB W0 W2:=by rw[←HW2.out];exact qab hb1 _
   have hh2:W2.heap[w1.heap.size]? =some (.cells #[.int .i64 (ni:Int),.int .i64 dd,.int .i64 dg] 46 (0,0)):=by rw[←HW2.out];exact heap_alloc_new _ _
   have hs2:W2.heap.size=w1.heap.size+1:=by rw[←HW2.out];simp
   have HHB:=hI_ hh2;have HB2:=hI_ hB2;have HS2:=hI_ hs2;clear p0 p1 p2 p3 p4 p5 pf z0 z1 z2 z3 z4 z5 zf t0 t1 t2 t3 t4 t5 tf y0 y1 y2 y3 y4 y5 yf e1 e2 e3;obtain⟨k0,k1,k2,kf⟩:=qaS hh2;have m2:=(qaa ((hB2.block _ hl0).trans HP0.out)).2.2.1;have m5:=(hB2.cell (p:=⟨b0,_,none⟩) hbs).trans HFC.out.2.1;have l1:w.heap.size<W2.heap.size:=a_;have l2:w1.heap.size<W2.heap.size:=a_;have l3:b0<W2.heap.size:=a_;clear hh2 hB2 hs2 hb1 hl1s;rw[HW2.out];have hup:=qap W2;refine qoH ?_;repeat(go_big_quiet_step (fail))
   refine wq_ fun w3 hb3=>?_;clear hup k0 k1 k2 kf m2 m5 l1 l2 l3;have hB3:=HB2.out.trans (hb3.mono HB2.out.size);obtain⟨t0,t1,t2,t3,t4,t5,tf⟩:=qaa ((hB3.block _ hl0).trans HP0.out);obtain⟨y0,y1,y2,y3,y4,y5,yf⟩:=qaa ((hB3.block _ hl1).trans HZ0.out);go_wp2_with fail
   refine bodyPost_ret (v:=.agg #[.int .i64 s,.int .i64 bd,.slice (some ⟨b0,o0,none⟩) fs.length fc,.slice lA ls.length lc,.slice aA ks.length ac,.slice nA ps.length nc]) (by simp[results,Tryz.results119,go_sem,y0,y1,y2,y3,y4,y5]) rfl (HNO.out _ _ HR.out hB3)
 go_enter Tryz.func119,Tryz.ntmps119
 go_wp2_with fail
 rw[HW0.out];go_wp2_with (go_at_call 194;refine(qbY ⟨s,bd,fs,ls,ks,ps⟩ _ _ _ _ _ _ _ HL0.out).mono ?_;rintro e w1 ⟨rfl,hb1⟩;rw[HV.out];have hl1s:=hb1.size;obtain⟨t0,t1,t2,t3,t4,t5,tf⟩:=qaa ((hb1.block _ hl0).trans HP0.out);obtain⟨y0,y1,y2,y3,y4,y5,yf⟩:=qaa ((hb1.block _ hl1).trans HZ0.out);have e1:=(hb1.cell (p:=⟨b0,_,none⟩) hbs).trans HEC.out.1;have e2:=(hb1.cell (p:=⟨b0,_,none⟩) hbs).trans HEC.out.2.1;have e3:=(hb1.cell (p:=⟨b0,_,none⟩) hbs).trans HEC.out.2.2)
 obtain⟨W2,HW2⟩:=nm_ (w1.alloc (.cells #[.int .i64 (ni:Int),.int .i64 dd,.int .i64 dg] 46));have hB2:bB W0 W2:=by rw[←HW2.out];exact qab hb1 _
 have hh2:W2.heap[w1.heap.size]? =some (.cells #[.int .i64 (ni:Int),.int .i64 dd,.int .i64 dg] 46 (0,0)):=by rw[←HW2.out];exact heap_alloc_new _ _
 have hs2:W2.heap.size=w1.heap.size+1:=by rw[←HW2.out];simp
 have HHB:=hI_ hh2;have HB2:=hI_ hB2;have HS2:=hI_ hs2;clear p0 p1 p2 p3 p4 p5 pf z0 z1 z2 z3 z4 z5 zf t0 t1 t2 t3 t4 t5 tf y0 y1 y2 y3 y4 y5 yf e1 e2 e3;obtain⟨k0,k1,k2,kf⟩:=qaS hh2;have m2:=(qaa ((hB2.block _ hl0).trans HP0.out)).2.2.1;have m5:=(hB2.cell (p:=⟨b0,_,none⟩) hbs).trans HFC.out.2.1;have l1:w.heap.size<W2.heap.size:=a_;have l2:w1.heap.size<W2.heap.size:=a_;have l3:b0<W2.heap.size:=a_;clear hh2 hB2 hs2 hb1 hl1s;rw[HW2.out];have hup:=qap W2;refine qoH ?_;repeat(go_big_quiet_step (fail))
 refine wq_ fun w3 hb3=>?_;clear hup k0 k1 k2 kf m2 m5 l1 l2 l3;have hB3:=HB2.out.trans (hb3.mono HB2.out.size);have lp3:w.heap.size<w3.heap.size:=nL_ hl0 hB3.size;have lb3:b0<w3.heap.size:=nL_ hbs hB3.size;have hh3:=(hb3.block _ (Array.getElem?_eq_some_iff.1 HHB.out).1).trans HHB.out;have ly3:w1.heap.size<w3.heap.size:=(Array.getElem?_eq_some_iff.1 hh3).1;have HB3:=hI_ hB3;have HP3:=hI_ (qaa ((hB3.block _ hl0).trans HP0.out));have HH3:=hI_ (qaS hh3);have HHB3:=hI_ hh3;have HM3:=hI_ ((hB3.cell (p:=⟨b0,_,none⟩) hbs).trans HFC.out.2.1);have HFR3:=hI_ (HX0.out.r.feeds.below hB3);have HFJ3:=hI_ (HFJR.out.below' hB3);have hle:¬ (ni:Int)≤fj.hd.len:=a_;have HCL:Hid (∀ W,bB w3 W→Calls Tryz.prog 134 #[.agg #[.int .i64 s,.int .i64 bd,.slice (some ⟨b0,o0,none⟩) fs.length fc,.slice lA ls.length lc,.slice aA ks.length ac,.slice nA ps.length nc],.int .i64 (ni:Int)] W fun e w'=>∃ v',e=.returned v'∧O1 (Value.int .i64) W.heap.size 3 w' v' ((lvs (fs.getD 0 Fd.none).bl).take ni)∧bB W w'):=
  hI_ fun W hW=>qc3 fs ni s bd _ _ _ _ W (HFR3.out.below hW) hn0 HN1.out HWI.out.len0.2.1 HWI.out.txt
 obtain⟨t0,t1,t2,t3,t4,t5,tf⟩:=HP3.out;obtain⟨x0,x1,x2,xf⟩:=HH3.out;have m5:=HM3.out;have h16:(fs.getD 0 Fd.none).bl.length≤16:=HWI.out.len0.2.1;have HTX:Hid (∀ t ∈ (fs.getD 0 Fd.none).bl,t.size≤8):=hI_ HWI.out.txt;have H16:=hI_ h16;obtain⟨G,HGG⟩:=nm_ (qcv ((lvs (fs.getD 0 Fd.none).bl).take ni) fj.hd.len);obtain⟨gf,c,HG⟩:∃ gf c,Hid (qc9 fj ⟨ni,dd,dg⟩ G=(gf,c)):=⟨_,_,hI_ rfl⟩
 rw[HGG.out,HG.out] at HWH;clear hb3 hB3 hh3 h16 hlt;go_wp2_with fail
 clear t0 t1 t2 t3 t4 t5 tf x0 x1 x2 xf m5;go_region_held3 (fun w'=>w'.cell? ⟨w.heap.size,0,none⟩=some (.int .i64 s)∧w'.cell? ⟨w.heap.size,1,none⟩=some (.int .i64 bd)∧w'.cell? ⟨w.heap.size,2,none⟩=some (.slice (some ⟨b0,o0,none⟩) fs.length fc)∧w'.cell? ⟨w.heap.size,3,none⟩=some (.slice lA ls.length lc)∧w'.cell? ⟨w.heap.size,4,none⟩=some (.slice aA ks.length ac)∧w'.cell? ⟨w.heap.size,5,none⟩=some (.slice nA ps.length nc)∧w'.cell? ⟨w1.heap.size,0,none⟩=some (.int .i64 (ni:Int))∧w'.cell? ⟨b0,o0+j*6+1,none⟩=some (.int .i64 fj.hd.len))
  (with_reducible refine⟨Eq.trans (Below.cell (B:=w3.heap.size) ?_ lp3) HP3.out.1,Eq.trans (Below.cell (B:=w3.heap.size) ?_ lp3) HP3.out.2.1,Eq.trans (Below.cell (B:=w3.heap.size) ?_ lp3) HP3.out.2.2.1,Eq.trans (Below.cell (B:=w3.heap.size) ?_ lp3) HP3.out.2.2.2.1,Eq.trans (Below.cell (B:=w3.heap.size) ?_ lp3) HP3.out.2.2.2.2.1,Eq.trans (Below.cell (B:=w3.heap.size) ?_ lp3) HP3.out.2.2.2.2.2.1,Eq.trans (Below.cell (B:=w3.heap.size) ?_ ly3) HH3.out.1,Eq.trans (Below.cell (B:=w3.heap.size) ?_ lb3) HM3.out⟩ <;> (repeat(first|with_reducible exact bR_ _ _|with_reducible exact hb04|with_reducible exact hb05|with_reducible refine qab ?_ _|with_reducible refine qac ?_|with_reducible refine qae ?_ ?_ _ _ _ _ _ _|omega));done)
  (first
    |(go_at_call 134;refine(HCL.out _ (by repeat(first|with_reducible exact bR_ _ _|with_reducible exact hb04|with_reducible exact hb05|with_reducible refine qab ?_ _|with_reducible refine qac ?_|with_reducible refine qae ?_ ?_ _ _ _ _ _ _|omega))).mono ?_;rintro e w4 ⟨v4,rfl,ho4,hb4⟩;have hb04:bB w3 w4:=qb6 (by repeat(first|with_reducible exact bR_ _ _|with_reducible exact hb04|with_reducible exact hb05|with_reducible refine qab ?_ _|with_reducible refine qac ?_|with_reducible refine qae ?_ ?_ _ _ _ _ _ _|omega)) hb4)
    |(go_at_call 195;refine(qhT _ fj.hd.len _ _ ho4.r1).mono ?_;rintro e w5 ⟨v5,rfl,ho5,hb5⟩;have hb05:bB w3 w5:=qb6 hb04 hb5))
 rw[HGG.out] at ho5;obtain⟨A5,n5,c5,rfl,hn5⟩:=ho5.sl2;have hB5:=HB3.out.trans (hb05.mono HB3.out.size);have HR5:Hid (RI w5 (.slice A5 n5 c5) G):=hI_ ho5.r1;have lp5:w.heap.size<w5.heap.size:=nL_ hl0 hB5.size;have lb5:b0<w5.heap.size:=nL_ hbs hB5.size;have ly5:w1.heap.size<w5.heap.size:=nL_ ly3 hb05.size;have HB5:=hI_ hB5;have HP5:=hI_ (qaa ((hB5.block _ hl0).trans HP0.out)).2.2.1;have HH5:=hI_ (qaS ((hb05.block _ ly3).trans HHB3.out));have HFJ5:=hI_ (HFJ3.out.below' hb05);have hcell5:=fun(o:Nat)=>hB5.cell (p:=⟨b0,o,none⟩) hbs;have HC5:=hI_ hcell5;clear ho4 ho5 hb04 hb05 hb4 hb5 hB5 hcell5 lp3 lb3 ly3 hn5;go_upto_region 7 with fail
 go_cut [9,10] (fun s9 s10 wx=>qmq w5.heap.size w5 wx gf c s9 s10)
 case first=>
  have p2:=HP5.out;obtain⟨x0,x1,x2,xf⟩:=HH5.out;have q0:=(HC5.out (o0+j*6)).trans HFC.out.1;have q1:=(HC5.out (o0+j*6+1)).trans HFC.out.2.1;have q2:=(HC5.out (o0+j*6+2)).trans HFC.out.2.2.1;have q3:=(HC5.out (o0+j*6+3)).trans HFC.out.2.2.2.1;have q4:=(HC5.out (o0+j*6+4)).trans HFC.out.2.2.2.2.1;have q5:=(HC5.out (o0+j*6+5)).trans HFC.out.2.2.2.2.2;clear xf;go_region_held3 (fun w'=>w'.cell? ⟨w.heap.size,2,none⟩=some (.slice (some ⟨b0,o0,none⟩) fs.length fc)∧w'.cell? ⟨b0,o0+j*6,none⟩=some (.int .i64 fj.pub)∧w'.cell? ⟨b0,o0+j*6+1,none⟩=some (.int .i64 fj.hd.len)∧w'.cell? ⟨b0,o0+j*6+2,none⟩=some (.int .i64 fj.hd.dg)∧w'.cell? ⟨b0,o0+j*6+3,none⟩=some (.int .i64 fj.hd.sg)∧w'.cell? ⟨b0,o0+j*6+4,none⟩=some yb∧w'.cell? ⟨b0,o0+j*6+5,none⟩=some yh∧w'.cell? ⟨w1.heap.size,0,none⟩=some (.int .i64 (ni:Int))∧w'.cell? ⟨w1.heap.size,1,none⟩=some (.int .i64 dd)∧w'.cell? ⟨w1.heap.size,2,none⟩=some (.int .i64 dg))
   (with_reducible refine⟨Eq.trans (Below.cell (B:=w5.heap.size) ?_ lp5) p2,Eq.trans (Below.cell (B:=w5.heap.size) ?_ lb5) q0,Eq.trans (Below.cell (B:=w5.heap.size) ?_ lb5) q1,Eq.trans (Below.cell (B:=w5.heap.size) ?_ lb5) q2,Eq.trans (Below.cell (B:=w5.heap.size) ?_ lb5) q3,Eq.trans (Below.cell (B:=w5.heap.size) ?_ lb5) q4,Eq.trans (Below.cell (B:=w5.heap.size) ?_ lb5) q5,Eq.trans (Below.cell (B:=w5.heap.size) ?_ ly5) x0,Eq.trans (Below.cell (B:=w5.heap.size) ?_ ly5) x1,Eq.trans (Below.cell (B:=w5.heap.size) ?_ ly5) x2⟩ <;> (repeat(first|with_reducible exact bR_ _ _|with_reducible exact hb06|with_reducible refine qab ?_ _|with_reducible refine qac ?_|with_reducible refine qae ?_ ?_ _ _ _ _ _ _|omega));done)
   ((go_at_call 196;refine(qiV (h:=⟨ni,dd,dg⟩) HG _ _ _ _ (HFJ5.out.below' i_) (HR5.out.below i_)).mono ?_;rintro e w6 ⟨ub,uh,rfl,ho6,hb6⟩
     obtain⟨uA,uc,rfl⟩:=ho6.bl.sl;obtain⟨hA,hc,rfl⟩:=ho6.hv.sl;have hb06:bB w5 w6:=qb6 i_ hb6;have hs06:=hb06.size;try(have hz6:=(hb6.block _ (qaB _ _)).trans (heap_alloc_new _ _);obtain⟨k0,k1,k2,k3,k4,k5,kf⟩:=qaa hz6)))
  all_goals
   go_wp2
   go_meet
  · exact qlz ho6 k_ hb06 hs06
  · exact qhj ho6 k_ hb06 hz6 k_
 case rest=>
  obtain⟨y,vb6,vh6,rfl,rfl,hfb,hb6,hy⟩:=hcut;obtain⟨Wx,rfl⟩:∃ W,W=wc:=⟨_,rfl⟩
  have hBx:=HB5.out.trans (hb6.mono HB5.out.size);have HFB:=hI_ hfb;have HBX:=hI_ hBx;clear hfb hb6 hBx lp5 lb5 ly5;obtain⟨t0,t1,t2,t3,t4,t5,tf⟩:=qaa ((HBX.out.block _ hl0).trans HP0.out);obtain⟨z0,z1,z2,z3,z4,z5,zf⟩:=qaa ((HBX.out.block _ hl1).trans HZ0.out);have hlt:fj.hd.len<(ni:Int):=a_;by_cases hc:c=0;rotate_left
  · have hc1:(c==0)=false:=by rw[beq_eq_false_iff_ne];exact hc
    have hc2:(c !=0)=true:=by simp[hc]
    have HR:Hid (qa0 ⟨s,bd,fs,ls,ks,ps⟩ i j=⟨s,bd,fs,ls,ks,ps⟩):=hI_ (by rw[HWH.out,hc1,Bool.and_false];rfl);clear hc;go_wp2_with fail
    refine bodyPost_ret (v:=.agg #[.int .i64 s,.int .i64 bd,.slice (some ⟨b0,o0,none⟩) fs.length fc,.slice lA ls.length lc,.slice aA ks.length ac,.slice nA ps.length nc]) (by simp[results,Tryz.results119,go_sem,z0,z1,z2,z3,z4,z5]) rfl (HNO.out _ _ HR.out HBX.out)
  subst hc;have HR:Hid (qa0 ⟨s,bd,fs,ls,ks,ps⟩ i j=⟨s,bd,fs.set j gf,ls,ks,ps⟩):=hI_ (by rw[HWH.out,decide_eq_true hlt];rfl);clear hlt z0 z1 z2 z3 z4 z5 zf;go_wp2_with fail
  refine(qcO ⟨s,bd,fs,ls,ks,ps⟩ _ _ _ _ Wx (HX0.out.below HBX.out) HSM.out).mono ?_;rintro e wk ⟨uF,uL,uA,uN,rfl,hC,hbc⟩;obtain⟨gF,cF,rfl,hgF,hgl⟩:=hC.feeds.form hn0;obtain⟨uLA,uLc,rfl⟩:=hC.links.sl;obtain⟨uAA,uAc,rfl⟩:=hC.asked.sl;obtain⟨uNA,uNc,rfl⟩:=hC.net.sl;simp only at hgF hgl hC;have HC:=hI_ hC;have HBC:=hI_ hbc;have HFK:=hI_ (HFB.out.below hbc);clear hC hbc t0 t1 t2 t3 t4 t5 tf;obtain⟨W1,HW1⟩:=nm_ (wk.alloc (.cells #[.int .i64 s,.int .i64 bd,.slice (some ⟨gF,0,none⟩) fs.length cF,.slice uLA ls.length uLc,.slice uAA ks.length uAc,.slice uNA ps.length uNc] 28));go_upto_region 11 with fail
  rw[HW1.out];have hB1:bB wk W1:=by rw[←HW1.out];exact qab (bR_ _ _) _
  have hk1:W1.heap[wk.heap.size]? =some (.cells #[.int .i64 s,.int .i64 bd,.slice (some ⟨gF,0,none⟩) fs.length cF,.slice uLA ls.length uLc,.slice uAA ks.length uAc,.slice uNA ps.length uNc] 28 (0,0)):=by rw[←HW1.out];exact heap_alloc_new _ _
  have hC1:=HC.out.keep (qaA.of_below hB1);have hfb1:=HFK.out.below hB1;have hBx1:bB W0 W1:=(HBX.out.trans (HBC.out.mono HBX.out.size)).trans (hB1.mono (Nat.le_trans HBX.out.size HBC.out.size));have hs1:W1.heap.size=wk.heap.size+1:=by rw[←HW1.out];simp
  obtain⟨⟨F,hF⟩,hFf,_⟩:=hC1.feeds.cells;simp only at hF;have r0:=hF (j*6) a_;have r1:=hF (j*6+1) a_;have r2:=hF (j*6+2) a_;have r3:=hF (j*6+3) a_;have r4:=hF (j*6+4) a_;have r5:=hF (j*6+5) a_;obtain⟨vA,vc,rfl⟩:=hfb1.fo.bl.sl;obtain⟨uA,uc,rfl⟩:=hfb1.fo.hv.sl;have c0:=hfb1.c0;have c1:=hfb1.c1;have c2:=hfb1.c2;have c3:=hfb1.c3;have c4:=hfb1.c4;have c5:=hfb1.c5;obtain⟨v0,v1,v2,v3,v4',v5',vf⟩:=qaa hk1;obtain⟨z0,z1,z2,z3,z4,z5,zf⟩:=qaa ((hBx1.block _ hl1).trans HZ0.out);have hyl:y<Wx.heap.size:=HFB.out.lt;have hkx:=HBC.out.size;have n1:gF≠wk.heap.size:=a_;have n3:wk.heap.size≠gF:=a_;have n2:gF≠y:=a_;have n4:y≠gF:=a_;have hX:=HBX.out.size;have n5:w.heap.size+1≠gF:=a_;have n6:gF≠w.heap.size+1:=a_;have n7:w.heap.size+1≠wk.heap.size:=a_;have n8:wk.heap.size≠w.heap.size+1:=a_;have hput:=hC1.putF hj (hfb1.fo.stb e_ e_);have hB18:=qeZ (o:=j*6) hBx1 (by omega:W0.heap.size≤gF) (.int .i64 gf.pub) (.int .i64 gf.hd.len) (.int .i64 gf.hd.dg) (.int .i64 gf.hd.sg) (.slice vA gf.bl.length vc) (.slice uA gf.hv.length uc);obtain⟨W18,HW18⟩:=nm_ (((((((W1.setCell ⟨gF,j*6,none⟩ (.int .i64 gf.pub)).setCell ⟨gF,j*6+1,none⟩ (.int .i64 gf.hd.len)).setCell ⟨gF,j*6+2,none⟩ (.int .i64 gf.hd.dg)).setCell ⟨gF,j*6+3,none⟩ (.int .i64 gf.hd.sg)).setCell ⟨gF,j*6+4,none⟩ (.slice vA gf.bl.length vc)).setCell ⟨gF,j*6+5,none⟩ (.slice uA gf.hv.length uc)));rw[HW18.out] at hput hB18;have HPUT:=hI_ hput;have HB18:=hI_ hB18;clear hput hB18 hC1 hfb1 hk1 hF hB1 hyl hkx hX hs1 hgF hgl;go_wp2_with fail
  rw[HW18.out];have hz18:=(HB18.out.block _ hl1).trans HZ0.out;obtain⟨z0,z1,z2,z3,z4,z5,zf⟩:=qaa hz18;refine bodyPost_ret (v:=.agg #[.int .i64 s,.int .i64 bd,.slice (some ⟨gF,0,none⟩) fs.length cF,.slice uLA ls.length uLc,.slice uAA ks.length uAc,.slice uNA ps.length uNc]) (by simp[results,Tryz.results119,go_sem,z0,z1,z2,z3,z4,z5]) rfl ?_;rw[HR.out];exact⟨_,_,_,_,rfl,HPUT.out.set6 hz18 _ _ _ _ _ _,qae (HB0.out.trans (HB18.out.mono (Nat.le_of_lt hl0))) (Nat.le_succ _) _ _ _ _ _ _⟩
theorem qhL{x:Wd}{a b c:Int}(h:qgE x a b c=false):qiT x a b c=x:=by unfold qiT;rw[h];rfl
theorem qm9{x:Wd}{a b c:Int}{r:List (Int×Int)}{en ok:Bool}(h:qgE x a b c=true)(he:qh2 x a=en)(h2:qfs (x.asks a) (b,c) en=(r,ok)):qiT x a b c=if ok then {x with asked:=x.asked.set a.toNat r} else x:=by
 unfold qiT;rw[h,he,h2];rfl
theorem qmL{K:Nat}(x:Wd)(a b c:Int)(vF vL vA vN:Value)(w:World)(hx:WdS w x vF vL vA vN)(hw:WI K x)(hK:K≤1000000):
 Calls Tryz.prog 120 #[.agg #[.int .i64 x.sec,.int .i64 x.bad,vF,vL,vA,vN],.int .i64 a,.int .i64 b,.int .i64 c] w (qhd w (qiT x a b c)):=by
 have HSM:=hI_ (hw.sml hK);have HWI:=hI_ hw;have HKK:=hI_ hK;clear hw hK;obtain⟨s,bd,fs,ls,ks,ps⟩:=x;obtain⟨fA,fc,rfl⟩:=hx.r.feeds.sl;obtain⟨lA,lc,rfl⟩:=hx.r.links.sl;obtain⟨aA,ac,rfl⟩:=hx.r.asked.sl;obtain⟨nA,nc,rfl⟩:=hx.r.net.sl;simp only at hx;obtain⟨W0,HW0⟩:=nm_ ((w.alloc (.cells #[.int .i64 s,.int .i64 bd,.slice fA fs.length fc,.slice lA ls.length lc,.slice aA ks.length ac,.slice nA ps.length nc] 28)).alloc (.cells #[.int .i64 0,.int .i64 0,.slice none 0 0,.slice none 0 0,.slice none 0 0,.slice none 0 0] 28));have HB0:Hid (bB w W0):=hI_ ai_;have hs0:w.heap.size+2=W0.heap.size:=by rw[←HW0.out];simp
 have HP0:Hid (W0.heap[w.heap.size]? =some (.cells #[.int .i64 s,.int .i64 bd,.slice fA fs.length fc,.slice lA ls.length lc,.slice aA ks.length ac,.slice nA ps.length nc] 28 (0,0))):=hI_ M_;have HZ0:Hid (W0.heap[w.heap.size+1]? =some (.cells #[.int .i64 0,.int .i64 0,.slice none 0 0,.slice none 0 0,.slice none 0 0,.slice none 0 0] 28 (0,0))):=hI_ D_;have HX0:Hid (WdS W0 ⟨s,bd,fs,ls,ks,ps⟩ (.slice fA fs.length fc) (.slice lA ls.length lc) (.slice aA ks.length ac) (.slice nA ps.length nc)):=hI_ (hx.below HB0.out);have HL0:Hid (RP W0 (.slice lA ls.length lc) ls):=hI_ HX0.out.r.links;have hl0:w.heap.size<W0.heap.size:=a_;have hl1:w.heap.size+1<W0.heap.size:=a_;clear hx hs0;have hno:∀ (x':Wd) (W:World),x'=⟨s,bd,fs,ls,ks,ps⟩→bB W0 W→qhd w x' (.returned (.agg #[.int .i64 s,.int .i64 bd,.slice fA fs.length fc,.slice lA ls.length lc,.slice aA ks.length ac,.slice nA ps.length nc]))
  ((((((W.setCell ⟨w.heap.size+1,0,none⟩ (.int .i64 s)).setCell ⟨w.heap.size+1,1,none⟩ (.int .i64 bd)).setCell ⟨w.heap.size+1,2,none⟩ (.slice fA fs.length fc)).setCell ⟨w.heap.size+1,3,none⟩ (.slice lA ls.length lc)).setCell ⟨w.heap.size+1,4,none⟩ (.slice aA ks.length ac)).setCell ⟨w.heap.size+1,5,none⟩ (.slice nA ps.length nc)):=by
  rintro x' W rfl hb;exact⟨_,_,_,_,rfl,(HX0.out.below hb).set6 ((hb.block _ hl1).trans HZ0.out) _ _ _ _ _ _,qae (HB0.out.trans (hb.mono (Nat.le_of_lt hl0))) (Nat.le_succ _) _ _ _ _ _ _⟩
 have HNO:=hI_ hno;clear hno;obtain⟨p0,p1,p2,p3,p4,p5,pf⟩:=qaa HP0.out;obtain⟨v,HV⟩:=nm_ (qbk ⟨s,bd,fs,ls,ks,ps⟩ a b);cases v
 · have HR:Hid (qiT ⟨s,bd,fs,ls,ks,ps⟩ a b c=⟨s,bd,fs,ls,ks,ps⟩):=hI_ (qhL (by unfold qgE;rw[HV.out];rfl));go_enter Tryz.func120,Tryz.ntmps120
   go_wp2_with fail
   rw[HW0.out];have hup:=qap W0;refine qoH ?_;repeat(go_big_quiet_step (first
    |(go_at_call 194;exact qal (qbv HV _ _ _ _ _ (HL0.out.below (qao _ _))))))
   refine wq_ fun w1 hb1=>?_;clear hup p0 p1 p2 p3 p4 p5 pf;obtain⟨t0,t1,t2,t3,t4,t5,tf⟩:=qaa ((hb1.block _ hl0).trans HP0.out);obtain⟨y0,y1,y2,y3,y4,y5,yf⟩:=qaa ((hb1.block _ hl1).trans HZ0.out);go_wp2_with fail
   refine bodyPost_ret (v:=.agg #[.int .i64 s,.int .i64 bd,.slice fA fs.length fc,.slice lA ls.length lc,.slice aA ks.length ac,.slice nA ps.length nc]) bP_ rfl (HNO.out _ _ HR.out hb1)
 obtain⟨i,j,rfl,rfl,hi,hj⟩:=HWI.out.lk HV.out;simp only at hi hj;have hn0:0<fs.length:=a_;have hi':(i:Int)<(fs.length:Int):=a_;have hj':(j:Int)<(fs.length:Int):=a_;have hi0:(0:Int)≤(i:Int):=a_;have hj0:(0:Int)≤(j:Int):=a_;have hka:i<ks.length:=by have:=HWI.out.na;simp only at this;omega
 have hka':(i:Int)<(ks.length:Int):=a_;obtain⟨b0,o0,xb,xh,hA,hbs,e0,e1,e2,e3,e4,e5,hFi⟩:=HX0.out.r.feeds.at_ hi;subst hA;obtain⟨_,_,yb,yh,hA,_,f0,f1,f2,f3,f4,f5,hFj⟩:=HX0.out.r.feeds.at_ hj;cases hA;obtain⟨ni,hni,hn1,hn2,hn3,hn4⟩:=HWI.out.hd hi;obtain⟨nj,hnj,hm1,hm2,hm3,hm4⟩:=HWI.out.hd hj;have HFD:Hid ((⟨s,bd,fs,ls,ks,ps⟩:Wd).feed i=fs[i]∧(⟨s,bd,fs,ls,ks,ps⟩:Wd).feed j=fs[j]):=hI_ ⟨HWI.out.fd hi,HWI.out.fd hj⟩;have HAS:Hid ((⟨s,bd,fs,ls,ks,ps⟩:Wd).asks i=ks[i]):=hI_ (HWI.out.as_ hi);simp only at hni hnj hn1 hm1;obtain⟨⟨dp,⟨dl,dd,dg⟩,dbl,dhv⟩,HFI⟩:∃ f,Hid (fs[i]=f):=⟨_,hI_ rfl⟩
 obtain⟨fj,HFJ⟩:=nm_ (fs[j]);rw[HFI.out] at e0 e1 e2 e3 hFi hni hn3 hn4 HFD;rw[HFJ.out] at f0 f1 f2 f3 hFj hnj hm3 hm4 HFD;simp only at e0 e1 e2 e3 hni hn3 hn4;have HFJR:=hI_ hFj;have HFIR:=hI_ hFi;have HMA:Hid (qgE ⟨s,bd,fs,ls,ks,ps⟩ i j c=((dl==fj.hd.len)&&qiS fj c&& !dhv.getD c.toNat false)):=hI_ (by
  unfold qgE;rw[HV.out,HFD.out.1,HFD.out.2];rfl)
 have HNI:=hI_ hni;have HNJ:=hI_ hnj;clear hFi hFj e0 hn1 hm1 hm2 hm3 hnj hni;by_cases hlen:dl=fj.hd.len;rotate_left
 · have hlen1:(dl==fj.hd.len)=false:=by rw[beq_eq_false_iff_ne];exact hlen
   have hlen2:(dl !=fj.hd.len)=true:=by simp[hlen]
   have HR:Hid (qiT ⟨s,bd,fs,ls,ks,ps⟩ i j c=⟨s,bd,fs,ls,ks,ps⟩):=hI_ (qhL (by rw[HMA.out,hlen1];rfl));clear f0 f2 f3 f4 f5 e2 e3 e4 e5 hlen;go_enter Tryz.func120,Tryz.ntmps120
   go_wp2_with fail
   rw[HW0.out];have hup:=qap W0;refine qoH ?_;repeat(go_big_quiet_step (first
    |(go_at_call 194;exact qal (qbv HV _ _ _ _ _ (HL0.out.below (qao _ _))))))
   refine wq_ fun w1 hb1=>?_;clear hup p0 p1 p2 p3 p4 p5 pf;obtain⟨t0,t1,t2,t3,t4,t5,tf⟩:=qaa ((hb1.block _ hl0).trans HP0.out);obtain⟨y0,y1,y2,y3,y4,y5,yf⟩:=qaa ((hb1.block _ hl1).trans HZ0.out);go_wp2_with fail
   refine bodyPost_ret (v:=.agg #[.int .i64 s,.int .i64 bd,.slice (some ⟨b0,o0,none⟩) fs.length fc,.slice lA ls.length lc,.slice aA ks.length ac,.slice nA ps.length nc]) bP_ rfl (HNO.out _ _ HR.out hb1)
 have hlen1:(dl==fj.hd.len)=true:=by rw[hlen];simp
 rw[hlen1,Bool.true_and] at HMA;subst hlen;clear hlen1;obtain⟨v2,HV2⟩:=nm_ (qiS fj c);cases v2
 · have HR:Hid (qiT ⟨s,bd,fs,ls,ks,ps⟩ i j c=⟨s,bd,fs,ls,ks,ps⟩):=hI_ (qhL (by rw[HMA.out,HV2.out];rfl));clear e2 e3 e4 e5;go_enter Tryz.func120,Tryz.ntmps120
   go_wp2_with fail
   rw[HW0.out];have hup:=qap W0;refine qoH ?_;repeat(go_big_quiet_step (first
    |(go_at_call 194;exact qal (qbv HV _ _ _ _ _ (HL0.out.below (qao _ _))))
    |(go_at_call 197;exact qal (qea HV2 _ _ _ (HFJR.out.hv.below (qao _ _))))))
   refine wq_ fun w1 hb1=>?_;clear hup p0 p1 p2 p3 p4 p5 pf;obtain⟨t0,t1,t2,t3,t4,t5,tf⟩:=qaa ((hb1.block _ hl0).trans HP0.out);obtain⟨y0,y1,y2,y3,y4,y5,yf⟩:=qaa ((hb1.block _ hl1).trans HZ0.out);go_wp2_with fail
   refine bodyPost_ret (v:=.agg #[.int .i64 s,.int .i64 bd,.slice (some ⟨b0,o0,none⟩) fs.length fc,.slice lA ls.length lc,.slice aA ks.length ac,.slice nA ps.length nc]) bP_ rfl (HNO.out _ _ HR.out hb1)
 rw[HV2.out,Bool.true_and] at HMA;obtain⟨k,rfl,hk1⟩:∃ k:Nat,c=k∧k<dhv.length:=by
  have h2:=HV2.out;unfold qiS at h2;rw[Bool.and_eq_true,qak] at h2;have h3:=HNI.out;have h4:=HNJ.out;exact⟨c.toNat,a_,a_⟩
 obtain⟨hvA,hvc,rfl⟩:=HFIR.out.hv.sl';simp only at e5 HFIR;have HRH:Hid (RB W0 (.slice hvA dhv.length hvc) dhv):=hI_ HFIR.out.hv;obtain⟨bh,oh,rfl,hbh,eh⟩:=HRH.out.at_ hk1;have hk':(k:Int)<(dhv.length:Int):=a_;have hk0:(0:Int)≤(k:Int):=a_;rw[Int.toNat_natCast,qam hk1] at HMA;obtain⟨r,HRR⟩:=nm_ (dhv[k]);rw[HRR.out] at eh HMA;cases r
 rotate_left
 · have HR:Hid (qiT ⟨s,bd,fs,ls,ks,ps⟩ i j k=⟨s,bd,fs,ls,ks,ps⟩):=hI_ (qhL a9_);clear e2 e3 e4;go_enter Tryz.func120,Tryz.ntmps120
   go_wp2_with fail
   rw[HW0.out];have hup:=qap W0;refine qoH ?_;repeat(go_big_quiet_step (first
    |(go_at_call 194;exact qal (qbv HV _ _ _ _ _ (HL0.out.below (qao _ _))))
    |(go_at_call 197;exact qal (qea HV2 _ _ _ (HFJR.out.hv.below (qao _ _))))))
   refine wq_ fun w1 hb1=>?_;clear hup p0 p1 p2 p3 p4 p5 pf;obtain⟨t0,t1,t2,t3,t4,t5,tf⟩:=qaa ((hb1.block _ hl0).trans HP0.out);obtain⟨y0,y1,y2,y3,y4,y5,yf⟩:=qaa ((hb1.block _ hl1).trans HZ0.out);go_wp2_with fail
   refine bodyPost_ret (v:=.agg #[.int .i64 s,.int .i64 bd,.slice (some ⟨b0,o0,none⟩) fs.length fc,.slice lA ls.length lc,.slice aA ks.length ac,.slice nA ps.length nc]) bP_ rfl (HNO.out _ _ HR.out hb1)
 obtain⟨aA0,oA0,vk,hA,hab,ek,hRK⟩:=HX0.out.r.asked.at_ hka;subst hA;obtain⟨lk,HLK⟩:=nm_ (ks[i]);rw[HLK.out] at hRK HAS;have HRK:=hI_ hRK;have HLKL:Hid (lk.length≤1000000):=hI_ (by rw[←HLK.out];exact Nat.le_trans (HWI.out.ask i hka) HKK.out);obtain⟨m,HMC⟩:=nm_ (cnt dhv);have hmd:m≤dhv.length:=by rw[←HMC.out];exact qlr _
 have hd16:dhv.length≤16:=a_;have HED:Hid (qh2 ⟨s,bd,fs,ls,ks,ps⟩ i=decide ((dhv.length:Int)-(m:Int)≤2)):=hI_ (by
  unfold qh2;rw[HFD.out.1];unfold qeG;rw[if_pos hd16,HMC.out])
 clear hRK hn2 hn3 hn4 hm4;obtain⟨en,HEN⟩:=nm_ (decide ((dhv.length:Int)-(m:Int)≤2));obtain⟨rl,ok,HWA⟩:∃ r ok,Hid (qfs lk ((j:Int),(k:Int)) en=(r,ok)):=⟨_,_,hI_ rfl⟩
 have HR:Hid (qiT ⟨s,bd,fs,ls,ks,ps⟩ i j k=if ok then ⟨s,bd,fs,ls,ks.set i rl,ps⟩ else ⟨s,bd,fs,ls,ks,ps⟩):=hI_ (by
  have h1:=qm9 (r:=rl) (ok:=ok) HMA.out (HED.out.trans HEN.out) (by rw[HAS.out];exact HWA.out);rw[Int.toNat_natCast] at h1;exact h1)
 have hwrap:IntKind.i64.wrap ((dhv.length:Int)-(m:Int))=(dhv.length:Int)-(m:Int):=IntWalk.i64_in _ a_;have HWP:=hI_ hwrap;have HC1:=hI_ (And.intro e1 (And.intro e5 (And.intro f1 (And.intro eh ek))));clear hwrap;go_enter Tryz.func120,Tryz.ntmps120
 go_wp2_with fail
 rw[HW0.out];have hup:=qap W0;refine qoH ?_;repeat(go_big_quiet_step (first
  |(go_at_call 194;exact qal (qbv HV _ _ _ _ _ (HL0.out.below (qao _ _))))
  |(go_at_call 197;exact qal (qea HV2 _ _ _ (HFJR.out.hv.below (qao _ _))))))
 refine wpQuiet_nil ?_;intro w1 hw1;have hb1:=qay hw1;have HB1:=hI_ hb1;clear hw1 hup p0 p1 p2 p3 p4 p5 pf e1 e2 e3 e4 e5 f0 f1 f2 f3 f4 f5 eh ek;have t2:=(qaa ((hb1.block _ hl0).trans HP0.out)).2.2.1;have g5:=(hb1.cell (p:=⟨b0,_,none⟩) hbs).trans HC1.out.2.1;have lp1:w.heap.size<w1.heap.size:=nL_ hl0 hb1.size;have lb1:b0<w1.heap.size:=nL_ hbs hb1.size;clear hb1;have hwrap:=HWP.out;go_wp2_with fail
 have hup:=qap w1;refine qoH ?_;repeat(go_big_quiet_step ((go_at_call 131;exact qaj (qlQ HMC _ _ ((HRH.out.below HB1.out).below (qao _ _))))))
 refine wpQuiet_nil ?_;intro w2 hw2;have hb2:=HB1.out.trans ((qay hw2).mono HB1.out.size);have HB2:=hI_ hb2;clear hw2 hup t2 g5 lp1 lb1 hwrap;have t4:=(qaa ((hb2.block _ hl0).trans HP0.out)).2.2.2.2.1;have g4:=(hb2.cell (p:=⟨aA0,_,none⟩) hab).trans HC1.out.2.2.2.2;clear hb2;go_wp2_with fail
 rw[HEN.out];refine(qhW (a:=((j:Int),(k:Int))) HWA _ _ (HRK.out.below HB2.out) HLKL.out).mono ?_;rintro e w3 ⟨v3,rfl,ho3,hb3⟩;have HO3:=hI_ ho3;have HB3:Hid (bB W0 w3):=hI_ (HB2.out.trans (hb3.mono HB2.out.size));clear ho3 hb3 t4 g4;obtain⟨t0,t1,t2,t3,t4,t5,tf⟩:=qaa ((HB3.out.block _ hl0).trans HP0.out);obtain⟨y0,y1,y2,y3,y4,y5,yf⟩:=qaa ((HB3.out.block _ hl1).trans HZ0.out);cases ok
 · go_wp2_with fail
   refine bodyPost_ret (v:=.agg #[.int .i64 s,.int .i64 bd,.slice (some ⟨b0,o0,none⟩) fs.length fc,.slice lA ls.length lc,.slice (some ⟨aA0,oA0,none⟩) ks.length ac,.slice nA ps.length nc]) bP_ rfl (HNO.out _ _ HR.out HB3.out)
 · go_wp2_with fail
   refine(qcO ⟨s,bd,fs,ls,ks,ps⟩ _ _ _ _ w3 (HX0.out.below HB3.out) HSM.out).mono ?_;rintro e wk ⟨uF,uL,uA,uN,rfl,hC,hbc⟩;obtain⟨uFA,uFc,rfl⟩:=hC.feeds.sl;obtain⟨uLA,uLc,rfl⟩:=hC.links.sl;obtain⟨gF,cF,rfl,hgF,hgl⟩:=hC.asked.form ac_;obtain⟨uNA,uNc,rfl⟩:=hC.net.sl;simp only at hgF hgl hC;have HC:=hI_ hC;have HBC:=hI_ hbc;clear hC hbc t0 t1 t2 t3 t4 t5 tf;obtain⟨W1,HW1⟩:=nm_ (wk.alloc (.cells #[.int .i64 s,.int .i64 bd,.slice uFA fs.length uFc,.slice uLA ls.length uLc,.slice (some ⟨gF,0,none⟩) ks.length cF,.slice uNA ps.length uNc] 28));go_upto_region 8 with fail
   rw[HW1.out];have hB1:bB wk W1:=by rw[←HW1.out];exact qab (bR_ _ _) _
   have hk1:W1.heap[wk.heap.size]? =some (.cells #[.int .i64 s,.int .i64 bd,.slice uFA fs.length uFc,.slice uLA ls.length uLc,.slice (some ⟨gF,0,none⟩) ks.length cF,.slice uNA ps.length uNc] 28 (0,0)):=by rw[←HW1.out];exact heap_alloc_new _ _
   have hC1:=HC.out.keep (qaA.of_below hB1);have hBx1:bB W0 W1:=(HB3.out.trans (HBC.out.mono HB3.out.size)).trans (hB1.mono (Nat.le_trans HB3.out.size HBC.out.size));have hO1:=(HO3.out.below HBC.out).below hB1;obtain⟨⟨F,hF⟩,hFf,_⟩:=hC1.asked.cells;simp only at hF;have r0:=hF i a_;obtain⟨v0,v1,v2,v3',v4',v5',vf⟩:=qaa hk1;obtain⟨z0,z1,z2,z3,z4,z5,zf⟩:=qaa ((hBx1.block _ hl1).trans HZ0.out);obtain⟨vA,vc,rfl⟩:=hO1.sl;have hkx:=HBC.out.size;have hX:=HB3.out.size;have n1:gF≠wk.heap.size:=a_;have n3:wk.heap.size≠gF:=a_;have n5:w.heap.size+1≠gF:=a_;have n6:gF≠w.heap.size+1:=a_;have n7:w.heap.size+1≠wk.heap.size:=a_;have n8:wk.heap.size≠w.heap.size+1:=a_;have hput:=hC1.putA (j:=i) hka (hO1.stb e_);have hB18:bB W0 (W1.setCell ⟨gF,i,none⟩ (.slice vA rl.length vc)):=qaN hBx1 a_;obtain⟨W18,HW18⟩:=nm_ (W1.setCell ⟨gF,i,none⟩ (.slice vA rl.length vc));rw[HW18.out] at hput hB18;have HPUT:=hI_ hput;have HB18:=hI_ hB18;clear hput hB18 hC1 hk1 hF hB1 hkx hX hgF hgl;go_wp2_with fail
   rw[HW18.out];have hz18:=(HB18.out.block _ hl1).trans HZ0.out;obtain⟨z0,z1,z2,z3,z4,z5,zf⟩:=qaa hz18;refine bodyPost_ret (v:=.agg #[.int .i64 s,.int .i64 bd,.slice uFA fs.length uFc,.slice uLA ls.length uLc,.slice (some ⟨gF,0,none⟩) ks.length cF,.slice uNA ps.length uNc]) (by simp[results,Tryz.results120,go_sem,z0,z1,z2,z3,z4,z5]) rfl ?_;rw[HR.out];have hall:=HPUT.out.set6 hz18 (.int .i64 s) (.int .i64 bd) (.slice uFA fs.length uFc) (.slice uLA ls.length uLc) (.slice (some ⟨gF,0,none⟩) ks.length cF) (.slice uNA ps.length uNc);have hlen:(ks.set i rl).length=ks.length:=List.length_set;exact⟨_,_,_,_,rfl,hall,qae (HB0.out.trans (HB18.out.mono (Nat.le_of_lt hl0))) (Nat.le_succ _) _ _ _ _ _ _⟩
end Go.Proofs.YtekaaekpdebloaaGreatDoor
namespace Go.Proofs.YtekaaekpdebloaaGreatDoor
open Go.RowKit

def qkn(W0:World)(φ:World→Prop)(w:World):Prop:=∀ w',qaA LP w w'→qaA LT2 W0 w'→φ w'
theorem qoE:∀ e ∈ LP,e ∈ LT2:=by decide
section
variable {W0 w w':World} {φ:World→Prop}
theorem qkn.old(h:Stb LT2 φ W0):qkn W0 φ w:=fun w' _ hk=>h w' hk
theorem qkn.new(h:Stb LP φ w):qkn W0 φ w:=fun w' hk _=>h w' hk
theorem qkn.next(h:qkn W0 φ w)(hk:qaA LP w w'):qkn W0 φ w':=fun w2 h2 h3=>h w2 (hk.trans h2) h3
theorem qkn.fin(h:qkn W0 φ w)(hk:qaA LT2 W0 w):Stb LT2 φ w:=fun w2 h2=>h w2 (h2.mono qoE) (hk.trans h2)
end
theorem qgN{T:List TypeId}{a b:World}(h:qaA T a b)(o:Obj):qaA T a (b.alloc o):=h.trans (qaA.alloc o)
theorem qin{T:List TypeId}{a b:World}(h:qaA T a b):qaA T a b.drew:=h
def qbg(W0 w:World)(v:Value)(ps:List Pc):Prop:=
 ∃ F,ON 6 W0.heap.size 57 w v ps.length F∧∀ j (hj:j<ps.length),F (j*6)=.int .i64 ps[j].fr∧F (j*6+1)=.int .i64 ps[j].to_∧F (j*6+2)=.int .i64 ps[j].len∧F (j*6+3)=.int .i64 ps[j].idx∧F (j*6+4)=.string ps[j].txt∧qkn W0 (fun w=>RI w (F (j*6+5)) ps[j].prf) w
section
variable {W0 w w':World} {v:Value} {ps:List Pc}
theorem qbg.next(h:qbg W0 w v ps)(hk:qaA LTP w w'):qbg W0 w' v ps:=by
 obtain⟨F,h1,h2⟩:=h;exact⟨F,h1.keepT hk e_,fun j hj=>⟨(h2 j hj).1,(h2 j hj).2.1,(h2 j hj).2.2.1,(h2 j hj).2.2.2.1,(h2 j hj).2.2.2.2.1,(h2 j hj).2.2.2.2.2.next (hk.mono LPP)⟩⟩
theorem qbg.below(h:qbg W0 w v ps)(hb:bB w w'):qbg W0 w' v ps:=h.next (qaA.of_below hb)
theorem qbg.stb(h:qbg W0 w v ps)(hk:qaA LT2 W0 w):Stb LT2 (fun w=>qbx w v ps) w:=by
 obtain⟨F,h1,h2⟩:=h;intro w2 hk2;exact⟨F,(h1.keepT hk2 e_).rn,fun j hj=>⟨(h2 j hj).1,(h2 j hj).2.1,(h2 j hj).2.2.1,(h2 j hj).2.2.2.1,(h2 j hj).2.2.2.2.1,((h2 j hj).2.2.2.2.2.fin hk) w2 hk2⟩⟩
theorem qbg.lt(h:qbg W0 w v ps):∀ r,v.ownBlock=some r→W0.heap.size≤r∧r<w.heap.size:=by obtain⟨F,h1,_⟩:=h;exact h1.lt
theorem qbg.sl(h:qbg W0 w v ps):∃ A c,v=.slice A ps.length c:=by obtain⟨F,h1,_⟩:=h;exact h1.rn.sl
theorem qbg.empty{g:Nat}(hh:w.heap[g]? =some (.cells #[] 57 (0,0)))(hB:W0.heap.size≤g):qbg W0 w (.slice (some ⟨g,0,none⟩) 0 0) []:=⟨fun _=>.slice none 0 0,ON.empty hh hB,fun j hj=>an_⟩
end
theorem RN.of_block{w:World}{g N:Nat}{cur:Array Value}{e:TypeId}{fr:Nat×Nat}(h:w.heap[g]? =some (.cells cur e fr))(hN:cur.size=N):RN N w (.slice (some ⟨g,0,none⟩) 1 1) 1 (fun t=>cur.toList.getD t (.slice none 0 0)):=by
 refine⟨_,_,rfl,⟨nr_ _,fun h=>aj_⟩,s_,fun _=>⟨g,0,rfl,(Array.getElem?_eq_some_iff.1 h).1,fun t ht=> ?_⟩⟩;rw[Nat.zero_add,cell_of_row _ g t cur e fr h];have:t<cur.toList.length:=by simp;omega
 show cur[t]? =some (cur.toList.getD t (.slice none 0 0));rw[List.getD_eq_getElem?_getD,List.getElem?_eq_getElem this];simp
theorem qmy{w:World}{b o:Nat}{u:Value}(h:w.cell? ⟨b,o,none⟩=some u):∃ cur e fr,w.heap[b]? =some (.cells cur e fr):=by
 unfold World.cell? at h;split at h
 · rename_i c e f hh
   exact⟨c,e,f,hh⟩
 · cases h
theorem qe5{W:World}{b o:Nat}{u:Value}(hc:W.cell? ⟨b,o,none⟩=some u)(hk:∀ w',qaA LT2 W w'→w'.cell? ⟨b,o,none⟩≠none):∀ w',qaA LT2 W w'→w'.heap[b]? =W.heap[b]? :=by
 obtain⟨cur,e,fr,hh⟩:=qmy hc;have hlt:=(Array.getElem?_eq_some_iff.1 hh).1;by_cases he:e ∈ LT2
 · exact fun w' h=>h.2 b cur e fr hh he
 · exfalso;refine hk {W with heap:=W.heap.set b (.cells #[] e fr) hlt} ⟨k_,fun k cur2 e2 fr2 h2 he2=> ?_⟩ ?_
   · by_cases hkb:k=b
     · subst hkb;rw[hh] at h2;cases h2
       exact absurd he2 he
     · show(W.heap.set b _ hlt)[k]? =W.heap[k]?;rw[Array.getElem?_set_ne _ (Ne.symm hkb)]
   · unfold World.cell?;simp
theorem qfa{W:World}{v:Value}{ps:List Pc}(h:Stb LT2 (fun w=>qbx w v ps) W):
 ∃ H,RN 6 W v ps.length H∧∀ j (hj:j<ps.length),H (j*6)=.int .i64 ps[j].fr∧H (j*6+1)=.int .i64 ps[j].to_∧H (j*6+2)=.int .i64 ps[j].len∧H (j*6+3)=.int .i64 ps[j].idx∧H (j*6+4)=.string ps[j].txt∧Stb LT2 (fun w=>RI w (H (j*6+5)) ps[j].prf) W:=by
 obtain⟨H,h1,h2⟩:=h.self;refine⟨H,h1,fun j hj=>⟨(h2 j hj).1,(h2 j hj).2.1,(h2 j hj).2.2.1,(h2 j hj).2.2.2.1,(h2 j hj).2.2.2.2.1,fun w' hk=> ?_⟩⟩;obtain⟨A,c,rfl⟩:=h1.sl;obtain⟨b,o,rfl,hb,_,hc⟩:=h1.cell a_;have hkb:∀ w',qaA LT2 W w'→w'.heap[b]? =W.heap[b]? :=by
  refine qe5 (o:=o+0) (hc 0 a_) fun w' hk'=> ?_;obtain⟨H',h1',_⟩:=h w' hk';obtain⟨b2,o2,hA,_,_,hc'⟩:=h1'.cell a_;cases hA;rw[hc' 0 a_];simp
 obtain⟨H',h1',h2'⟩:=h w' hk;obtain⟨b2,o2,hA,_,_,hc'⟩:=h1'.cell a_;cases hA;have e:=hc' (j*6+5) a_;rw[World.cell?_of_block (hkb w' hk),hc (j*6+5) a_] at e;have e2:H (j*6+5)=H' (j*6+5):=Option.some.inj e;show RI w' (H (j*6+5)) ps[j].prf;rw[e2];exact(h2' j hj).2.2.2.2.2
theorem ql1{W:World}{A:Option Addr}{n c:Nat}{ps:List Pc}(h:Stb LT2 (fun w=>qbx w (.slice A n c) ps) W){j:Nat}(hj:j<ps.length):
 ∃ b o x,A=some ⟨b,o,none⟩∧b<W.heap.size∧W.cell? ⟨b,o+j*6,none⟩=some (.int .i64 ps[j].fr)∧W.cell? ⟨b,o+j*6+1,none⟩=some (.int .i64 ps[j].to_)∧W.cell? ⟨b,o+j*6+2,none⟩=some (.int .i64 ps[j].len)∧W.cell? ⟨b,o+j*6+3,none⟩=some (.int .i64 ps[j].idx)∧W.cell? ⟨b,o+j*6+4,none⟩=some (.string ps[j].txt)∧W.cell? ⟨b,o+j*6+5,none⟩=some x∧Stb LT2 (fun w=>RI w x ps[j].prf) W:=by
 obtain⟨H,h1,h2⟩:=qfa h;obtain⟨b,o,rfl,hb,_,hc⟩:=h1.cell a_;obtain⟨g0,g1,g2,g3,g4,g5⟩:=h2 j hj;refine⟨b,o,_,rfl,hb,?_,?_,?_,?_,?_,?_,g5⟩
 · rw[hc _ a_,g0]
 · rw[Nat.add_assoc,hc _ a_,g1]
 · rw[Nat.add_assoc,hc _ a_,g2]
 · rw[Nat.add_assoc,hc _ a_,g3]
 · rw[Nat.add_assoc,hc _ a_,g4]
 · rw[Nat.add_assoc,hc _ a_]
theorem RN.take_{N n c m:Nat}{w:World}{A:Option Addr}{H:Nat→Value}(h:RN N w (.slice A n c) n H)(hm:m≤n):RN N w (.slice A m c) m H:=by
 obtain⟨A',c',he,h1,h2,h3⟩:=h;cases he
 refine⟨A,c,rfl,⟨a_,h1.2⟩,h2,fun hl=> ?_⟩;obtain⟨b,o,hA,hb,hc⟩:=h3 a_;exact⟨b,o,hA,hb,fun t ht=>hc t (nL_ ht (Nat.mul_le_mul_right N hm))⟩
theorem RN.drop_{N n c d b o:Nat}{w:World}{H:Nat→Value}(h:RN N w (.slice (some ⟨b,o,none⟩) n c) n H)(hd:d<n):RN N w (.slice (some ⟨b,o+d*N,none⟩) (n-d) (c-d)) (n-d) (fun t=>H (d*N+t)):=by
 obtain⟨A',c',he,h1,h2,h3⟩:=h;cases he
 refine⟨_,_,rfl,⟨a_,fun h=>aj_⟩,by unfold maxLen at *;omega,fun hl=> ?_⟩;obtain⟨b',o',hA,hb,hc⟩:=h3 a_;cases hA;refine⟨b,_,rfl,hb,fun t ht=> ?_⟩;have hlt:d*N+t<n*N:=by
  have e:n*N=d*N+(n-d)*N:=by rw[←Nat.add_mul];congr 1;omega
  omega
 rw[Nat.add_assoc,hc _ hlt]
section
variable {o:Oper} {a:Act} {K:Act→World→Prop} {Q:Exit→Act→World→Prop} {W0 w:World} {v:Value}
theorem qfe{ps ps2:List Pc}{x:Value}(hown:qbg W0 w v ps){H:Nat→Value}(hr:RN 6 w x ps2.length H)
 (hf:∀ j (hj:j<ps2.length),H (j*6)=.int .i64 ps2[j].fr∧H (j*6+1)=.int .i64 ps2[j].to_∧H (j*6+2)=.int .i64 ps2[j].len∧H (j*6+3)=.int .i64 ps2[j].idx∧H (j*6+4)=.string ps2[j].txt∧Stb LT2 (fun w=>RI w (H (j*6+5)) ps2[j].prf) W0)
 (hn:ps.length+ps2.length≤100000000000) (hbase:W0.heap.size≤w.heap.size) {s y:Operand}
 (ho:o.op=.call {callee:=.builtin .append,args:= #[s,y],argTypes:= #[26,26]}) (hs:a.eval s=v) (hx:a.eval y=x)
 (h:∀ A c w',qbg W0 w' (.slice A (ps.length+ps2.length) c) (ps++ps2)→w.grownBy w' v.ownBlock→K (a.put o.dst (.slice A (ps.length+ps2.length) c)) w'):Oper.wp Tryz.prog o a w K Q:=by
 obtain⟨F,h1,h2⟩:=hown;obtain⟨i0,hi,hz0,hz1,hz2⟩:=info_parts qd8;have hone:∀ t,t<ps2.length*6→(H t).oneCell'=true:=by
  intro t ht;obtain⟨j,hj⟩:∃ j,j=t/6:=⟨_,rfl⟩
  have hj2:j<ps2.length:=a_;obtain⟨f0,f1,f2,f3,f4,f5⟩:=hf j hj2;obtain rfl|rfl|rfl|rfl|rfl|rfl:t=j*6∨t=j*6+1∨t=j*6+2∨t=j*6+3∨t=j*6+4∨t=j*6+5:=a_
  · rw[f0];rfl
  · rw[f1];rfl
  · rw[f2];rfl
  · rw[f3];rfl
  · rw[f4];rfl
  · have f6:RI W0 (H (j*6+5)) ps2[j].prf:=f5.self;obtain⟨bA,bc,hv,_⟩:=f6;rw[hv];rfl
 refine qcQ 26 57 6 72 i0 _ Tryz.underlying26 hi hz0 hz1 hz2 rfl a_ a_ h1 hr hone hn hbase ho hs hx fun A c w' h3 h4=> ?_;have hk:qaA LP w w':=h1.grew h4 e_;refine h A c w' ⟨_,A_,fun j hj=> ?_⟩ h4;by_cases hlt:j<ps.length
 · rw[qaC a_,qaC a_,qaC a_,qaC a_,qaC a_,qaC a_,List.getElem_append_left hlt];exact⟨(h2 j hlt).1,(h2 j hlt).2.1,(h2 j hlt).2.2.1,(h2 j hlt).2.2.2.1,(h2 j hlt).2.2.2.2.1,(h2 j hlt).2.2.2.2.2.next hk⟩
 · have hj':j-ps.length<ps2.length:=by simp at hj;omega
   obtain⟨f0,f1,f2,f3,f4,f5⟩:=hf _ hj';rw[qaD a_,qaD a_,qaD a_,qaD a_,qaD a_,qaD a_,List.getElem_append_right a_,show j*6-ps.length*6=(j-ps.length)*6 by omega,show j*6+1-ps.length*6=(j-ps.length)*6+1 by omega,show j*6+2-ps.length*6=(j-ps.length)*6+2 by omega,show j*6+3-ps.length*6=(j-ps.length)*6+3 by omega,show j*6+4-ps.length*6=(j-ps.length)*6+4 by omega,show j*6+5-ps.length*6=(j-ps.length)*6+5 by omega];exact⟨f0,f1,f2,f3,f4,qkn.old f5⟩
theorem qkY{ps:List Pc}{p:Pc}{x:Value}{g:Nat}(hown:qbg W0 w v ps)(hg:w.heap[g]? =some (.cells #[.int .i64 p.fr,.int .i64 p.to_,.int .i64 p.len,.int .i64 p.idx,.string p.txt,x] 57 (0,0)))
 (hf:qkn W0 (fun w=>RI w x p.prf) w) (hx1:x.oneCell'=true) (hn:ps.length+1≤100000000000) (hbase:W0.heap.size≤w.heap.size) {s y:Operand}
 (ho:o.op=.call {callee:=.builtin .append,args:= #[s,y],argTypes:= #[26,26]}) (hs:a.eval s=v) (hx:a.eval y=.slice (some ⟨g,0,none⟩) 1 1)
 (h:∀ A c w',qbg W0 w' (.slice A (ps.length+1) c) (ps++[p])→w.grownBy w' v.ownBlock→K (a.put o.dst (.slice A (ps.length+1) c)) w'):Oper.wp Tryz.prog o a w K Q:=by
 obtain⟨F,h1,h2⟩:=hown;obtain⟨i0,hi,hz0,hz1,hz2⟩:=info_parts qd8;have hone:∀ t,t<1*6→((#[Value.int .i64 p.fr,.int .i64 p.to_,.int .i64 p.len,.int .i64 p.idx,.string p.txt,x]:Array Value).toList.getD t (.slice none 0 0)).oneCell'=true:=by
  intro t ht;obtain rfl|rfl|rfl|rfl|rfl|rfl:t=0∨t=1∨t=2∨t=3∨t=4∨t=5:=a_;iterate 5
   · rfl
  · exact hx1
 refine qcQ 26 57 6 72 i0 _ Tryz.underlying26 hi hz0 hz1 hz2 rfl a_ a_ h1 (RN.of_block hg rfl) hone hn hbase ho hs hx fun A c w' h3 h4=> ?_;have hk:qaA LP w w':=h1.grew h4 e_;refine h A c w' ⟨_,A_,fun j hj=> ?_⟩ h4;by_cases hlt:j<ps.length
 · rw[qaC a_,qaC a_,qaC a_,qaC a_,qaC a_,qaC a_,List.getElem_append_left hlt];exact⟨(h2 j hlt).1,(h2 j hlt).2.1,(h2 j hlt).2.2.1,(h2 j hlt).2.2.2.1,(h2 j hlt).2.2.2.2.1,(h2 j hlt).2.2.2.2.2.next hk⟩
 · obtain⟨rfl,he⟩:=qcx hj hlt;rw[qaD a_,qaD a_,qaD a_,qaD a_,qaD a_,qaD a_,he,Nat.sub_self,Nat.add_sub_cancel_left,Nat.add_sub_cancel_left,Nat.add_sub_cancel_left,Nat.add_sub_cancel_left,Nat.add_sub_cancel_left];exact⟨rfl,rfl,rfl,rfl,rfl,hf.next hk⟩
theorem qey{ps2:List Pc}{x:Value}{g:Nat}(hh:w.heap[g]? =some (.cells #[] 57 (0,0)))(hB:W0.heap.size≤g){H:Nat→Value}(hr:RN 6 w x ps2.length H)
 (hf:∀ j (hj:j<ps2.length),H (j*6)=.int .i64 ps2[j].fr∧H (j*6+1)=.int .i64 ps2[j].to_∧H (j*6+2)=.int .i64 ps2[j].len∧H (j*6+3)=.int .i64 ps2[j].idx∧H (j*6+4)=.string ps2[j].txt∧Stb LT2 (fun w=>RI w (H (j*6+5)) ps2[j].prf) W0)
 (hn:ps2.length≤100000000000) (hbase:W0.heap.size≤w.heap.size) {s y:Operand}
 (ho:o.op=.call {callee:=.builtin .append,args:= #[s,y],argTypes:= #[26,26]}) (hs:a.eval s=.slice (some ⟨g,0,none⟩) 0 0) (hx:a.eval y=x)
 (h:∀ A c w',qbg W0 w' (.slice A ps2.length c) ps2→w.grownBy w' (some g)→qaA LP w w'→K (a.put o.dst (.slice A ps2.length c)) w'):Oper.wp Tryz.prog o a w K Q:=by
 refine qfe (qbg.empty hh hB) hr hf aY_ hbase ho hs hx fun A c w' h1 h2=> ?_;simp only[List.length_nil,Nat.zero_add,List.nil_append] at h1 ⊢;exact h A c w' h1 h2 (qaA.of_grown h2 (fun r hr=>by cases hr;exact⟨_,_,_,hh,e_⟩))
end
end Go.Proofs.YtekaaekpdebloaaGreatDoor
namespace Go.Proofs.YtekaaekpdebloaaGreatDoor
open Go.RowKit
attribute [local go_sem ↓] Go.wp_at_zero Go.wp_at_succ

theorem qgg{α:Type}{l:List α}{k:Nat}(h:k<l.length)(p:α→Bool):(l.take (k+1)).filter p=(l.take k).filter p++if p l[k] then [l[k]] else []:=by
 rw[qaZ h,List.filter_append,List.filter_cons];rfl
theorem qdZ{α:Type}(l:List α)(k:Nat)(p:α→Bool):((l.take k).filter p).length≤k:=Nat.le_trans (List.length_filter_le _ _) (List.length_take_le _ _)
theorem qm6{l:List (Int×Int)}{a:Int×Int}(h:(qaG l&&qcB a)=false):qhJ l a=[]:=by unfold qhJ;rw[h];rfl
theorem qnU{l:List (Int×Int)}{a:Int×Int}(h:(qaG l&&qcB a)=true)(h2:qc8 l a=false):qhJ l a=l:=by unfold qhJ;rw[h,h2];rfl
theorem qm7{l:List (Int×Int)}{a:Int×Int}(h:(qaG l&&qcB a)=true)(h2:qc8 l a=true):qhJ l a=l.filter (fun y=>y.2 !=a.2):=by unfold qhJ;rw[h,h2];rfl
theorem qi9(l:List (Int×Int))(a:Int×Int)(v:Value)(w:World)(hv:RP w v l)(hl:l.length≤1000000):
 Calls Tryz.prog 199 #[v,.agg #[.int .i64 a.1,.int .i64 a.2]] w (qgC (qhJ l a) w):=by
 obtain⟨W0,HW0⟩:=nm_ (w.alloc (.cells #[.int .i64 a.1,.int .i64 a.2] 109));have HB0:Hid (bB w W0):=hI_ q_;have hp:W0.heap[w.heap.size]? =some (.cells #[.int .i64 a.1,.int .i64 a.2] 109 (0,0)):=by rw[←HW0.out];exact heap_alloc_new w _
 have lp:=(Array.getElem?_eq_some_iff.1 hp).1;have HP:=hI_ hp;have HV0:Hid (RP W0 v l):=hI_ (hv.below HB0.out);obtain⟨A,c,rfl⟩:=hv.sl;clear hv hp;obtain⟨b1,H1⟩:=nm_ (qaG l);obtain⟨b2,H2⟩:=nm_ (qcB a);have HBAD:Hid (∀ (W:World) (n:Int),(b1&&b2)=false→bB w W→qgC (qhJ l a) w (.returned (.tuple #[.slice (some ⟨W.heap.size,0,none⟩) 0 0,.int .i64 n])) (W.alloc (.cells #[] 109))):=hI_ (by
  intro W n hb hB;rw[qm6 aQ_];exact⟨_,_,rfl,qav.empty (heap_alloc_new W _) hB.size,hB.alloc hB.size _⟩)
 obtain⟨p0,p1,pf⟩:=qaH HP.out;cases b1
 · go_enter Tryz.func199,Tryz.ntmps199
   go_wp2_with fail
   rw[HW0.out];go_wp2_with (go_at_call 60;refine(qaL H1 _ _ HV0.out).mono ?_;rintro e w1 ⟨rfl,hb1⟩;have HB1:=hI_ (HB0.out.trans (hb1.mono HB0.out.size));clear hb1)
   go_ret2
   exact HBAD.out _ _ rfl HB1.out
 cases b2
 · go_enter Tryz.func199,Tryz.ntmps199
   go_wp2_with fail
   rw[HW0.out];go_wp2_with (first
    |(go_at_call 60;refine(qaL H1 _ _ HV0.out).mono ?_;rintro e w1 ⟨rfl,hb1⟩;obtain⟨p0,p1,pf⟩:=qaH ((hb1.block _ lp).trans HP.out);have HB1:=hI_ (HB0.out.trans (hb1.mono HB0.out.size));clear hb1)
    |(go_at_call 135;refine(qcJ H2 _).mono ?_;rintro e w2 ⟨rfl,hb2⟩;have HB2:=hI_ (HB1.out.trans (hb2.mono HB1.out.size));clear hb2))
   go_ret2
   exact HBAD.out _ _ rfl HB2.out
 clear HBAD;obtain⟨b3,H3⟩:=nm_ (qc8 l a);cases b3
 · have HR:Hid (qhJ l a=l):=hI_ (qnU aJ_ H3.out);rw[HR.out];go_enter Tryz.func199,Tryz.ntmps199
   go_wp2_with fail
   rw[HW0.out];go_wp2_with (first
    |(go_at_call 60;refine(qaL H1 _ _ HV0.out).mono ?_;rintro e w1 ⟨rfl,hb1⟩;obtain⟨p0,p1,pf⟩:=qaH ((hb1.block _ lp).trans HP.out);have HB1:=hI_ hb1;clear hb1)
    |(go_at_call 135;refine(qcJ H2 _).mono ?_;rintro e w2 ⟨rfl,hb2⟩;have HB2:Hid (bB W0 w2):=hI_ (HB1.out.trans (hb2.mono HB1.out.size));clear hb2
      obtain⟨p0,p1,pf⟩:=qaH ((HB2.out.block _ lp).trans HP.out))
    |(go_at_call 136;refine(qbL H3 _ _ (HV0.out.below HB2.out)).mono ?_;rintro e w6 ⟨rfl,hb6⟩
      have HB6:Hid (bB W0 w6):=hI_ (HB2.out.trans (hb6.mono HB2.out.size));clear hb6)
    |(at_builtin;refine qaF rfl fun K hK=>qhN (base:=w.heap.size) (l2:=l) (heap_alloc_new _ _) (Nat.le_trans HB0.out.size HB6.out.size) (HV0.out.below (qab HB6.out _)) a_ (Nat.le_trans HB0.out.size (qab HB6.out _).size) rfl rfl rfl (fun A5 c5 w5 ho5 hg5=>hK _ _ ?_)
      have hb05:=(qab HB6.out (.cells #[] 109)).grown hg5 (qab HB6.out (.cells #[] 109)).size (fun r hr=>by cases hr;exact HB6.out.size);have HB5:=hI_ hb05;have HO5:=hI_ ho5;clear hb05 ho5 hg5))
   go_ret2
   exact⟨_,_,rfl,HO5.out,HB0.out.trans (HB5.out.mono HB0.out.size)⟩
 · have HR:Hid (qhJ l a=l.filter (fun y=>y.2 !=a.2)):=hI_ (qm7 aJ_ H3.out);rw[HR.out];obtain⟨n5,H5⟩:=nm_ (qdL l a.2);have hn5:n5≤1000000:=by rw[←H5.out];exact Nat.le_trans (qfK _ _) hl
   obtain⟨a1,a2⟩:=a;simp only at*;go_enter Tryz.func199,Tryz.ntmps199
   go_wp2_with fail
   rw[HW0.out];go_wp2_with (first
    |(go_at_call 60;refine(qaL H1 _ _ HV0.out).mono ?_;rintro e w1 ⟨rfl,hb1⟩;obtain⟨p0,p1,pf⟩:=qaH ((hb1.block _ lp).trans HP.out);have HB1:=hI_ hb1;clear hb1)
    |(go_at_call 135;refine(qcJ H2 _).mono ?_;rintro e w2 ⟨rfl,hb2⟩;have HB2:Hid (bB W0 w2):=hI_ (HB1.out.trans (hb2.mono HB1.out.size));clear hb2
      obtain⟨p0,p1,pf⟩:=qaH ((HB2.out.block _ lp).trans HP.out))
    |(go_at_call 136;refine(qbL (a:=(a1,a2)) H3 _ _ (HV0.out.below HB2.out)).mono ?_;rintro e w6 ⟨rfl,hb6⟩
      have HB6:Hid (bB W0 w6):=hI_ (HB2.out.trans (hb6.mono HB2.out.size));clear hb6))
   go_loopw [7,6] (fun i o wr=>∃ k:Nat,k≤l.length∧i=.int .i64 k∧qav W0.heap.size 109 wr o ((l.take k).filter (fun y=>y.2 !=a2))∧bB W0 wr) (fun i _ _=>l.length-(intOf i).toNat)
   case atStart=>exact⟨0,Nat.zero_le _,rfl,qav.empty (heap_alloc_new _ _) HB6.out.size,qab HB6.out _⟩
   case round=>
    obtain⟨k,hk,rfl,ho,hb⟩:=hrel;have HO:=hI_ ho;have HB:=hI_ hb;have hlf:=qdZ l k (fun y=>y.2 !=a2);obtain⟨oA,oc,rfl⟩:=ho.sl;obtain⟨fl,HFL⟩:=nm_ ((l.take k).filter (fun y=>y.2 !=a2));rw[HFL.out] at HO hlf ⊢;clear ho hb;obtain⟨p0,p1,pf⟩:=qaH ((HB.out.block _ lp).trans HP.out);have lpr:w.heap.size<wr.heap.size:=nL_ lp HB.out.size;by_cases hlt:k<l.length
    case neg=>
     obtain rfl:k=l.length:=a_;have HFF:Hid (l.filter (fun y=>y.2 !=a2)=fl):=hI_ (by rw[←HFL.out,List.take_length]);go_wp2_with (go_at_call 138;refine(qcD H5 _ _ (HV0.out.below HB.out)).mono ?_;rintro e w' ⟨rfl,rfl⟩)
     go_ret2
     exact⟨_,_,rfl,by rw[HFF.out];exact HO.out.mono HB0.out.size,HB0.out.trans (HB.out.mono HB0.out.size)⟩
    have HTK:=hI_ (qgg hlt (fun y=>y.2 !=a2));obtain⟨b',o',rfl,hbs,e0,e1⟩:=(HV0.out.below HB.out).at_ hlt;have hki:(k:Int)<(l.length:Int):=a_;have hk0:(0:Int)≤(k:Int):=a_;obtain⟨⟨y1,y2⟩,HY⟩:∃ y,Hid (l[k]=y):=⟨_,hI_ rfl⟩
    rw[HY.out] at e0 e1 HTK;simp only at e0 e1;rw[HFL.out] at HTK;have HLT:=hI_ hlt;by_cases hy:y2=a2
    · subst hy;have HT2:Hid ((l.take (k+1)).filter (fun y=>y.2 !=y2)=fl):=hI_ (by rw[HTK.out];simp);go_wp2_with fail
      have hup:=qap wr;refine qoH ?_;repeat(go_big_quiet_step (fail))
      refine wpQuiet_nil ?_;intro w3 hw3;have hb3:=qay hw3;have HB3:=hI_ hb3;clear hw3 hup p0 p1 pf e0 e1 hb3;go_wp2_with fail
      go_roundw
      case rel=>exact⟨k+1,HLT.out,t_,by rw[HT2.out];exact HO.out.below HB3.out,HB.out.trans (HB3.out.mono HB.out.size)⟩
      case measure=>simp[intOf];omega
    · have HT2:Hid ((l.take (k+1)).filter (fun y=>y.2 !=a2)=fl++[(y1,y2)]):=hI_ (by rw[HTK.out];simp[hy]);have hy1:(y2==a2)=false:=by rw[beq_eq_false_iff_ne];exact hy
      have hy2:(y2 !=a2)=true:=by simp[hy]
      go_wp2_with fail
      have hup:=qap wr;refine qoH ?_;repeat(go_big_quiet_step (fail))
      refine wpQuiet_nil ?_;intro w3 hw3;have hb3:=qay hw3;have HB3:=hI_ hb3;have hlb:b'<w3.heap.size:=nL_ hbs hb3.size;have g0:=(hb3.cell (p:=⟨b',_,none⟩) hbs).trans e0;have g1:=(hb3.cell (p:=⟨b',_,none⟩) hbs).trans e1;clear hw3 hup p0 p1 pf e0 e1 hb3;go_wp2_with (at_builtin;refine qaF rfl fun K hK=>qfB (base:=W0.heap.size) (HO.out.below HB3.out) a_ (Nat.le_trans HB.out.size HB3.out.size) rfl rfl rfl rfl (fun A7 c7 w7 ho7 hg7=>hK _ _ ?_);have hb07:=(HB.out.trans (HB3.out.mono HB.out.size)).grown hg7 (Nat.le_trans HB.out.size HB3.out.size) (fun r hr=>(HO.out.lt' r hr).1);have HB7:=hI_ hb07;have HO7:=hI_ ho7;clear hb07 ho7 hg7)
      go_roundw
      case rel=>exact⟨k+1,HLT.out,t_,by rw[HT2.out];exact HO7.out,HB7.out⟩
      case measure=>simp[intOf];omega
theorem qmf{l:List (Int×Int)}{p:Int}(h:(qaG l&&inB p 0 5)=false):qeg l p=[]:=by unfold qeg;rw[h];rfl
theorem qmg{l:List (Int×Int)}{p:Int}(h:(qaG l&&inB p 0 5)=true):qeg l p=l.filter (fun y=>y.1 !=p):=by unfold qeg;rw[h];rfl
theorem qhX(l:List (Int×Int))(p:Int)(v:Value)(w:World)(hv:RP w v l)(hl:l.length≤1000000):
 Calls Tryz.prog 200 #[v,.int .i64 p] w (qgC (qeg l p) w):=by
 have HV0:Hid (RP w v l):=hI_ hv;obtain⟨A,c,rfl⟩:=hv.sl;clear hv;obtain⟨b1,H1⟩:=nm_ (qaG l);obtain⟨b2,H2⟩:=nm_ (inB p 0 5);have HBAD:Hid (∀ (W:World) (n:Int),(b1&&b2)=false→bB w W→qgC (qeg l p) w (.returned (.tuple #[.slice (some ⟨W.heap.size,0,none⟩) 0 0,.int .i64 n])) (W.alloc (.cells #[] 109))):=hI_ (by
  intro W n hb hB;rw[qmf aQ_];exact⟨_,_,rfl,qav.empty (heap_alloc_new W _) hB.size,hB.alloc hB.size _⟩)
 cases b1
 · go_enter Tryz.func200,Tryz.ntmps200
   go_wp2_with (go_at_call 60;refine(qaL H1 _ _ HV0.out).mono ?_;rintro e w1 ⟨rfl,hb1⟩;have HB1:=hI_ hb1;clear hb1)
   go_ret2
   exact HBAD.out _ _ rfl HB1.out
 cases b2
 · go_enter Tryz.func200,Tryz.ntmps200
   go_wp2_with (first
    |(go_at_call 60;refine(qaL H1 _ _ HV0.out).mono ?_;rintro e w1 ⟨rfl,hb1⟩;have HB1:=hI_ hb1;clear hb1)
    |(go_at_call 124;refine(qbG H2 _).mono ?_;rintro e w' ⟨rfl,rfl⟩))
   go_ret2
   exact HBAD.out _ _ rfl HB1.out
 clear HBAD;have HR:Hid (qeg l p=l.filter (fun y=>y.1 !=p)):=hI_ (qmg aJ_);rw[HR.out];obtain⟨n5,H5⟩:=nm_ (qcX l p);have hn5:n5≤1000000:=by rw[←H5.out];exact Nat.le_trans (qfL _ _) hl
 go_enter Tryz.func200,Tryz.ntmps200
 go_wp2_with (first
  |(go_at_call 60;refine(qaL H1 _ _ HV0.out).mono ?_;rintro e w6 ⟨rfl,hb1⟩;have HB6:=hI_ hb1;clear hb1)
  |(go_at_call 124;refine(qbG H2 _).mono ?_;rintro e w' ⟨rfl,rfl⟩))
 go_loopw [7,6] (fun i o wr=>∃ k:Nat,k≤l.length∧i=.int .i64 k∧qav w.heap.size 109 wr o ((l.take k).filter (fun y=>y.1 !=p))∧bB w wr) (fun i _ _=>l.length-(intOf i).toNat)
 case atStart=>exact⟨0,Nat.zero_le _,rfl,qav.empty (heap_alloc_new _ _) HB6.out.size,qab HB6.out _⟩
 case round=>
  obtain⟨k,hk,rfl,ho,hb⟩:=hrel;have HO:=hI_ ho;have HB:=hI_ hb;have hlf:=qdZ l k (fun y=>y.1 !=p);obtain⟨oA,oc,rfl⟩:=ho.sl;obtain⟨fl,HFL⟩:=nm_ ((l.take k).filter (fun y=>y.1 !=p));rw[HFL.out] at HO hlf ⊢;clear ho hb;by_cases hlt:k<l.length
  case neg=>
   obtain rfl:k=l.length:=a_;have HFF:Hid (l.filter (fun y=>y.1 !=p)=fl):=hI_ (by rw[←HFL.out,List.take_length]);go_wp2_with (go_at_call 137;refine(qc2 H5 _ _ (HV0.out.below HB.out)).mono ?_;rintro e w' ⟨rfl,rfl⟩)
   go_ret2
   exact⟨_,_,rfl,by rw[HFF.out];exact HO.out,HB.out⟩
  have HTK:=hI_ (qgg hlt (fun y=>y.1 !=p));obtain⟨b',o',rfl,hbs,e0,e1⟩:=(HV0.out.below HB.out).at_ hlt;have hki:(k:Int)<(l.length:Int):=a_;have hk0:(0:Int)≤(k:Int):=a_;obtain⟨⟨y1,y2⟩,HY⟩:∃ y,Hid (l[k]=y):=⟨_,hI_ rfl⟩
  rw[HY.out] at e0 e1 HTK;simp only at e0 e1;rw[HFL.out] at HTK;have HLT:=hI_ hlt;by_cases hy:y1=p
  · subst hy;have HT2:Hid ((l.take (k+1)).filter (fun y=>y.1 !=y1)=fl):=hI_ (by rw[HTK.out];simp);go_wp2_with fail
    go_roundw
    case rel=>exact⟨k+1,HLT.out,t_,by rw[HT2.out];exact HO.out,HB.out⟩
    case measure=>simp[intOf];omega
  · have HT2:Hid ((l.take (k+1)).filter (fun y=>y.1 !=p)=fl++[(y1,y2)]):=hI_ (by rw[HTK.out];simp[hy]);have hy1:(y1==p)=false:=by rw[beq_eq_false_iff_ne];exact hy
    have hy2:(y1 !=p)=true:=by simp[hy]
    go_wp2_with (at_builtin;refine qaF rfl fun K hK=>qfB (base:=w.heap.size) HO.out a_ HB.out.size rfl rfl rfl rfl (fun A7 c7 w7 ho7 hg7=>hK _ _ ?_);have hb07:=HB.out.grown hg7 HB.out.size (fun r hr=>(HO.out.lt' r hr).1);have HB7:=hI_ hb07;have HO7:=hI_ ho7;clear hb07 ho7 hg7)
    go_roundw
    case rel=>exact⟨k+1,HLT.out,t_,by rw[HT2.out];exact HO7.out,HB7.out⟩
    case measure=>simp[intOf];omega
end Go.Proofs.YtekaaekpdebloaaGreatDoor

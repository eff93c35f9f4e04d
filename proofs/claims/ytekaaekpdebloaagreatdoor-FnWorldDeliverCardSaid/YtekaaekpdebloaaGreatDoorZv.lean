/- Walk: an event is applied. No condition but the weak invariant. -/
import Derived.Test.YtekaaekpdebloaaGreatDoorZt
import Derived.Test.YtekaaekpdebloaaGreatDoorZu
set_option linter.unusedVariables false
set_option linter.unusedSimpArgs false
namespace Go.Proofs.YtekaaekpdebloaaGreatDoor
open Go.RowKit
attribute [local go_sem ↓] Go.wp_at_zero Go.wp_at_succ

theorem qou(x:Wd)(a b c:Int)(t:ByteArray):wdo x ⟨1,a,b,c,t⟩=qd1 x t:=rfl
theorem qov(x:Wd)(a b c:Int)(t:ByteArray):wdo x ⟨2,a,b,c,t⟩=qeh x a b true:=rfl
theorem qow(x:Wd)(a b c:Int)(t:ByteArray):wdo x ⟨3,a,b,c,t⟩=qeh x a b false:=rfl
theorem qox(x:Wd)(a b c:Int)(t:ByteArray):wdo x ⟨4,a,b,c,t⟩=qa0 x a b:=rfl
theorem qoy(x:Wd)(a b c:Int)(t:ByteArray):wdo x ⟨5,a,b,c,t⟩=qiT x a b c:=rfl
theorem qoz(x:Wd)(a b c:Int)(t:ByteArray):wdo x ⟨6,a,b,c,t⟩=qbO x a b c t:=rfl
theorem qoA(x:Wd)(a b c:Int)(t:ByteArray):wdo x ⟨7,a,b,c,t⟩=qgz x a ((7:Int)==8):=rfl
theorem qoB(x:Wd)(a b c:Int)(t:ByteArray):wdo x ⟨8,a,b,c,t⟩=qgz x a ((8:Int)==8):=rfl
theorem qna{x:Wd}{e:Ev}(h1:e.kind≠1)(h2:e.kind≠2)(h3:e.kind≠3)(h4:e.kind≠4)(h5:e.kind≠5)(h6:e.kind≠6)(h7:e.kind≠7)(h8:e.kind≠8):wdo x e=x:=by
 unfold wdo;rw[if_neg h1,if_neg h2,if_neg h3,if_neg h4,if_neg h5,if_neg h6,if_neg h7,if_neg h8]
set_option maxHeartbeats 3200000 in
set_option maxRecDepth 100000 in
theorem qlR{K:Nat}(kd a b c:Int)(t:ByteArray)(x x':Wd)(vF vL vA vN:Value)(w:World)(hx:WdS w x vF vL vA vN)(hw:WI K x)(hK:K≤1000000)(ht:t.size≤maxLen)
 (hx':wdo x ⟨kd,a,b,c,t⟩=x'):Calls Tryz.prog 54 #[.agg #[.int .i64 x.sec,.int .i64 x.bad,vF,vL,vA,vN],.agg #[.int .i64 kd,.int .i64 a,.int .i64 b,.int .i64 c,.string t]] w (qhd w x'):=by
 have HWI:=hI_ hw;have HKK:=hI_ hK;have HSM:=hI_ (hw.sml hK);have HTT:=hI_ ht;have HXX:=hI_ hx';clear hw hK ht hx';obtain⟨s,bd,fs,ls,ks,ps⟩:=x;obtain⟨fA,fc,rfl⟩:=hx.r.feeds.sl;obtain⟨lA,lc,rfl⟩:=hx.r.links.sl;obtain⟨aA,ac,rfl⟩:=hx.r.asked.sl;obtain⟨nA,nc,rfl⟩:=hx.r.net.sl;simp only at hx;obtain⟨W0,HW0⟩:=nm_ (((w.alloc (.cells #[.int .i64 s,.int .i64 bd,.slice fA fs.length fc,.slice lA ls.length lc,.slice aA ks.length ac,.slice nA ps.length nc] 28)).alloc (.cells #[.int .i64 kd,.int .i64 a,.int .i64 b,.int .i64 c,.string t] 30)).alloc (.cells #[.int .i64 0,.int .i64 0,.slice none 0 0,.slice none 0 0,.slice none 0 0,.slice none 0 0] 28));have HB0:Hid (Below w.heap.size w W0):=hI_ R_;have hs0:w.heap.size+3=W0.heap.size:=by rw[←HW0.out];simp
 have HP0:Hid (W0.heap[w.heap.size]? =some (.cells #[.int .i64 s,.int .i64 bd,.slice fA fs.length fc,.slice lA ls.length lc,.slice aA ks.length ac,.slice nA ps.length nc] 28 (0,0))):=hI_ T_;have HE0:Hid (W0.heap[w.heap.size+1]? =some (.cells #[.int .i64 kd,.int .i64 a,.int .i64 b,.int .i64 c,.string t] 30 (0,0))):=hI_ ad_;have HZ0:Hid (W0.heap[w.heap.size+1+1]? =some (.cells #[.int .i64 0,.int .i64 0,.slice none 0 0,.slice none 0 0,.slice none 0 0,.slice none 0 0] 28 (0,0))):=hI_ D_;have HX0:Hid (WdS W0 ⟨s,bd,fs,ls,ks,ps⟩ (.slice fA fs.length fc) (.slice lA ls.length lc) (.slice aA ks.length ac) (.slice nA ps.length nc)):=hI_ (hx.below HB0.out);have hl0:w.heap.size<W0.heap.size:=a_;have hle:w.heap.size+1<W0.heap.size:=a_;have hl1:w.heap.size+1+1<W0.heap.size:=a_;clear hx hs0;obtain⟨p0,p1,p2,p3,p4,p5,pf⟩:=qaa HP0.out;obtain⟨e0,e1,e2,e3,e4,ef⟩:=qck HE0.out;have HRET:Hid (∀ (y:Wd) (w1:World) uF uL uA uN,y=x'→WdS w1 y uF uL uA uN→Below W0.heap.size W0 w1→qhd w x' (.returned (.agg #[.int .i64 y.sec,.int .i64 y.bad,uF,uL,uA,uN]))
  ((((((w1.setCell ⟨w.heap.size+1+1,0,none⟩ (.int .i64 y.sec)).setCell ⟨w.heap.size+1+1,1,none⟩ (.int .i64 y.bad)).setCell ⟨w.heap.size+1+1,2,none⟩ uF).setCell ⟨w.heap.size+1+1,3,none⟩ uL).setCell ⟨w.heap.size+1+1,4,none⟩ uA).setCell ⟨w.heap.size+1+1,5,none⟩ uN)):=hI_ (by
  rintro y w1 uF uL uA uN rfl h1 h2;exact⟨_,_,_,_,rfl,h1.set6 ((h2.block _ hl1).trans HZ0.out) _ _ _ _ _ _,qae (HB0.out.trans (h2.mono (Nat.le_of_lt hl0))) a_ _ _ _ _ _ _⟩)
 by_cases hne:kd≠1∧kd≠2∧kd≠3∧kd≠4∧kd≠5∧kd≠6∧kd≠7∧kd≠8
 · obtain⟨h1,h2,h3,h4,h5,h6,h7,h8⟩:=hne;have HR:Hid ((⟨s,bd,fs,ls,ks,ps⟩:Wd)=x'):=hI_ ((qna (e:=⟨kd,a,b,c,t⟩) h1 h2 h3 h4 h5 h6 h7 h8).symm.trans HXX.out);have k1:(kd==1)=false:=by rw[beq_eq_false_iff_ne];exact h1
   have k2:(kd==2)=false:=by rw[beq_eq_false_iff_ne];exact h2
   have k3:(kd==3)=false:=by rw[beq_eq_false_iff_ne];exact h3
   have k4:(kd==4)=false:=by rw[beq_eq_false_iff_ne];exact h4
   have k5:(kd==5)=false:=by rw[beq_eq_false_iff_ne];exact h5
   have k6:(kd==6)=false:=by rw[beq_eq_false_iff_ne];exact h6
   have k7:(kd==7)=false:=by rw[beq_eq_false_iff_ne];exact h7
   have k8:(kd==8)=false:=by rw[beq_eq_false_iff_ne];exact h8
   clear h1 h2 h3 h4 h5 h6 h7 h8;obtain⟨z0,z1,z2,z3,z4,z5,zf⟩:=qaa HZ0.out;go_enter Tryz.func54,Tryz.ntmps54
   go_upto_region 1 with fail
   rw[HW0.out];go_wp2_with fail
   refine bodyPost_ret (v:=.agg #[.int .i64 s,.int .i64 bd,.slice fA fs.length fc,.slice lA ls.length lc,.slice aA ks.length ac,.slice nA ps.length nc]) bI_ rfl (HRET.out ⟨s,bd,fs,ls,ks,ps⟩ W0 _ _ _ _ HR.out HX0.out (bR_ _ _))
 have hk:kd=1∨kd=2∨kd=3∨kd=4∨kd=5∨kd=6∨kd=7∨kd=8:=a_;clear hne;rcases hk with rfl|rfl|rfl|rfl|rfl|rfl|rfl|rfl
 · obtain⟨y,HY⟩:=nm_ (qd1 ⟨s,bd,fs,ls,ks,ps⟩ t);have HR:Hid (y=x'):=hI_ (by rw[←HXX.out,qou];exact HY.out.symm);have HCL:=hI_ (qir ⟨s,bd,fs,ls,ks,ps⟩ t _ _ _ _ W0 HX0.out HSM.out (by have:=HWI.out.n1;exact this) (fun s hs=>Nat.le_trans (HWI.out.txt s hs) s_));rw[HY.out] at HCL;go_enter Tryz.func54,Tryz.ntmps54
   go_wp2_with fail
   rw[HW0.out];go_wp2_with fail
   refine(HCL.out).mono ?_;rintro e w1 ⟨uF,uL,uA,uN,rfl,hX1,hb1⟩;obtain⟨A1,c1,rfl⟩:=hX1.r.feeds.sl;obtain⟨A2,c2,rfl⟩:=hX1.r.links.sl;obtain⟨A3,c3,rfl⟩:=hX1.r.asked.sl;obtain⟨A4,c4,rfl⟩:=hX1.r.net.sl;have HX1:=hI_ hX1;have HB1:=hI_ hb1;obtain⟨z0,z1,z2,z3,z4,z5,zf⟩:=qaa ((hb1.block _ hl1).trans HZ0.out);clear hX1 hb1 p0 p1 p2 p3 p4 p5 pf e0 e1 e2 e3 e4 ef;go_wp2_with fail
   refine bodyPost_ret (v:=.agg #[.int .i64 y.sec,.int .i64 y.bad,.slice A1 y.feeds.length c1,.slice A2 y.links.length c2,.slice A3 y.asked.length c3,.slice A4 y.net.length c4]) bI_ rfl (HRET.out y w1 _ _ _ _ HR.out HX1.out HB1.out)
 · obtain⟨y,HY⟩:=nm_ (qeh ⟨s,bd,fs,ls,ks,ps⟩ a b true);have HR:Hid (y=x'):=hI_ (by rw[←HXX.out,qov];exact HY.out.symm);have HCL:=hI_ (qf2 ⟨s,bd,fs,ls,ks,ps⟩ a b true _ _ _ _ W0 HX0.out HSM.out);rw[HY.out] at HCL;go_enter Tryz.func54,Tryz.ntmps54
   go_wp2_with fail
   rw[HW0.out];go_wp2_with fail
   refine(HCL.out).mono ?_;rintro e w1 ⟨uF,uL,uA,uN,rfl,hX1,hb1⟩;obtain⟨A1,c1,rfl⟩:=hX1.r.feeds.sl;obtain⟨A2,c2,rfl⟩:=hX1.r.links.sl;obtain⟨A3,c3,rfl⟩:=hX1.r.asked.sl;obtain⟨A4,c4,rfl⟩:=hX1.r.net.sl;have HX1:=hI_ hX1;have HB1:=hI_ hb1;obtain⟨z0,z1,z2,z3,z4,z5,zf⟩:=qaa ((hb1.block _ hl1).trans HZ0.out);clear hX1 hb1 p0 p1 p2 p3 p4 p5 pf e0 e1 e2 e3 e4 ef;go_wp2_with fail
   refine bodyPost_ret (v:=.agg #[.int .i64 y.sec,.int .i64 y.bad,.slice A1 y.feeds.length c1,.slice A2 y.links.length c2,.slice A3 y.asked.length c3,.slice A4 y.net.length c4]) bI_ rfl (HRET.out y w1 _ _ _ _ HR.out HX1.out HB1.out)
 · obtain⟨y,HY⟩:=nm_ (qeh ⟨s,bd,fs,ls,ks,ps⟩ a b false);have HR:Hid (y=x'):=hI_ (by rw[←HXX.out,qow];exact HY.out.symm);have HCL:=hI_ (qf2 ⟨s,bd,fs,ls,ks,ps⟩ a b false _ _ _ _ W0 HX0.out HSM.out);rw[HY.out] at HCL;go_enter Tryz.func54,Tryz.ntmps54
   go_wp2_with fail
   rw[HW0.out];go_wp2_with fail
   refine(HCL.out).mono ?_;rintro e w1 ⟨uF,uL,uA,uN,rfl,hX1,hb1⟩;obtain⟨A1,c1,rfl⟩:=hX1.r.feeds.sl;obtain⟨A2,c2,rfl⟩:=hX1.r.links.sl;obtain⟨A3,c3,rfl⟩:=hX1.r.asked.sl;obtain⟨A4,c4,rfl⟩:=hX1.r.net.sl;have HX1:=hI_ hX1;have HB1:=hI_ hb1;obtain⟨z0,z1,z2,z3,z4,z5,zf⟩:=qaa ((hb1.block _ hl1).trans HZ0.out);clear hX1 hb1 p0 p1 p2 p3 p4 p5 pf e0 e1 e2 e3 e4 ef;go_wp2_with fail
   refine bodyPost_ret (v:=.agg #[.int .i64 y.sec,.int .i64 y.bad,.slice A1 y.feeds.length c1,.slice A2 y.links.length c2,.slice A3 y.asked.length c3,.slice A4 y.net.length c4]) bI_ rfl (HRET.out y w1 _ _ _ _ HR.out HX1.out HB1.out)
 · obtain⟨y,HY⟩:=nm_ (qa0 ⟨s,bd,fs,ls,ks,ps⟩ a b);have HR:Hid (y=x'):=hI_ (by rw[←HXX.out,qox];exact HY.out.symm);have HCL:=hI_ (qis ⟨s,bd,fs,ls,ks,ps⟩ a b _ _ _ _ W0 HX0.out HWI.out HKK.out);rw[HY.out] at HCL;go_enter Tryz.func54,Tryz.ntmps54
   go_wp2_with fail
   rw[HW0.out];go_wp2_with fail
   refine(HCL.out).mono ?_;rintro e w1 ⟨uF,uL,uA,uN,rfl,hX1,hb1⟩;obtain⟨A1,c1,rfl⟩:=hX1.r.feeds.sl;obtain⟨A2,c2,rfl⟩:=hX1.r.links.sl;obtain⟨A3,c3,rfl⟩:=hX1.r.asked.sl;obtain⟨A4,c4,rfl⟩:=hX1.r.net.sl;have HX1:=hI_ hX1;have HB1:=hI_ hb1;obtain⟨z0,z1,z2,z3,z4,z5,zf⟩:=qaa ((hb1.block _ hl1).trans HZ0.out);clear hX1 hb1 p0 p1 p2 p3 p4 p5 pf e0 e1 e2 e3 e4 ef;go_wp2_with fail
   refine bodyPost_ret (v:=.agg #[.int .i64 y.sec,.int .i64 y.bad,.slice A1 y.feeds.length c1,.slice A2 y.links.length c2,.slice A3 y.asked.length c3,.slice A4 y.net.length c4]) bI_ rfl (HRET.out y w1 _ _ _ _ HR.out HX1.out HB1.out)
 · obtain⟨y,HY⟩:=nm_ (qiT ⟨s,bd,fs,ls,ks,ps⟩ a b c);have HR:Hid (y=x'):=hI_ (by rw[←HXX.out,qoy];exact HY.out.symm);have HCL:=hI_ (qmL ⟨s,bd,fs,ls,ks,ps⟩ a b c _ _ _ _ W0 HX0.out HWI.out HKK.out);rw[HY.out] at HCL;go_enter Tryz.func54,Tryz.ntmps54
   go_wp2_with fail
   rw[HW0.out];go_wp2_with fail
   refine(HCL.out).mono ?_;rintro e w1 ⟨uF,uL,uA,uN,rfl,hX1,hb1⟩;obtain⟨A1,c1,rfl⟩:=hX1.r.feeds.sl;obtain⟨A2,c2,rfl⟩:=hX1.r.links.sl;obtain⟨A3,c3,rfl⟩:=hX1.r.asked.sl;obtain⟨A4,c4,rfl⟩:=hX1.r.net.sl;have HX1:=hI_ hX1;have HB1:=hI_ hb1;obtain⟨z0,z1,z2,z3,z4,z5,zf⟩:=qaa ((hb1.block _ hl1).trans HZ0.out);clear hX1 hb1 p0 p1 p2 p3 p4 p5 pf e0 e1 e2 e3 e4 ef;go_wp2_with fail
   refine bodyPost_ret (v:=.agg #[.int .i64 y.sec,.int .i64 y.bad,.slice A1 y.feeds.length c1,.slice A2 y.links.length c2,.slice A3 y.asked.length c3,.slice A4 y.net.length c4]) bI_ rfl (HRET.out y w1 _ _ _ _ HR.out HX1.out HB1.out)
 · obtain⟨y,HY⟩:=nm_ (qbO ⟨s,bd,fs,ls,ks,ps⟩ a b c t);have HR:Hid (y=x'):=hI_ (by rw[←HXX.out,qoz];exact HY.out.symm);have HCL:=hI_ (qjw ⟨s,bd,fs,ls,ks,ps⟩ a b c t _ _ _ _ W0 HX0.out HWI.out HKK.out HTT.out);rw[HY.out] at HCL;go_enter Tryz.func54,Tryz.ntmps54
   go_wp2_with fail
   rw[HW0.out];go_wp2_with fail
   refine(HCL.out).mono ?_;rintro e w1 ⟨uF,uL,uA,uN,rfl,hX1,hb1⟩;obtain⟨A1,c1,rfl⟩:=hX1.r.feeds.sl;obtain⟨A2,c2,rfl⟩:=hX1.r.links.sl;obtain⟨A3,c3,rfl⟩:=hX1.r.asked.sl;obtain⟨A4,c4,rfl⟩:=hX1.r.net.sl;have HX1:=hI_ hX1;have HB1:=hI_ hb1;obtain⟨z0,z1,z2,z3,z4,z5,zf⟩:=qaa ((hb1.block _ hl1).trans HZ0.out);clear hX1 hb1 p0 p1 p2 p3 p4 p5 pf e0 e1 e2 e3 e4 ef;go_wp2_with fail
   refine bodyPost_ret (v:=.agg #[.int .i64 y.sec,.int .i64 y.bad,.slice A1 y.feeds.length c1,.slice A2 y.links.length c2,.slice A3 y.asked.length c3,.slice A4 y.net.length c4]) bI_ rfl (HRET.out y w1 _ _ _ _ HR.out HX1.out HB1.out)
 · obtain⟨y,HY⟩:=nm_ (qgz ⟨s,bd,fs,ls,ks,ps⟩ a ((7:Int)==8));have HR:Hid (y=x'):=hI_ (by rw[←HXX.out,qoA];exact HY.out.symm);have HCL:=hI_ (qjZ ⟨s,bd,fs,ls,ks,ps⟩ 7 a b c t _ _ _ _ W0 HX0.out HWI.out HKK.out);rw[HY.out] at HCL;go_enter Tryz.func54,Tryz.ntmps54
   go_wp2_with fail
   rw[HW0.out];go_wp2_with fail
   refine(HCL.out).mono ?_;rintro e w1 ⟨uF,uL,uA,uN,rfl,hX1,hb1⟩;obtain⟨A1,c1,rfl⟩:=hX1.r.feeds.sl;obtain⟨A2,c2,rfl⟩:=hX1.r.links.sl;obtain⟨A3,c3,rfl⟩:=hX1.r.asked.sl;obtain⟨A4,c4,rfl⟩:=hX1.r.net.sl;have HX1:=hI_ hX1;have HB1:=hI_ hb1;obtain⟨z0,z1,z2,z3,z4,z5,zf⟩:=qaa ((hb1.block _ hl1).trans HZ0.out);clear hX1 hb1 p0 p1 p2 p3 p4 p5 pf e0 e1 e2 e3 e4 ef;go_wp2_with fail
   refine bodyPost_ret (v:=.agg #[.int .i64 y.sec,.int .i64 y.bad,.slice A1 y.feeds.length c1,.slice A2 y.links.length c2,.slice A3 y.asked.length c3,.slice A4 y.net.length c4]) bI_ rfl (HRET.out y w1 _ _ _ _ HR.out HX1.out HB1.out)
 · obtain⟨y,HY⟩:=nm_ (qgz ⟨s,bd,fs,ls,ks,ps⟩ a ((8:Int)==8));have HR:Hid (y=x'):=hI_ (by rw[←HXX.out,qoB];exact HY.out.symm);have HCL:=hI_ (qjZ ⟨s,bd,fs,ls,ks,ps⟩ 8 a b c t _ _ _ _ W0 HX0.out HWI.out HKK.out);rw[HY.out] at HCL;go_enter Tryz.func54,Tryz.ntmps54
   go_wp2_with fail
   rw[HW0.out];go_wp2_with fail
   refine(HCL.out).mono ?_;rintro e w1 ⟨uF,uL,uA,uN,rfl,hX1,hb1⟩;obtain⟨A1,c1,rfl⟩:=hX1.r.feeds.sl;obtain⟨A2,c2,rfl⟩:=hX1.r.links.sl;obtain⟨A3,c3,rfl⟩:=hX1.r.asked.sl;obtain⟨A4,c4,rfl⟩:=hX1.r.net.sl;have HX1:=hI_ hX1;have HB1:=hI_ hb1;obtain⟨z0,z1,z2,z3,z4,z5,zf⟩:=qaa ((hb1.block _ hl1).trans HZ0.out);clear hX1 hb1 p0 p1 p2 p3 p4 p5 pf e0 e1 e2 e3 e4 ef;go_wp2_with fail
   refine bodyPost_ret (v:=.agg #[.int .i64 y.sec,.int .i64 y.bad,.slice A1 y.feeds.length c1,.slice A2 y.links.length c2,.slice A3 y.asked.length c3,.slice A4 y.net.length c4]) bI_ rfl (HRET.out y w1 _ _ _ _ HR.out HX1.out HB1.out)
theorem qnJ{K:Nat}(x:Wd)(e:Ev)(vF vL vA vN:Value)(w:World)(hx:WdS w x vF vL vA vN)(hw:WI K x)(hK:K≤1000000)(ht:e.txt.size≤maxLen):
 Calls Tryz.prog 54 #[.agg #[.int .i64 x.sec,.int .i64 x.bad,vF,vL,vA,vN],.agg #[.int .i64 e.kind,.int .i64 e.a,.int .i64 e.b,.int .i64 e.c,.string e.txt]] w (qhd w (wdo x e)):=
 qlR e.kind e.a e.b e.c e.txt x _ vF vL vA vN w hx hw hK ht rfl
end Go.Proofs.YtekaaekpdebloaaGreatDoor

/- Words and walks of the law. -/
import Derived.Test.YtekaaekpdebloaaGreatDoorZt5
import Derived.Test.YtekaaekpdebloaaGreatDoorZu5
import Derived.Test.YtekaaekpdebloaaGreatDoorCY5
set_option linter.unusedVariables false
set_option linter.unusedSimpArgs false
set_option maxHeartbeats 12800000
set_option maxRecDepth 100000
namespace Go.Proofs.YtekaaekpdebloaaGreatDoor
open Go.RowKit
attribute [local go_sem ↓] Go.wp_at_zero Go.wp_at_succ

theorem qou(x:Wd)(a b c:Int)(t:ByteArray):wdo x ⟨1,a,b,c,t⟩=qd1 x t:=rfl
theorem qov(x:Wd)(a b c:Int)(t:ByteArray):wdo x ⟨2,a,b,c,t⟩=qeh x a b true:=rfl
theorem qow(x:Wd)(a b c:Int)(t:ByteArray):wdo x ⟨3,a,b,c,t⟩=qeh x a b false:=rfl
theorem qox(x:Wd)(a b c:Int)(t:ByteArray):wdo x ⟨4,a,b,c,t⟩=qa0 x a b:=rfl
theorem qoy(x:Wd)(a b c:Int)(t:ByteArray):wdo x ⟨5,a,b,c,t⟩=qiT x a b c:=rfl
theorem qoz(x:Wd)(a b c:Int)(t:ByteArray):wdo x ⟨6,a,b,c,t⟩=qbO x a b c t:=rfl
theorem qoA(x:Wd)(a b c:Int)(t:ByteArray):wdo x ⟨7,a,b,c,t⟩=qgz x a ((7:Int)==8):=rfl
theorem qoB(x:Wd)(a b c:Int)(t:ByteArray):wdo x ⟨8,a,b,c,t⟩=qgz x a ((8:Int)==8):=rfl
theorem qna{x:Wd}{e:Ev}(h1:e.kind≠1)(h2:e.kind≠2)(h3:e.kind≠3)(h4:e.kind≠4)(h5:e.kind≠5)(h6:e.kind≠6)(h7:e.kind≠7)(h8:e.kind≠8):wdo x e=x:=by
 unfold wdo;rw[if_neg h1,if_neg h2,if_neg h3,if_neg h4,if_neg h5,if_neg h6,if_neg h7,if_neg h8]
theorem qlR{K:Nat}(kd a b c:Int)(t:ByteArray)(x x':Wd)(vF vL vA vN:Value)(w:World)(hx:WdS w x vF vL vA vN)(hw:WI K x)(hK:K≤1000000)(ht:t.size≤maxLen)
 (hx':wdo x ⟨kd,a,b,c,t⟩=x'):Calls Tryz.prog 54 #[.agg #[.int .i64 x.sec,.int .i64 x.bad,vF,vL,vA,vN],.agg #[.int .i64 kd,.int .i64 a,.int .i64 b,.int .i64 c,.string t]] w (qhd w x'):=by
 have HWI:=hI_ hw;have HKK:=hI_ hK;have HSM:=hI_ (hw.sml hK);have HTT:=hI_ ht;have HXX:=hI_ hx';clear hw hK ht hx';obtain⟨s,bd,fs,ls,ks,ps⟩:=x;obtain⟨fA,fc,rfl⟩:=hx.r.feeds.sl;obtain⟨lA,lc,rfl⟩:=hx.r.links.sl;obtain⟨aA,ac,rfl⟩:=hx.r.asked.sl;obtain⟨nA,nc,rfl⟩:=hx.r.net.sl;simp only at hx;obtain⟨W0,HW0⟩:=nm_ (((w.alloc (.cells #[.int .i64 s,.int .i64 bd,.slice fA fs.length fc,.slice lA ls.length lc,.slice aA ks.length ac,.slice nA ps.length nc] 28)).alloc (.cells #[.int .i64 kd,.int .i64 a,.int .i64 b,.int .i64 c,.string t] 30)).alloc (.cells #[.int .i64 0,.int .i64 0,.slice none 0 0,.slice none 0 0,.slice none 0 0,.slice none 0 0] 28));have HB0:Hid (bB w W0):=hI_ R_;have hs0:w.heap.size+3=W0.heap.size:=by rw[←HW0.out];simp
 have HP0:Hid (W0.heap[w.heap.size]? =some (.cells #[.int .i64 s,.int .i64 bd,.slice fA fs.length fc,.slice lA ls.length lc,.slice aA ks.length ac,.slice nA ps.length nc] 28 (0,0))):=hI_ T_;have HE0:Hid (W0.heap[w.heap.size+1]? =some (.cells #[.int .i64 kd,.int .i64 a,.int .i64 b,.int .i64 c,.string t] 30 (0,0))):=hI_ ad_;have HZ0:Hid (W0.heap[w.heap.size+1+1]? =some (.cells #[.int .i64 0,.int .i64 0,.slice none 0 0,.slice none 0 0,.slice none 0 0,.slice none 0 0] 28 (0,0))):=hI_ D_;have HX0:Hid (WdS W0 ⟨s,bd,fs,ls,ks,ps⟩ (.slice fA fs.length fc) (.slice lA ls.length lc) (.slice aA ks.length ac) (.slice nA ps.length nc)):=hI_ (hx.below HB0.out);have hl0:w.heap.size<W0.heap.size:=a_;have hle:w.heap.size+1<W0.heap.size:=a_;have hl1:w.heap.size+1+1<W0.heap.size:=a_;clear hx hs0;obtain⟨p0,p1,p2,p3,p4,p5,pf⟩:=qaa HP0.out;obtain⟨e0,e1,e2,e3,e4,ef⟩:=qck HE0.out;have HRET:Hid (∀ (y:Wd) (w1:World) uF uL uA uN,y=x'→WdS w1 y uF uL uA uN→bB W0 w1→qhd w x' (.returned (.agg #[.int .i64 y.sec,.int .i64 y.bad,uF,uL,uA,uN]))
  ((((((w1.setCell ⟨w.heap.size+1+1,0,none⟩ (.int .i64 y.sec)).setCell ⟨w.heap.size+1+1,1,none⟩ (.int .i64 y.bad)).setCell ⟨w.heap.size+1+1,2,none⟩ uF).setCell ⟨w.heap.size+1+1,3,none⟩ uL).setCell ⟨w.heap.size+1+1,4,none⟩ uA).setCell ⟨w.heap.size+1+1,5,none⟩ uN)):=hI_ (by
  rintro y w1 uF uL uA uN rfl h1 h2;exact⟨_,_,_,_,rfl,h1.set6 ((h2.block _ hl1).trans HZ0.out) _ _ _ _ _ _,qae (HB0.out.trans (h2.mono (Nat.le_of_lt hl0))) a_ _ _ _ _ _ _⟩)
 by_cases hne:kd≠1∧kd≠2∧kd≠3∧kd≠4∧kd≠5∧kd≠6∧kd≠7∧kd≠8
 · obtain⟨h1,h2,h3,h4,h5,h6,h7,h8⟩:=hne;have HR:Hid ((⟨s,bd,fs,ls,ks,ps⟩:Wd)=x'):=hI_ ((qna (e:=⟨kd,a,b,c,t⟩) h1 h2 h3 h4 h5 h6 h7 h8).symm.trans HXX.out);have k1:(kd==1)=false:=by rw[beq_eq_false_iff_ne];exact h1
   have k2:(kd==2)=false:=by rw[beq_eq_false_iff_ne];exact h2
   have k3:(kd==3)=false:=by rw[beq_eq_false_iff_ne];exact h3
   have k4:(kd==4)=false:=by rw[beq_eq_false_iff_ne];exact h4
   have k5:(kd==5)=false:=by rw[beq_eq_false_iff_ne];exact h5
   have k6:(kd==6)=false:=by rw[beq_eq_false_iff_ne];exact h6
   have k7:(kd==7)=false:=by rw[beq_eq_false_iff_ne];exact h7
   have k8:(kd==8)=false:=by rw[beq_eq_false_iff_ne];exact h8
   clear h1 h2 h3 h4 h5 h6 h7 h8;obtain⟨z0,z1,z2,z3,z4,z5,zf⟩:=qaa HZ0.out;go_enter Tryz.func54,Tryz.ntmps54
   go_upto_region 1 with fail
   rw[HW0.out];go_wp2_with fail
   refine bodyPost_ret (v:=.agg #[.int .i64 s,.int .i64 bd,.slice fA fs.length fc,.slice lA ls.length lc,.slice aA ks.length ac,.slice nA ps.length nc]) bI_ rfl (HRET.out ⟨s,bd,fs,ls,ks,ps⟩ W0 _ _ _ _ HR.out HX0.out (bR_ _ _))
 have hk:kd=1∨kd=2∨kd=3∨kd=4∨kd=5∨kd=6∨kd=7∨kd=8:=a_;clear hne;rcases hk with rfl|rfl|rfl|rfl|rfl|rfl|rfl|rfl
 · obtain⟨y,HY⟩:=nm_ (qd1 ⟨s,bd,fs,ls,ks,ps⟩ t);have HR:Hid (y=x'):=hI_ (by rw[←HXX.out,qou];exact HY.out.symm);have HCL:=hI_ (qir ⟨s,bd,fs,ls,ks,ps⟩ t _ _ _ _ W0 HX0.out HSM.out (by have:=HWI.out.n1;exact this) (fun s hs=>Nat.le_trans (HWI.out.txt s hs) s_));rw[HY.out] at HCL;go_enter Tryz.func54,Tryz.ntmps54
   go_wp2_with fail
   rw[HW0.out];go_wp2_with fail
   refine(HCL.out).mono ?_;rintro e w1 ⟨uF,uL,uA,uN,rfl,hX1,hb1⟩;obtain⟨A1,c1,rfl⟩:=hX1.r.feeds.sl;obtain⟨A2,c2,rfl⟩:=hX1.r.links.sl;obtain⟨A3,c3,rfl⟩:=hX1.r.asked.sl;obtain⟨A4,c4,rfl⟩:=hX1.r.net.sl;have HX1:=hI_ hX1;have HB1:=hI_ hb1;obtain⟨z0,z1,z2,z3,z4,z5,zf⟩:=qaa ((hb1.block _ hl1).trans HZ0.out);clear hX1 hb1 p0 p1 p2 p3 p4 p5 pf e0 e1 e2 e3 e4 ef;go_wp2_with fail
   refine bodyPost_ret (v:=.agg #[.int .i64 y.sec,.int .i64 y.bad,.slice A1 y.feeds.length c1,.slice A2 y.links.length c2,.slice A3 y.asked.length c3,.slice A4 y.net.length c4]) bI_ rfl (HRET.out y w1 _ _ _ _ HR.out HX1.out HB1.out)
 · obtain⟨y,HY⟩:=nm_ (qeh ⟨s,bd,fs,ls,ks,ps⟩ a b true);have HR:Hid (y=x'):=hI_ (by rw[←HXX.out,qov];exact HY.out.symm);have HCL:=hI_ (qf2 ⟨s,bd,fs,ls,ks,ps⟩ a b true _ _ _ _ W0 HX0.out HSM.out);rw[HY.out] at HCL;go_enter Tryz.func54,Tryz.ntmps54
   go_wp2_with fail
   rw[HW0.out];go_wp2_with fail
   refine(HCL.out).mono ?_;rintro e w1 ⟨uF,uL,uA,uN,rfl,hX1,hb1⟩;obtain⟨A1,c1,rfl⟩:=hX1.r.feeds.sl;obtain⟨A2,c2,rfl⟩:=hX1.r.links.sl;obtain⟨A3,c3,rfl⟩:=hX1.r.asked.sl;obtain⟨A4,c4,rfl⟩:=hX1.r.net.sl;have HX1:=hI_ hX1;have HB1:=hI_ hb1;obtain⟨z0,z1,z2,z3,z4,z5,zf⟩:=qaa ((hb1.block _ hl1).trans HZ0.out);clear hX1 hb1 p0 p1 p2 p3 p4 p5 pf e0 e1 e2 e3 e4 ef;go_wp2_with fail
   refine bodyPost_ret (v:=.agg #[.int .i64 y.sec,.int .i64 y.bad,.slice A1 y.feeds.length c1,.slice A2 y.links.length c2,.slice A3 y.asked.length c3,.slice A4 y.net.length c4]) bI_ rfl (HRET.out y w1 _ _ _ _ HR.out HX1.out HB1.out)
 · obtain⟨y,HY⟩:=nm_ (qeh ⟨s,bd,fs,ls,ks,ps⟩ a b false);have HR:Hid (y=x'):=hI_ (by rw[←HXX.out,qow];exact HY.out.symm);have HCL:=hI_ (qf2 ⟨s,bd,fs,ls,ks,ps⟩ a b false _ _ _ _ W0 HX0.out HSM.out);rw[HY.out] at HCL;go_enter Tryz.func54,Tryz.ntmps54
   go_wp2_with fail
   rw[HW0.out];go_wp2_with fail
   refine(HCL.out).mono ?_;rintro e w1 ⟨uF,uL,uA,uN,rfl,hX1,hb1⟩;obtain⟨A1,c1,rfl⟩:=hX1.r.feeds.sl;obtain⟨A2,c2,rfl⟩:=hX1.r.links.sl;obtain⟨A3,c3,rfl⟩:=hX1.r.asked.sl;obtain⟨A4,c4,rfl⟩:=hX1.r.net.sl;have HX1:=hI_ hX1;have HB1:=hI_ hb1;obtain⟨z0,z1,z2,z3,z4,z5,zf⟩:=qaa ((hb1.block _ hl1).trans HZ0.out);clear hX1 hb1 p0 p1 p2 p3 p4 p5 pf e0 e1 e2 e3 e4 ef;go_wp2_with fail
   refine bodyPost_ret (v:=.agg #[.int .i64 y.sec,.int .i64 y.bad,.slice A1 y.feeds.length c1,.slice A2 y.links.length c2,.slice A3 y.asked.length c3,.slice A4 y.net.length c4]) bI_ rfl (HRET.out y w1 _ _ _ _ HR.out HX1.out HB1.out)
 · obtain⟨y,HY⟩:=nm_ (qa0 ⟨s,bd,fs,ls,ks,ps⟩ a b);have HR:Hid (y=x'):=hI_ (by rw[←HXX.out,qox];exact HY.out.symm);have HCL:=hI_ (qis ⟨s,bd,fs,ls,ks,ps⟩ a b _ _ _ _ W0 HX0.out HWI.out HKK.out);rw[HY.out] at HCL;go_enter Tryz.func54,Tryz.ntmps54
   go_wp2_with fail
   rw[HW0.out];go_wp2_with fail
   refine(HCL.out).mono ?_;rintro e w1 ⟨uF,uL,uA,uN,rfl,hX1,hb1⟩;obtain⟨A1,c1,rfl⟩:=hX1.r.feeds.sl;obtain⟨A2,c2,rfl⟩:=hX1.r.links.sl;obtain⟨A3,c3,rfl⟩:=hX1.r.asked.sl;obtain⟨A4,c4,rfl⟩:=hX1.r.net.sl;have HX1:=hI_ hX1;have HB1:=hI_ hb1;obtain⟨z0,z1,z2,z3,z4,z5,zf⟩:=qaa ((hb1.block _ hl1).trans HZ0.out);clear hX1 hb1 p0 p1 p2 p3 p4 p5 pf e0 e1 e2 e3 e4 ef;go_wp2_with fail
   refine bodyPost_ret (v:=.agg #[.int .i64 y.sec,.int .i64 y.bad,.slice A1 y.feeds.length c1,.slice A2 y.links.length c2,.slice A3 y.asked.length c3,.slice A4 y.net.length c4]) bI_ rfl (HRET.out y w1 _ _ _ _ HR.out HX1.out HB1.out)
 · obtain⟨y,HY⟩:=nm_ (qiT ⟨s,bd,fs,ls,ks,ps⟩ a b c);have HR:Hid (y=x'):=hI_ (by rw[←HXX.out,qoy];exact HY.out.symm);have HCL:=hI_ (qmL ⟨s,bd,fs,ls,ks,ps⟩ a b c _ _ _ _ W0 HX0.out HWI.out HKK.out);rw[HY.out] at HCL;go_enter Tryz.func54,Tryz.ntmps54
   go_wp2_with fail
   rw[HW0.out];go_wp2_with fail
   refine(HCL.out).mono ?_;rintro e w1 ⟨uF,uL,uA,uN,rfl,hX1,hb1⟩;obtain⟨A1,c1,rfl⟩:=hX1.r.feeds.sl;obtain⟨A2,c2,rfl⟩:=hX1.r.links.sl;obtain⟨A3,c3,rfl⟩:=hX1.r.asked.sl;obtain⟨A4,c4,rfl⟩:=hX1.r.net.sl;have HX1:=hI_ hX1;have HB1:=hI_ hb1;obtain⟨z0,z1,z2,z3,z4,z5,zf⟩:=qaa ((hb1.block _ hl1).trans HZ0.out);clear hX1 hb1 p0 p1 p2 p3 p4 p5 pf e0 e1 e2 e3 e4 ef;go_wp2_with fail
   refine bodyPost_ret (v:=.agg #[.int .i64 y.sec,.int .i64 y.bad,.slice A1 y.feeds.length c1,.slice A2 y.links.length c2,.slice A3 y.asked.length c3,.slice A4 y.net.length c4]) bI_ rfl (HRET.out y w1 _ _ _ _ HR.out HX1.out HB1.out)
 · obtain⟨y,HY⟩:=nm_ (qbO ⟨s,bd,fs,ls,ks,ps⟩ a b c t);have HR:Hid (y=x'):=hI_ (by rw[←HXX.out,qoz];exact HY.out.symm);have HCL:=hI_ (qjw ⟨s,bd,fs,ls,ks,ps⟩ a b c t _ _ _ _ W0 HX0.out HWI.out HKK.out HTT.out);rw[HY.out] at HCL;go_enter Tryz.func54,Tryz.ntmps54
   go_wp2_with fail
   rw[HW0.out];go_wp2_with fail
   refine(HCL.out).mono ?_;rintro e w1 ⟨uF,uL,uA,uN,rfl,hX1,hb1⟩;obtain⟨A1,c1,rfl⟩:=hX1.r.feeds.sl;obtain⟨A2,c2,rfl⟩:=hX1.r.links.sl;obtain⟨A3,c3,rfl⟩:=hX1.r.asked.sl;obtain⟨A4,c4,rfl⟩:=hX1.r.net.sl;have HX1:=hI_ hX1;have HB1:=hI_ hb1;obtain⟨z0,z1,z2,z3,z4,z5,zf⟩:=qaa ((hb1.block _ hl1).trans HZ0.out);clear hX1 hb1 p0 p1 p2 p3 p4 p5 pf e0 e1 e2 e3 e4 ef;go_wp2_with fail
   refine bodyPost_ret (v:=.agg #[.int .i64 y.sec,.int .i64 y.bad,.slice A1 y.feeds.length c1,.slice A2 y.links.length c2,.slice A3 y.asked.length c3,.slice A4 y.net.length c4]) bI_ rfl (HRET.out y w1 _ _ _ _ HR.out HX1.out HB1.out)
 · obtain⟨y,HY⟩:=nm_ (qgz ⟨s,bd,fs,ls,ks,ps⟩ a ((7:Int)==8));have HR:Hid (y=x'):=hI_ (by rw[←HXX.out,qoA];exact HY.out.symm);have HCL:=hI_ (qjZ ⟨s,bd,fs,ls,ks,ps⟩ 7 a b c t _ _ _ _ W0 HX0.out HWI.out HKK.out);rw[HY.out] at HCL;go_enter Tryz.func54,Tryz.ntmps54
   go_wp2_with fail
   rw[HW0.out];go_wp2_with fail
   refine(HCL.out).mono ?_;rintro e w1 ⟨uF,uL,uA,uN,rfl,hX1,hb1⟩;obtain⟨A1,c1,rfl⟩:=hX1.r.feeds.sl;obtain⟨A2,c2,rfl⟩:=hX1.r.links.sl;obtain⟨A3,c3,rfl⟩:=hX1.r.asked.sl;obtain⟨A4,c4,rfl⟩:=hX1.r.net.sl;have HX1:=hI_ hX1;have HB1:=hI_ hb1;obtain⟨z0,z1,z2,z3,z4,z5,zf⟩:=qaa ((hb1.block _ hl1).trans HZ0.out);clear hX1 hb1 p0 p1 p2 p3 p4 p5 pf e0 e1 e2 e3 e4 ef;go_wp2_with fail
   refine bodyPost_ret (v:=.agg #[.int .i64 y.sec,.int .i64 y.bad,.slice A1 y.feeds.length c1,.slice A2 y.links.length c2,.slice A3 y.asked.length c3,.slice A4 y.net.length c4]) bI_ rfl (HRET.out y w1 _ _ _ _ HR.out HX1.out HB1.out)
 · obtain⟨y,HY⟩:=nm_ (qgz ⟨s,bd,fs,ls,ks,ps⟩ a ((8:Int)==8));have HR:Hid (y=x'):=hI_ (by rw[←HXX.out,qoB];exact HY.out.symm);have HCL:=hI_ (qjZ ⟨s,bd,fs,ls,ks,ps⟩ 8 a b c t _ _ _ _ W0 HX0.out HWI.out HKK.out);rw[HY.out] at HCL;go_enter Tryz.func54,Tryz.ntmps54
   go_wp2_with fail
   rw[HW0.out];go_wp2_with fail
   refine(HCL.out).mono ?_;rintro e w1 ⟨uF,uL,uA,uN,rfl,hX1,hb1⟩;obtain⟨A1,c1,rfl⟩:=hX1.r.feeds.sl;obtain⟨A2,c2,rfl⟩:=hX1.r.links.sl;obtain⟨A3,c3,rfl⟩:=hX1.r.asked.sl;obtain⟨A4,c4,rfl⟩:=hX1.r.net.sl;have HX1:=hI_ hX1;have HB1:=hI_ hb1;obtain⟨z0,z1,z2,z3,z4,z5,zf⟩:=qaa ((hb1.block _ hl1).trans HZ0.out);clear hX1 hb1 p0 p1 p2 p3 p4 p5 pf e0 e1 e2 e3 e4 ef;go_wp2_with fail
   refine bodyPost_ret (v:=.agg #[.int .i64 y.sec,.int .i64 y.bad,.slice A1 y.feeds.length c1,.slice A2 y.links.length c2,.slice A3 y.asked.length c3,.slice A4 y.net.length c4]) bI_ rfl (HRET.out y w1 _ _ _ _ HR.out HX1.out HB1.out)
theorem qnJ{K:Nat}(x:Wd)(e:Ev)(vF vL vA vN:Value)(w:World)(hx:WdS w x vF vL vA vN)(hw:WI K x)(hK:K≤1000000)(ht:e.txt.size≤maxLen):
 Calls Tryz.prog 54 #[.agg #[.int .i64 x.sec,.int .i64 x.bad,vF,vL,vA,vN],.agg #[.int .i64 e.kind,.int .i64 e.a,.int .i64 e.b,.int .i64 e.c,.string e.txt]] w (qhd w (wdo x e)):=
 qlR e.kind e.a e.b e.c e.txt x _ vF vL vA vN w hx hw hK ht rfl
theorem qbb.keep{g P:Nat}{w w':World}(h:qbb g w w')(hr:Rdr w g P):qaA LT2 w w':=
 qaA.of_grown h (fun r hr'=>by
  cases hr'
  obtain⟨bs,A,c,p,h1,_⟩:=hr;exact⟨_,_,_,h1,e_⟩)
structure EvW (g P:Nat) (w:World) (x:Wd) (vF vL vA vN:Value) (q:Nat) (w':World):Prop where
 r:Rdr w' g P
 o:qbb g w w'
 p:w'.heap[q]? =some (.cells #[.int .i64 x.sec,.int .i64 x.bad,vF,vL,vA,vN] 28 (0,0))
 z:w'.heap[q+1]? =some (.cells #[.int .i64 0,.int .i64 0,.int .i64 0,.int .i64 0,.string ⟨#[]⟩] 30 (0,0))
 hq:w.heap.size=q
 hg:g<q
 hx:WdS w x vF vL vA vN
 hr:∃ P0,Rdr w g P0
section
variable {g P P' q y:Nat} {w w' w2:World} {x:Wd} {vF vL vA vN:Value}
theorem EvW.mono(h:EvW g P w x vF vL vA vN q w')(hP:P≤P'):EvW g P' w x vF vL vA vN q w':=⟨h.r.mono hP,h.o,h.p,h.z,h.hq,h.hg,h.hx,h.hr⟩
theorem EvW.ne(h:EvW g P w x vF vL vA vN q w'):∀ k,q≤k→some k≠some g:=fun k hk e=>by have:=Option.some.inj e;have:=h.hg;omega
theorem EvW.next(h:EvW g P w x vF vL vA vN q w')(hr:Rdr w2 g P')(ho:qbb g w' w2):EvW g P' w x vF vL vA vN q w2:=
 ⟨hr,h.o.trans ho,(ho.block _ (qai h.p) (h.ne _ (nr_ _))).trans h.p,(ho.block _ (qai h.z) (h.ne _ (Nat.le_succ _))).trans h.z,h.hq,h.hg,h.hx,h.hr⟩
theorem EvW.drew(h:EvW g P w x vF vL vA vN q w'):EvW g P w x vF vL vA vN q w'.drew:=h.next (h.r.below (qac (bR_ _ _))) (qbb.of_below (qac (bR_ _ _)))
theorem EvW.set(h:EvW g P w x vF vL vA vN q w'){y:Nat}(hqy:q+2≤y)(i:Nat)(u:Value):EvW g P w x vF vL vA vN q (w'.setCell ⟨y,i,none⟩ u):=by
 have hk:∀ k,k≠y→(w'.setCell ⟨y,i,none⟩ u).heap[k]? =w'.heap[k]? :=fun k hk=>Below.heap_setCell _ _ _ _ hk;have:=h.hg;have:=h.hq;exact⟨h.r.keep fun k hk'=>hk k a_,h.o.set (p:=⟨y,i,none⟩) (by show w.heap.size≤y;omega) u,(hk q a_).trans h.p,(hk _ a_).trans h.z,h.hq,h.hg,h.hx,h.hr⟩
end
structure EvT (g P:Nat) (w:World) (x:Wd) (vF vL vA vN:Value) (q y:Nat) (w':World):Prop where
 s:EvW g P w x vF vL vA vN q w'
 e:∃ (kd a b c:Int) (t:ByteArray),w'.heap[y]? =some (.cells #[.int .i64 kd,.int .i64 a,.int .i64 b,.int .i64 c,.string t] 30 (0,0))∧t.size≤10
 hy:q+2≤y
section
variable {g P P' q y:Nat} {w w' w2:World} {x:Wd} {vF vL vA vN:Value}
theorem EvT.mono(h:EvT g P w x vF vL vA vN q y w')(hP:P≤P'):EvT g P' w x vF vL vA vN q y w':=⟨h.s.mono hP,h.e,h.hy⟩
theorem EvT.next(h:EvT g P w x vF vL vA vN q y w')(hr:Rdr w2 g P')(ho:qbb g w' w2):EvT g P' w x vF vL vA vN q y w2:=by
 obtain⟨kd,a,b,c,t,he,ht⟩:=h.e;exact⟨h.s.next hr ho,⟨kd,a,b,c,t,(ho.block _ (qai he) (h.s.ne _ (by have:=h.hy;omega))).trans he,ht⟩,h.hy⟩
end
theorem EvT.lt{g P q y:Nat}{w w':World}{x:Wd}{vF vL vA vN:Value}(h:EvT g P w x vF vL vA vN q y w'):y<w'.heap.size:=by obtain⟨_,_,_,_,_,he,_⟩:=h.e;exact qai he
theorem EvT.cells{g P q y:Nat}{w w':World}{x:Wd}{vF vL vA vN:Value}(h:EvT g P w x vF vL vA vN q y w'):∃ (kd a b c:Int) (t:ByteArray),w'.cell? ⟨y,0,none⟩=some (.int .i64 kd)∧w'.cell? ⟨y,1,none⟩=some (.int .i64 a)∧w'.cell? ⟨y,2,none⟩=some (.int .i64 b)∧w'.cell? ⟨y,3,none⟩=some (.int .i64 c)∧w'.cell? ⟨y,4,none⟩=some (.string t)∧(∀ o,w'.frozen? ⟨y,o,none⟩=false)∧t.size≤10:=by
 obtain⟨kd,a,b,c,t,he,ht⟩:=h.e;obtain⟨e0,e1,e2,e3,e4,ef⟩:=qck he;exact⟨kd,a,b,c,t,e0,e1,e2,e3,e4,ef,ht⟩
def qda(B:Nat)(w:World)(v:Value)(fs:List Fd):Prop:=
 ∃ F,ON 6 B 50 w v fs.length F∧∀ j (hj:j<fs.length),F (j*6)=.int .i64 fs[j].pub∧F (j*6+1)=.int .i64 fs[j].hd.len∧F (j*6+2)=.int .i64 fs[j].hd.dg∧F (j*6+3)=.int .i64 fs[j].hd.sg∧Stb LB (fun w=>qaU w fs[j] (F (j*6+4)) (F (j*6+5))) w
section
variable {B g n cap:Nat} {w w':World} {v:Value} {fs:List Fd}
theorem qda.next(h:qda B w v fs)(hk:qaA LTF w w'):qda B w' v fs:=by
 obtain⟨F,h1,h2⟩:=h;exact⟨F,h1.keepT hk e_,fun j hj=>⟨(h2 j hj).1,(h2 j hj).2.1,(h2 j hj).2.2.1,(h2 j hj).2.2.2.1,(h2 j hj).2.2.2.2.next (hk.mono LBF)⟩⟩
theorem qa1.toP(h:qa1 B w v fs):qda B w v fs:=by
 obtain⟨C,F,h1,_,_,h2⟩:=h;exact⟨F,h1,fun j hj=>⟨(h2 j hj).1,(h2 j hj).2.1,(h2 j hj).2.2.1,(h2 j hj).2.2.2.1,(h2 j hj).2.2.2.2.1.stb e_ e_⟩⟩
theorem qda.r(h:qda B w v fs):qa6 w v fs:=by
 obtain⟨F,h1,h2⟩:=h;exact⟨F,h1.rn,fun j hj=>⟨(h2 j hj).1,(h2 j hj).2.1,(h2 j hj).2.2.1,(h2 j hj).2.2.2.1,(h2 j hj).2.2.2.2.self⟩⟩
theorem qda.stb(h:qda B w v fs):Stb LT2 (fun w=>qa6 w v fs) w:=fun _ hk=>(h.next (hk.mono qi1)).r
theorem qda.cells(h:qda B w (.slice (some ⟨g,0,none⟩) n cap) fs):(∃ F:Nat→Value,∀ t,t<fs.length*6→w.cell? ⟨g,t,none⟩=some (F t))∧(∀ i,w.frozen? ⟨g,i,none⟩=false)∧∃ cur,w.heap[g]? =some (.cells cur 50 (0,0)):=by
 obtain⟨F,h1,h2⟩:=h;obtain⟨_,_,he⟩:=h1.rn.sl;obtain rfl:n=fs.length:=J_;obtain⟨cur,hr⟩:=h1.row0 g rfl;exact⟨⟨F,fun t ht=>(h1.at_ a_).1⟩,fun i=>qgI hr i,cur,hr⟩
end
structure WdQ (B:Nat) (w:World) (x:Wd) (vF vL vA vN:Value):Prop where
 feeds:qda B w vF x.feeds
 links:qav B 99 w vL x.links
 asked:qbB B w vA x.asked
 net:qaW B w vN x.net
section
variable {B:Nat} {w w':World} {x:Wd} {vF vL vA vN:Value}
theorem WdC.q(h:WdC B w x vF vL vA vN):WdQ B w x vF vL vA vN:=⟨h.feeds.toP,h.links,h.asked,h.net⟩
theorem WdQ.keep(h:WdQ B w x vF vL vA vN)(hk:qaA LT2 w w'):WdQ B w' x vF vL vA vN:=
 ⟨h.feeds.next (hk.mono qi1),h.links.next hk e_,h.asked.next (hk.mono qkm),h.net.next (hk.mono qk1)⟩
theorem WdQ.below(h:WdQ B w x vF vL vA vN)(hb:bB w w'):WdQ B w' x vF vL vA vN:=h.keep (qaA.of_below hb)
end
structure qk7 (B gF cF:Nat) (y:Wd) (w0 w:World) (vL vA vN:Value):Prop where
 box:w.heap[w0.heap.size]? =some (.cells #[.int .i64 y.sec,.int .i64 y.bad,.slice (some ⟨gF,0,none⟩) y.feeds.length cF,vL,vA,vN] 28 (0,0))
 z:w.heap[w0.heap.size+1]? =some (.cells #[.int .i64 0,.int .i64 0,.slice none 0 0,.slice none 0 0,.slice none 0 0,.slice none 0 0] 28 (0,0))
 q:WdQ B w y (.slice (some ⟨gF,0,none⟩) y.feeds.length cF) vL vA vN
 b:bB w0 w
 gB:w0.heap.size≤gF
section
variable {B gF cF:Nat} {y:Wd} {w0 w w':World} {vL vA vN:Value}
theorem qk7.below(h:qk7 B gF cF y w0 w vL vA vN)(hb:bB w w'):qk7 B gF cF y w0 w' vL vA vN:=
 ⟨(hb.block _ (qai h.box)).trans h.box,(hb.block _ (qai h.z)).trans h.z,h.q.below hb,h.b.trans (hb.mono h.b.size),h.gB⟩
end
structure qla (y:Wd) (w0 w:World) (vF vL vA vN:Value):Prop where
 box:w.heap[w0.heap.size]? =some (.cells #[.int .i64 y.sec,.int .i64 y.bad,vF,vL,vA,vN] 28 (0,0))
 z:w.heap[w0.heap.size+1]? =some (.cells #[.int .i64 0,.int .i64 0,.slice none 0 0,.slice none 0 0,.slice none 0 0,.slice none 0 0] 28 (0,0))
 s:WdS w y vF vL vA vN
 b:bB w0 w
theorem qla.below{y:Wd}{w0 w w':World}{vF vL vA vN:Value}(h:qla y w0 w vF vL vA vN)(hb:bB w w'):qla y w0 w' vF vL vA vN:=
 ⟨(hb.block _ (qai h.box)).trans h.box,(hb.block _ (qai h.z)).trans h.z,h.s.below hb,h.b.trans (hb.mono h.b.size)⟩
structure qng (B gA cA:Nat) (x:Wd) (ls:List (List (Int×Int))) (w0 w:World) (vF vL vN:Value):Prop where
 box:w.heap[w0.heap.size]? =some (.cells #[.int .i64 x.sec,.int .i64 x.bad,vF,vL,.slice (some ⟨gA,0,none⟩) x.asked.length cA,vN] 28 (0,0))
 z:w.heap[w0.heap.size+1]? =some (.cells #[.int .i64 0,.int .i64 0,.slice none 0 0,.slice none 0 0,.slice none 0 0,.slice none 0 0] 28 (0,0))
 F:qa1 B w vF x.feeds
 L:qav B 99 w vL x.links
 A:qbB B w (.slice (some ⟨gA,0,none⟩) x.asked.length cA) ls
 N:qaW B w vN []
 b:bB w0 w
 n:ls.length=x.asked.length
 gB:w0.heap.size≤gA
 Bs:B≤w.heap.size
section
variable {B gA cA:Nat} {x:Wd} {ls:List (List (Int×Int))} {w0 w w':World} {vF vL vN:Value}
theorem qng.below(h:qng B gA cA x ls w0 w vF vL vN)(hb:bB w w'):qng B gA cA x ls w0 w' vF vL vN:=by
 have hk:=qaA.of_below (T:=LT2) hb;exact⟨(hb.block _ (qai h.box)).trans h.box,(hb.block _ (qai h.z)).trans h.z,h.F.next (hk.mono qi1),h.L.next hk e_,h.A.next (hk.mono qkm),h.N.next (hk.mono qk1),h.b.trans (hb.mono h.b.size),h.n,h.gB,Nat.le_trans h.Bs hb.size⟩
end
structure qnp (w:World) (q p:Nat) (x y:Wd) (vF vL vA vN uF uL uA uN:Value) (wr:World):Prop where
 bx:wr.heap[q]? =some (.cells #[.int .i64 x.sec,.int .i64 x.bad,vF,vL,vA,vN] 28 (0,0))
 by_:wr.heap[p]? =some (.cells #[.int .i64 y.sec,.int .i64 y.bad,uF,uL,uA,uN] 28 (0,0))
 sx:WdS wr x vF vL vA vN
 sy:WdS wr y uF uL uA uN
 o:bB w wr
theorem qnp.below{w wr w2:World}{q p:Nat}{x y:Wd}{vF vL vA vN uF uL uA uN:Value}(h:qnp w q p x y vF vL vA vN uF uL uA uN wr)(hb:bB wr w2):qnp w q p x y vF vL vA vN uF uL uA uN w2:=
 ⟨(hb.block _ (qai h.bx)).trans h.bx,(hb.block _ (qai h.by_)).trans h.by_,h.sx.below hb,h.sy.below hb,h.o.trans (hb.mono h.o.size)⟩
end Go.Proofs.YtekaaekpdebloaaGreatDoor

/- Walk: a run that is often invalid is drawn. No condition. -/
import Derived.Test.YtcnpmbdkcflboaaGreatDoorCE
set_option linter.unusedVariables false
set_option linter.unusedSimpArgs false
namespace Go.Proofs.YtcnpmbdkcflboaaGreatDoor
open Go.RowKit
attribute [local go_sem ↓] Go.wp_at_zero Go.wp_at_succ

theorem ql8{f f0:Fd}(h0:f0.hd.len=0→f0.hd=Hd.zero)(h:f.hd=f0.hd∨∃ y:Int,f.hd={f0.hd with dg:=y}):qaq f=true→f.hd.len=0→f.hd=Hd.zero:=fun hv hl=>by
 rcases h with h|⟨y,h⟩
 · rw[h] at hl ⊢;exact h0 hl
 · have hl':f0.hd.len=0:=by rw[h] at hl;exact hl
   have e:=h0 hl';rw[e] at h;simp only[qaq,Bool.and_eq_true,Bool.or_eq_true] at hv;rcases hv.1.1.1.1.2 with h1|h1
   · simp only[Hd.isZero,Bool.and_eq_true,beq_iff_eq] at h1;have h2:f.hd.dg=0:=h1.1.2;rw[h] at h2 ⊢;have:y=0:=h2;rw[this];rfl
   · simp only[qbE,Bool.and_eq_true] at h1;have h2:=h1.1.2;rw[h] at h2;have h3:key (0:Int)=true:=h2;exact absurd h3 e_
set_option maxHeartbeats 12800000 in
set_option maxRecDepth 100000 in
theorem qiw(g P:Nat)(w:World)(hr:Rdr w g P)(hP:P≤70000):Calls Tryz.prog 57 #[.pointer (some ⟨g,0,none⟩)] w (qhY g (P+4200) w):=by
 have hgl:=hr.lt;obtain⟨W0,HW0⟩:=nm_ (w.alloc (.cells #[.int .i64 0,.int .i64 0,.slice none 0 0,.slice none 0 0,.slice none 0 0,.slice none 0 0] 28));have hb0:Below w.heap.size w W0:=by rw[←HW0.out];exact qab (bR_ _ _) _
 have hz0:W0.heap[w.heap.size]? =some (.cells #[.int .i64 0,.int .i64 0,.slice none 0 0,.slice none 0 0,.slice none 0 0,.slice none 0 0] 28 (0,0)):=by rw[←HW0.out];exact heap_alloc_new _ _
 have hr0:=hr.below hb0;have HO0:Hid (qbb g w W0):=hI_ (qbb.of_below hb0);have hne:∀ k,w.heap.size≤k→some k≠some g:=fun k hk e=>by have:=Option.some.inj e;omega
 have HNE:=hI_ hne;have HZ0:=hI_ hz0;clear hne hb0 hr hz0;go_enter Tryz.func57,Tryz.ntmps57
 go_wp2_with fail
 rw[HW0.out];refine(qfn g P W0 hr0 a_).mono ?_;rintro e w1 ⟨⟨s,bd,fs,ls,ks,ps⟩,uF,uL,uA,uN,rfl,hd,hs,r1,o1⟩;obtain⟨⟨A1,c1,rfl⟩,⟨A2,c2,rfl⟩,⟨A3,c3,rfl⟩,⟨A4,c4,rfl⟩⟩:=hs.sl;have HZ1:=hI_ ((o1.block _ (qai HZ0.out) (HNE.out _ (nr_ _))).trans HZ0.out);have HO1:=hI_ (HO0.out.trans o1);have HD:=hI_ hd;have HR1:=hI_ r1;have HSM:=hI_ (hd.v.wi.sml a_);have HS:=hI_ hs;clear hr0 hd hs r1 o1;go_wp2_with fail
 refine(qcO ⟨s,bd,fs,ls,ks,ps⟩ _ _ _ _ w1 HS.out HSM.out).mono ?_;rintro e w2 ⟨uF,uL,uA,uN,rfl,hc,hb2⟩;have hn1:1≤fs.length:=HD.out.v.wi.n1;have hn6:fs.length≤6:=HD.out.v.wi.n6;have hka:ks.length=fs.length:=HD.out.v.wi.na;obtain⟨gF,cF,rfl,hF1,hF2⟩:=hc.feeds.form (by show 0<fs.length;omega);obtain⟨gA,cA,rfl,hA1,hA2⟩:=hc.asked.form (by show 0<ks.length;omega);obtain⟨lA,cL,rfl⟩:=hc.links.sl;obtain⟨nA,cN,rfl⟩:=hc.net.sl;have HKA:=hI_ hka;have hk6:ks.length≤6:=a_;have hk1:1≤ks.length:=a_;simp only at hc hF1 hF2 hA1 hA2;have hz2:=(hb2.block _ (qai HZ1.out)).trans HZ1.out;obtain⟨W2,HW2⟩:=nm_ (w2.alloc (.cells #[.int .i64 s,.int .i64 bd,.slice (some ⟨gF,0,none⟩) fs.length cF,.slice lA ls.length cL,.slice (some ⟨gA,0,none⟩) ks.length cA,.slice nA ps.length cN] 28));have HW:Hid (WrW g (P+4000) w w.heap.size w2.heap.size w1.heap.size ⟨s,bd,fs,ls,ks,ps⟩ (.slice (some ⟨gF,0,none⟩) fs.length cF) (.slice lA ls.length cL) (.slice (some ⟨gA,0,none⟩) ks.length cA) (.slice nA ps.length cN) W2):=hI_ (by
  rw[←HW2.out];exact⟨qau hz2,heap_alloc_new _ _,hc.keep (qaA.alloc _),(HR1.out.below hb2).below (qab (bR_ _ _) _),(HO1.out.thenB hb2).thenB (qab (bR_ _ _) _),HD.out,rfl,qai hz2,hgl,Nat.le_trans HO1.out.size (nr_ _),Nat.le_trans hb2.size k_⟩)
 clear hka hc hb2 hz2 hF1 hF2 hA1 hA2;obtain⟨y0,y1,y2,y3,y4,y5,yf⟩:=qaa HW.out.b;go_wp2_with fail
 rw[HW2.out];refine(qan g (P+4000) fs.length W2 HW.out.r a_ a_ a_).mono ?_;rintro e w3 ⟨k,rfl,k1,k2,r3,o3⟩;obtain⟨k,rfl⟩:∃ n:Nat,k=n:=⟨k.toNat,a_⟩
 have HW3:=hI_ (HW.out.only o3 r3);obtain⟨y,HY⟩:=nm_ w2.heap.size;rw[HY.out] at HW3;clear r3 o3 y0 y1 y2 y3 y4 y5 yf HW;have hkf:k<fs.length:=a_;have hkk:k<ks.length:=by have:=HKA.out;omega
 go_wp2_with fail
 rw[HY.out];refine(qan g (P+4001) 10 w3 HW3.out.r a_ a_ a_).mono ?_;rintro e w4 ⟨sw,rfl,sw1,sw2,r4,o4⟩;have HW4:=hI_ (HW3.out.only o4 r4);have hyl:=qai HW4.out.b;have hgy:=HW4.out.gy;have hqy:=HW4.out.hqy;have HGF:=hI_ (HW4.out.c.feeds.lt_ gF rfl);have HGA:=hI_ (HW4.out.c.asked.lt_ gA rfl);clear r4 o4 HW3 HW2 HZ0 HZ1 HO0 HO1 HR1 HSM HS HNE HY;go_upto_block 0 with fail
 go_cut [] (fun wx=>∃ (x:Wd) (vF vL vA vN:Value),qi4 g (P+4200) w w.heap.size y x vF vL vA vN wx)
 case rest=>
  obtain⟨x,vF,vL,vA,vN,hR⟩:=hcut;obtain⟨w11,rfl⟩:∃ W,W=wc:=⟨_,rfl⟩
  obtain⟨⟨A1,c1,rfl⟩,⟨A2,c2,rfl⟩,⟨A3,c3,rfl⟩,⟨A4,c4,rfl⟩⟩:=hR.s.sl;obtain⟨y0,y1,y2,y3,y4,y5,yf⟩:=qaa hR.b;obtain⟨z0,z1,z2,z3,z4,z5,zf⟩:=qaa hR.z;have HRET:=hI_ hR.ret;clear hR;go_wp2_with fail
  refine bodyPost_ret (v:=.agg #[.int .i64 x.sec,.int .i64 x.bad,.slice A1 x.feeds.length c1,.slice A2 x.links.length c2,.slice A3 x.asked.length c3,.slice A4 x.net.length c4]) (by simp[results,Tryz.results57,go_sem,z0,z1,z2,z3,z4,z5]) rfl HRET.out
 have hs:sw=0∨sw=1∨sw=2∨sw=3∨sw=4∨sw=5∨sw=6∨sw=7∨8≤sw:=a_;rcases hs with rfl|rfl|rfl|rfl|rfl|rfl|rfl|rfl|hs
 · as_aux_lemma=>
    obtain⟨y0,y1,y2,y3,y4,y5,yf⟩:=qaa HW4.out.b;go_wp2_with fail
    refine(qeN g (P+4002) w4 HW4.out.r a_).mono ?_;rintro e w5 ⟨v,rfl,v1,v2,r5,o5⟩;have HW5:=hI_ (HW4.out.only o5 r5);obtain⟨t0,t1,t2,t3,t4,t5,tf⟩:=qaa HW5.out.b;have HR:=hI_ (HW5.out.sec v);clear r5 o5 y0 y1 y2 y3 y4 y5 yf;go_wp2_with fail
    go_meet;exact⟨_,_,_,_,_,HR.out.mono a_⟩
 · as_aux_lemma=>
    obtain⟨y0,y1,y2,y3,y4,y5,yf⟩:=qaa HW4.out.b;go_wp2_with fail
    refine(qan g (P+4002) 8 w4 HW4.out.r a_ a_ a_).mono ?_;rintro e w5 ⟨v,rfl,v1,v2,r5,o5⟩;have HW5:=hI_ (HW4.out.only o5 r5);obtain⟨t0,t1,t2,t3,t4,t5,tf⟩:=qaa HW5.out.b;have HR:=hI_ (HW5.out.bad (v-1));clear r5 o5 y0 y1 y2 y3 y4 y5 yf;go_wp2_with fail
    go_meet;exact⟨_,_,_,_,_,HR.out.mono a_⟩
 · as_aux_lemma=>
    have t2:=(qaa HW4.out.b).2.2.1;obtain⟨_,_,vb,vh,hA,hbF,f0,f1,f2,f3,f4,f5,hF⟩:=HW4.out.c.feeds.r.at_ hkf;cases hA;obtain⟨⟨fp,⟨fl,fd,fg⟩,fbl,fhv⟩,HFK⟩:∃ f,Hid (fs[k]=f):=⟨_,hI_ rfl⟩
    simp only at f0 f1 f2 f3 f4 f5 hF;rw[Nat.zero_add] at f0 f1 f2 f3 f4 f5;rw[HFK.out] at f0 f1 f2 f3 hF;obtain⟨bA,bc,rfl⟩:=hF.bl.sl';obtain⟨hvA,hvc,rfl⟩:=hF.hv.sl';simp only at f0 f1 f2 f3 f4 f5 hF;have HF:=hI_ (hF.below (qac (bR_ _ _)));have hv:=HD.out.v.wi.lenj hkf;have hzz:=HD.out.z k;rw[show(fs.getD k Fd.none)=fs[k] from qam hkf _] at hzz;simp only at hv;rw[HFK.out] at hv hzz;simp only at hv;have HZZ:=hI_ hzz;have HTX:Hid (∀ x ∈ fbl,x.size≤10):=hI_ (fun x hx=>by
     have:=qbH (HD.out.v.wi.fv k hkf).1 x (by simp only;rw[HFK.out];exact hx);omega)
    obtain⟨hv1,hv2,hv3⟩:=hv;have hvl2:fhv.length≤17:=a_;have hvl1:fbl.length≤17:=a_;clear hF hv1 hv3 hzz;go_wp2_with fail
    go_region_with
     ((go_at_call 98;refine(qit g (P+4002) ⟨fp,⟨fl,fd,fg⟩,fbl,fhv⟩ _ _ _ (HW4.out.r.below i_) a_ HF.out hvl1 hvl2 HTX.out).mono ?_;rintro e w5 ⟨f',ub,uh,rfl,hf5,_,_,_,hhd,r5,o5⟩
       have o45:qbb g w4 w5:=(qbb.of_below i_).trans o5;have HW5:=hI_ (HW4.out.only o45 r5);have n2:=(qaa HW5.out.b).2.2.1;obtain⟨uA,uc,rfl⟩:=hf5.bl.sl;obtain⟨tA,tc,rfl⟩:=hf5.hv.sl;obtain⟨⟨FF,hFF⟩,hfz,_⟩:=HW5.out.c.feeds.cells;have q0:=hFF (k*6) ac_;have q1:=hFF (k*6+1) ac_;have q2:=hFF (k*6+2) ac_;have q3:=hFF (k*6+3) ac_;have q4:=hFF (k*6+4) ac_;have q5:=hFF (k*6+5) ac_;have HR:=hI_ (HW5.out.feed (j:=k) hkf (hf5.stb e_ e_) (ql8 HZZ.out hhd));have n3:=(qaa HR.out.b).2.2.1;clear hFF hf5 hhd r5 o5 o45))
    all_goals
     go_wp2
     go_meet;exact⟨_,_,_,_,_,HR.out.mono a_⟩
 · as_aux_lemma=>
    obtain⟨y0,y1,y2,y3,y4,y5,yf⟩:=qaa HW4.out.b;have hls:ls.length≤40:=HD.out.v.wi.nl;go_wp2_with fail
    go_region_law
     (first
       |((refine qa9 p_ (qbj (base:=w1.heap.size) (y0:=c) (y1:=d) hl6 a_ HW6.out.hBw rfl rfl rfl rfl ?_))
         intro A7 c7 w7 ho7 hg7;have HR:=hI_ (HW6.out.links hg7 ho7);obtain⟨s0,s1,s2,s3,s4,s5,sf⟩:=qaa (HW6.out.boxL hg7);clear ho7 hg7 hl6)
       |(go_simp;go_wp2_with (first
       |(have hq5:=HW5.out.r;go_at_call 35;refine(qan g (P+4003) 6 _ hq5 a_ a_ a_).mono ?_;rintro e w6 ⟨d,rfl,d1,d2,r6,o6⟩
         have HW6:=hI_ (HW5.out.only o6 r6);have n3:=(qaa HW6.out.b).2.2.2.1;have n3a:∀ o,(w6.alloc o).cell? ⟨y,3,none⟩=some (.slice lA ls.length cL):=fun o=>(qaa (qau HW6.out.b)).2.2.2.1;have hl6:qav w1.heap.size 70 w6 (.slice lA ls.length cL) ls:=HW6.out.c.links;clear r6 o6 hq5)
       |(go_at_call 35;refine(qan g (P+4002) 6 _ (HW4.out.r.below i_) a_ a_ a_).mono ?_;rintro e w5 ⟨c,rfl,c1_,c2_,r5,o5⟩
         have HW5:=hI_ (HW4.out.only ((qbb.of_below i_).trans o5) r5);have m3:=(qaa HW5.out.b).2.2.2.1;clear r5 o5))))
    all_goals
     go_wp2
     go_meet;exact⟨_,_,_,_,_,HR.out.mono a_⟩
 · as_aux_lemma=>
    have t4:=(qaa HW4.out.b).2.2.2.2.1;go_wp2_with fail
    go_region_held3 (fun w'=>w'.cell? ⟨y,4,none⟩=some (.slice (some ⟨gA,0,none⟩) ks.length cA))
     (first|with_reducible exact t4|(with_reducible refine Eq.trans (Below.cell (B:=w4.heap.size) ?_ hyl) t4 <;> (with_reducible repeat(first|exact bR_ _ _|refine qab ?_ _|refine qac ?_));done)|with_reducible exact n4|with_reducible exact n5)
     ((go_at_call 99;refine(qhx g (P+4002) _ (HW4.out.r.below i_) a_).mono ?_;rintro e w5 ⟨v,l,rfl,hp5,hl5,r5,o5⟩
       have HW5:=hI_ (HW4.out.only ((qbb.of_below i_).trans o5) r5);have n4:=(qaa HW5.out.b).2.2.2.2.1;obtain⟨vA,vc,rfl⟩:=hp5.sl;obtain⟨⟨FF,hFF⟩,hfz,_⟩:=HW5.out.c.asked.cells;have q0:=hFF k hkk;have HR:=hI_ (HW5.out.ask (j:=k) hkk (hp5.stb (T:=LQ) e_));have n5:=(qaa HR.out.b).2.2.2.2.1;clear hFF hp5 r5 o5))
    all_goals
     go_wp2
     go_meet;exact⟨_,_,_,_,_,HR.out.mono a_⟩
 · skip
   obtain⟨y0,y1,y2,y3,y4,y5,yf⟩:=qaa HW4.out.b;have hps:ps.length≤12:=HD.out.v.wi.net;have HPT:=hI_ HD.out.drawn.t;clear y0 y1 y2 y3 y4;go_wp2_with fail
   go_region_law
    (first
      |((refine qa9 p_ (qiQ (base:=w1.heap.size) (p:=⟨pa-1,pb-1,pc,pd,tx,[]⟩) (x:=.slice none 0 0) hl9 qn4 a_ HW9.out.hBw rfl rfl rfl rfl ?_))
        intro A7 c7 wa hoa hga;have HR:=hI_ (HW9.out.net hga hoa (qm1 HPT.out (Nat.le_trans HTX.out s_)));obtain⟨s0,s1,s2,s3,s4,s5,sf⟩:=qaa (HW9.out.boxN hga);clear hoa hga hl9)
      |(go_simp;go_wp2_with (first
      |(go_at_call 76;refine(qc4 g (P+4006) _ HW8.out.r a_).mono ?_;rintro e w9 ⟨tx,rfl,htx,r9,o9⟩
        have HW9:=hI_ (HW8.out.only o9 r9);have m9:=(qaa HW9.out.b).2.2.2.2.2.1;have m9a:∀ o,(w9.alloc o).cell? ⟨y,5,none⟩=some (.slice nA ps.length cN):=fun o=>(qaa (qau HW9.out.b)).2.2.2.2.2.1;have hl9:qaW w1.heap.size w9 (.slice nA ps.length cN) ps:=HW9.out.c.net;have HTX:=hI_ htx;clear r9 o9 htx)
      |(have hq8:=HW7.out.r;go_at_call 35;refine(qan g (P+4005) 6 _ hq8 a_ a_ a_).mono ?_;rintro e w8 ⟨pd,rfl,pd1,pd2,r8,o8⟩
        have HW8:=hI_ (HW7.out.only o8 r8);have m8:=(qaa HW8.out.b).2.2.2.2.2.1
        skip
        clear r8 o8 hq8)
      |(have hq7:=HW6.out.r;go_at_call 35;refine(qan g (P+4004) 6 _ hq7 a_ a_ a_).mono ?_;rintro e w7 ⟨pc,rfl,pc1,pc2,r7,o7⟩
        have HW7:=hI_ (HW6.out.only o7 r7);have m7:=(qaa HW7.out.b).2.2.2.2.2.1
        skip
        clear r7 o7 hq7)
      |(have hq6:=HW5.out.r;go_at_call 35;refine(qan g (P+4003) 7 _ hq6 a_ a_ a_).mono ?_;rintro e w6 ⟨pb,rfl,pb1,pb2,r6,o6⟩
        have HW6:=hI_ (HW5.out.only o6 r6);have m6:=(qaa HW6.out.b).2.2.2.2.2.1;have hb1:IntKind.i64.wrap (pb-1)=pb-1:=IntWalk.i64_in _ a_;clear r6 o6 hq6)
      |(go_at_call 35;refine(qan g (P+4002) 7 _ (HW4.out.r.below i_) a_ a_ a_).mono ?_;rintro e w5 ⟨pa,rfl,pa1,pa2,r5,o5⟩
        have HW5:=hI_ (HW4.out.only ((qbb.of_below i_).trans o5) r5);have m5:=(qaa HW5.out.b).2.2.2.2.2.1;have ha1:IntKind.i64.wrap (pa-1)=pa-1:=IntWalk.i64_in _ a_;clear r5 o5))))
   all_goals
    go_wp2
    go_meet;exact⟨_,_,_,_,_,HR.out.mono a_⟩
 · as_aux_lemma=>
    have t5:=(qaa HW4.out.b).2.2.2.2.2.1;have hps:ps.length≤12:=HD.out.v.wi.net;by_cases hp0:ps.length=0
    · have h1:¬ (0:Int)<(ps.length:Int):=a_;have h2:¬ 0<ps.length:=a_;clear hp0;have HR:=hI_ HW4.out.retw;go_wp2_with fail
      go_meet;exact⟨_,_,_,_,_,HR.out.mono a_⟩
    have h1:(0:Int)<(ps.length:Int):=a_;have h2:0<ps.length:=a_;have h3:(1:Int)≤(ps.length:Int):=a_;have h4:(ps.length:Int)≤1000000:=a_;clear hp0;have hnet:qaW w1.heap.size w4 (.slice nA ps.length cN) ps:=HW4.out.c.net;obtain⟨gN,cap,he,hgn1,hgn2⟩:=hnet.form h2;cases he
    have hgny:y≠gN:=fun e=>by
     obtain⟨F,f1,_⟩:=hnet;obtain⟨cur,hc⟩:=f1.row0 gN rfl;rw[←e,HW4.out.b] at hc;exact absurd hc (by intro h;injection h with h;injection h with _ h2 _;exact absurd h2 e_)
    have hgny':¬ gN=y:=fun e=>hgny e.symm;clear hnet;go_wp2_with fail
    go_region_held3 (fun w'=>w'.cell? ⟨y,5,none⟩=some (.slice (some ⟨gN,0,none⟩) ps.length cN))
     (first|with_reducible exact t5|with_reducible exact n5|with_reducible exact n5a _|(with_reducible refine qkr ?_ hgny _ _;first|with_reducible exact n5|with_reducible exact n5a _)|(with_reducible refine Eq.trans (Below.cell (B:=w4.heap.size) ?_ hyl) t5 <;> (with_reducible repeat(first|exact bR_ _ _|refine qab ?_ _|refine qac ?_));done))
     ((go_at_call 35;refine(qan g (P+4002) ps.length _ (HW4.out.r.below i_) h3 h4 a_).mono ?_;rintro e w5 ⟨m,rfl,m1,m2,r5,o5⟩
       obtain⟨m,rfl⟩:∃ n:Nat,m=n:=⟨m.toNat,a_⟩
       have hm:m<ps.length:=a_;have HW5:=hI_ (HW4.out.only ((qbb.of_below i_).trans o5) r5);have n5:=(qaa HW5.out.b).2.2.2.2.2.1;have n5a:∀ o,(w5.alloc o).cell? ⟨y,5,none⟩=some (.slice (some ⟨gN,0,none⟩) ps.length cN):=fun o=>(qaa (qau HW5.out.b)).2.2.2.2.2.1;obtain⟨FF,hFF,hfz⟩:=qaW.cells_ (show qaW w1.heap.size w5 (.slice (some ⟨gN,0,none⟩) ps.length cN) ps from HW5.out.c.net);have q5:=hFF (m*6+5) a_;have q5a:∀ o,(w5.alloc o).cell? ⟨gN,m*6+5,none⟩=some (FF (m*6+5)):=fun o=>(((bR_ w5.heap.size w5).alloc (nr_ _) o).cell (p:=⟨gN,m*6+5,none⟩) (nL_ hgn2 (by have:=o5.size;simp at this;omega))).trans q5;have hz5:=fun o=>qlL (o:=o) (show gN<w5.heap.size from nL_ hgn2 (by have:=o5.size;simp at this;omega)) hfz;try(refine qmN (w5.heap[w4.heap.size]? =some (.cells #[.int .i64 1,.int .i64 2] 3 (0,0))) ?_ ?_;(focus ((refine(o5.block _ ?_ ?_).trans ?_);(simp);(exact fun e=>by have:=Option.some.inj e;omega);(first|with_reducible exact at0 _ _|((with_reducible refine qbI ?_);with_reducible exact at0 _ _)|exact at0 _ _)));intro hy4)
       clear hFF r5 o5))
    · go_wp2
      go_meet;exact⟨_,_,_,_,_,((HW5.out.below (qab (bR_ _ _) _)).prf (m:=m) hm (qni (heap_alloc_new _ _))).mono a_⟩
    · go_wp2
      go_meet;exact⟨_,_,_,_,_,(HW5.out.prf (m:=m) hm (qni hy4)).mono a_⟩
 · as_aux_lemma=>
    obtain⟨y0,y1,y2,y3,y4,y5,yf⟩:=qaa HW4.out.b;clear y0 y1 y2 y3 y5;have hkc:ks.length≤cA:=(HW4.out.c.asked.capA)
    have hk1':(1:Int)≤(ks.length:Int):=a_;have hkc':(ks.length:Int)≤(cA:Int):=a_;have hkc1:(1:Int)≤(cA:Int):=a_;by_cases hc:cA=1
    · subst hc;go_wp2_with fail
      go_meet;exact⟨_,_,_,_,_,(HW4.out.tail (show 0<ks.length by omega) (.inr ⟨a_,_,_,rfl,fun h=>aj_,Nat.zero_le _⟩)).mono a_⟩
    · have hc1:(cA==1)=false:=by rw[beq_eq_false_iff_ne];exact hc
      go_wp2_with fail
      go_meet;exact⟨_,_,_,_,_,(HW4.out.tail (show 0<ks.length by omega) (.inl rfl)).mono a_⟩
 · as_aux_lemma=>
    have n0:(sw==0)=false:=by rw[beq_eq_false_iff_ne];omega
    have n1:(sw==1)=false:=by rw[beq_eq_false_iff_ne];omega
    have n2:(sw==2)=false:=by rw[beq_eq_false_iff_ne];omega
    have n3:(sw==3)=false:=by rw[beq_eq_false_iff_ne];omega
    have n4:(sw==4)=false:=by rw[beq_eq_false_iff_ne];omega
    have n5:(sw==5)=false:=by rw[beq_eq_false_iff_ne];omega
    have n6:(sw==6)=false:=by rw[beq_eq_false_iff_ne];omega
    have n7:(sw==7)=false:=by rw[beq_eq_false_iff_ne];omega
    clear hs sw1 sw2;have HR:=hI_ HW4.out.retw;go_wp2_with fail
    go_meet;exact⟨_,_,_,_,_,HR.out.mono a_⟩
end Go.Proofs.YtcnpmbdkcflboaaGreatDoor

/- Words and walks of the law. -/
import Derived.Test.YtekaaekpdebloaaGreatDoorK2Ed
import Derived.Test.YtekaaekpdebloaaGreatDoorCS5
import Derived.Test.YtekaaekpdebloaaGreatDoorCV5
set_option linter.unusedVariables false
set_option linter.unusedSimpArgs false
set_option maxHeartbeats 12800000
set_option maxRecDepth 100000
namespace Go.Proofs.YtekaaekpdebloaaGreatDoor
open Go.RowKit
attribute [local go_sem ↓] Go.wp_at_zero Go.wp_at_succ

theorem ql8{f f0:Fd}(h0:f0.hd.len=0→f0.hd=Hd.zero)(h:f.hd=f0.hd∨∃ y:Int,f.hd={f0.hd with dg:=y}):qaq f=true→f.hd.len=0→f.hd=Hd.zero:=fun hv hl=>by
 rcases h with h|⟨y,h⟩
 · rw[h] at hl ⊢;exact h0 hl
 · have hl':f0.hd.len=0:=by rw[h] at hl;exact hl
   have e:=h0 hl';rw[e] at h;simp only[qaq,Bool.and_eq_true,Bool.or_eq_true] at hv;rcases hv.1.1.1.1.2 with h1|h1
   · simp only[Hd.isZero,Bool.and_eq_true,beq_iff_eq] at h1;have h2:f.hd.dg=0:=h1.1.2;rw[h] at h2 ⊢;have:y=0:=h2;rw[this];rfl
   · simp only[qbE,Bool.and_eq_true] at h1;have h2:=h1.1.2;rw[h] at h2;have h3:key (0:Int)=true:=h2;exact absurd h3 e_
theorem qiw(g P:Nat)(w:World)(hr:Rdr w g P)(hP:P≤70000):Calls Tryz.prog 50 #[.pointer (some ⟨g,0,none⟩)] w (qhY g (P+4200) w):=by
 have hgl:=hr.lt;obtain⟨W0,HW0⟩:=nm_ (w.alloc (.cells #[.int .i64 0,.int .i64 0,.slice none 0 0,.slice none 0 0,.slice none 0 0,.slice none 0 0] 28));have hb0:bB w W0:=by rw[←HW0.out];exact qab (bR_ _ _) _
 have hz0:W0.heap[w.heap.size]? =some (.cells #[.int .i64 0,.int .i64 0,.slice none 0 0,.slice none 0 0,.slice none 0 0,.slice none 0 0] 28 (0,0)):=by rw[←HW0.out];exact heap_alloc_new _ _
 have hr0:=hr.below hb0;have HO0:Hid (qbb g w W0):=hI_ (qbb.of_below hb0);have hne:∀ k,w.heap.size≤k→some k≠some g:=fun k hk e=>by have:=Option.some.inj e;omega
 have HNE:=hI_ hne;have HZ0:=hI_ hz0;clear hne hb0 hr hz0;go_enter Tryz.func50,Tryz.ntmps50
 go_wp2_with fail
 rw[HW0.out];refine(qfn g P W0 hr0 a_).mono ?_;rintro e w1 ⟨⟨s,bd,fs,ls,ks,ps⟩,uF,uL,uA,uN,rfl,hd,hs,r1,o1⟩;obtain⟨⟨A1,c1,rfl⟩,⟨A2,c2,rfl⟩,⟨A3,c3,rfl⟩,⟨A4,c4,rfl⟩⟩:=hs.sl;have HZ1:=hI_ ((o1.block _ (qai HZ0.out) (HNE.out _ (nr_ _))).trans HZ0.out);have HO1:=hI_ (HO0.out.trans o1);have HD:=hI_ hd;have HR1:=hI_ r1;have HSM:=hI_ (hd.v.wi.sml a_);have HS:=hI_ hs;clear hr0 hd hs r1 o1;go_wp2_with fail
 refine(qcO ⟨s,bd,fs,ls,ks,ps⟩ _ _ _ _ w1 HS.out HSM.out).mono ?_;rintro e w2 ⟨uF,uL,uA,uN,rfl,hc,hb2⟩;have hn1:1≤fs.length:=HD.out.v.wi.n1;have hn6:fs.length≤6:=HD.out.v.wi.n6;have hka:ks.length=fs.length:=HD.out.v.wi.na;obtain⟨gF,cF,rfl,hF1,hF2⟩:=hc.feeds.form (by show 0<fs.length;omega);obtain⟨gA,cA,rfl,hA1,hA2⟩:=hc.asked.form (by show 0<ks.length;omega);obtain⟨lA,cL,rfl⟩:=hc.links.sl;obtain⟨nA,cN,rfl⟩:=hc.net.sl;have HKA:=hI_ hka;have hk6:ks.length≤6:=a_;have hk1:1≤ks.length:=a_;simp only at hc hF1 hF2 hA1 hA2;have hz2:=(hb2.block _ (qai HZ1.out)).trans HZ1.out;obtain⟨W2,HW2⟩:=nm_ (w2.alloc (.cells #[.int .i64 s,.int .i64 bd,.slice (some ⟨gF,0,none⟩) fs.length cF,.slice lA ls.length cL,.slice (some ⟨gA,0,none⟩) ks.length cA,.slice nA ps.length cN] 28));have HW:Hid (WrW g (P+4000) w w.heap.size w2.heap.size w1.heap.size ⟨s,bd,fs,ls,ks,ps⟩ (.slice (some ⟨gF,0,none⟩) fs.length cF) (.slice lA ls.length cL) (.slice (some ⟨gA,0,none⟩) ks.length cA) (.slice nA ps.length cN) W2):=hI_ (by
  rw[←HW2.out];exact⟨qau hz2,heap_alloc_new _ _,hc.keep (qaA.alloc _),(HR1.out.below hb2).below (qab (bR_ _ _) _),(HO1.out.thenB hb2).thenB (qab (bR_ _ _) _),HD.out,rfl,qai hz2,hgl,Nat.le_trans HO1.out.size (nr_ _),Nat.le_trans hb2.size k_⟩)
 clear hka hc hb2 hz2 hF1 hF2 hA1 hA2;obtain⟨y0,y1,y2,y3,y4,y5,yf⟩:=qaa HW.out.b;go_wp2_with fail
 rw[HW2.out];refine(qan g (P+4000) fs.length W2 HW.out.r a_ a_ a_).mono ?_;rintro e w3 ⟨k,rfl,k1,k2,r3,o3⟩;obtain⟨k,rfl⟩:∃ n:Nat,k=n:=⟨k.toNat,a_⟩
 have HW3:=hI_ (HW.out.only o3 r3);obtain⟨y,HY⟩:=nm_ w2.heap.size;rw[HY.out] at HW3;clear r3 o3 y0 y1 y2 y3 y4 y5 yf HW;have hkf:k<fs.length:=a_;have hkk:k<ks.length:=by have:=HKA.out;omega
 go_wp2_with fail
 rw[HY.out];refine(qan g (P+4001) 10 w3 HW3.out.r a_ a_ a_).mono ?_;rintro e w4 ⟨sw,rfl,sw1,sw2,r4,o4⟩;have HW4:=hI_ (HW3.out.only o4 r4);have hyl:=qai HW4.out.b;have hgy:=HW4.out.gy;have hqy:=HW4.out.hqy;have HGF:=hI_ (HW4.out.c.feeds.lt_ gF rfl);have HGA:=hI_ (HW4.out.c.asked.lt_ gA rfl);clear r4 o4 HW3 HW2 HZ0 HZ1 HO0 HO1 HR1 HSM HS HNE HY;go_upto_block 0 with fail
 go_cut [] (fun wx=>∃ (x:Wd) (vF vL vA vN:Value),qi4 g (P+4200) w w.heap.size y x vF vL vA vN wx)
 case rest=>
  obtain⟨x,vF,vL,vA,vN,hR⟩:=hcut;obtain⟨w11,rfl⟩:∃ W,W=wc:=⟨_,rfl⟩
  obtain⟨⟨A1,c1,rfl⟩,⟨A2,c2,rfl⟩,⟨A3,c3,rfl⟩,⟨A4,c4,rfl⟩⟩:=hR.s.sl;obtain⟨y0,y1,y2,y3,y4,y5,yf⟩:=qaa hR.b;obtain⟨z0,z1,z2,z3,z4,z5,zf⟩:=qaa hR.z;have HRET:=hI_ hR.ret;clear hR;go_wp2_with fail
  refine bodyPost_ret (v:=.agg #[.int .i64 x.sec,.int .i64 x.bad,.slice A1 x.feeds.length c1,.slice A2 x.links.length c2,.slice A3 x.asked.length c3,.slice A4 x.net.length c4]) (by simp[results,Tryz.results50,go_sem,z0,z1,z2,z3,z4,z5]) rfl HRET.out
 have hs:sw=0∨sw=1∨sw=2∨sw=3∨sw=4∨sw=5∨sw=6∨sw=7∨8≤sw:=a_;rcases hs with rfl|rfl|rfl|rfl|rfl|rfl|rfl|rfl|hs
 · as_aux_lemma=>
    obtain⟨y0,y1,y2,y3,y4,y5,yf⟩:=qaa HW4.out.b;go_wp2_with fail
    refine(qeN g (P+4002) w4 HW4.out.r a_).mono ?_;rintro e w5 ⟨v,rfl,v1,v2,r5,o5⟩;have HW5:=hI_ (HW4.out.only o5 r5);obtain⟨t0,t1,t2,t3,t4,t5,tf⟩:=qaa HW5.out.b;have HR:=hI_ (HW5.out.sec v);clear r5 o5 y0 y1 y2 y3 y4 y5 yf;go_wp2_with fail
    go_meet;exact⟨_,_,_,_,_,HR.out.mono a_⟩
 · as_aux_lemma=>
    obtain⟨y0,y1,y2,y3,y4,y5,yf⟩:=qaa HW4.out.b;go_wp2_with fail
    refine(qan g (P+4002) 8 w4 HW4.out.r a_ a_ a_).mono ?_;rintro e w5 ⟨v,rfl,v1,v2,r5,o5⟩;have HW5:=hI_ (HW4.out.only o5 r5);obtain⟨t0,t1,t2,t3,t4,t5,tf⟩:=qaa HW5.out.b;have HR:=hI_ (HW5.out.bad (v-1));clear r5 o5 y0 y1 y2 y3 y4 y5 yf;go_wp2_with fail
    go_meet;exact⟨_,_,_,_,_,HR.out.mono a_⟩
 · as_aux_lemma=>
    have t2:=(qaa HW4.out.b).2.2.1;obtain⟨_,_,vb,vh,hA,hbF,f0,f1,f2,f3,f4,f5,hF⟩:=HW4.out.c.feeds.r.at_ hkf;cases hA;obtain⟨⟨fp,⟨fl,fd,fg⟩,fbl,fhv⟩,HFK⟩:∃ f,Hid (fs[k]=f):=⟨_,hI_ rfl⟩
    simp only at f0 f1 f2 f3 f4 f5 hF;rw[Nat.zero_add] at f0 f1 f2 f3 f4 f5;rw[HFK.out] at f0 f1 f2 f3 hF;obtain⟨bA,bc,rfl⟩:=hF.bl.sl';obtain⟨hvA,hvc,rfl⟩:=hF.hv.sl';simp only at f0 f1 f2 f3 f4 f5 hF;have HF:=hI_ (hF.below (qac (bR_ _ _)));have hv:=HD.out.v.wi.lenj hkf;have hzz:=HD.out.z k;rw[show(fs.getD k Fd.none)=fs[k] from qam hkf _] at hzz;simp only at hv;rw[HFK.out] at hv hzz;simp only at hv;have HZZ:=hI_ hzz;have HTX:Hid (∀ x ∈ fbl,x.size≤10):=hI_ (fun x hx=>by
     have:=qbH (HD.out.v.wi.fv k hkf).1 x (by simp only;rw[HFK.out];exact hx);omega)
    obtain⟨hv1,hv2,hv3⟩:=hv;have hvl2:fhv.length≤17:=a_;have hvl1:fbl.length≤17:=a_;clear hF hv1 hv3 hzz;go_wp2_with fail
    go_region_with
     ((go_at_call 99;refine(qit g (P+4002) ⟨fp,⟨fl,fd,fg⟩,fbl,fhv⟩ _ _ _ (HW4.out.r.below i_) a_ HF.out hvl1 hvl2 HTX.out).mono ?_;rintro e w5 ⟨f',ub,uh,rfl,hf5,_,_,_,hhd,r5,o5⟩
       have o45:qbb g w4 w5:=(qbb.of_below i_).trans o5;have HW5:=hI_ (HW4.out.only o45 r5);have n2:=(qaa HW5.out.b).2.2.1;obtain⟨uA,uc,rfl⟩:=hf5.bl.sl;obtain⟨tA,tc,rfl⟩:=hf5.hv.sl;obtain⟨⟨FF,hFF⟩,hfz,_⟩:=HW5.out.c.feeds.cells;have q0:=hFF (k*6) ac_;have q1:=hFF (k*6+1) ac_;have q2:=hFF (k*6+2) ac_;have q3:=hFF (k*6+3) ac_;have q4:=hFF (k*6+4) ac_;have q5:=hFF (k*6+5) ac_;have HR:=hI_ (HW5.out.feed (j:=k) hkf (hf5.stb e_ e_) (ql8 HZZ.out hhd));have n3:=(qaa HR.out.b).2.2.1;clear hFF hf5 hhd r5 o5 o45))
    all_goals
     go_wp2
     go_meet;exact⟨_,_,_,_,_,HR.out.mono a_⟩
 · as_aux_lemma=>
    obtain⟨y0,y1,y2,y3,y4,y5,yf⟩:=qaa HW4.out.b;have hls:ls.length≤40:=HD.out.v.wi.nl;go_wp2_with fail
    go_region_law
     (first
       |((refine qa9 p_ (qbj (base:=w1.heap.size) (y0:=c) (y1:=d) hl6 a_ HW6.out.hBw rfl rfl rfl rfl ?_))
         intro A7 c7 w7 ho7 hg7;have HR:=hI_ (HW6.out.links hg7 ho7);obtain⟨s0,s1,s2,s3,s4,s5,sf⟩:=qaa (HW6.out.boxL hg7);clear ho7 hg7 hl6)
       |(go_simp;go_wp2_with (first
       |(have hq5:=HW5.out.r;go_at_call 49;refine(qan g (P+4003) 6 _ hq5 a_ a_ a_).mono ?_;rintro e w6 ⟨d,rfl,d1,d2,r6,o6⟩
         have HW6:=hI_ (HW5.out.only o6 r6);have n3:=(qaa HW6.out.b).2.2.2.1;have n3a:∀ o,(w6.alloc o).cell? ⟨y,3,none⟩=some (.slice lA ls.length cL):=fun o=>(qaa (qau HW6.out.b)).2.2.2.1;have hl6:qav w1.heap.size 99 w6 (.slice lA ls.length cL) ls:=HW6.out.c.links;clear r6 o6 hq5)
       |(go_at_call 49;refine(qan g (P+4002) 6 _ (HW4.out.r.below i_) a_ a_ a_).mono ?_;rintro e w5 ⟨c,rfl,c1_,c2_,r5,o5⟩
         have HW5:=hI_ (HW4.out.only ((qbb.of_below i_).trans o5) r5);have m3:=(qaa HW5.out.b).2.2.2.1;clear r5 o5))))
    all_goals
     go_wp2
     go_meet;exact⟨_,_,_,_,_,HR.out.mono a_⟩
 · as_aux_lemma=>
    have t4:=(qaa HW4.out.b).2.2.2.2.1;go_wp2_with fail
    go_region_held3 (fun w'=>w'.cell? ⟨y,4,none⟩=some (.slice (some ⟨gA,0,none⟩) ks.length cA))
     (first|with_reducible exact t4|(with_reducible refine Eq.trans (Below.cell (B:=w4.heap.size) ?_ hyl) t4 <;> (with_reducible repeat(first|exact bR_ _ _|refine qab ?_ _|refine qac ?_));done)|with_reducible exact n4|with_reducible exact n5)
     ((go_at_call 100;refine(qhx g (P+4002) _ (HW4.out.r.below i_) a_).mono ?_;rintro e w5 ⟨v,l,rfl,hp5,hl5,r5,o5⟩
       have HW5:=hI_ (HW4.out.only ((qbb.of_below i_).trans o5) r5);have n4:=(qaa HW5.out.b).2.2.2.2.1;obtain⟨vA,vc,rfl⟩:=hp5.sl;obtain⟨⟨FF,hFF⟩,hfz,_⟩:=HW5.out.c.asked.cells;have q0:=hFF k hkk;have HR:=hI_ (HW5.out.ask (j:=k) hkk (hp5.stb (T:=LQ) e_));have n5:=(qaa HR.out.b).2.2.2.2.1;clear hFF hp5 r5 o5))
    all_goals
     go_wp2
     go_meet;exact⟨_,_,_,_,_,HR.out.mono a_⟩
 · skip
   obtain⟨y0,y1,y2,y3,y4,y5,yf⟩:=qaa HW4.out.b;have hps:ps.length≤12:=HD.out.v.wi.net;have HPT:=hI_ HD.out.drawn.t;clear y0 y1 y2 y3 y4;go_wp2_with fail
   go_region_law
    (first
      |((refine qa9 p_ (qiQ (base:=w1.heap.size) (p:=⟨pa-1,pb-1,pc,pd,tx,[]⟩) (x:=.slice none 0 0) hl9 qn4 a_ HW9.out.hBw rfl rfl rfl rfl ?_))
        intro A7 c7 wa hoa hga;have HR:=hI_ (HW9.out.net hga hoa (qm1 HPT.out (Nat.le_trans HTX.out s_)));obtain⟨s0,s1,s2,s3,s4,s5,sf⟩:=qaa (HW9.out.boxN hga);clear hoa hga hl9)
      |(go_simp;go_wp2_with (first
      |(go_at_call 97;refine(qc4 g (P+4006) _ HW8.out.r a_).mono ?_;rintro e w9 ⟨tx,rfl,htx,r9,o9⟩
        have HW9:=hI_ (HW8.out.only o9 r9);have m9:=(qaa HW9.out.b).2.2.2.2.2.1;have m9a:∀ o,(w9.alloc o).cell? ⟨y,5,none⟩=some (.slice nA ps.length cN):=fun o=>(qaa (qau HW9.out.b)).2.2.2.2.2.1;have hl9:qaW w1.heap.size w9 (.slice nA ps.length cN) ps:=HW9.out.c.net;have HTX:=hI_ htx;clear r9 o9 htx)
      |(have hq8:=HW7.out.r;go_at_call 49;refine(qan g (P+4005) 6 _ hq8 a_ a_ a_).mono ?_;rintro e w8 ⟨pd,rfl,pd1,pd2,r8,o8⟩
        have HW8:=hI_ (HW7.out.only o8 r8);have m8:=(qaa HW8.out.b).2.2.2.2.2.1
        skip
        clear r8 o8 hq8)
      |(have hq7:=HW6.out.r;go_at_call 49;refine(qan g (P+4004) 6 _ hq7 a_ a_ a_).mono ?_;rintro e w7 ⟨pc,rfl,pc1,pc2,r7,o7⟩
        have HW7:=hI_ (HW6.out.only o7 r7);have m7:=(qaa HW7.out.b).2.2.2.2.2.1
        skip
        clear r7 o7 hq7)
      |(have hq6:=HW5.out.r;go_at_call 49;refine(qan g (P+4003) 7 _ hq6 a_ a_ a_).mono ?_;rintro e w6 ⟨pb,rfl,pb1,pb2,r6,o6⟩
        have HW6:=hI_ (HW5.out.only o6 r6);have m6:=(qaa HW6.out.b).2.2.2.2.2.1;have hb1:IntKind.i64.wrap (pb-1)=pb-1:=IntWalk.i64_in _ a_;clear r6 o6 hq6)
      |(go_at_call 49;refine(qan g (P+4002) 7 _ (HW4.out.r.below i_) a_ a_ a_).mono ?_;rintro e w5 ⟨pa,rfl,pa1,pa2,r5,o5⟩
        have HW5:=hI_ (HW4.out.only ((qbb.of_below i_).trans o5) r5);have m5:=(qaa HW5.out.b).2.2.2.2.2.1;have ha1:IntKind.i64.wrap (pa-1)=pa-1:=IntWalk.i64_in _ a_;clear r5 o5))))
   all_goals
    go_wp2
    go_meet;exact⟨_,_,_,_,_,HR.out.mono a_⟩
 · as_aux_lemma=>
    have t5:=(qaa HW4.out.b).2.2.2.2.2.1;have hps:ps.length≤12:=HD.out.v.wi.net;by_cases hp0:ps.length=0
    · have h1:¬ (0:Int)<(ps.length:Int):=a_;have h2:¬ 0<ps.length:=a_;clear hp0;have HR:=hI_ HW4.out.retw;go_wp2_with fail
      go_meet;exact⟨_,_,_,_,_,HR.out.mono a_⟩
    have h1:(0:Int)<(ps.length:Int):=a_;have h2:0<ps.length:=a_;have h3:(1:Int)≤(ps.length:Int):=a_;have h4:(ps.length:Int)≤1000000:=a_;clear hp0;have hnet:qaW w1.heap.size w4 (.slice nA ps.length cN) ps:=HW4.out.c.net;obtain⟨gN,cap,he,hgn1,hgn2⟩:=hnet.form h2;cases he
    have hgny:y≠gN:=fun e=>by
     obtain⟨F,f1,_⟩:=hnet;obtain⟨cur,hc⟩:=f1.row0 gN rfl;rw[←e,HW4.out.b] at hc;exact absurd hc (by intro h;injection h with h;injection h with _ h2 _;exact absurd h2 e_)
    have hgny':¬ gN=y:=fun e=>hgny e.symm;clear hnet;go_wp2_with fail
    go_region_held3 (fun w'=>w'.cell? ⟨y,5,none⟩=some (.slice (some ⟨gN,0,none⟩) ps.length cN))
     (first|with_reducible exact t5|with_reducible exact n5|with_reducible exact n5a _|(with_reducible refine qkr ?_ hgny _ _;first|with_reducible exact n5|with_reducible exact n5a _)|(with_reducible refine Eq.trans (Below.cell (B:=w4.heap.size) ?_ hyl) t5 <;> (with_reducible repeat(first|exact bR_ _ _|refine qab ?_ _|refine qac ?_));done))
     ((go_at_call 49;refine(qan g (P+4002) ps.length _ (HW4.out.r.below i_) h3 h4 a_).mono ?_;rintro e w5 ⟨m,rfl,m1,m2,r5,o5⟩
       obtain⟨m,rfl⟩:∃ n:Nat,m=n:=⟨m.toNat,a_⟩
       have hm:m<ps.length:=a_;have HW5:=hI_ (HW4.out.only ((qbb.of_below i_).trans o5) r5);have n5:=(qaa HW5.out.b).2.2.2.2.2.1;have n5a:∀ o,(w5.alloc o).cell? ⟨y,5,none⟩=some (.slice (some ⟨gN,0,none⟩) ps.length cN):=fun o=>(qaa (qau HW5.out.b)).2.2.2.2.2.1;obtain⟨FF,hFF,hfz⟩:=qaW.cells_ (show qaW w1.heap.size w5 (.slice (some ⟨gN,0,none⟩) ps.length cN) ps from HW5.out.c.net);have q5:=hFF (m*6+5) a_;have q5a:∀ o,(w5.alloc o).cell? ⟨gN,m*6+5,none⟩=some (FF (m*6+5)):=fun o=>(((bR_ w5.heap.size w5).alloc (nr_ _) o).cell (p:=⟨gN,m*6+5,none⟩) (nL_ hgn2 (by have:=o5.size;simp at this;omega))).trans q5;have hz5:=fun o=>qlL (o:=o) (show gN<w5.heap.size from nL_ hgn2 (by have:=o5.size;simp at this;omega)) hfz;try(refine qmN (w5.heap[w4.heap.size]? =some (.cells #[.int .i64 1,.int .i64 2] 3 (0,0))) ?_ ?_;(focus ((refine(o5.block _ ?_ ?_).trans ?_);(simp);(exact fun e=>by have:=Option.some.inj e;omega);(first|with_reducible exact at0 _ _|((with_reducible refine qbI ?_);with_reducible exact at0 _ _)|exact at0 _ _)));intro hy4)
       clear hFF r5 o5))
    · go_wp2
      go_meet;exact⟨_,_,_,_,_,((HW5.out.below (qab (bR_ _ _) _)).prf (m:=m) hm (qni (heap_alloc_new _ _))).mono a_⟩
    · go_wp2
      go_meet;exact⟨_,_,_,_,_,(HW5.out.prf (m:=m) hm (qni hy4)).mono a_⟩
 · as_aux_lemma=>
    obtain⟨y0,y1,y2,y3,y4,y5,yf⟩:=qaa HW4.out.b;clear y0 y1 y2 y3 y5;have hkc:ks.length≤cA:=(HW4.out.c.asked.capA)
    have hk1':(1:Int)≤(ks.length:Int):=a_;have hkc':(ks.length:Int)≤(cA:Int):=a_;have hkc1:(1:Int)≤(cA:Int):=a_;by_cases hc:cA=1
    · subst hc;go_wp2_with fail
      go_meet;exact⟨_,_,_,_,_,(HW4.out.tail (show 0<ks.length by omega) (.inr ⟨a_,_,_,rfl,fun h=>aj_,Nat.zero_le _⟩)).mono a_⟩
    · have hc1:(cA==1)=false:=by rw[beq_eq_false_iff_ne];exact hc
      go_wp2_with fail
      go_meet;exact⟨_,_,_,_,_,(HW4.out.tail (show 0<ks.length by omega) (.inl rfl)).mono a_⟩
 · as_aux_lemma=>
    have n0:(sw==0)=false:=by rw[beq_eq_false_iff_ne];omega
    have n1:(sw==1)=false:=by rw[beq_eq_false_iff_ne];omega
    have n2:(sw==2)=false:=by rw[beq_eq_false_iff_ne];omega
    have n3:(sw==3)=false:=by rw[beq_eq_false_iff_ne];omega
    have n4:(sw==4)=false:=by rw[beq_eq_false_iff_ne];omega
    have n5:(sw==5)=false:=by rw[beq_eq_false_iff_ne];omega
    have n6:(sw==6)=false:=by rw[beq_eq_false_iff_ne];omega
    have n7:(sw==7)=false:=by rw[beq_eq_false_iff_ne];omega
    clear hs sw1 sw2;have HR:=hI_ HW4.out.retw;go_wp2_with fail
    go_meet;exact⟨_,_,_,_,_,HR.out.mono a_⟩
end Go.Proofs.YtekaaekpdebloaaGreatDoor
namespace Go.Proofs.YtekaaekpdebloaaGreatDoor
open Go.RowKit

theorem qoP(x:Wd)(vF vL vK vN:Value)(w:World)(hx:WdR w x vF vL vK vN)(ht:∀ j (hj:j<x.net.length),x.net[j].txt.size≤maxLen):
 Calls Tryz.prog 23 #[.agg #[.int .i64 x.sec,.int .i64 x.bad,vF,vL,vK,vN]] w (qpf x w):=by
 obtain⟨V,HV⟩:=nm_ (qcc x);have HT:=hI_ ht;obtain⟨s,b,fs,ls,ks,ps⟩:=x;have hF:=hx.feeds;have hL:=hx.links;have hK:=hx.asked;have hN:=hx.net;simp only at hF hL hK hN ⊢;obtain⟨vA,vc,rfl⟩:=hF.sl;obtain⟨lA,lc,rfl⟩:=hL.sl;obtain⟨kA,kc,rfl⟩:=hK.sl;obtain⟨nA,nc,rfl⟩:=hN.sl;obtain⟨q,HQQ⟩:=nm_ w.heap.size;obtain⟨W0,HW0⟩:=nm_ (w.alloc (.cells #[.int .i64 s,.int .i64 b,.slice vA fs.length vc,.slice lA ls.length lc,.slice kA ks.length kc,.slice nA ps.length nc] 28));have HB0:Hid (bB w W0):=hI_ q_;have hp:W0.heap[w.heap.size]? =some (.cells #[.int .i64 s,.int .i64 b,.slice vA fs.length vc,.slice lA ls.length lc,.slice kA ks.length kc,.slice nA ps.length nc] 28 (0,0)):=by
  rw[←HW0.out];exact heap_alloc_new w _
 have hs0:W0.heap.size=w.heap.size+1:=by rw[←HW0.out];simp
 have lp:=(Array.getElem?_eq_some_iff.1 hp).1;have HX:=hI_ (hx.below HB0.out);have hm:=hF.len;have hm2:=hL.len;unfold maxLen at hm hm2;have HP:=hI_ hp;obtain⟨p0,p1,p2,p3,p4,p5,pf⟩:=qaa hp;have HS0:=hI_ hs0;clear hx hF hL hK hN ht hp hs0;cases V
 · have HW:Hid (qoK ⟨s,b,fs,ls,ks,ps⟩=[]):=hI_ (by unfold qoK;rw[HV.out];rfl);go_enter Tryz.func23,Tryz.ntmps23
   go_wp2_with fail
   rw[HW0.out];refine(qoM HV _ _ _ _ W0 HX.out HT.out).mono ?_;rintro e w1 ⟨rfl,hb1⟩;have HB1:=hI_ (HB0.out.trans (hb1.mono HB0.out.size));clear p0 p1 p2 p3 p4 p5 pf hb1;go_wp2_with fail
   go_ret;exact⟨_,rfl,by rw[HW.out];exact O1.nil _ _ _ _,HB1.out⟩
 obtain⟨hn1,hn6,hlk⟩:=qoQ HV.out;simp only at hn1 hn6 hlk;have HLK:=hI_ hlk;obtain⟨n,HNN⟩:=nm_ fs.length;have HWR:Hid (qoK ⟨s,b,fs,ls,ks,ps⟩=qoL (qoJ b ls n n) n):=hI_ (by unfold qoK;rw[HV.out,HNN.out];rfl);obtain⟨i0,hi,hz0,hz1,hz2⟩:=info_parts qeM;have hmk:=fun W=>run_make_row (P:=Tryz.prog) 48 4 i0 (.bool false) Tryz.underlying48 hi hz0 hz1 rfl .i64 .i64 fs.length bS_ a_ W;clear hlk;have h0i:(0:Int)<(fs.length:Int):=a_;go_enter Tryz.func23,Tryz.ntmps23
 go_wp2_with fail
 rw[HW0.out];refine(qoM HV _ _ _ _ W0 HX.out HT.out).mono ?_;rintro e w1 ⟨rfl,hb1⟩;clear p0 p1 p2 p3 p4 p5 pf;obtain⟨p0,p1,p2,p3,p4,p5,pf⟩:=qaa ((hb1.block _ lp).trans HP.out);obtain⟨g,HGG⟩:=nm_ w1.heap.size;have hz:=O1.zeros (enc:=Value.bool) (e:=4) (w:=w1) (n:=fs.length) false s_;obtain⟨hz1',-⟩:=hz.setAt (j:=0) (by rw[List.length_replicate];omega) true;obtain⟨⟨u0,e0⟩,f0⟩:(∃ u,(w1.alloc (.cells (madeCells #[Value.bool false] fs.length) 4)).cell? ⟨w1.heap.size,0,none⟩=some u)∧(w1.alloc (.cells (madeCells #[Value.bool false] fs.length) 4)).frozen? ⟨w1.heap.size,0,none⟩=false:=by have:=hz.at_ (j:=0) (by rw[List.length_replicate];omega);exact⟨⟨_,this.1⟩,this.2⟩
 obtain⟨W2,HW2'⟩:∃ W,Hid (w1.alloc (.cells ((madeCells #[Value.bool false] fs.length).setIfInBounds 0 (.bool true)) 4)=W):=⟨_,hI_ rfl⟩
 have HW2:Hid ((w1.alloc (.cells (madeCells #[Value.bool false] fs.length) 4)).setCell ⟨w1.heap.size,0,none⟩ (.bool true)=W2):=hI_ (by rw[←HW2'.out];exact World.setCell_alloc_new _ _ _ _);have hb2:bB W0 W2:=by rw[←HW2.out];exact(hb1.alloc hb1.size _).setCell (p:=⟨w1.heap.size,0,none⟩) hb1.size _
 have ho2:O1 Value.bool W0.heap.size 4 W2 (.slice (some ⟨g,0,none⟩) fs.length fs.length) (qoJ b ls fs.length 0):=by
  rw[←HW2.out,←HGG.out];exact hz1'.mono hb1.size
 have HO2:=hI_ ho2;have HB2:=hI_ hb2;have lw1:=nL_ lp hb1.size;have hb1':=hI_ hb1;clear hz hz1' hb2 ho2 hb1;go_wp2_with fail
 rw[HW2'.out,HGG.out];clear hmk p0 p1 p2 p3 p4 p5 pf e0 f0;obtain⟨p0,p1,p2,p3,p4,p5,pf⟩:=qaa ((HB2.out.block _ lp).trans HP.out);go_wp2_with fail
 go_loopw [21] (fun i wr=>∃ k:Nat,k≤fs.length∧i=.int .i64 k∧O1 Value.bool W0.heap.size 4 wr (.slice (some ⟨g,0,none⟩) fs.length fs.length) (qoJ b ls fs.length k)∧bB W0 wr) (fun i _=>fs.length-(intOf i).toNat)
 case atStart=>exact⟨0,Nat.zero_le _,rfl,HO2.out,HB2.out⟩
 case round=>
  obtain⟨k,hk,rfl,ho,hbw⟩:=hrel;have HOK:=hI_ ho;have HBK:=hI_ hbw;have lpr:=nL_ lp hbw.size;clear p0 p1 p2 p3 p4 p5 pf;obtain⟨p0,p1,p2,p3,p4,p5,pf⟩:=qaa ((hbw.block _ lp).trans HP.out);clear ho hbw;by_cases hltk:k<fs.length
  case neg=>
   obtain rfl:k=fs.length:=a_;have hb9:=HB0.out.trans (HBK.out.mono HB0.out.size);have ho9:=HOK.out.mono HB0.out.size;obtain⟨st,HST⟩:=nm_ (qoJ b ls fs.length fs.length);rw[HST.out] at ho9;have hsl:st.length=fs.length:=by rw[←HST.out];exact qoO _
   have HSL:=hI_ hsl;have HO9:=hI_ ho9;have HB9:=hI_ hb9;clear ho9 hb9 hsl;have hI9:=O1.made (Value.int .i64) wr 3;have HI9:=hI_ (hI9.mono HB9.out.size);have HA9:=hI_ (HO9.out.alloc (.cells #[] 3));have HC9:=hI_ (HB9.out.alloc HB9.out.size (.cells #[] 3));clear hI9;go_wp2_with fail
   go_loopw [6,67] (fun t i wz=>∃ m:Nat,m≤fs.length∧i=.int .i64 m∧O1 (Value.int .i64) w.heap.size 3 wz t (qoL st m)∧O1 Value.bool w.heap.size 4 wz (.slice (some ⟨g,0,none⟩) fs.length fs.length) st∧bB w wz) (fun _ i _=>fs.length-(intOf i).toNat)
   case atStart=>exact⟨0,Nat.zero_le _,rfl,HI9.out,HA9.out,HC9.out⟩
   case round=>
    obtain⟨m,hm9,rfl,ho,hr,hbz⟩:=hrel;clear p0 p1 p2 p3 p4 p5 pf;by_cases hlt:m<fs.length
    case neg=>
     obtain rfl:m=fs.length:=a_;have HOZ:=hI_ ho;have HBZ:=hI_ hbz;clear ho hr hbz;go_wp2_with fail
     go_ret;exact⟨_,rfl,by rw[HWR.out,←HNN.out,HST.out];exact HOZ.out,HBZ.out⟩
    have hms:m<st.length:=by rw[HSL.out];exact hlt
    have e:=(hr.at_ hms).1;have hmi:(m:Int)<(fs.length:Int):=a_;have hm0:(0:Int)≤(m:Int):=a_;have lgz:=(hr.lt g rfl).2;cases hsm:st[m]
    · rw[hsm] at e;have HPK:=hI_ (qpo (st:=st) (m:=m) (by rw[qam hms];exact hsm));have HOZ:=hI_ ho;have HRZ:=hI_ hr;have HBZ:=hI_ hbz;clear ho hr hbz hsm;go_wp2_with fail
      go_roundw
      case rel=>exact⟨m+1,a_,t_,by rw[HPK.out];exact HOZ.out,HRZ.out,HBZ.out⟩
      case measure=>simp[intOf];omega
    · rw[hsm] at e;have HPK:=hI_ (qpj (st:=st) (m:=m) (by rw[qam hms];exact hsm));have hpl:(qoL st m).length≤100000000000:=by have:=qpi st m;omega
      have HPL:=hI_ hpl;have HRZ:=hI_ hr;have HBZ:=hI_ hbz;have HOZ:=hI_ ho;clear hr hbz hsm hpl;go_wp2_with (at_builtin;refine qpm ho HPL.out HBZ.out.size rfl rfl rfl rfl ?_;intro v3 w3 ho3 hg3)
      go_roundw
      case rel=>exact⟨m+1,a_,t_,by rw[HPK.out];exact ho3,HRZ.out.grown hg3 (O1.ne_ HRZ.out HOZ.out e_),HBZ.out.grown hg3 HBZ.out.size (fun k hk=>(HOZ.out.lt k hk).1)⟩
      case measure=>simp[intOf];omega
  have hkk:(k:Int)<(fs.length:Int):=a_;go_wp2_with fail
  go_loopw [26] (fun i wq=>∃ j:Nat,j≤ls.length∧i=.int .i64 j∧O1 Value.bool W0.heap.size 4 wq (.slice (some ⟨g,0,none⟩) fs.length fs.length) (qoN b ls (qoJ b ls fs.length k) j)∧bB W0 wq) (fun i _=>ls.length-(intOf i).toNat)
  case atStart=>exact⟨0,Nat.zero_le _,rfl,HOK.out,HBK.out⟩
  case round=>
   obtain⟨j,hj,rfl,ho,hbq⟩:=hrel;clear p0 p1 p2 p3 p4 p5 pf lpr;obtain⟨p0,p1,p2,p3,p4,p5,pf⟩:=qaa ((hbq.block _ lp).trans HP.out);have lpr:=nL_ lp hbq.size;by_cases hlt:j<ls.length
   case neg=>
    obtain rfl:j=ls.length:=a_;have HOQ:=hI_ ho;have HBQ:=hI_ hbq;clear ho hbq;go_wp2_with fail
    go_roundw
    case rel=>exact⟨k+1,a_,t_,HOQ.out,HBQ.out⟩
    case measure=>simp[intOf];omega
   obtain⟨_,o,hAe,hbs,e0,e1⟩:=(HX.out.links.below hbq).at_ hlt;cases hAe
   obtain⟨k1,k2,k3,k4⟩:=HLK.out j hlt;have HSN:=hI_ (qoR (bad:=b) (st:=qoJ b ls fs.length k) hlt);obtain⟨st,HST⟩:=nm_ (qoN b ls (qoJ b ls fs.length k) j);have hsl:st.length=fs.length:=by rw[←HST.out,qoT];exact qoO _
   rw[HST.out] at ho HSN;generalize ls[j]=y at*
   obtain⟨y1,y2⟩:=y;simp only at k1 k2 k3 k4 e0 e1;obtain⟨a,rfl⟩:∃ a:Nat,y1=(a:Int):=⟨y1.toNat,a_⟩
   obtain⟨d,rfl⟩:∃ d:Nat,y2=(d:Int):=⟨y2.toNat,a_⟩
   have ha:a<st.length:=a_;have hd:d<st.length:=a_;have hji:(j:Int)<(ls.length:Int):=a_;have hj0:(0:Int)≤(j:Int):=a_;obtain⟨W5,HW5⟩:=nm_ (wr.alloc (.cells #[.int .i64 (a:Int),.int .i64 (d:Int)] 99));obtain⟨r,HRR⟩:=nm_ wr.heap.size;have hb5:bB W0 W5:=by rw[←HW5.out];exact hbq.alloc hbq.size _
   have ho5:O1 Value.bool W0.heap.size 4 W5 (.slice (some ⟨g,0,none⟩) fs.length fs.length) st:=by rw[←HW5.out];exact ho.alloc _
   have hbx:W5.heap[r]? =some (.cells #[.int .i64 (a:Int),.int .i64 (d:Int)] 99 (0,0)):=by rw[←HW5.out,←HRR.out];exact heap_alloc_new wr _
   have lgr:=(ho.lt g rfl).2;have hgr:r≠g:=by rw[←HRR.out];omega
   have r0:W5.cell? ⟨r,0,none⟩=some (.int .i64 (a:Int)):=cell_of_row _ _ 0 _ _ _ hbx;have r1:W5.cell? ⟨r,1,none⟩=some (.int .i64 (d:Int)):=cell_of_row _ _ 1 _ _ _ hbx;obtain⟨c0,f0⟩:=ho5.at_ ha;obtain⟨c1,f1⟩:=ho5.at_ hd;have hlpg:w.heap.size≠g:=by have:=(ho.lt g rfl).1;omega
   have HOW:=hI_ ho5;have HBW:=hI_ hb5;obtain⟨t0,t1,t2,t3,t4,t5,tf⟩:=qaa ((hb5.block _ lp).trans HP.out);have HRW:Hid (wr.heap.size=r):=HRR;clear ho5 hb5 hbx ho hbq;rw[←HW5.out] at r0 r1 c0 c1 f0 f1 t1 t3;have hr:=HRR.out;cases h1:st[a]
   · rw[h1] at c0;have h1':=hI_ h1;clear h1;cases h2:st[d]'hd
     · rw[h2] at c1;have h2':=hI_ h2;clear h2;go_wp2_with fail
       go_roundw
       case rel=>
        rw[HW5.out];exact⟨j+1,a_,t_,by rw[HSN.out,show qoI b st ((a:Int),(d:Int))=st from by unfold qoI;simp only[Int.toNat_natCast];rw[qam ha,h1'.out];simp only[Bool.false_and,Bool.false_eq_true,if_false];rw[qam hd,h2'.out];rfl];exact HOW.out,HBW.out⟩
       case measure=>simp[intOf];omega
     · rw[h2] at c1;have h2':=hI_ h2;clear h2;by_cases h3:(d:Int)=b
       · have h3':((d:Int)!=b)=false:=by simp[h3]
         have h4':=hI_ h3';clear h3;go_wp2_with fail
         go_roundw
         case rel=>
          rw[HW5.out];exact⟨j+1,a_,t_,by rw[HSN.out,show qoI b st ((a:Int),(d:Int))=st from by unfold qoI;simp only[Int.toNat_natCast];rw[qam ha,h1'.out];simp only[Bool.false_and,Bool.false_eq_true,if_false];rw[qam hd,h2'.out,h4'.out];rfl];exact HOW.out,HBW.out⟩
         case measure=>simp[intOf];omega
       · have h3':((d:Int)!=b)=true:=by simp[h3]
         have h4':=hI_ h3';clear h3;go_wp2_with fail
         go_roundw
         case rel=>
          rw[HW5.out];exact⟨j+1,a_,t_,by rw[HSN.out,show qoI b st ((a:Int),(d:Int))=st.set a true from by unfold qoI;simp only[Int.toNat_natCast];rw[qam ha,h1'.out];simp only[Bool.false_and,Bool.false_eq_true,if_false];rw[qam hd,h2'.out,h4'.out];rfl];exact((HOW.out).setAt (j:=a) ha true).1,(HBW.out).setCell (p:=⟨g,a,none⟩) (HOW.out.lt g rfl).1 _⟩
         case measure=>simp[intOf];omega
   · rw[h1] at c0;have h1':=hI_ h1;clear h1;by_cases h5:(a:Int)=b
     · have h5':((a:Int)!=b)=false:=by simp[h5]
       have h6':=hI_ h5';clear h5;cases h2:st[d]'hd
       · rw[h2] at c1;have h2':=hI_ h2;clear h2;go_wp2_with fail
         go_roundw
         case rel=>
          rw[HW5.out];exact⟨j+1,a_,t_,by rw[HSN.out,show qoI b st ((a:Int),(d:Int))=st from by unfold qoI;simp only[Int.toNat_natCast];rw[qam ha,h1'.out,h6'.out];simp only[Bool.and_false,Bool.false_eq_true,if_false];rw[qam hd,h2'.out];rfl];exact HOW.out,HBW.out⟩
         case measure=>simp[intOf];omega
       · rw[h2] at c1;have h2':=hI_ h2;clear h2;by_cases h3:(d:Int)=b
         · have h3':((d:Int)!=b)=false:=by simp[h3]
           have h4':=hI_ h3';clear h3;go_wp2_with fail
           go_roundw
           case rel=>
            rw[HW5.out];exact⟨j+1,a_,t_,by rw[HSN.out,show qoI b st ((a:Int),(d:Int))=st from by unfold qoI;simp only[Int.toNat_natCast];rw[qam ha,h1'.out,h6'.out];simp only[Bool.and_false,Bool.false_eq_true,if_false];rw[qam hd,h2'.out,h4'.out];rfl];exact HOW.out,HBW.out⟩
           case measure=>simp[intOf];omega
         · have h3':((d:Int)!=b)=true:=by simp[h3]
           have h4':=hI_ h3';clear h3;go_wp2_with fail
           go_roundw
           case rel=>
            rw[HW5.out];exact⟨j+1,a_,t_,by rw[HSN.out,show qoI b st ((a:Int),(d:Int))=st.set a true from by unfold qoI;simp only[Int.toNat_natCast];rw[qam ha,h1'.out,h6'.out];simp only[Bool.and_false,Bool.false_eq_true,if_false];rw[qam hd,h2'.out,h4'.out];rfl];exact((HOW.out).setAt (j:=a) ha true).1,(HBW.out).setCell (p:=⟨g,a,none⟩) (HOW.out.lt g rfl).1 _⟩
           case measure=>simp[intOf];omega
     · have h5':((a:Int)!=b)=true:=by simp[h5]
       have h6':=hI_ h5';clear h5;obtain⟨hs6,-⟩:=HOW.out.setAt hd true;have g1:=(hs6.at_ (j:=d) (by rw[List.length_set];exact hd))
       rw[List.getElem_set_self] at g1;obtain⟨g2,g3⟩:=hs6.at_ (j:=a) (by rw[List.length_set];exact ha);have b6:=(HBW.out).setCell (p:=⟨g,d,none⟩) (HOW.out.lt g rfl).1 (.bool true);obtain⟨s0,s1,s2,s3,s4,s5,sf⟩:=qaa ((b6.block _ lp).trans HP.out);have z0:=(qpg (w:=W5) (m:=d) (o:=0) (u:=.bool true) hgr).trans (show W5.cell? ⟨r,0,none⟩=some (.int .i64 (a:Int)) by have h:=r0;rw[HW5.out] at h;exact h);have z1:=(qpg (w:=W5) (m:=d) (o:=1) (u:=.bool true) hgr).trans (show W5.cell? ⟨r,1,none⟩=some (.int .i64 (d:Int)) by have h:=r1;rw[HW5.out] at h;exact h);obtain⟨g1a,g1b⟩:=g1;rw[←HW5.out] at g1a g1b g2 g3 s1 z0 z1;have HS6:=hI_ hs6;have HB6:=hI_ b6;clear hs6 b6 s0 s2 s3 s4 s5 sf;by_cases h3:(d:Int)=b
       · have h3':((d:Int)!=b)=false:=by simp[h3]
         have h4':=hI_ h3';clear h3;go_wp2_with fail
         go_roundw
         case rel=>
          rw[HW5.out];exact⟨j+1,a_,t_,by rw[HSN.out,show qoI b st ((a:Int),(d:Int))=st.set d true from by unfold qoI;simp only[Int.toNat_natCast];rw[qam ha,h1'.out,h6'.out];simp only[Bool.and_self,if_true];rw[qam (by rw[List.length_set];exact hd),List.getElem_set_self,h4'.out];rfl];exact HS6.out,HB6.out⟩
         case measure=>simp[intOf];omega
       · have h3':((d:Int)!=b)=true:=by simp[h3]
         have h4':=hI_ h3';clear h3;go_wp2_with fail
         go_roundw
         case rel=>
          rw[HW5.out];exact⟨j+1,a_,t_,by rw[HSN.out,show qoI b st ((a:Int),(d:Int))=(st.set d true).set a true from by unfold qoI;simp only[Int.toNat_natCast];rw[qam ha,h1'.out,h6'.out];simp only[Bool.and_self,if_true];rw[qam (by rw[List.length_set];exact hd),List.getElem_set_self,h4'.out];rfl];exact(HS6.out.setAt (j:=a) (by rw[List.length_set];exact ha) true).1,HB6.out.setCell (p:=⟨g,a,none⟩) (HOW.out.lt g rfl).1 _⟩
         case measure=>simp[intOf];omega
end Go.Proofs.YtekaaekpdebloaaGreatDoor
namespace Go.Proofs.YtekaaekpdebloaaGreatDoor
open Go.RowKit
attribute [local go_sem ↓] Go.wp_at_zero Go.wp_at_succ

def qfI(w:World)(e:Ending)(w':World):Prop:=∃ x uF uL uA uN,e=.returned (.agg #[.int .i64 x.sec,.int .i64 x.bad,uF,uL,uA,uN])∧qhP x∧WdS w' x uF uL uA uN∧bB w w'
end Go.Proofs.YtekaaekpdebloaaGreatDoor
namespace Go.Proofs.YtekaaekpdebloaaGreatDoor
open Go.RowKit Go.ChangeShapes Go.WideShapes Go.Deep

theorem qnx{n:Int}(h:(Lit.int .u8 n).wf=true):((UInt8.ofNat n.toNat).toNat:Int)=n:=by
 have h1:0≤n∧n≤255:=by
  simp[Lit.wf,IntKind.min,IntKind.max,IntKind.signed,IntKind.bits] at h;omega
 rw[UInt8.toNat_ofNat'];omega
theorem qiE{H:Type}{enc:TypeId×Value→H}{w:World}{base:Nat}{held:Bool}{v:Value}{d:DataW H}{p:List MemPlace}{r:Reach}{b0:Nat}(hv:Value.okWide Tryz.prog w r b0 22 v)(h:DataW.Trod enc Tryz.prog w base (fun _=>true) held 22 v d p):∃ bs,RU w v bs:=by
 obtain⟨a,n,c,rfl⟩:=okWide_slice Tryz.underlying22 hv;obtain⟨fuel,hf⟩:=h;obtain⟨l,h1,_⟩:=qnO (α:=UInt8) (Enc:=fun b=>Value.int .u8 (b.toNat:Int)) (Q:=fun _=>True) Tryz.underlying22 d_ (fun n V y hy=>by
  obtain⟨s,h1,_,h3⟩:=DataW.trod_int Tryz.underlying5 hy;refine⟨UInt8.ofNat s.toNat,?_,trivial⟩;rw[qnx h3];simpa using h1) hf
 exact⟨l,h1⟩
end Go.Proofs.YtekaaekpdebloaaGreatDoor
namespace Go.Proofs.YtekaaekpdebloaaGreatDoor
open Go Go.RowKit

theorem qwE{P:Program}{ops:Array Oper}{Q:Exit→Act→World→Prop}{id:Nat}{a:Act}{w D:World}{S:World→Prop}(b:Nat→Bool)(hD:w.drew=D)(hS:∀ W,bB D W→S W)
 (h:S D→qsQ .any ops (Array.replicate ops.size false)→qrP P .any ops Q S b ops.size (Array.replicate ops.size false) a D) (hm:P.follows .mixedOrders=true:=by kernel_rfl):(Code.region id ops true).wp P Q a w:=by
 subst hD;exact qrO S b hm (hS _ (bR_ _ _)) h
end Go.Proofs.YtekaaekpdebloaaGreatDoor
namespace Go.Proofs.YtekaaekpdebloaaGreatDoor
open Go.RowKit
attribute [local go_sem ↓] Go.wp_at_zero Go.wp_at_succ

theorem qvx(bs:List UInt8)(v:Value)(w:World)(hv:RU w v bs):Calls Tryz.prog 33 #[v] w (qfI w):=by
 obtain⟨W0,HW0⟩:=nm_ (w.alloc (.cells #[.int .i64 0,.int .i64 0,.slice none 0 0,.slice none 0 0,.slice none 0 0,.slice none 0 0] 28));have HB0:Hid (bB w W0):=hI_ q_;have HZ0:Hid (W0.heap[w.heap.size]? =some (.cells #[.int .i64 0,.int .i64 0,.slice none 0 0,.slice none 0 0,.slice none 0 0,.slice none 0 0] 28 (0,0))):=hI_ (by rw[←HW0.out];exact heap_alloc_new w _);have hl0:w.heap.size<W0.heap.size:=by rw[←HW0.out];simp
 have HV:Hid (RU W0 v bs):=hI_ (hv.below HB0.out);obtain⟨A,c,rfl,_,_,_⟩:=hv;go_enter Tryz.func33,Tryz.ntmps33
 go_wp2_with fail
 rw[HW0.out];refine(qkM bs _ W0 HV.out).mono ?_;rintro e w1 ⟨g,rfl,hg,r1,hb1⟩;have hg1:=r1.lt;go_wp2_with fail
 refine(qiw g 0 w1 r1 a_).mono ?_;rintro e w3 ⟨x,uF,uL,uA,uN,rfl,hd,hs,r3,o3⟩;obtain⟨⟨A1,c1,rfl⟩,⟨A2,c2,rfl⟩,⟨A3,c3,rfl⟩,⟨A4,c4,rfl⟩⟩:=hs.sl;have h4:=hb1.trans (o3.below hg hg1);have hz:=(h4.block _ hl0).trans HZ0.out;have HR:Hid (qfI w (.returned (.agg #[.int .i64 x.sec,.int .i64 x.bad,.slice A1 x.feeds.length c1,.slice A2 x.links.length c2,.slice A3 x.asked.length c3,.slice A4 x.net.length c4])) ((((((w3.setCell ⟨w.heap.size,0,none⟩ (.int .i64 x.sec)).setCell ⟨w.heap.size,1,none⟩ (.int .i64 x.bad)).setCell ⟨w.heap.size,2,none⟩ (.slice A1 x.feeds.length c1)).setCell ⟨w.heap.size,3,none⟩ (.slice A2 x.links.length c2)).setCell ⟨w.heap.size,4,none⟩ (.slice A3 x.asked.length c3)).setCell ⟨w.heap.size,5,none⟩ (.slice A4 x.net.length c4))):=hI_
  ⟨x,_,_,_,_,rfl,hd,hs.set6 hz _ _ _ _ _ _,qae (HB0.out.trans (h4.mono (Nat.le_of_lt hl0))) (nr_ _) _ _ _ _ _ _⟩
 obtain⟨z0,z1,z2,z3,z4,z5,zf⟩:=qaa hz;clear hd hs r3 o3 h4 hz;go_wp2_with fail
 refine bodyPost_ret (v:=.agg #[.int .i64 x.sec,.int .i64 x.bad,.slice A1 x.feeds.length c1,.slice A2 x.links.length c2,.slice A3 x.asked.length c3,.slice A4 x.net.length c4]) (by simp[results,Tryz.results33,go_sem,z0,z1,z2,z3,z4,z5]) rfl HR.out
theorem FnWorldInvalid_any(bs:List UInt8)(v:Value)(w:World)(hv:RU w v bs)(he:qsC w):gV 11 #[v] w (.bool true):=by
 have HV:=hI_ hv;have HER:=hI_ he;have HLT:=hI_ he.lt;clear he;obtain⟨A,c,rfl,n1,n2,n3⟩:=hv;unfold maxLen at n2;have hbm:bs.length≤9223372036854775807:=by have:=n1.1;omega
 clear n1 n2 n3;by_cases hl:1048576<bs.length
 · have hl':(1048576:Int)<(bs.length:Int):=a_;go_enter Tryz.func11,Tryz.ntmps11
   go_wp2
   go_ret;exact⟨rfl,bR_ _ _⟩
 have hl':¬ (1048576:Int)<(bs.length:Int):=a_;clear hl;go_enter Tryz.func11,Tryz.ntmps11
 go_wp2_with fail
 refine(qvx bs _ w HV.out).mono ?_;rintro e w1 ⟨x,uF,uL,uA,uN,rfl,hd,hs,hb1⟩;obtain⟨⟨A1,c1,rfl⟩,⟨A2,c2,rfl⟩,⟨A3,c3,rfl⟩,⟨A4,c4,rfl⟩⟩:=hs.sl;obtain⟨p,HPP⟩:=nm_ w1.heap.size;obtain⟨W1,HW1⟩:=nm_ (w1.alloc (.cells #[.int .i64 x.sec,.int .i64 x.bad,.slice A1 x.feeds.length c1,.slice A2 x.links.length c2,.slice A3 x.asked.length c3,.slice A4 x.net.length c4] 28));have hb11:bB w1 W1:=by rw[←HW1.out];exact qab (bR_ _ _) _
 have HB1:=hI_ (hb1.trans (hb11.mono hb1.size));have HS1:=hI_ (hs.below hb11);have HX1:Hid (W1.heap[p]? =some (.cells #[.int .i64 x.sec,.int .i64 x.bad,.slice A1 x.feeds.length c1,.slice A2 x.links.length c2,.slice A3 x.asked.length c3,.slice A4 x.net.length c4] 28 (0,0))):=hI_ (by rw[←HW1.out,←HPP.out];exact heap_alloc_new _ _);have HD:=hI_ hd;clear hd hs hb1 hb11 hbm hl';obtain⟨p0,p1,p2,p3,p4,p5,pf⟩:=qaa HX1.out;go_upto_region 4 with fail
 rw[HW1.out,HPP.out];obtain⟨bv,HBV⟩:=nm_ (qcc x);go_wp2_with fail
 refine(qfi x _ _ _ _ W1 HS1.out.r HD.out.t).mono ?_;rintro e w2 ⟨rfl,hb2⟩;have HB2:=hI_ (HB1.out.trans (hb2.mono HB1.out.size));have HX2:=hI_ ((hb2.block _ (qai HX1.out)).trans HX1.out);have HS2:=hI_ (HS1.out.below hb2);rw[HBV.out];clear hb2 p0 p1 p2 p3 p4 p5 pf;obtain⟨p0,p1,p2,p3,p4,p5,pf⟩:=qaa HX2.out;go_wp2_with fail
 refine(qdO x _ _ _ _ w2 HS2.out.r HD.out.t).mono ?_;rintro e w3 ⟨rfl,hb3⟩;have HB3:=hI_ (HB2.out.trans (hb3.mono HB2.out.size));have HX3:=hI_ ((hb3.block _ (qai HX2.out)).trans HX2.out);have HS3:=hI_ (HS2.out.below hb3);rw[HBV.out];clear hb3 p0 p1 p2 p3 p4 p5 pf;cases bv
 rotate_left
 · have htt:(true !=true)=false:=rfl;go_wp2_with fail
   go_ret;exact⟨rfl,HB3.out⟩
 have hff:(false !=false)=false:=rfl;obtain⟨r,HR⟩:=nm_ w3.heap.size;obtain⟨W4,HW4⟩:=nm_ (w3.alloc (.cells #[.int .i64 0,.int .i64 0,.slice none 0 0,.slice none 0 0,.slice none 0 0,.slice none 0 0] 28));have hb34:bB w3 W4:=by rw[←HW4.out];exact qab (bR_ _ _) _
 have HB4:=hI_ (HB3.out.trans (hb34.mono HB3.out.size));have HX4:=hI_ ((hb34.block _ (qai HX3.out)).trans HX3.out);have HZ4:Hid (W4.heap[r]? =some (.cells #[.int .i64 0,.int .i64 0,.slice none 0 0,.slice none 0 0,.slice none 0 0,.slice none 0 0] 28 (0,0))):=hI_ (by rw[←HW4.out,←HR.out];exact heap_alloc_new _ _);have HS4:=hI_ (HS3.out.below hb34);clear hb34;go_upto_region 9 with fail
 rw[HW4.out,HR.out];obtain⟨D,HD0⟩:∃ D,W4.drew=D:=⟨_,rfl⟩
 have hbD:bB W4 D:=by rw[←HD0];exact qac (bR_ _ _)
 have HBD:=hI_ (HB4.out.trans (hbD.mono HB4.out.size));have HXD:=hI_ ((hbD.block _ (qai HX4.out)).trans HX4.out);have HZD:=hI_ ((hbD.block _ (qai HZ4.out)).trans HZ4.out);have HSD:=hI_ (HS4.out.below hbD);clear hbD HX4 HZ4 HS4 HW4 HR;have HSS:Hid (∀ W,bB D W→W.cell? ⟨p,0,none⟩=some (.int .i64 x.sec)∧W.cell? ⟨p,1,none⟩=some (.int .i64 x.bad)∧W.cell? ⟨p,2,none⟩=some (.slice A1 x.feeds.length c1)∧W.cell? ⟨p,3,none⟩=some (.slice A2 x.links.length c2)∧W.cell? ⟨p,4,none⟩=some (.slice A3 x.asked.length c3)∧W.cell? ⟨p,5,none⟩=some (.slice A4 x.net.length c4)∧W.cell? ⟨r,0,none⟩=some (.int .i64 0)∧W.cell? ⟨r,1,none⟩=some (.int .i64 0)∧W.cell? ⟨r,2,none⟩=some (.slice none 0 0)∧W.cell? ⟨r,3,none⟩=some (.slice none 0 0)∧W.cell? ⟨r,4,none⟩=some (.slice none 0 0)∧W.cell? ⟨r,5,none⟩=some (.slice none 0 0)):=hI_ (fun W hb=>by
  obtain⟨p0,p1,p2,p3,p4,p5,pf⟩:=qaa ((hb.block _ (qai HXD.out)).trans HXD.out);obtain⟨z0,z1,z2,z3,z4,z5,zf⟩:=qaa ((hb.block _ (qai HZD.out)).trans HZD.out);exact⟨p0,p1,p2,p3,p4,p5,z0,z1,z2,z3,z4,z5⟩)
 have HDO:Hid (∀ W,bB D W→Calls Tryz.prog 15 #[.agg #[.int .i64 x.sec,.int .i64 x.bad,.slice A1 x.feeds.length c1,.slice A2 x.links.length c2,.slice A3 x.asked.length c3,.slice A4 x.net.length c4],.agg #[.int .i64 0,.int .i64 0,.int .i64 0,.int .i64 0,.string ⟨#[]⟩]] W fun e w'=>∃ vF vL vA vN,e=.returned (.agg #[.int .i64 0,.int .i64 0,vF,vL,vA,vN])∧WdR w' Wd.zero vF vL vA vN∧bB W w'):=hI_ (fun W hb=>by
  refine(qtD x ⟨0,0,0,0,⟨#[]⟩⟩ _ _ _ _ W (HSD.out.below hb).r HD.out.t (Nat.zero_le _) (HER.out.next HLT.out (HBD.out.trans (hb.mono HBD.out.size)))).mono ?_;rintro e w' ⟨vF,vL,vA,vN,rfl,hp,hb'⟩;rw[qtM HBV.out] at hp ⊢;exact⟨vF,vL,vA,vN,rfl,hp.st.r,hb'⟩)
 have HCA:Hid (∀ W,bB D W→Calls Tryz.prog 22 #[.agg #[.int .i64 x.sec,.int .i64 x.bad,.slice A1 x.feeds.length c1,.slice A2 x.links.length c2,.slice A3 x.asked.length c3,.slice A4 x.net.length c4]] W fun e w'=>∃ vF vL vA vN,e=.returned (.agg #[.int .i64 0,.int .i64 0,vF,vL,vA,vN])∧WdR w' Wd.zero vF vL vA vN∧bB W w'):=hI_ (fun W hb=>by
  refine(qfG x _ _ _ _ W (HSD.out.below hb).r HD.out.t).mono ?_;rintro e w' ⟨vF,vL,vA,vN,rfl,hp,hb'⟩;rw[show qcL x=Wd.zero by unfold qcL;rw[HBV.out];rfl] at hp ⊢;exact⟨vF,vL,vA,vN,rfl,hp.st.r,hb'⟩)
 have HRE:Hid (∀ W,bB D W→Calls Tryz.prog 23 #[.agg #[.int .i64 x.sec,.int .i64 x.bad,.slice A1 x.feeds.length c1,.slice A2 x.links.length c2,.slice A3 x.asked.length c3,.slice A4 x.net.length c4]] W fun e w'=>(∃ A c,e=.returned (.slice A 0 c))∧bB W w'):=hI_ (fun W hb=>by
  refine(qoP x _ _ _ _ W (HSD.out.below hb).r HD.out.t).mono ?_;rintro e w' ⟨v',rfl,ho,hb'⟩;rw[show qoK x=[] by unfold qoK;rw[HBV.out];rfl] at ho;obtain⟨A,c,rfl⟩:=ho.sl;exact⟨⟨A,c,rfl⟩,hb'⟩)
 have HSM:Hid (∀ W vF vL vA vN,WdR W Wd.zero vF vL vA vN→Calls Tryz.prog 17 #[.agg #[.int .i64 0,.int .i64 0,vF,vL,vA,vN],.agg #[.int .i64 0,.int .i64 0,.slice none 0 0,.slice none 0 0,.slice none 0 0,.slice none 0 0]] W fun e w'=>e=.returned (.bool true)∧bB W w'):=hI_ (fun W vF vL vA vN h=>qcK Wd.zero vF vL vA vN _ _ _ _ W h (WdP.zero (B:=0) (C:=0)).st.r);refine qwE (fun i=>decide (i<4∨i=6∨i=7∨i=8)) HD0 HSS.out (fun hS hI=> ?_);clear HD0;refine gU_ ?_ hI hS;clear hI;refine tU_ 0 ?_;refine tU_ 1 ?_;refine tU_ 3 ?_;refine eU_ fun hI=>?_;clear hS;refine qrQ (i:=2) hI rfl d_ (fun K_ hK=> ?_);clear hI;go_simp;go_at_call 15
 refine(HDO.out _ (bR_ _ _)).mono ?_;rintro e w5 ⟨vF,vL,vA,vN,rfl,hr5,hb5⟩;have HR5:=hI_ hr5;have HB5:=hI_ hb5;clear hr5 hb5;refine hK.out _ _ (HSS.out _ HB5.out) (fun hI=> ?_);clear hK;refine qrK (i:=4) hI rfl d_ rfl (fun K_ hK=> ?_);clear hI;go_simp;go_at_call 17
 refine(HSM.out _ _ _ _ _ HR5.out).mono ?_;rintro e w6 ⟨rfl,hb6⟩;have HB6:=hI_ (HB5.out.trans (hb6.mono HB5.out.size));clear hb6;refine hK.out _ _ (fun hI=> ?_);clear hK;refine qrK (i:=5) hI rfl d_ rfl (fun K_ hK=> ?_);clear hI;go_simp;refine hK.out _ _ (fun hI=> ?_);clear hK;have hS:=HSS.out _ HB6.out;refine gU_ ?_ hI hS;clear hI;refine tU_ 6 ?_;refine tU_ 8 ?_;refine eU_ fun hI=>?_;clear hS;refine qrQ (i:=7) hI rfl d_ (fun K_ hK=> ?_);clear hI;go_simp;go_at_call 22
 refine(HCA.out _ HB6.out).mono ?_;rintro e w7 ⟨vF2,vL2,vA2,vN2,rfl,hr7,hb7⟩;have HR7:=hI_ hr7;have HB7:=hI_ (HB6.out.trans (hb7.mono HB6.out.size));clear hr7 hb7;refine hK.out _ _ (HSS.out _ HB7.out) (fun hI=> ?_);clear hK;refine qrK (i:=9) hI rfl d_ rfl (fun K_ hK=> ?_);clear hI;go_simp;go_at_call 17
 refine(HSM.out _ _ _ _ _ HR7.out).mono ?_;rintro e w8 ⟨rfl,hb8⟩;have HB8:=hI_ (HB7.out.trans (hb8.mono HB7.out.size));clear hb8;refine hK.out _ _ (fun hI=> ?_);clear hK;refine qrK (i:=10) hI rfl d_ rfl (fun K_ hK=> ?_);clear hI;go_simp;refine hK.out _ _ (fun hI=> ?_);clear hK;refine qrK (i:=11) hI rfl d_ rfl (fun K_ hK=> ?_);clear hI;go_simp;refine hK.out _ _ (fun hI=> ?_);clear hK;have hS:=HSS.out _ HB8.out;obtain⟨p0,p1,p2,p3,p4,p5,-⟩:=hS;refine qrK (i:=12) hI rfl d_ rfl (fun K_ hK=> ?_);clear hI;go_simp;refine hK.out _ _ (fun hI=> ?_);clear hK;clear p0 p1 p2 p3 p4 p5;refine qrK (i:=13) hI rfl d_ rfl (fun K_ hK=> ?_);clear hI;go_simp;go_at_call 23
 refine(HRE.out _ HB8.out).mono ?_;rintro e w9 ⟨⟨RA,rc,rfl⟩,hb9⟩;have HB9:=hI_ (HB8.out.trans (hb9.mono HB8.out.size));clear hb9;refine hK.out _ _ (fun hI=> ?_);clear hK;refine qrK (i:=14) hI rfl d_ rfl (fun K_ hK=> ?_);clear hI;go_simp;refine hK.out _ _ (fun hI=> ?_);clear hK;refine qrK (i:=15) hI rfl d_ rfl (fun K_ hK=> ?_);clear hI;go_simp;refine hK.out _ _ (fun hI=> ?_);clear hK;refine qrK (i:=16) hI rfl d_ rfl (fun K_ hK=> ?_);clear hI;go_simp;refine hK.out _ _ (fun hI=> ?_);clear hK;refine qrK (i:=17) hI rfl d_ rfl (fun K_ hK=> ?_);clear hI;go_simp;refine hK.out _ _ (fun hI=> ?_);clear hK;refine qrM d_ ?_;go_wp2_with fail
 go_ret;exact⟨rfl,HBD.out.trans (HB9.out.mono HBD.out.size)⟩
end Go.Proofs.YtekaaekpdebloaaGreatDoor
namespace Go.Proofs.YtekaaekpdebloaaGreatDoor
open Go.RowKit

section
variable {T:List TypeId} {B C B1 B2:Nat} {w w':World} {v vF vL vA vN:Value} {x:Wd}
theorem WdO.p(h:WdO B C w x vF vL vA vN):WdP B C w x vF vL vA vN:=by
 obtain⟨b1,b2,b3,h1,h2,h3,h4,p1,p2,p3,p4⟩:=h;exact⟨p1.mono (nr_ _) a_,p2.mono a_ a_,p3.mono a_ a_,p4.mono a_ (nr_ _)⟩
end
end Go.Proofs.YtekaaekpdebloaaGreatDoor

/- Words and walks of the law. -/
import Derived.Test.YtekaaekpdebloaaGreatDoorCP
set_option linter.unusedVariables false
set_option linter.unusedSimpArgs false
namespace Go.Proofs.YtekaaekpdebloaaGreatDoor
open Go.RowKit

def qi6(f0:Fd)(n g P:Nat)(w:World)(e:Ending)(w':World):Prop:=
 ∃ f ub uh,e=.returned (.agg #[.int .i64 f.pub,.int .i64 f.hd.len,.int .i64 f.hd.dg,.int .i64 f.hd.sg,ub,uh])∧qaK w.heap.size w' f ub uh∧f.bl.length≤n∧f.hv.length≤n+1∧(∀ x ∈ f.bl,x.size≤10)∧(f.hd=f0.hd∨∃ y:Int,f.hd={f0.hd with dg:=y})∧Rdr w' g P∧qbb g w w'
set_option maxHeartbeats 3200000 in
set_option maxRecDepth 100000 in
theorem qit(g P:Nat)(f:Fd)(vb vh:Value)(w:World)(hr:Rdr w g P)(hP:P≤200000)(hf:qaU w f vb vh)(hL1:f.bl.length≤17)(hL2:f.hv.length≤17)(hs:∀ x ∈ f.bl,x.size≤10):
 Calls Tryz.prog 99 #[.pointer (some ⟨g,0,none⟩),.agg #[.int .i64 f.pub,.int .i64 f.hd.len,.int .i64 f.hd.dg,.int .i64 f.hd.sg,vb,vh]] w (qi6 f (max f.bl.length f.hv.length) g (P+15) w):=by
 have hgl:=hr.lt;have HSZ:=hI_ hs;clear hs;obtain⟨W0,HW0⟩:=nm_ ((w.alloc (.cells #[.int .i64 f.pub,.int .i64 f.hd.len,.int .i64 f.hd.dg,.int .i64 f.hd.sg,vb,vh] 50)).alloc (.cells #[.int .i64 0,.int .i64 0,.int .i64 0,.int .i64 0,.slice none 0 0,.slice none 0 0] 50));have HB0:Hid (Below w.heap.size w W0):=hI_ r_;have hs0:w.heap.size+2=W0.heap.size:=by rw[←HW0.out];simp
 have hp0:W0.heap[w.heap.size]? =some (.cells #[.int .i64 f.pub,.int .i64 f.hd.len,.int .i64 f.hd.dg,.int .i64 f.hd.sg,vb,vh] 50 (0,0)):=by
  rw[←HW0.out];exact(((bR_ (w.heap.size+1) _).alloc k_ _).block w.heap.size a_).trans (heap_alloc_new w _)
 have hz0:W0.heap[w.heap.size+1]? =some (.cells #[.int .i64 0,.int .i64 0,.int .i64 0,.int .i64 0,.slice none 0 0,.slice none 0 0] 50 (0,0)):=by
  rw[←HW0.out];have:=heap_alloc_new (w.alloc (.cells #[.int .i64 f.pub,.int .i64 f.hd.len,.int .i64 f.hd.dg,.int .i64 f.hd.sg,vb,vh] 50)) (.cells #[.int .i64 0,.int .i64 0,.int .i64 0,.int .i64 0,.slice none 0 0,.slice none 0 0] 50);simpa using this
 have hl0:w.heap.size<W0.heap.size:=a_;have hl1:w.heap.size+1<W0.heap.size:=a_;have hgW:g<W0.heap.size:=a_;have hgp:g≠w.heap.size:=a_;have hgz:w.heap.size+1≠g:=a_;have HR0:=hI_ (hr.below HB0.out);have HF0:Hid (qaU W0 f vb vh):=hI_ (hf.below HB0.out);obtain⟨A,c,rfl,_,_,_⟩:=hf.bl;obtain⟨B,d,rfl,_,_,_⟩:=hf.hv;obtain⟨x0,x1,x2,x3,x4,x5,xf⟩:=qaa hp0;have HP0:=hI_ hp0;have HZ0:=hI_ hz0;clear hp0 hz0 hf hr;go_enter Tryz.func99,Tryz.ntmps99
 go_wp2_with fail
 rw[HW0.out];refine(qc1 f _ _ W0 HF0.out a_ a_).mono ?_;rintro e w1 ⟨ub,uh,rfl,ho1,hb1⟩;obtain⟨uA,uc,rfl⟩:=ho1.bl.sl;obtain⟨tA,tc,rfl⟩:=ho1.hv.sl;have hp1:=(hb1.block _ hl0).trans HP0.out;have hz1:=(hb1.block _ hl1).trans HZ0.out;have r1:=HR0.out.below hb1;obtain⟨v0,v1,v2,v3,v4,v5,vf⟩:=qaa hp1;have hf2:=FB.fill hp1 ho1;have r2:=qcw r1 hgl (.int .i64 f.pub) (.int .i64 f.hd.len) (.int .i64 f.hd.dg) (.int .i64 f.hd.sg) (.slice uA f.bl.length uc) (.slice tA f.hv.length tc);have oo2:qbb g w _:=qbZ (qbb.of_below (HB0.out.trans (hb1.mono (Nat.le_of_lt hl0)))) (nr_ w.heap.size) (.int .i64 f.pub) (.int .i64 f.hd.len) (.int .i64 f.hd.dg) (.int .i64 f.hd.sg) (.slice uA f.bl.length uc) (.slice tA f.hv.length tc);have hz2:=(qcN (w:=w1) (q:=w.heap.size) (k:=w.heap.size+1) a_ (.int .i64 f.pub) (.int .i64 f.hd.len) (.int .i64 f.hd.dg) (.int .i64 f.hd.sg) (.slice uA f.bl.length uc) (.slice tA f.hv.length tc)).trans hz1;have hW2:W0.heap.size≤((((((w1.setCell ⟨w.heap.size,0,none⟩ (.int .i64 f.pub)).setCell ⟨w.heap.size,1,none⟩ (.int .i64 f.hd.len)).setCell ⟨w.heap.size,2,none⟩ (.int .i64 f.hd.dg)).setCell ⟨w.heap.size,3,none⟩ (.int .i64 f.hd.sg)).setCell ⟨w.heap.size,4,none⟩ (.slice uA f.bl.length uc)).setCell ⟨w.heap.size,5,none⟩ (.slice tA f.hv.length tc)).heap.size:=by simpa using hb1.size
 go_wp2_with fail
 obtain⟨W2,HW2⟩:=nm_ (((((((w1.setCell ⟨w.heap.size,0,none⟩ (.int .i64 f.pub)).setCell ⟨w.heap.size,1,none⟩ (.int .i64 f.hd.len)).setCell ⟨w.heap.size,2,none⟩ (.int .i64 f.hd.dg)).setCell ⟨w.heap.size,3,none⟩ (.int .i64 f.hd.sg)).setCell ⟨w.heap.size,4,none⟩ (.slice uA f.bl.length uc)).setCell ⟨w.heap.size,5,none⟩ (.slice tA f.hv.length tc)));rw[HW2.out] at hf2 r2 oo2 hz2 hW2 ⊢;clear r1 hb1 ho1 hp1 hz1 v0 v1 v2 v3 v4 v5 vf x0 x1 x2 x3 x4 x5 xf;refine(qan g P 24 W2 r2 a_ a_ a_).mono ?_;rintro e w3 ⟨x,rfl,a1,a2,r3,o3⟩;have hf3:=hf2.only o3 hgW hgp;have hz3:=(o3.box (nL_ hl1 hW2) hgz).trans hz2;have oo3:=oo2.trans o3;have hW3:=Nat.le_trans hW2 o3.size;clear r2 hf2 hz2 oo2 o3 hW2;have hx:x=0∨x=1∨x=2∨x=3∨4≤x:=a_;rcases hx with rfl|rfl|rfl|rfl|hx
 · go_wp2_with fail
   refine(qeN g (P+1) w3 r3 a_).mono ?_;rintro e w4 ⟨y,rfl,b1,b2,r4,o4⟩;have hf4:=hf3.only o4 hgW hgp;have oo4:=oo3.trans o4;obtain⟨y0,y1,y2,y3,y4,y5,yf⟩:=qaa ((o4.box (nL_ hl1 hW3) hgz).trans hz3);have k0:=hf4.c0;have k1:=hf4.c1;have k2:=hf4.c2;have k3:=hf4.c3;have k4:=hf4.c4;have k5:=hf4.c5;have kf:=hf4.fz;have hf5:=hf4.set0 y;clear hf3 hf4 r3 hz3 oo3 o4;go_wp2
   refine bodyPost_ret (v:=.agg #[.int .i64 y,.int .i64 f.hd.len,.int .i64 f.hd.dg,.int .i64 f.hd.sg,.slice uA f.bl.length uc,.slice tA f.hv.length tc]) bO_ rfl ⟨{f with pub:=y},_,_,rfl,?_,Nat.le_max_left _ _,Nat.le_succ_of_le (Nat.le_max_right _ _),HSZ.out,.inl rfl,?_,?_⟩
   · exact(qaK.set6 hf5.fo hl1 _ _ _ _ _ _).mono (Nat.le_of_lt hl0)
   · exact(qcw (r4.set (p:=⟨w.heap.size,0,none⟩) hgl (.int .i64 y)) a_ _ _ _ _ _ _).mono a_
   · exact qbZ (oo4.set (p:=⟨w.heap.size,0,none⟩) (nr_ _) (.int .i64 y)) (Nat.le_succ _) _ _ _ _ _ _
 · go_wp2_with fail
   refine(qhw g (P+1) w3 r3 a_).mono ?_;rintro e w4 ⟨y,rfl,b1,b2,r4,o4⟩;have hf4:=hf3.only o4 hgW hgp;have oo4:=oo3.trans o4;obtain⟨y0,y1,y2,y3,y4,y5,yf⟩:=qaa ((o4.box (nL_ hl1 hW3) hgz).trans hz3);have k0:=hf4.c0;have k1:=hf4.c1;have k2:=hf4.c2;have k3:=hf4.c3;have k4:=hf4.c4;have k5:=hf4.c5;have kf:=hf4.fz;have hf5:=hf4.set2 y;clear hf3 hf4 r3 hz3 oo3 o4;go_wp2
   refine bodyPost_ret (v:=.agg #[.int .i64 f.pub,.int .i64 f.hd.len,.int .i64 y,.int .i64 f.hd.sg,.slice uA f.bl.length uc,.slice tA f.hv.length tc]) bO_ rfl ⟨{f with hd:={f.hd with dg:=y}},_,_,rfl,?_,Nat.le_max_left _ _,Nat.le_succ_of_le (Nat.le_max_right _ _),HSZ.out,.inr ⟨y,rfl⟩,?_,?_⟩
   · exact(qaK.set6 hf5.fo hl1 _ _ _ _ _ _).mono (Nat.le_of_lt hl0)
   · exact(qcw (r4.set (p:=⟨w.heap.size,2,none⟩) hgl (.int .i64 y)) a_ _ _ _ _ _ _).mono a_
   · exact qbZ (oo4.set (p:=⟨w.heap.size,2,none⟩) (nr_ _) (.int .i64 y)) (Nat.le_succ _) _ _ _ _ _ _
 · have k0:=hf3.c0;have k1:=hf3.c1;have k2:=hf3.c2;have k3:=hf3.c3;have k4:=hf3.c4;have k5:=hf3.c5;have kf:=hf3.fz
   go_wp2_with (at_builtin;refine qjL hf3.fo.hv a_ a_ rfl rfl rfl rfl ?_;intro v4 w4 ho4 hg4;obtain⟨zA,zn,zc,rfl,hz4⟩:=ho4.sl2
                obtain⟨y0,y1,y2,y3,y4,y5,yf⟩:=qaa ((hg4.block _ (nL_ hl1 hW3) (fun e=>by have:=(hf3.fo.hv.lt _ e.symm).1;omega)).trans hz3);obtain⟨m0,m1,m2,m3,m4,m5,mf⟩:=qaa ((hg4.block _ hf3.lt (fun e=>hf3.nh e.symm)).trans hf3.box);have hf5:=hf3.set5 hg4 ho4;have r5:=(r3.grown hg4 (fun r e=>nL_ hgW (hf3.fo.hv.lt r e).1)).set (p:=⟨w.heap.size,5,none⟩) hgl (.slice zA zn zc);have oo5:=(oo3.grown hg4 (fun r e=>Nat.le_trans (Nat.le_of_lt hl0) (hf3.fo.hv.lt r e).1)).set (p:=⟨w.heap.size,5,none⟩) (nr_ _) (.slice zA zn zc);clear ho4 hg4)
   refine bodyPost_ret (v:=.agg #[.int .i64 f.pub,.int .i64 f.hd.len,.int .i64 f.hd.dg,.int .i64 f.hd.sg,.slice uA f.bl.length uc,.slice zA zn zc]) bO_ rfl ⟨{f with hv:=f.hv++[true]},_,_,rfl,?_,Nat.le_max_left _ _,(by have:=Nat.le_max_right f.bl.length f.hv.length;simp;omega),HSZ.out,.inl rfl,?_,?_⟩
   · exact(qaK.set6 hf5.fo hl1 _ _ _ _ _ _).mono (Nat.le_of_lt hl0)
   · exact(qcw r5 a_ _ _ _ _ _ _).mono a_
   · exact qbZ oo5 (Nat.le_succ _) _ _ _ _ _ _
 · by_cases hl:f.bl.length=0
   · have hl2:¬ (0:Int)<(f.bl.length:Int):=a_;clear hl;have k0:=hf3.c0;have k1:=hf3.c1;have k2:=hf3.c2;have k3:=hf3.c3;have k4:=hf3.c4;have k5:=hf3.c5;have kf:=hf3.fz;obtain⟨y0,y1,y2,y3,y4,y5,yf⟩:=qaa hz3;go_wp2
     refine bodyPost_ret (v:=.agg #[.int .i64 f.pub,.int .i64 f.hd.len,.int .i64 f.hd.dg,.int .i64 f.hd.sg,.slice uA f.bl.length uc,.slice tA f.hv.length tc]) bO_ rfl ⟨f,_,_,rfl,?_,Nat.le_max_left _ _,Nat.le_succ_of_le (Nat.le_max_right _ _),HSZ.out,.inl rfl,?_,?_⟩
     · exact(qaK.set6 hf3.fo hl1 _ _ _ _ _ _).mono (Nat.le_of_lt hl0)
     · exact(qcw r3 a_ _ _ _ _ _ _).mono a_
     · exact qbZ oo3 (Nat.le_succ _) _ _ _ _ _ _
   · have hl2:(0:Int)<(f.bl.length:Int):=a_;obtain⟨gb,cap,hA,hgb1,hgb2⟩:=hf3.fo.bl.form a_;cases hA;have k0:=hf3.c0;have k1:=hf3.c1;have k2:=hf3.c2;have k3:=hf3.c3;have k4:=hf3.c4;have k5:=hf3.c5;have kf:=hf3.fz;have hgbp:gb≠w.heap.size:=a_;have hgbp':¬ gb=w.heap.size:=a_;have hfd:=hf3.below (qac (bR_ _ _));have rd:=r3.below (qac (bR_ _ _));have ood:=oo3.thenB (qac (bR_ _ _));have hzd:w3.drew.heap[w.heap.size+1]? =_:=hz3;have hWd:W0.heap.size≤w3.drew.heap.size:=hW3;go_wp2_with fail
     go_region_held3 (fun w'=>w'.cell? ⟨w.heap.size,4,none⟩=some (.slice (some ⟨gb,0,none⟩) f.bl.length uc)) (first|exact k4|exact s4|exact s5|go_keep)
      (first
        |(go_at_call 49;refine(qan g (P+1) f.bl.length _ rd a_ a_ a_).mono ?_;rintro e w4 ⟨u,rfl,u1,u2,r4,o4⟩;obtain⟨m,rfl⟩:∃ m:Nat,u=m:=⟨u.toNat,a_⟩;have hf4:=hfd.only o4 hgW hgp;have s4:=hf4.c4)
        |(go_at_call 97;refine(qc4 g (P+2) _ r4 a_).mono ?_;rintro e w5 ⟨t,rfl,ht,r5,o5⟩;have hf5:=hf4.only o5 hgW hgp;have s5:=hf5.c4;obtain⟨e1,e2⟩:=hf5.fo.bl.at_ (j:=m) a_;have e1':∃ u,w5.cell? ⟨gb,m,none⟩=some u:=⟨_,e1⟩;clear e1;obtain⟨ue,e1⟩:=e1'))
     have hf6:=hf5.setAt (m:=m) a_ t;have hgbz:gb≠w.heap.size+1:=a_;have hgbz':¬ gb=w.heap.size+1:=a_;have hgbz2:¬ w.heap.size+1=gb:=a_;have hgbp2:¬ w.heap.size=gb:=a_;obtain⟨y0,y1,y2,y3,y4,y5,yf⟩:=qaa ((o5.box (by have:=o4.size;omega) hgz).trans ((o4.box a_ hgz).trans hzd));have oo5:=(ood.trans o4).trans o5;have k0:=hf5.c0;have k1:=hf5.c1;have k2:=hf5.c2;have k3:=hf5.c3;have k4:=hf5.c4;have k5:=hf5.c5;have kf:=hf5.fz;clear s4 s5 hf4 hfd hf3 r3 rd r4 oo3 ood hz3 hzd;go_wp2
     refine bodyPost_ret (v:=.agg #[.int .i64 f.pub,.int .i64 f.hd.len,.int .i64 f.hd.dg,.int .i64 f.hd.sg,.slice (some ⟨gb,0,none⟩) f.bl.length uc,.slice tA f.hv.length tc]) bO_ rfl ⟨{f with bl:=f.bl.set m t},_,_,rfl,?_,(by have:=Nat.le_max_left f.bl.length f.hv.length;simp;omega),Nat.le_succ_of_le (Nat.le_max_right _ _),qiC HSZ.out ht,.inl rfl,?_,?_⟩
     · exact(qaK.set6 hf6.fo hl1 _ _ _ _ _ _).mono (Nat.le_of_lt hl0)
     · exact(qcw (r5.set (p:=⟨gb,m,none⟩) (by show g<gb;omega) (.string t)) a_ _ _ _ _ _ _).mono a_
     · exact qbZ (oo5.set (p:=⟨gb,m,none⟩) (by show w.heap.size≤gb;omega) (.string t)) (Nat.le_succ _) _ _ _ _ _ _
 · have n0:(x==0)=false:=by rw[beq_eq_false_iff_ne];omega
   have n1:(x==1)=false:=by rw[beq_eq_false_iff_ne];omega
   have n2:(x==2)=false:=by rw[beq_eq_false_iff_ne];omega
   have n3:(x==3)=false:=by rw[beq_eq_false_iff_ne];omega
   have k0:=hf3.c0;have k1:=hf3.c1;have k2:=hf3.c2;have k3:=hf3.c3;have k4:=hf3.c4;have k5:=hf3.c5;have kf:=hf3.fz;obtain⟨y0,y1,y2,y3,y4,y5,yf⟩:=qaa hz3;go_wp2
   refine bodyPost_ret (v:=.agg #[.int .i64 f.pub,.int .i64 f.hd.len,.int .i64 f.hd.dg,.int .i64 f.hd.sg,.slice uA f.bl.length uc,.slice tA f.hv.length tc]) bO_ rfl ⟨f,_,_,rfl,?_,Nat.le_max_left _ _,Nat.le_succ_of_le (Nat.le_max_right _ _),HSZ.out,.inl rfl,?_,?_⟩
   · exact(qaK.set6 hf3.fo hl1 _ _ _ _ _ _).mono (Nat.le_of_lt hl0)
   · exact(qcw r3 a_ _ _ _ _ _ _).mono a_
   · exact qbZ oo3 (Nat.le_succ _) _ _ _ _ _ _
end Go.Proofs.YtekaaekpdebloaaGreatDoor
namespace Go.Proofs.YtekaaekpdebloaaGreatDoor
open Go.RowKit
attribute [local go_sem ↓] Go.wp_at_zero Go.wp_at_succ

theorem ql8{f f0:Fd}(h0:f0.hd.len=0→f0.hd=Hd.zero)(h:f.hd=f0.hd∨∃ y:Int,f.hd={f0.hd with dg:=y}):qaq f=true→f.hd.len=0→f.hd=Hd.zero:=fun hv hl=>by
 rcases h with h|⟨y,h⟩
 · rw[h] at hl ⊢;exact h0 hl
 · have hl':f0.hd.len=0:=by rw[h] at hl;exact hl
   have e:=h0 hl';rw[e] at h;simp only[qaq,Bool.and_eq_true,Bool.or_eq_true] at hv;rcases hv.1.1.1.1.2 with h1|h1
   · simp only[Hd.isZero,Bool.and_eq_true,beq_iff_eq] at h1;have h2:f.hd.dg=0:=h1.1.2;rw[h] at h2 ⊢;have:y=0:=h2;rw[this];rfl
   · simp only[qbE,Bool.and_eq_true] at h1;have h2:=h1.1.2;rw[h] at h2;have h3:key (0:Int)=true:=h2;exact absurd h3 e_
set_option maxHeartbeats 12800000 in
set_option maxRecDepth 100000 in
theorem qiw(g P:Nat)(w:World)(hr:Rdr w g P)(hP:P≤70000):Calls Tryz.prog 50 #[.pointer (some ⟨g,0,none⟩)] w (qhY g (P+4200) w):=by
 have hgl:=hr.lt;obtain⟨W0,HW0⟩:=nm_ (w.alloc (.cells #[.int .i64 0,.int .i64 0,.slice none 0 0,.slice none 0 0,.slice none 0 0,.slice none 0 0] 28));have hb0:Below w.heap.size w W0:=by rw[←HW0.out];exact qab (bR_ _ _) _
 have hz0:W0.heap[w.heap.size]? =some (.cells #[.int .i64 0,.int .i64 0,.slice none 0 0,.slice none 0 0,.slice none 0 0,.slice none 0 0] 28 (0,0)):=by rw[←HW0.out];exact heap_alloc_new _ _
 have hr0:=hr.below hb0;have HO0:Hid (qbb g w W0):=hI_ (qbb.of_below hb0);have hne:∀ k,w.heap.size≤k→some k≠some g:=fun k hk e=>by have:=Option.some.inj e;omega
 have HNE:=hI_ hne;have HZ0:=hI_ hz0;clear hne hb0 hr hz0;go_enter Tryz.func50,Tryz.ntmps50
 go_wp2_with fail
 rw[HW0.out];refine(qfn g P W0 hr0 a_).mono ?_;rintro e w1 ⟨⟨s,bd,fs,ls,ks,ps⟩,uF,uL,uA,uN,rfl,hd,hs,r1,o1⟩;obtain⟨⟨A1,c1,rfl⟩,⟨A2,c2,rfl⟩,⟨A3,c3,rfl⟩,⟨A4,c4,rfl⟩⟩:=hs.sl;have HZ1:=hI_ ((o1.block _ (qai HZ0.out) (HNE.out _ (nr_ _))).trans HZ0.out);have HO1:=hI_ (HO0.out.trans o1);have HD:=hI_ hd;have HR1:=hI_ r1;have HSM:=hI_ (hd.v.wi.sml a_);have HS:=hI_ hs;clear hr0 hd hs r1 o1;go_wp2_with fail
 refine(qcO ⟨s,bd,fs,ls,ks,ps⟩ _ _ _ _ w1 HS.out HSM.out).mono ?_;rintro e w2 ⟨uF,uL,uA,uN,rfl,hc,hb2⟩;have hn1:1≤fs.length:=HD.out.v.wi.n1;have hn6:fs.length≤6:=HD.out.v.wi.n6;have hka:ks.length=fs.length:=HD.out.v.wi.na;obtain⟨gF,cF,rfl,hF1,hF2⟩:=hc.feeds.form (by show 0<fs.length;omega);obtain⟨gA,cA,rfl,hA1,hA2⟩:=hc.asked.form (by show 0<ks.length;omega);obtain⟨lA,cL,rfl⟩:=hc.links.sl;obtain⟨nA,cN,rfl⟩:=hc.net.sl;have HKA:=hI_ hka;have hk6:ks.length≤6:=a_;have hk1:1≤ks.length:=a_;simp only at hc hF1 hF2 hA1 hA2;have hz2:=(hb2.block _ (qai HZ1.out)).trans HZ1.out;obtain⟨W2,HW2⟩:=nm_ (w2.alloc (.cells #[.int .i64 s,.int .i64 bd,.slice (some ⟨gF,0,none⟩) fs.length cF,.slice lA ls.length cL,.slice (some ⟨gA,0,none⟩) ks.length cA,.slice nA ps.length cN] 28));have HW:Hid (WrW g (P+4000) w w.heap.size w2.heap.size w1.heap.size ⟨s,bd,fs,ls,ks,ps⟩ (.slice (some ⟨gF,0,none⟩) fs.length cF) (.slice lA ls.length cL) (.slice (some ⟨gA,0,none⟩) ks.length cA) (.slice nA ps.length cN) W2):=hI_ (by
  rw[←HW2.out];exact⟨qau hz2,heap_alloc_new _ _,hc.keep (qaA.alloc _),(HR1.out.below hb2).below (qab (bR_ _ _) _),(HO1.out.thenB hb2).thenB (qab (bR_ _ _) _),HD.out,rfl,qai hz2,hgl,Nat.le_trans HO1.out.size (nr_ _),Nat.le_trans hb2.size k_⟩)
 clear hka hc hb2 hz2 hF1 hF2 hA1 hA2;obtain⟨y0,y1,y2,y3,y4,y5,yf⟩:=qaa HW.out.b;go_wp2_with fail
 rw[HW2.out];refine(qan g (P+4000) fs.length W2 HW.out.r a_ a_ a_).mono ?_;rintro e w3 ⟨k,rfl,k1,k2,r3,o3⟩;obtain⟨k,rfl⟩:∃ n:Nat,k=n:=⟨k.toNat,a_⟩
 have HW3:=hI_ (HW.out.only o3 r3);obtain⟨y,HY⟩:=nm_ w2.heap.size;rw[HY.out] at HW3;clear r3 o3 y0 y1 y2 y3 y4 y5 yf HW;have hkf:k<fs.length:=a_;have hkk:k<ks.length:=by have:=HKA.out;omega
 go_wp2_with fail
 rw[HY.out];refine(qan g (P+4001) 10 w3 HW3.out.r a_ a_ a_).mono ?_;rintro e w4 ⟨sw,rfl,sw1,sw2,r4,o4⟩;have HW4:=hI_ (HW3.out.only o4 r4);have hyl:=qai HW4.out.b;have hgy:=HW4.out.gy;have hqy:=HW4.out.hqy;have HGF:=hI_ (HW4.out.c.feeds.lt_ gF rfl);have HGA:=hI_ (HW4.out.c.asked.lt_ gA rfl);clear r4 o4 HW3 HW2 HZ0 HZ1 HO0 HO1 HR1 HSM HS HNE HY;go_upto_block 0 with fail
 go_cut [] (fun wx=>∃ (x:Wd) (vF vL vA vN:Value),qi4 g (P+4200) w w.heap.size y x vF vL vA vN wx)
 case rest=>
  obtain⟨x,vF,vL,vA,vN,hR⟩:=hcut;obtain⟨w11,rfl⟩:∃ W,W=wc:=⟨_,rfl⟩
  obtain⟨⟨A1,c1,rfl⟩,⟨A2,c2,rfl⟩,⟨A3,c3,rfl⟩,⟨A4,c4,rfl⟩⟩:=hR.s.sl;obtain⟨y0,y1,y2,y3,y4,y5,yf⟩:=qaa hR.b;obtain⟨z0,z1,z2,z3,z4,z5,zf⟩:=qaa hR.z;have HRET:=hI_ hR.ret;clear hR;go_wp2_with fail
  refine bodyPost_ret (v:=.agg #[.int .i64 x.sec,.int .i64 x.bad,.slice A1 x.feeds.length c1,.slice A2 x.links.length c2,.slice A3 x.asked.length c3,.slice A4 x.net.length c4]) (by simp[results,Tryz.results50,go_sem,z0,z1,z2,z3,z4,z5]) rfl HRET.out
 have hs:sw=0∨sw=1∨sw=2∨sw=3∨sw=4∨sw=5∨sw=6∨sw=7∨8≤sw:=a_;rcases hs with rfl|rfl|rfl|rfl|rfl|rfl|rfl|rfl|hs
 · as_aux_lemma=>
    obtain⟨y0,y1,y2,y3,y4,y5,yf⟩:=qaa HW4.out.b;go_wp2_with fail
    refine(qeN g (P+4002) w4 HW4.out.r a_).mono ?_;rintro e w5 ⟨v,rfl,v1,v2,r5,o5⟩;have HW5:=hI_ (HW4.out.only o5 r5);obtain⟨t0,t1,t2,t3,t4,t5,tf⟩:=qaa HW5.out.b;have HR:=hI_ (HW5.out.sec v);clear r5 o5 y0 y1 y2 y3 y4 y5 yf;go_wp2_with fail
    go_meet;exact⟨_,_,_,_,_,HR.out.mono a_⟩
 · as_aux_lemma=>
    obtain⟨y0,y1,y2,y3,y4,y5,yf⟩:=qaa HW4.out.b;go_wp2_with fail
    refine(qan g (P+4002) 8 w4 HW4.out.r a_ a_ a_).mono ?_;rintro e w5 ⟨v,rfl,v1,v2,r5,o5⟩;have HW5:=hI_ (HW4.out.only o5 r5);obtain⟨t0,t1,t2,t3,t4,t5,tf⟩:=qaa HW5.out.b;have HR:=hI_ (HW5.out.bad (v-1));clear r5 o5 y0 y1 y2 y3 y4 y5 yf;go_wp2_with fail
    go_meet;exact⟨_,_,_,_,_,HR.out.mono a_⟩
 · as_aux_lemma=>
    have t2:=(qaa HW4.out.b).2.2.1;obtain⟨_,_,vb,vh,hA,hbF,f0,f1,f2,f3,f4,f5,hF⟩:=HW4.out.c.feeds.r.at_ hkf;cases hA;obtain⟨⟨fp,⟨fl,fd,fg⟩,fbl,fhv⟩,HFK⟩:∃ f,Hid (fs[k]=f):=⟨_,hI_ rfl⟩
    simp only at f0 f1 f2 f3 f4 f5 hF;rw[Nat.zero_add] at f0 f1 f2 f3 f4 f5;rw[HFK.out] at f0 f1 f2 f3 hF;obtain⟨bA,bc,rfl⟩:=hF.bl.sl';obtain⟨hvA,hvc,rfl⟩:=hF.hv.sl';simp only at f0 f1 f2 f3 f4 f5 hF;have HF:=hI_ (hF.below (qac (bR_ _ _)));have hv:=HD.out.v.wi.lenj hkf;have hzz:=HD.out.z k;rw[show(fs.getD k Fd.none)=fs[k] from qam hkf _] at hzz;simp only at hv;rw[HFK.out] at hv hzz;simp only at hv;have HZZ:=hI_ hzz;have HTX:Hid (∀ x ∈ fbl,x.size≤10):=hI_ (fun x hx=>by
     have:=qbH (HD.out.v.wi.fv k hkf).1 x (by simp only;rw[HFK.out];exact hx);omega)
    obtain⟨hv1,hv2,hv3⟩:=hv;have hvl2:fhv.length≤17:=a_;have hvl1:fbl.length≤17:=a_;clear hF hv1 hv3 hzz;go_wp2_with fail
    go_region_with
     ((go_at_call 99;refine(qit g (P+4002) ⟨fp,⟨fl,fd,fg⟩,fbl,fhv⟩ _ _ _ (HW4.out.r.below i_) a_ HF.out hvl1 hvl2 HTX.out).mono ?_;rintro e w5 ⟨f',ub,uh,rfl,hf5,_,_,_,hhd,r5,o5⟩
       have o45:qbb g w4 w5:=(qbb.of_below i_).trans o5;have HW5:=hI_ (HW4.out.only o45 r5);have n2:=(qaa HW5.out.b).2.2.1;obtain⟨uA,uc,rfl⟩:=hf5.bl.sl;obtain⟨tA,tc,rfl⟩:=hf5.hv.sl;obtain⟨⟨FF,hFF⟩,hfz,_⟩:=HW5.out.c.feeds.cells;have q0:=hFF (k*6) ac_;have q1:=hFF (k*6+1) ac_;have q2:=hFF (k*6+2) ac_;have q3:=hFF (k*6+3) ac_;have q4:=hFF (k*6+4) ac_;have q5:=hFF (k*6+5) ac_;have HR:=hI_ (HW5.out.feed (j:=k) hkf (hf5.stb e_ e_) (ql8 HZZ.out hhd));have n3:=(qaa HR.out.b).2.2.1;clear hFF hf5 hhd r5 o5 o45))
    all_goals
     go_wp2
     go_meet;exact⟨_,_,_,_,_,HR.out.mono a_⟩
 · as_aux_lemma=>
    obtain⟨y0,y1,y2,y3,y4,y5,yf⟩:=qaa HW4.out.b;have hls:ls.length≤40:=HD.out.v.wi.nl;go_wp2_with fail
    go_region_law
     (first
       |((refine qa9 p_ (qbj (base:=w1.heap.size) (y0:=c) (y1:=d) hl6 a_ HW6.out.hBw rfl rfl rfl rfl ?_))
         intro A7 c7 w7 ho7 hg7;have HR:=hI_ (HW6.out.links hg7 ho7);obtain⟨s0,s1,s2,s3,s4,s5,sf⟩:=qaa (HW6.out.boxL hg7);clear ho7 hg7 hl6)
       |(go_simp;go_wp2_with (first
       |(have hq5:=HW5.out.r;go_at_call 49;refine(qan g (P+4003) 6 _ hq5 a_ a_ a_).mono ?_;rintro e w6 ⟨d,rfl,d1,d2,r6,o6⟩
         have HW6:=hI_ (HW5.out.only o6 r6);have n3:=(qaa HW6.out.b).2.2.2.1;have n3a:∀ o,(w6.alloc o).cell? ⟨y,3,none⟩=some (.slice lA ls.length cL):=fun o=>(qaa (qau HW6.out.b)).2.2.2.1;have hl6:qav w1.heap.size 99 w6 (.slice lA ls.length cL) ls:=HW6.out.c.links;clear r6 o6 hq5)
       |(go_at_call 49;refine(qan g (P+4002) 6 _ (HW4.out.r.below i_) a_ a_ a_).mono ?_;rintro e w5 ⟨c,rfl,c1_,c2_,r5,o5⟩
         have HW5:=hI_ (HW4.out.only ((qbb.of_below i_).trans o5) r5);have m3:=(qaa HW5.out.b).2.2.2.1;clear r5 o5))))
    all_goals
     go_wp2
     go_meet;exact⟨_,_,_,_,_,HR.out.mono a_⟩
 · as_aux_lemma=>
    have t4:=(qaa HW4.out.b).2.2.2.2.1;go_wp2_with fail
    go_region_held3 (fun w'=>w'.cell? ⟨y,4,none⟩=some (.slice (some ⟨gA,0,none⟩) ks.length cA))
     (first|with_reducible exact t4|(with_reducible refine Eq.trans (Below.cell (B:=w4.heap.size) ?_ hyl) t4 <;> (with_reducible repeat(first|exact bR_ _ _|refine qab ?_ _|refine qac ?_));done)|with_reducible exact n4|with_reducible exact n5)
     ((go_at_call 100;refine(qhx g (P+4002) _ (HW4.out.r.below i_) a_).mono ?_;rintro e w5 ⟨v,l,rfl,hp5,hl5,r5,o5⟩
       have HW5:=hI_ (HW4.out.only ((qbb.of_below i_).trans o5) r5);have n4:=(qaa HW5.out.b).2.2.2.2.1;obtain⟨vA,vc,rfl⟩:=hp5.sl;obtain⟨⟨FF,hFF⟩,hfz,_⟩:=HW5.out.c.asked.cells;have q0:=hFF k hkk;have HR:=hI_ (HW5.out.ask (j:=k) hkk (hp5.stb (T:=LQ) e_));have n5:=(qaa HR.out.b).2.2.2.2.1;clear hFF hp5 r5 o5))
    all_goals
     go_wp2
     go_meet;exact⟨_,_,_,_,_,HR.out.mono a_⟩
 · skip
   obtain⟨y0,y1,y2,y3,y4,y5,yf⟩:=qaa HW4.out.b;have hps:ps.length≤12:=HD.out.v.wi.net;have HPT:=hI_ HD.out.drawn.t;clear y0 y1 y2 y3 y4;go_wp2_with fail
   go_region_law
    (first
      |((refine qa9 p_ (qiQ (base:=w1.heap.size) (p:=⟨pa-1,pb-1,pc,pd,tx,[]⟩) (x:=.slice none 0 0) hl9 qn4 a_ HW9.out.hBw rfl rfl rfl rfl ?_))
        intro A7 c7 wa hoa hga;have HR:=hI_ (HW9.out.net hga hoa (qm1 HPT.out (Nat.le_trans HTX.out s_)));obtain⟨s0,s1,s2,s3,s4,s5,sf⟩:=qaa (HW9.out.boxN hga);clear hoa hga hl9)
      |(go_simp;go_wp2_with (first
      |(go_at_call 97;refine(qc4 g (P+4006) _ HW8.out.r a_).mono ?_;rintro e w9 ⟨tx,rfl,htx,r9,o9⟩
        have HW9:=hI_ (HW8.out.only o9 r9);have m9:=(qaa HW9.out.b).2.2.2.2.2.1;have m9a:∀ o,(w9.alloc o).cell? ⟨y,5,none⟩=some (.slice nA ps.length cN):=fun o=>(qaa (qau HW9.out.b)).2.2.2.2.2.1;have hl9:qaW w1.heap.size w9 (.slice nA ps.length cN) ps:=HW9.out.c.net;have HTX:=hI_ htx;clear r9 o9 htx)
      |(have hq8:=HW7.out.r;go_at_call 49;refine(qan g (P+4005) 6 _ hq8 a_ a_ a_).mono ?_;rintro e w8 ⟨pd,rfl,pd1,pd2,r8,o8⟩
        have HW8:=hI_ (HW7.out.only o8 r8);have m8:=(qaa HW8.out.b).2.2.2.2.2.1
        skip
        clear r8 o8 hq8)
      |(have hq7:=HW6.out.r;go_at_call 49;refine(qan g (P+4004) 6 _ hq7 a_ a_ a_).mono ?_;rintro e w7 ⟨pc,rfl,pc1,pc2,r7,o7⟩
        have HW7:=hI_ (HW6.out.only o7 r7);have m7:=(qaa HW7.out.b).2.2.2.2.2.1
        skip
        clear r7 o7 hq7)
      |(have hq6:=HW5.out.r;go_at_call 49;refine(qan g (P+4003) 7 _ hq6 a_ a_ a_).mono ?_;rintro e w6 ⟨pb,rfl,pb1,pb2,r6,o6⟩
        have HW6:=hI_ (HW5.out.only o6 r6);have m6:=(qaa HW6.out.b).2.2.2.2.2.1;have hb1:IntKind.i64.wrap (pb-1)=pb-1:=IntWalk.i64_in _ a_;clear r6 o6 hq6)
      |(go_at_call 49;refine(qan g (P+4002) 7 _ (HW4.out.r.below i_) a_ a_ a_).mono ?_;rintro e w5 ⟨pa,rfl,pa1,pa2,r5,o5⟩
        have HW5:=hI_ (HW4.out.only ((qbb.of_below i_).trans o5) r5);have m5:=(qaa HW5.out.b).2.2.2.2.2.1;have ha1:IntKind.i64.wrap (pa-1)=pa-1:=IntWalk.i64_in _ a_;clear r5 o5))))
   all_goals
    go_wp2
    go_meet;exact⟨_,_,_,_,_,HR.out.mono a_⟩
 · as_aux_lemma=>
    have t5:=(qaa HW4.out.b).2.2.2.2.2.1;have hps:ps.length≤12:=HD.out.v.wi.net;by_cases hp0:ps.length=0
    · have h1:¬ (0:Int)<(ps.length:Int):=a_;have h2:¬ 0<ps.length:=a_;clear hp0;have HR:=hI_ HW4.out.retw;go_wp2_with fail
      go_meet;exact⟨_,_,_,_,_,HR.out.mono a_⟩
    have h1:(0:Int)<(ps.length:Int):=a_;have h2:0<ps.length:=a_;have h3:(1:Int)≤(ps.length:Int):=a_;have h4:(ps.length:Int)≤1000000:=a_;clear hp0;have hnet:qaW w1.heap.size w4 (.slice nA ps.length cN) ps:=HW4.out.c.net;obtain⟨gN,cap,he,hgn1,hgn2⟩:=hnet.form h2;cases he
    have hgny:y≠gN:=fun e=>by
     obtain⟨F,f1,_⟩:=hnet;obtain⟨cur,hc⟩:=f1.row0 gN rfl;rw[←e,HW4.out.b] at hc;exact absurd hc (by intro h;injection h with h;injection h with _ h2 _;exact absurd h2 e_)
    have hgny':¬ gN=y:=fun e=>hgny e.symm;clear hnet;go_wp2_with fail
    go_region_held3 (fun w'=>w'.cell? ⟨y,5,none⟩=some (.slice (some ⟨gN,0,none⟩) ps.length cN))
     (first|with_reducible exact t5|with_reducible exact n5|with_reducible exact n5a _|(with_reducible refine qkr ?_ hgny _ _;first|with_reducible exact n5|with_reducible exact n5a _)|(with_reducible refine Eq.trans (Below.cell (B:=w4.heap.size) ?_ hyl) t5 <;> (with_reducible repeat(first|exact bR_ _ _|refine qab ?_ _|refine qac ?_));done))
     ((go_at_call 49;refine(qan g (P+4002) ps.length _ (HW4.out.r.below i_) h3 h4 a_).mono ?_;rintro e w5 ⟨m,rfl,m1,m2,r5,o5⟩
       obtain⟨m,rfl⟩:∃ n:Nat,m=n:=⟨m.toNat,a_⟩
       have hm:m<ps.length:=a_;have HW5:=hI_ (HW4.out.only ((qbb.of_below i_).trans o5) r5);have n5:=(qaa HW5.out.b).2.2.2.2.2.1;have n5a:∀ o,(w5.alloc o).cell? ⟨y,5,none⟩=some (.slice (some ⟨gN,0,none⟩) ps.length cN):=fun o=>(qaa (qau HW5.out.b)).2.2.2.2.2.1;obtain⟨FF,hFF,hfz⟩:=qaW.cells_ (show qaW w1.heap.size w5 (.slice (some ⟨gN,0,none⟩) ps.length cN) ps from HW5.out.c.net);have q5:=hFF (m*6+5) a_;have q5a:∀ o,(w5.alloc o).cell? ⟨gN,m*6+5,none⟩=some (FF (m*6+5)):=fun o=>(((bR_ w5.heap.size w5).alloc (nr_ _) o).cell (p:=⟨gN,m*6+5,none⟩) (nL_ hgn2 (by have:=o5.size;simp at this;omega))).trans q5;have hz5:=fun o=>qlL (o:=o) (show gN<w5.heap.size from nL_ hgn2 (by have:=o5.size;simp at this;omega)) hfz;try(refine qmN (w5.heap[w4.heap.size]? =some (.cells #[.int .i64 1,.int .i64 2] 3 (0,0))) ?_ ?_;(focus ((refine(o5.block _ ?_ ?_).trans ?_);(simp);(exact fun e=>by have:=Option.some.inj e;omega);(first|with_reducible exact at0 _ _|((with_reducible refine qbI ?_);with_reducible exact at0 _ _)|exact at0 _ _)));intro hy4)
       clear hFF r5 o5))
    · go_wp2
      go_meet;exact⟨_,_,_,_,_,((HW5.out.below (qab (bR_ _ _) _)).prf (m:=m) hm (qni (heap_alloc_new _ _))).mono a_⟩
    · go_wp2
      go_meet;exact⟨_,_,_,_,_,(HW5.out.prf (m:=m) hm (qni hy4)).mono a_⟩
 · as_aux_lemma=>
    obtain⟨y0,y1,y2,y3,y4,y5,yf⟩:=qaa HW4.out.b;clear y0 y1 y2 y3 y5;have hkc:ks.length≤cA:=(HW4.out.c.asked.capA)
    have hk1':(1:Int)≤(ks.length:Int):=a_;have hkc':(ks.length:Int)≤(cA:Int):=a_;have hkc1:(1:Int)≤(cA:Int):=a_;by_cases hc:cA=1
    · subst hc;go_wp2_with fail
      go_meet;exact⟨_,_,_,_,_,(HW4.out.tail (show 0<ks.length by omega) (.inr ⟨a_,_,_,rfl,fun h=>aj_,Nat.zero_le _⟩)).mono a_⟩
    · have hc1:(cA==1)=false:=by rw[beq_eq_false_iff_ne];exact hc
      go_wp2_with fail
      go_meet;exact⟨_,_,_,_,_,(HW4.out.tail (show 0<ks.length by omega) (.inl rfl)).mono a_⟩
 · as_aux_lemma=>
    have n0:(sw==0)=false:=by rw[beq_eq_false_iff_ne];omega
    have n1:(sw==1)=false:=by rw[beq_eq_false_iff_ne];omega
    have n2:(sw==2)=false:=by rw[beq_eq_false_iff_ne];omega
    have n3:(sw==3)=false:=by rw[beq_eq_false_iff_ne];omega
    have n4:(sw==4)=false:=by rw[beq_eq_false_iff_ne];omega
    have n5:(sw==5)=false:=by rw[beq_eq_false_iff_ne];omega
    have n6:(sw==6)=false:=by rw[beq_eq_false_iff_ne];omega
    have n7:(sw==7)=false:=by rw[beq_eq_false_iff_ne];omega
    clear hs sw1 sw2;have HR:=hI_ HW4.out.retw;go_wp2_with fail
    go_meet;exact⟨_,_,_,_,_,HR.out.mono a_⟩
def qtC(w:World)(e:Ending)(w':World):Prop:=∃ x uF uL uA uN ev,e=.returned (.tuple #[.agg #[.int .i64 x.sec,.int .i64 x.bad,uF,uL,uA,uN],.agg (evC ev)])∧qhP x∧WdS w' x uF uL uA uN∧ev.txt.size≤10∧Below w.heap.size w w'
theorem qtN{w:World}{q:Nat}{y0 y1 y2 y3 y4:Value}(h:w.heap[q]? =some (.cells #[y0,y1,y2,y3,y4] 30 (0,0)))(x0 x1 x2 x3 x4:Value):
 (((((w.setCell ⟨q,0,none⟩ x0).setCell ⟨q,1,none⟩ x1).setCell ⟨q,2,none⟩ x2).setCell ⟨q,3,none⟩ x3).setCell ⟨q,4,none⟩ x4).heap[q]? =some (.cells #[x0,x1,x2,x3,x4] 30 (0,0))∧
   (∀ a,a≠q→(((((w.setCell ⟨q,0,none⟩ x0).setCell ⟨q,1,none⟩ x1).setCell ⟨q,2,none⟩ x2).setCell ⟨q,3,none⟩ x3).setCell ⟨q,4,none⟩ x4).heap[a]? =w.heap[a]?)∧
   qaA LT2 w (((((w.setCell ⟨q,0,none⟩ x0).setCell ⟨q,1,none⟩ x1).setCell ⟨q,2,none⟩ x2).setCell ⟨q,3,none⟩ x3).setCell ⟨q,4,none⟩ x4)∧
   ∀ (B:Nat) (w0:World),Below B w0 w→B≤q→Below B w0 (((((w.setCell ⟨q,0,none⟩ x0).setCell ⟨q,1,none⟩ x1).setCell ⟨q,2,none⟩ x2).setCell ⟨q,3,none⟩ x3).setCell ⟨q,4,none⟩ x4):=by
 have h0:=qas (i:=0) h x0;have h1:=qas (i:=1) h0 x1;have h2:=qas (i:=2) h1 x2;have h3:=qas (i:=3) h2 x3;have h4:=qas (i:=4) h3 x4;refine⟨h4,fun a ha=>(Below.heap_setCell _ _ _ _ ha).trans ((Below.heap_setCell _ _ _ _ ha).trans ((Below.heap_setCell _ _ _ _ ha).trans ((Below.heap_setCell _ _ _ _ ha).trans (Below.heap_setCell _ _ _ _ ha)))),?_,fun B w0 hb hq=>qaN (qaN (qaN (qaN (qaN hb hq) hq) hq) hq) hq⟩;exact(((qaA.set1 (i:=0) h e_ x0).trans (qaA.set1 (i:=1) h0 e_ x1)).trans (qaA.set1 (i:=2) h1 e_ x2)).trans ((qaA.set1 (i:=3) h2 e_ x3).trans (qaA.set1 (i:=4) h3 e_ x4))
set_option maxHeartbeats 3200000 in
set_option maxRecDepth 100000 in
theorem qr9(bs:List UInt8)(v:Value)(w:World)(hv:RU w v bs):Calls Tryz.prog 14 #[v] w (qtC w):=by
 obtain⟨q,HQQ⟩:=nm_ w.heap.size;obtain⟨W0,HW0⟩:=nm_ ((w.alloc (.cells #[.int .i64 0,.int .i64 0,.slice none 0 0,.slice none 0 0,.slice none 0 0,.slice none 0 0] 28)).alloc (.cells #[.int .i64 0,.int .i64 0,.int .i64 0,.int .i64 0,.string ⟨#[]⟩] 30));have HB0:Hid (Below w.heap.size w W0):=hI_ ai_;have hz0:W0.heap[q]? =some (.cells #[.int .i64 0,.int .i64 0,.slice none 0 0,.slice none 0 0,.slice none 0 0,.slice none 0 0] 28 (0,0)):=by rw[←HW0.out,←HQQ.out];exact qau (heap_alloc_new w _)
 have he0:W0.heap[q+1]? =some (.cells #[.int .i64 0,.int .i64 0,.int .i64 0,.int .i64 0,.string ⟨#[]⟩] 30 (0,0)):=by rw[←HW0.out,←HQQ.out];exact qbu k_
 have hs0:W0.heap.size=q+2:=by rw[←HW0.out,←HQQ.out];simp
 have HQ:Hid (w.heap.size≤q):=hI_ (by rw[HQQ.out];exact nr_ _);have HV:Hid (RU W0 v bs):=hI_ (hv.below HB0.out);obtain⟨A,c,rfl,_,_,_⟩:=hv;go_enter Tryz.func14,Tryz.ntmps14
 go_upto_region 1 with fail
 rw[HW0.out,HQQ.out];go_wp2_with fail
 refine(qkM bs _ W0 HV.out).mono ?_;rintro e w1 ⟨g,rfl,hg,r1,hb1⟩;have hg1:=r1.lt;go_wp2_with fail
 refine(qfn g 0 w1 r1 a_).mono ?_;rintro e w2 ⟨x,uF,uL,uA,uN,rfl,hd,hs,r2,o2⟩;obtain⟨⟨A1,c1,rfl⟩,⟨A2,c2,rfl⟩,⟨A3,c3,rfl⟩,⟨A4,c4,rfl⟩⟩:=hs.sl;have hb2:Below W0.heap.size W0 w2:=hb1.trans (o2.below hg hg1);have hg2:=r2.lt;obtain⟨y6,HY6⟩:=nm_ w2.heap.size;obtain⟨W2,HW2⟩:=nm_ (w2.alloc (.cells #[.int .i64 x.sec,.int .i64 x.bad,.slice A1 x.feeds.length c1,.slice A2 x.links.length c2,.slice A3 x.asked.length c3,.slice A4 x.net.length c4] 28));have hbx2:W2.heap[y6]? =some (.cells #[.int .i64 x.sec,.int .i64 x.bad,.slice A1 x.feeds.length c1,.slice A2 x.links.length c2,.slice A3 x.asked.length c3,.slice A4 x.net.length c4] 28 (0,0)):=by rw[←HW2.out,←HY6.out];exact heap_alloc_new _ _
 have hb2':Below w2.heap.size w2 W2:=by rw[←HW2.out];exact qab (bR_ _ _) _
 have hB2:Below W0.heap.size W0 W2:=hb2.trans (hb2'.mono hb2.size);have hgy:g<y6:=by have:=HY6.out;omega
 have hqg:q+1<g:=a_;have HS2:=hI_ (hs.below hb2');have HR2:=hI_ (r2.below hb2');have HDW:=hI_ hd;obtain⟨b0,b1,b2,b3,b4,b5,bf⟩:=qaa hbx2;clear hs r2 r1 hd o2 hb1;go_upto_region 3 with fail
 rw[HW2.out,HY6.out];go_wp2_with fail
 refine(qiv g 4000 x _ _ _ _ W2 HR2.out a_ HS2.out HDW.out.v.wi a_).mono ?_;rintro e w3 ⟨⟨kd,ea,eb,ec,et⟩,rfl,ht,r3,o3⟩;simp only at ht;obtain⟨z6,HZ6⟩:=nm_ w3.heap.size;obtain⟨W3,HW3⟩:=nm_ (w3.alloc (.cells #[.int .i64 kd,.int .i64 ea,.int .i64 eb,.int .i64 ec,.string et] 30));have hev3:W3.heap[z6]? =some (.cells #[.int .i64 kd,.int .i64 ea,.int .i64 eb,.int .i64 ec,.string et] 30 (0,0)):=by rw[←HW3.out,←HZ6.out];exact heap_alloc_new _ _
 have hb3':Below w3.heap.size w3 W3:=by rw[←HW3.out];exact qab (bR_ _ _) _
 have o3':qbb g W2 W3:=o3.thenB hb3';have HR3:=hI_ (r3.below hb3');have hyz:y6<z6:=by
  have h1:=qai hbx2;have h2:=o3.size;have:=HZ6.out;omega
 have HET:Hid (et.size≤10):=hI_ ht;have HO3:=hI_ o3';have HB2:=hI_ hB2;have HBX2:=hI_ hbx2;have HEV3:=hI_ hev3;clear b0 b1 b2 b3 b4 b5 bf r3 o3 o3' ht hb2 hB2 hbx2 hev3 hb2' hb3';go_upto_region 4 with fail
 rw[HW3.out,HZ6.out];go_wp2_with fail
 refine(qan g 4060 12 W3 HR3.out a_ a_ a_).mono ?_;rintro e w4 ⟨y,rfl,y1,y2,r4,o4⟩;have HR4:=hI_ r4;have HO4:=hI_ (HO3.out.trans o4);have hg4:=HR2.out.lt;have HEV4:=hI_ ((o4.block z6 (qai HEV3.out) (fun e=>by have:=Option.some.inj e;omega)).trans HEV3.out);have HBX4:=hI_ ((HO4.out.block y6 (qai HBX2.out) (fun e=>by have:=Option.some.inj e;omega)).trans HBX2.out);clear r4 o4;by_cases hy:y=0;rotate_left
 · have hy':(y==0)=false:=by rw[beq_eq_false_iff_ne];exact hy
   have HB4:Hid (Below W0.heap.size W0 w4):=hI_ (HB2.out.trans (HO4.out.below hg hg4));have HBX:=HBX4;have HEV:=HEV4;have HZ:=hI_ ((HB4.out.block q a_).trans hz0);have HE:=hI_ ((HB4.out.block (q+1) a_).trans he0);have HS:=hI_ (HS2.out.keep (HO4.out.keep HR2.out));have HB:=hI_ (HB0.out.trans (HB4.out.mono HB0.out.size));have HD:=hI_ HDW.out.drawn;clear hz0 he0 hs0 hg hg1 hg2 hg4 y1 y2 hy;obtain⟨b0,b1,b2,b3,b4,b5,bf⟩:=qaa HBX.out;obtain⟨v0,v1,v2,v3,v4,vf⟩:=qrL HEV.out;obtain⟨q0,q1,q2,q3,q4,q5,qf⟩:=qaa HZ.out;obtain⟨r0,r1,r2,r3,r4,rf⟩:=qrL HE.out;go_upto_region 6 with fail
   obtain⟨D,HD0⟩:∃ D,w4.drew=D:=⟨_,rfl⟩
   have hS0:w4.drew.cell? ⟨y6,0,none⟩=some (.int .i64 x.sec)∧w4.drew.cell? ⟨y6,1,none⟩=some (.int .i64 x.bad)∧w4.drew.cell? ⟨y6,2,none⟩=some (.slice A1 x.feeds.length c1)∧w4.drew.cell? ⟨y6,3,none⟩=some (.slice A2 x.links.length c2)∧w4.drew.cell? ⟨y6,4,none⟩=some (.slice A3 x.asked.length c3)∧w4.drew.cell? ⟨y6,5,none⟩=some (.slice A4 x.net.length c4)∧w4.drew.cell? ⟨z6,0,none⟩=some (.int .i64 kd)∧w4.drew.cell? ⟨z6,1,none⟩=some (.int .i64 ea)∧w4.drew.cell? ⟨z6,2,none⟩=some (.int .i64 eb)∧w4.drew.cell? ⟨z6,3,none⟩=some (.int .i64 ec)∧w4.drew.cell? ⟨z6,4,none⟩=some (.string et):=⟨b0,b1,b2,b3,b4,b5,v0,v1,v2,v3,v4⟩
   have HZD:Hid (D.heap[q]? =some (.cells #[.int .i64 0,.int .i64 0,.slice none 0 0,.slice none 0 0,.slice none 0 0,.slice none 0 0] 28 (0,0))):=hI_ (by rw[←HD0];exact HZ.out);have HED:Hid (D.heap[q+1]? =some (.cells #[.int .i64 0,.int .i64 0,.int .i64 0,.int .i64 0,.string ⟨#[]⟩] 30 (0,0))):=hI_ (by rw[←HD0];exact HE.out);have HSD:Hid (WdS D x (.slice A1 x.feeds.length c1) (.slice A2 x.links.length c2) (.slice A3 x.asked.length c3) (.slice A4 x.net.length c4)):=hI_ (by rw[←HD0];exact HS.out.below (qac (bR_ _ _)));have HYD:Hid (D.heap[y6]? =some (.cells #[.int .i64 x.sec,.int .i64 x.bad,.slice A1 x.feeds.length c1,.slice A2 x.links.length c2,.slice A3 x.asked.length c3,.slice A4 x.net.length c4] 28 (0,0))∧D.heap[z6]? =some (.cells #[.int .i64 kd,.int .i64 ea,.int .i64 eb,.int .i64 ec,.string et] 30 (0,0))):=hI_ (by rw[←HD0];exact⟨HBX.out,HEV.out⟩);have HBD:Hid (Below w.heap.size w D):=hI_ (by rw[←HD0];exact qac HB.out);refine qrO (fun w'=>w'.cell? ⟨y6,0,none⟩=some (.int .i64 x.sec)∧w'.cell? ⟨y6,1,none⟩=some (.int .i64 x.bad)∧w'.cell? ⟨y6,2,none⟩=some (.slice A1 x.feeds.length c1)∧w'.cell? ⟨y6,3,none⟩=some (.slice A2 x.links.length c2)∧w'.cell? ⟨y6,4,none⟩=some (.slice A3 x.asked.length c3)∧w'.cell? ⟨y6,5,none⟩=some (.slice A4 x.net.length c4)∧w'.cell? ⟨z6,0,none⟩=some (.int .i64 kd)∧w'.cell? ⟨z6,1,none⟩=some (.int .i64 ea)∧w'.cell? ⟨z6,2,none⟩=some (.int .i64 eb)∧w'.cell? ⟨z6,3,none⟩=some (.int .i64 ec)∧w'.cell? ⟨z6,4,none⟩=some (.string et)) (fun _=>true) d_ hS0 (fun hS hI=> ?_);rw[HD0] at hS ⊢;clear HD0;clear q0 q1 q2 q3 q4 q5 qf r0 r1 r2 r3 r4 rf;obtain⟨q0,q1,q2,q3,q4,q5,qf⟩:=qaa HZD.out;clear b0 b1 b2 b3 b4 b5 bf v0 v1 v2 v3 v4 vf hS0;refine gU_ ?_ hI hS;clear hI;refine tU_ 0 ?_;refine tU_ 1 ?_;refine eU_ fun hI=>?_;obtain⟨V1,HV1⟩:=nm_ (((((((D.setCell ⟨q,0,none⟩ (.int .i64 x.sec)).setCell ⟨q,1,none⟩ (.int .i64 x.bad)).setCell ⟨q,2,none⟩ (.slice A1 x.feeds.length c1)).setCell ⟨q,3,none⟩ (.slice A2 x.links.length c2)).setCell ⟨q,4,none⟩ (.slice A3 x.asked.length c3)).setCell ⟨q,5,none⟩ (.slice A4 x.net.length c4)));refine qrQ (i:=2) hI rfl d_ (fun Ka hKa=> ?_);go_simp;rw[HV1.out];have hv1:V1.heap[q+1]? =some (.cells #[.int .i64 0,.int .i64 0,.int .i64 0,.int .i64 0,.string ⟨#[]⟩] 30 (0,0)):=by
    rw[←HV1.out];exact(qcN a_ _ _ _ _ _ _).trans HED.out
   have HX1:Hid (V1.heap[q]? =some (.cells #[.int .i64 x.sec,.int .i64 x.bad,.slice A1 x.feeds.length c1,.slice A2 x.links.length c2,.slice A3 x.asked.length c3,.slice A4 x.net.length c4] 28 (0,0))):=hI_ (by rw[←HV1.out];exact qcU HZD.out _ _ _ _ _ _);have HS1:Hid (WdS V1 x (.slice A1 x.feeds.length c1) (.slice A2 x.links.length c2) (.slice A3 x.asked.length c3) (.slice A4 x.net.length c4)):=hI_ (by rw[←HV1.out];exact HSD.out.set6 HZD.out _ _ _ _ _ _);have HBB1:Hid (Below w.heap.size w V1):=hI_ (by rw[←HV1.out];exact qae HBD.out HQ.out _ _ _ _ _ _);have HYV1:Hid (V1.heap[y6]? =some (.cells #[.int .i64 x.sec,.int .i64 x.bad,.slice A1 x.feeds.length c1,.slice A2 x.links.length c2,.slice A3 x.asked.length c3,.slice A4 x.net.length c4] 28 (0,0))∧V1.heap[z6]? =some (.cells #[.int .i64 kd,.int .i64 ea,.int .i64 eb,.int .i64 ec,.string et] 30 (0,0))):=hI_ (by rw[←HV1.out];exact⟨(qcN a_ _ _ _ _ _ _).trans HYD.out.1,(qcN a_ _ _ _ _ _ _).trans HYD.out.2⟩);have hSV:∀ V:World,V.heap[y6]? =some (.cells #[.int .i64 x.sec,.int .i64 x.bad,.slice A1 x.feeds.length c1,.slice A2 x.links.length c2,.slice A3 x.asked.length c3,.slice A4 x.net.length c4] 28 (0,0))→V.heap[z6]? =some (.cells #[.int .i64 kd,.int .i64 ea,.int .i64 eb,.int .i64 ec,.string et] 30 (0,0))→V.cell? ⟨y6,0,none⟩=some (.int .i64 x.sec)∧V.cell? ⟨y6,1,none⟩=some (.int .i64 x.bad)∧V.cell? ⟨y6,2,none⟩=some (.slice A1 x.feeds.length c1)∧V.cell? ⟨y6,3,none⟩=some (.slice A2 x.links.length c2)∧V.cell? ⟨y6,4,none⟩=some (.slice A3 x.asked.length c3)∧V.cell? ⟨y6,5,none⟩=some (.slice A4 x.net.length c4)∧V.cell? ⟨z6,0,none⟩=some (.int .i64 kd)∧V.cell? ⟨z6,1,none⟩=some (.int .i64 ea)∧V.cell? ⟨z6,2,none⟩=some (.int .i64 eb)∧V.cell? ⟨z6,3,none⟩=some (.int .i64 ec)∧V.cell? ⟨z6,4,none⟩=some (.string et):=fun V k1 k2=>by
    obtain⟨b0,b1,b2,b3,b4,b5,bf⟩:=qaa k1;obtain⟨v0,v1,v2,v3,v4,vf⟩:=qrL k2;exact⟨b0,b1,b2,b3,b4,b5,v0,v1,v2,v3,v4⟩
   have HSV:=hI_ hSV;clear hSV;obtain⟨e0,e1,e2,e3,e4,ef⟩:=qrL hv1;clear q0 q1 q2 q3 q4 q5 qf;refine hKa.out _ _ (HSV.out _ HYV1.out.1 HYV1.out.2) (fun hI=> ?_);obtain⟨V2,HV2⟩:=nm_ (((((V1.setCell ⟨q+1,0,none⟩ (.int .i64 kd)).setCell ⟨q+1,1,none⟩ (.int .i64 ea)).setCell ⟨q+1,2,none⟩ (.int .i64 eb)).setCell ⟨q+1,3,none⟩ (.int .i64 ec)).setCell ⟨q+1,4,none⟩ (.string et));have HT2:=hI_ (qtN hv1 (.int .i64 kd) (.int .i64 ea) (.int .i64 eb) (.int .i64 ec) (.string et));rw[HV2.out] at HT2;refine qrQ (i:=3) hI rfl d_ (fun Kb hKb=> ?_);go_simp;rw[HV2.out];refine hKb.out _ _ (HSV.out _ ((HT2.out.2.1 y6 a_).trans HYV1.out.1) ((HT2.out.2.1 z6 a_).trans HYV1.out.2)) (fun hI=> ?_);refine qrM d_ ?_;obtain⟨o0,o1,o2,o3,o4,of⟩:=qrL HT2.out.1;obtain⟨m0,m1,m2,m3,m4,m5,mf⟩:=qaa ((HT2.out.2.1 q a_).trans HX1.out);have HFIN:Hid (qtC w (.returned (.tuple #[.agg #[.int .i64 x.sec,.int .i64 x.bad,.slice A1 x.feeds.length c1,.slice A2 x.links.length c2,.slice A3 x.asked.length c3,.slice A4 x.net.length c4],.agg #[.int .i64 kd,.int .i64 ea,.int .i64 eb,.int .i64 ec,.string et]])) V2):=hI_ ⟨x,_,_,_,_,⟨kd,ea,eb,ec,et⟩,rfl,HD.out,HS1.out.keep HT2.out.2.2.1,HET.out,HT2.out.2.2.2 w.heap.size w HBB1.out (by have:=HQ.out;omega)⟩;clear e0 e1 e2 e3 e4 ef hv1;go_wp2_with fail
   refine bodyPost_ret (v:=.tuple #[.agg #[.int .i64 x.sec,.int .i64 x.bad,.slice A1 x.feeds.length c1,.slice A2 x.links.length c2,.slice A3 x.asked.length c3,.slice A4 x.net.length c4],.agg #[.int .i64 kd,.int .i64 ea,.int .i64 eb,.int .i64 ec,.string et]]) (by simp[results,Tryz.results14,go_sem,m0,m1,m2,m3,m4,m5,o0,o1,o2,o3,o4]) rfl HFIN.out
 subst hy;go_upto_region 5 with fail
 obtain⟨b0,b1,b2,b3,b4,b5,bf⟩:=qaa HBX4.out;go_wp2_with fail
 refine(qiw g 4061 w4 HR4.out a_).mono ?_;rintro e w5 ⟨x',uF,uL,uA,uN,rfl,hd,hs,r5,o5⟩;obtain⟨⟨B1,d1,rfl⟩,⟨B2,d2,rfl⟩,⟨B3,d3,rfl⟩,⟨B4,d4,rfl⟩⟩:=hs.sl;have hbx5:=(o5.block y6 (qai HBX4.out) (fun e=>by have:=Option.some.inj e;omega)).trans HBX4.out;have hev5:=(o5.block z6 (qai HEV4.out) (fun e=>by have:=Option.some.inj e;omega)).trans HEV4.out;have hg5:=HR4.out.lt;clear b0 b1 b2 b3 b4 b5 bf;obtain⟨b0,b1,b2,b3,b4,b5,bf⟩:=qaa hbx5;obtain⟨w6,HW6⟩:=nm_ ((((((w5.setCell ⟨y6,0,none⟩ (.int .i64 x'.sec)).setCell ⟨y6,1,none⟩ (.int .i64 x'.bad)).setCell ⟨y6,2,none⟩ (.slice B1 x'.feeds.length d1)).setCell ⟨y6,3,none⟩ (.slice B2 x'.links.length d2)).setCell ⟨y6,4,none⟩ (.slice B3 x'.asked.length d3)).setCell ⟨y6,5,none⟩ (.slice B4 x'.net.length d4));have HB4:Hid (Below W0.heap.size W0 w5):=hI_ ((HB2.out.trans (HO4.out.below hg hg4)).trans (o5.below hg hg5));have HBX:Hid (w6.heap[y6]? =some (.cells #[.int .i64 x'.sec,.int .i64 x'.bad,.slice B1 x'.feeds.length d1,.slice B2 x'.links.length d2,.slice B3 x'.asked.length d3,.slice B4 x'.net.length d4] 28 (0,0))):=hI_ (by rw[←HW6.out];exact qcU hbx5 _ _ _ _ _ _);have HEV:Hid (w6.heap[z6]? =some (.cells #[.int .i64 kd,.int .i64 ea,.int .i64 eb,.int .i64 ec,.string et] 30 (0,0))):=hI_ (by rw[←HW6.out];exact(qcN a_ _ _ _ _ _ _).trans hev5);have HZ:Hid (w6.heap[q]? =some (.cells #[.int .i64 0,.int .i64 0,.slice none 0 0,.slice none 0 0,.slice none 0 0,.slice none 0 0] 28 (0,0))):=hI_ (by rw[←HW6.out];exact(qcN a_ _ _ _ _ _ _).trans ((HB4.out.block q a_).trans hz0));have HE:Hid (w6.heap[q+1]? =some (.cells #[.int .i64 0,.int .i64 0,.int .i64 0,.int .i64 0,.string ⟨#[]⟩] 30 (0,0))):=hI_ (by rw[←HW6.out];exact(qcN a_ _ _ _ _ _ _).trans ((HB4.out.block (q+1) a_).trans he0));have HS:Hid (WdS w6 x' (.slice B1 x'.feeds.length d1) (.slice B2 x'.links.length d2) (.slice B3 x'.asked.length d3) (.slice B4 x'.net.length d4)):=hI_ (by rw[←HW6.out];exact hs.set6 hbx5 _ _ _ _ _ _);have HB:Hid (Below w.heap.size w w6):=hI_ (by rw[←HW6.out];exact qae (HB0.out.trans (HB4.out.mono HB0.out.size)) (by have:=HQ.out;omega) _ _ _ _ _ _);have HD:=hI_ hd;clear HBX2 HBX4 HEV3 HEV4 HS2 hs r5 o5 hbx5 hev5 hz0 he0 hs0 hg hg1 hg2 hg4 hg5 hd;go_upto_region 6 with fail
 rw[HW6.out];clear b0 b1 b2 b3 b4 b5 bf;obtain⟨b0,b1,b2,b3,b4,b5,bf⟩:=qaa HBX.out;obtain⟨v0,v1,v2,v3,v4,vf⟩:=qrL HEV.out;obtain⟨q0,q1,q2,q3,q4,q5,qf⟩:=qaa HZ.out;obtain⟨r0,r1,r2,r3,r4,rf⟩:=qrL HE.out;obtain⟨D,HD0⟩:∃ D,w6.drew=D:=⟨_,rfl⟩
 have hS0:w6.drew.cell? ⟨y6,0,none⟩=some (.int .i64 x'.sec)∧w6.drew.cell? ⟨y6,1,none⟩=some (.int .i64 x'.bad)∧w6.drew.cell? ⟨y6,2,none⟩=some (.slice B1 x'.feeds.length d1)∧w6.drew.cell? ⟨y6,3,none⟩=some (.slice B2 x'.links.length d2)∧w6.drew.cell? ⟨y6,4,none⟩=some (.slice B3 x'.asked.length d3)∧w6.drew.cell? ⟨y6,5,none⟩=some (.slice B4 x'.net.length d4)∧w6.drew.cell? ⟨z6,0,none⟩=some (.int .i64 kd)∧w6.drew.cell? ⟨z6,1,none⟩=some (.int .i64 ea)∧w6.drew.cell? ⟨z6,2,none⟩=some (.int .i64 eb)∧w6.drew.cell? ⟨z6,3,none⟩=some (.int .i64 ec)∧w6.drew.cell? ⟨z6,4,none⟩=some (.string et):=⟨b0,b1,b2,b3,b4,b5,v0,v1,v2,v3,v4⟩
 have HZD:Hid (D.heap[q]? =some (.cells #[.int .i64 0,.int .i64 0,.slice none 0 0,.slice none 0 0,.slice none 0 0,.slice none 0 0] 28 (0,0))):=hI_ (by rw[←HD0];exact HZ.out);have HED:Hid (D.heap[q+1]? =some (.cells #[.int .i64 0,.int .i64 0,.int .i64 0,.int .i64 0,.string ⟨#[]⟩] 30 (0,0))):=hI_ (by rw[←HD0];exact HE.out);have HSD:Hid (WdS D x' (.slice B1 x'.feeds.length d1) (.slice B2 x'.links.length d2) (.slice B3 x'.asked.length d3) (.slice B4 x'.net.length d4)):=hI_ (by rw[←HD0];exact HS.out.below (qac (bR_ _ _)));have HYD:Hid (D.heap[y6]? =some (.cells #[.int .i64 x'.sec,.int .i64 x'.bad,.slice B1 x'.feeds.length d1,.slice B2 x'.links.length d2,.slice B3 x'.asked.length d3,.slice B4 x'.net.length d4] 28 (0,0))∧D.heap[z6]? =some (.cells #[.int .i64 kd,.int .i64 ea,.int .i64 eb,.int .i64 ec,.string et] 30 (0,0))):=hI_ (by rw[←HD0];exact⟨HBX.out,HEV.out⟩);have HBD:Hid (Below w.heap.size w D):=hI_ (by rw[←HD0];exact qac HB.out);refine qrO (fun w'=>w'.cell? ⟨y6,0,none⟩=some (.int .i64 x'.sec)∧w'.cell? ⟨y6,1,none⟩=some (.int .i64 x'.bad)∧w'.cell? ⟨y6,2,none⟩=some (.slice B1 x'.feeds.length d1)∧w'.cell? ⟨y6,3,none⟩=some (.slice B2 x'.links.length d2)∧w'.cell? ⟨y6,4,none⟩=some (.slice B3 x'.asked.length d3)∧w'.cell? ⟨y6,5,none⟩=some (.slice B4 x'.net.length d4)∧w'.cell? ⟨z6,0,none⟩=some (.int .i64 kd)∧w'.cell? ⟨z6,1,none⟩=some (.int .i64 ea)∧w'.cell? ⟨z6,2,none⟩=some (.int .i64 eb)∧w'.cell? ⟨z6,3,none⟩=some (.int .i64 ec)∧w'.cell? ⟨z6,4,none⟩=some (.string et)) (fun _=>true) d_ hS0 (fun hS hI=> ?_);rw[HD0] at hS ⊢;clear HD0;clear q0 q1 q2 q3 q4 q5 qf r0 r1 r2 r3 r4 rf;obtain⟨q0,q1,q2,q3,q4,q5,qf⟩:=qaa HZD.out;clear b0 b1 b2 b3 b4 b5 bf v0 v1 v2 v3 v4 vf hS0;refine gU_ ?_ hI hS;clear hI;refine tU_ 0 ?_;refine tU_ 1 ?_;refine eU_ fun hI=>?_;obtain⟨V1,HV1⟩:=nm_ (((((((D.setCell ⟨q,0,none⟩ (.int .i64 x'.sec)).setCell ⟨q,1,none⟩ (.int .i64 x'.bad)).setCell ⟨q,2,none⟩ (.slice B1 x'.feeds.length d1)).setCell ⟨q,3,none⟩ (.slice B2 x'.links.length d2)).setCell ⟨q,4,none⟩ (.slice B3 x'.asked.length d3)).setCell ⟨q,5,none⟩ (.slice B4 x'.net.length d4)));refine qrQ (i:=2) hI rfl d_ (fun Ka hKa=> ?_);go_simp;rw[HV1.out];have hv1:V1.heap[q+1]? =some (.cells #[.int .i64 0,.int .i64 0,.int .i64 0,.int .i64 0,.string ⟨#[]⟩] 30 (0,0)):=by
  rw[←HV1.out];exact(qcN a_ _ _ _ _ _ _).trans HED.out
 have HX1:Hid (V1.heap[q]? =some (.cells #[.int .i64 x'.sec,.int .i64 x'.bad,.slice B1 x'.feeds.length d1,.slice B2 x'.links.length d2,.slice B3 x'.asked.length d3,.slice B4 x'.net.length d4] 28 (0,0))):=hI_ (by rw[←HV1.out];exact qcU HZD.out _ _ _ _ _ _);have HS1:Hid (WdS V1 x' (.slice B1 x'.feeds.length d1) (.slice B2 x'.links.length d2) (.slice B3 x'.asked.length d3) (.slice B4 x'.net.length d4)):=hI_ (by rw[←HV1.out];exact HSD.out.set6 HZD.out _ _ _ _ _ _);have HBB1:Hid (Below w.heap.size w V1):=hI_ (by rw[←HV1.out];exact qae HBD.out HQ.out _ _ _ _ _ _);have HYV1:Hid (V1.heap[y6]? =some (.cells #[.int .i64 x'.sec,.int .i64 x'.bad,.slice B1 x'.feeds.length d1,.slice B2 x'.links.length d2,.slice B3 x'.asked.length d3,.slice B4 x'.net.length d4] 28 (0,0))∧V1.heap[z6]? =some (.cells #[.int .i64 kd,.int .i64 ea,.int .i64 eb,.int .i64 ec,.string et] 30 (0,0))):=hI_ (by rw[←HV1.out];exact⟨(qcN a_ _ _ _ _ _ _).trans HYD.out.1,(qcN a_ _ _ _ _ _ _).trans HYD.out.2⟩);have hSV:∀ V:World,V.heap[y6]? =some (.cells #[.int .i64 x'.sec,.int .i64 x'.bad,.slice B1 x'.feeds.length d1,.slice B2 x'.links.length d2,.slice B3 x'.asked.length d3,.slice B4 x'.net.length d4] 28 (0,0))→V.heap[z6]? =some (.cells #[.int .i64 kd,.int .i64 ea,.int .i64 eb,.int .i64 ec,.string et] 30 (0,0))→V.cell? ⟨y6,0,none⟩=some (.int .i64 x'.sec)∧V.cell? ⟨y6,1,none⟩=some (.int .i64 x'.bad)∧V.cell? ⟨y6,2,none⟩=some (.slice B1 x'.feeds.length d1)∧V.cell? ⟨y6,3,none⟩=some (.slice B2 x'.links.length d2)∧V.cell? ⟨y6,4,none⟩=some (.slice B3 x'.asked.length d3)∧V.cell? ⟨y6,5,none⟩=some (.slice B4 x'.net.length d4)∧V.cell? ⟨z6,0,none⟩=some (.int .i64 kd)∧V.cell? ⟨z6,1,none⟩=some (.int .i64 ea)∧V.cell? ⟨z6,2,none⟩=some (.int .i64 eb)∧V.cell? ⟨z6,3,none⟩=some (.int .i64 ec)∧V.cell? ⟨z6,4,none⟩=some (.string et):=fun V k1 k2=>by
  obtain⟨b0,b1,b2,b3,b4,b5,bf⟩:=qaa k1;obtain⟨v0,v1,v2,v3,v4,vf⟩:=qrL k2;exact⟨b0,b1,b2,b3,b4,b5,v0,v1,v2,v3,v4⟩
 have HSV:=hI_ hSV;clear hSV;obtain⟨e0,e1,e2,e3,e4,ef⟩:=qrL hv1;clear q0 q1 q2 q3 q4 q5 qf;refine hKa.out _ _ (HSV.out _ HYV1.out.1 HYV1.out.2) (fun hI=> ?_);obtain⟨V2,HV2⟩:=nm_ (((((V1.setCell ⟨q+1,0,none⟩ (.int .i64 kd)).setCell ⟨q+1,1,none⟩ (.int .i64 ea)).setCell ⟨q+1,2,none⟩ (.int .i64 eb)).setCell ⟨q+1,3,none⟩ (.int .i64 ec)).setCell ⟨q+1,4,none⟩ (.string et));have HT2:=hI_ (qtN hv1 (.int .i64 kd) (.int .i64 ea) (.int .i64 eb) (.int .i64 ec) (.string et));rw[HV2.out] at HT2;refine qrQ (i:=3) hI rfl d_ (fun Kb hKb=> ?_);go_simp;rw[HV2.out];refine hKb.out _ _ (HSV.out _ ((HT2.out.2.1 y6 a_).trans HYV1.out.1) ((HT2.out.2.1 z6 a_).trans HYV1.out.2)) (fun hI=> ?_);refine qrM d_ ?_;obtain⟨o0,o1,o2,o3,o4,of⟩:=qrL HT2.out.1;obtain⟨m0,m1,m2,m3,m4,m5,mf⟩:=qaa ((HT2.out.2.1 q a_).trans HX1.out);have HFIN:Hid (qtC w (.returned (.tuple #[.agg #[.int .i64 x'.sec,.int .i64 x'.bad,.slice B1 x'.feeds.length d1,.slice B2 x'.links.length d2,.slice B3 x'.asked.length d3,.slice B4 x'.net.length d4],.agg #[.int .i64 kd,.int .i64 ea,.int .i64 eb,.int .i64 ec,.string et]])) V2):=hI_ ⟨x',_,_,_,_,⟨kd,ea,eb,ec,et⟩,rfl,HD.out,HS1.out.keep HT2.out.2.2.1,HET.out,HT2.out.2.2.2 w.heap.size w HBB1.out (by have:=HQ.out;omega)⟩;clear e0 e1 e2 e3 e4 ef hv1;go_wp2_with fail
 refine bodyPost_ret (v:=.tuple #[.agg #[.int .i64 x'.sec,.int .i64 x'.bad,.slice B1 x'.feeds.length d1,.slice B2 x'.links.length d2,.slice B3 x'.asked.length d3,.slice B4 x'.net.length d4],.agg #[.int .i64 kd,.int .i64 ea,.int .i64 eb,.int .i64 ec,.string et]]) (by simp[results,Tryz.results14,go_sem,m0,m1,m2,m3,m4,m5,o0,o1,o2,o3,o4]) rfl HFIN.out
end Go.Proofs.YtekaaekpdebloaaGreatDoor

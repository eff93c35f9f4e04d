/- Words and walks of the law. -/
import Derived.Test.YtekaaekpdebloaaGreatDoorBY5
set_option linter.unusedVariables false
set_option linter.unusedSimpArgs false
set_option maxHeartbeats 12800000
set_option maxRecDepth 100000
namespace Go.Proofs.YtekaaekpdebloaaGreatDoor
open Go.RowKit
attribute [local go_sem ↓] Go.wp_at_zero Go.wp_at_succ

def qeB(w:World)(q:Nat)(z:Int×Int):Prop:=w.heap[q]? =some (.cells #[.int .i64 z.1,.int .i64 z.2] 99 (0,0))
theorem qeB.c{w:World}{q:Nat}{z:Int×Int}(h:qeB w q z):w.cell? ⟨q,0,none⟩=some (.int .i64 z.1)∧w.cell? ⟨q,1,none⟩=some (.int .i64 z.2)∧∀ o,w.frozen? ⟨q,o,none⟩=false:=
 ⟨cell_of_row _ _ 0 _ _ _ h,cell_of_row _ _ 1 _ _ _ h,fun o=>qgI h o⟩
def qa8(ls:List (Int×Int))(z:Int×Int)(up:Bool)(k:Nat):qcR:=(ls.take k).foldl qeV ⟨[],up,z⟩
theorem qa8.snoc{ls:List (Int×Int)}{z:Int×Int}{up:Bool}{k:Nat}(h:k<ls.length):qa8 ls z up (k+1)=qeV (qa8 ls z up k) ls[k]:=by
 unfold qa8;rw[qaZ h,List.foldl_append];rfl
theorem qav.setb{B:Nat}{e:TypeId}{w:World}{v:Value}{l:List (Int×Int)}(h:qav B e w v l){q:Nat}(hq:q<B)(i:Nat)(u:Value):qav B e (w.setCell ⟨q,i,none⟩ u) v l:=by
 obtain⟨F,h1,h2⟩:=h;exact⟨F,h1.grown (qaR _ _ _) (.inr fun e=>by have:=(h1.lt _ e).1;show False;simp only at this;omega),h2⟩
theorem qav.lt{B:Nat}{e:TypeId}{w:World}{v:Value}{l:List (Int×Int)}(h:qav B e w v l):∀ k,v.ownBlock=some k→B≤k∧k<w.heap.size:=by obtain⟨F,h1,h2⟩:=h;exact h1.lt
theorem qmc(s:qcR)(l:Int×Int):(qeV s l).out.length≤s.out.length+2:=by
 unfold qeV;split <;> dsimp only <;> split <;> simp <;> omega
theorem qa8.len{ls:List (Int×Int)}{z:Int×Int}{up:Bool}(k:Nat)(hk:k≤ls.length):(qa8 ls z up k).out.length≤2*k:=by
 induction k with
 |zero=>simp[qa8]
 |succ k ih=>rw[qa8.snoc hk];have:=qmc (qa8 ls z up k) ls[k];have:=ih a_;omega
theorem qhI{s:qcR}{l:Int×Int}(hu:s.up=true)(hg:gtL l s.key=true):qeV s l=if l.1== -1&&l.2==0 then ⟨s.out++[s.key],false,(-1,0)⟩ else ⟨s.out++[s.key]++[l],false,(-1,0)⟩:=by
 unfold qeV;rw[hu,hg];rfl
theorem qee{s:qcR}{l:Int×Int}(hg:(s.up&&gtL l s.key)=false):qeV s l=if l.1==s.key.1&&l.2==s.key.2 then s else {s with out:=s.out++[l]}:=by
 unfold qeV;rw[hg];rfl

structure qgt (w:World) (par:Array Value) (wr:World) (st:qcR) (v:Value):Prop where
 p:wr.heap[w.heap.size]? =some (.cells par 28 (0,0))
 z:wr.heap[w.heap.size+1]? =some (.cells #[.int .i64 0,.int .i64 0,.slice none 0 0,.slice none 0 0,.slice none 0 0,.slice none 0 0] 28 (0,0))
 q:qeB wr (w.heap.size+1+1) st.key
 o:qav (w.heap.size+3) 99 wr v st.out
 b:bB w wr
section
variable {w wr w5:World} {par:Array Value} {out out':List (Int×Int)} {u u':Bool} {ky:Int×Int} {v v':Value}
theorem qgt.alloc(h:qgt w par wr ⟨out,u,ky⟩ v)(o:Obj):qgt w par (wr.alloc o) ⟨out,u,ky⟩ v:=
 ⟨qau h.p,qau h.z,qau h.q,h.o.next (qaA.alloc (T:=LT2) o) e_,h.b.alloc h.b.size o⟩
theorem qgt.grow(h:qgt w par wr ⟨out,u,ky⟩ v)(hg:wr.grownBy w5 v.ownBlock)(ho:qav (w.heap.size+3) 99 w5 v' out'):qgt w par w5 ⟨out',u',ky⟩ v':=by
 have hl:=(Array.getElem?_eq_some_iff.1 h.q).1;refine⟨(hg.block _ a_ (fun e=> ?_)).trans h.p,(hg.block _ a_ (fun e=> ?_)).trans h.z,(hg.block _ a_ (fun e=> ?_)).trans h.q,ho,h.b.grown hg h.b.size (fun r hr=> ?_)⟩;iterate 3
  · have:=(h.o.lt _ e.symm).1;omega
 · have:=(h.o.lt _ hr).1;omega
theorem qeB.grow{q:Nat}{y:Int×Int}(hy:qeB wr q y)(hg:wr.grownBy w5 v.ownBlock)(hne:v.ownBlock≠some q):qeB w5 q y:=
 (hg.block _ (Array.getElem?_eq_some_iff.1 hy).1 (fun e=>hne e.symm)).trans hy
theorem qgt.key(h:qgt w par wr ⟨out,u,ky⟩ v)(z:Int×Int):qgt w par ((wr.setCell ⟨w.heap.size+1+1,0,none⟩ (.int .i64 z.1)).setCell ⟨w.heap.size+1+1,1,none⟩ (.int .i64 z.2)) ⟨out,u',z⟩ v:=
 ⟨(Below.heap_setCell _ _ _ _ (by show w.heap.size≠w.heap.size+1+1;omega)).trans ((Below.heap_setCell _ _ _ _ (by show w.heap.size≠w.heap.size+1+1;omega)).trans h.p),
  (Below.heap_setCell _ _ _ _ (by show w.heap.size+1≠w.heap.size+1+1;omega)).trans ((Below.heap_setCell _ _ _ _ (by show w.heap.size+1≠w.heap.size+1+1;omega)).trans h.z),
  qas (i:=1) (qas (i:=0) h.q _) _,(h.o.setb a_ _ _).setb a_ _ _,(h.b.setCell (p:=⟨w.heap.size+1+1,0,none⟩) (by show w.heap.size≤w.heap.size+1+1;omega) _).setCell (p:=⟨w.heap.size+1+1,1,none⟩) (by show w.heap.size≤w.heap.size+1+1;omega) _⟩
end
theorem qf2(x:Wd)(a b:Int)(up:Bool)(vF vL vA vN:Value)(w:World)(hx:WdS w x vF vL vA vN)(hm:Sml x):
 Calls Tryz.prog 118 #[.agg #[.int .i64 x.sec,.int .i64 x.bad,vF,vL,vA,vN],.int .i64 a,.int .i64 b,.bool up] w (qhd w (qeh x a b up)):=by
 obtain⟨s,bd,fs,ls,ks,ps⟩:=x;have HML:=hI_ hm.l;have HF:=hI_ hm.f;simp only at HF;clear hm;obtain⟨fA,fc,rfl⟩:=hx.r.feeds.sl;obtain⟨lA,lc,rfl⟩:=hx.r.links.sl;obtain⟨aA,ac,rfl⟩:=hx.r.asked.sl;obtain⟨nA,nc,rfl⟩:=hx.r.net.sl;simp only at hx;have hlw:=hx.r.links;simp only at hlw;obtain⟨z,HK⟩:=nm_ (qbw a b);have hz1:z.1=min a b:=by rw[←HK.out];rfl
 have hz2:z.2=max a b:=by rw[←HK.out];rfl
 obtain⟨W0,HW0⟩:=nm_ (((w.alloc (.cells #[.int .i64 s,.int .i64 bd,.slice fA fs.length fc,.slice lA ls.length lc,.slice aA ks.length ac,.slice nA ps.length nc] 28)).alloc (.cells #[.int .i64 0,.int .i64 0,.slice none 0 0,.slice none 0 0,.slice none 0 0,.slice none 0 0] 28)).alloc (.cells #[.int .i64 z.1,.int .i64 z.2] 99));have HB0:Hid (bB w W0):=hI_ R_;have hs0:w.heap.size+3=W0.heap.size:=by rw[←HW0.out];simp
 have HP0:Hid (W0.heap[w.heap.size]? =some (.cells #[.int .i64 s,.int .i64 bd,.slice fA fs.length fc,.slice lA ls.length lc,.slice aA ks.length ac,.slice nA ps.length nc] 28 (0,0))):=hI_ T_;have HZ0:Hid (W0.heap[w.heap.size+1]? =some (.cells #[.int .i64 0,.int .i64 0,.slice none 0 0,.slice none 0 0,.slice none 0 0,.slice none 0 0] 28 (0,0))):=hI_ ad_;have HQ0:Hid (qeB W0 (w.heap.size+1+1) z):=hI_ (by unfold qeB;rw[←HW0.out];exact qbu k_);have HX0:Hid (WdS W0 ⟨s,bd,fs,ls,ks,ps⟩ (.slice fA fs.length fc) (.slice lA ls.length lc) (.slice aA ks.length ac) (.slice nA ps.length nc)):=hI_ (hx.below HB0.out);have HXw:=hI_ hx;have HLw:Hid (RP w (.slice lA ls.length lc) ls):=hI_ hlw;have HL0:Hid (RP W0 (.slice lA ls.length lc) ls):=hI_ HX0.out.r.links;have hl0:w.heap.size<W0.heap.size:=a_;have hl1:w.heap.size+1<W0.heap.size:=a_;have hl2:w.heap.size+1+1<W0.heap.size:=a_;clear hx hs0 hlw;have hcase:(a<b∧¬ b<a∧Hid (z.1=a)∧Hid (z.2=b))∨(a=b∧Hid (z.1=a)∧Hid (z.2=a))∨(b<a∧¬ a<b∧Hid (z.1=b)∧Hid (z.2=a)):=by
  rcases Int.lt_trichotomy a b with h|h|h
  · exact .inl ⟨h,a_,hI_ a_,hI_ a_⟩
  · exact .inr (.inl ⟨h,hI_ a_,hI_ a_⟩)
  · exact .inr (.inr ⟨h,a_,hI_ a_,hI_ a_⟩)
 clear hz1 hz2;have hno:∀ (x':Wd) (W:World),x'=⟨s,bd,fs,ls,ks,ps⟩→bB W0 W→qhd w x' (.returned (.agg #[.int .i64 s,.int .i64 bd,.slice fA fs.length fc,.slice lA ls.length lc,.slice aA ks.length ac,.slice nA ps.length nc]))
  ((((((W.setCell ⟨w.heap.size+1,0,none⟩ (.int .i64 s)).setCell ⟨w.heap.size+1,1,none⟩ (.int .i64 bd)).setCell ⟨w.heap.size+1,2,none⟩ (.slice fA fs.length fc)).setCell ⟨w.heap.size+1,3,none⟩ (.slice lA ls.length lc)).setCell ⟨w.heap.size+1,4,none⟩ (.slice aA ks.length ac)).setCell ⟨w.heap.size+1,5,none⟩ (.slice nA ps.length nc)):=by
  rintro x' W rfl hb;exact⟨_,_,_,_,rfl,(HX0.out.below hb).set6 ((hb.block _ hl1).trans HZ0.out) _ _ _ _ _ _,qae (HB0.out.trans (hb.mono (Nat.le_of_lt hl0))) (Nat.le_succ _) _ _ _ _ _ _⟩
 have HNO:=hI_ hno;clear hno;have HTM:Hid (qeh ⟨s,bd,fs,ls,ks,ps⟩ a b up=if ((z.1 !=z.2)&&inB z.1 0 ((fs.length:Int)-1)&&inB z.2 0 ((fs.length:Int)-1)&&(qbk ⟨s,bd,fs,ls,ks,ps⟩ a b !=up))=true then ⟨s,bd,fs,qfr ls z up,ks,ps⟩ else ⟨s,bd,fs,ls,ks,ps⟩):=hI_ (by rw[←HK.out];rfl);obtain⟨w',hw'⟩:∃ y,Hid (qeh ⟨s,bd,fs,ls,ks,ps⟩ a b up=y):=⟨_,hI_ rfl⟩
 rw[hw'.out] at HTM ⊢;obtain⟨p0,p1,p2,p3,p4,p5,pf⟩:=qaa HP0.out;obtain⟨z0,zz1,zz2,z3,z4,z5,zf⟩:=qaa HZ0.out;obtain⟨q0,q1,qf⟩:=HQ0.out.c;obtain⟨v2,h2⟩:∃ v,inB z.1 0 ((fs.length:Int)-1)=v:=⟨_,rfl⟩
 obtain⟨v3,h3⟩:∃ v,inB z.2 0 ((fs.length:Int)-1)=v:=⟨_,rfl⟩
 obtain⟨v4,h4⟩:∃ v,qbk ⟨s,bd,fs,ls,ks,ps⟩ a b=v:=⟨_,rfl⟩
 have hfl:(fs.length:Int)≤1000000:=by have:=HF.out;omega
 rw[h2,h3,h4] at HTM;have HM4:=hI_ h4;clear h4 hw';rcases hcase with⟨hab,hba,HZ1,HZ2⟩|⟨rfl,HZ1,HZ2⟩|⟨hab,hba,HZ1,HZ2⟩
 rotate_left
 · obtain⟨z1,z2⟩:=z;obtain rfl:z1=a:=HZ1.out;obtain rfl:z2=z1:=HZ2.out;have HR:=hI_ (HTM.out.trans (if_neg k_));clear h2 h3;clear p0 p1 p2 p3 p4 p5 pf z0 zz1 zz2 z3 z4 z5 zf q0 q1 qf;go_enter Tryz.func118,Tryz.ntmps118
   go_wp2_with fail
   refine bodyPost_ret (v:=.agg #[.int .i64 s,.int .i64 bd,.slice fA fs.length fc,.slice lA ls.length lc,.slice aA ks.length ac,.slice nA ps.length nc]) (by simp[results,Tryz.results118,go_sem]) rfl ?_;rw[HR.out];exact⟨_,_,_,_,rfl,HXw.out.below (qab (qab (qab (bR_ _ _) _) _) _),qab (qab (qab (bR_ _ _) _) _) _⟩
 all_goals
  obtain rfl:=HZ1.out;obtain rfl:=HZ2.out;have h12:(z.1==z.2)=false:=by rw[beq_eq_false_iff_ne];omega
  cases v2
  · have HR:=hI_ (HTM.out.trans (if_neg k_));clear h3;go_enter Tryz.func118,Tryz.ntmps118
    go_wp2_with fail
    rw[HW0.out];go_wp2_with (first
     |(go_at_call 124;refine(qaV _ _ _ _).mono ?_;rintro e w9 ⟨rfl,rfl⟩)
     |(go_at_call 194;refine(qbY ⟨s,bd,fs,ls,ks,ps⟩ _ _ _ _ _ _ _ HL0.out).mono ?_;rintro e w1 ⟨rfl,hb1⟩;rw[HM4.out]
       have hl1s:=hb1.size;obtain⟨t0,t1,t2,t3,t4,t5,tf⟩:=qaa ((hb1.block _ hl0).trans HP0.out);obtain⟨y0,y1,y2,y3,y4,y5,yf⟩:=qaa ((hb1.block _ hl1).trans HZ0.out);have hq1:qeB w1 (w.heap.size+1+1) z:=(hb1.block _ hl2).trans HQ0.out;obtain⟨u0,u1,uf⟩:=hq1.c))
    refine bodyPost_ret (v:=.agg #[.int .i64 s,.int .i64 bd,.slice fA fs.length fc,.slice lA ls.length lc,.slice aA ks.length ac,.slice nA ps.length nc]) (by simp[results,Tryz.results118,go_sem,z0,zz1,zz2,z3,z4,z5]) rfl (HNO.out _ _ HR.out (bR_ _ _))
  cases v3
  · have HR:=hI_ (HTM.out.trans (if_neg k_))
    skip
    go_enter Tryz.func118,Tryz.ntmps118
    go_wp2_with fail
    rw[HW0.out];go_wp2_with (first
     |(go_at_call 124;refine(qaV _ _ _ _).mono ?_;rintro e w9 ⟨rfl,rfl⟩)
     |(go_at_call 194;refine(qbY ⟨s,bd,fs,ls,ks,ps⟩ _ _ _ _ _ _ _ HL0.out).mono ?_;rintro e w1 ⟨rfl,hb1⟩;rw[HM4.out]
       have hl1s:=hb1.size;obtain⟨t0,t1,t2,t3,t4,t5,tf⟩:=qaa ((hb1.block _ hl0).trans HP0.out);obtain⟨y0,y1,y2,y3,y4,y5,yf⟩:=qaa ((hb1.block _ hl1).trans HZ0.out);have hq1:qeB w1 (w.heap.size+1+1) z:=(hb1.block _ hl2).trans HQ0.out;obtain⟨u0,u1,uf⟩:=hq1.c))
    refine bodyPost_ret (v:=.agg #[.int .i64 s,.int .i64 bd,.slice fA fs.length fc,.slice lA ls.length lc,.slice aA ks.length ac,.slice nA ps.length nc]) (by simp[results,Tryz.results118,go_sem,z0,zz1,zz2,z3,z4,z5]) rfl (HNO.out _ _ HR.out (bR_ _ _))
  by_cases hu:v4=up
  · have HR:=hI_ (HTM.out.trans (if_neg (by subst hu;simp)))
    skip
    subst hu;cases v4
    all_goals
     go_enter Tryz.func118,Tryz.ntmps118
     go_wp2_with fail
     rw[HW0.out];go_wp2_with (first
     |(go_at_call 124;refine(qaV _ _ _ _).mono ?_;rintro e w9 ⟨rfl,rfl⟩)
     |(go_at_call 194;refine(qbY ⟨s,bd,fs,ls,ks,ps⟩ _ _ _ _ _ _ _ HL0.out).mono ?_;rintro e w1 ⟨rfl,hb1⟩;rw[HM4.out]
       have hl1s:=hb1.size;obtain⟨t0,t1,t2,t3,t4,t5,tf⟩:=qaa ((hb1.block _ hl0).trans HP0.out);obtain⟨y0,y1,y2,y3,y4,y5,yf⟩:=qaa ((hb1.block _ hl1).trans HZ0.out);have hq1:qeB w1 (w.heap.size+1+1) z:=(hb1.block _ hl2).trans HQ0.out;obtain⟨u0,u1,uf⟩:=hq1.c))
     refine bodyPost_ret (v:=.agg #[.int .i64 s,.int .i64 bd,.slice fA fs.length fc,.slice lA ls.length lc,.slice aA ks.length ac,.slice nA ps.length nc]) bY_ rfl (HNO.out _ _ HR.out hb1)
  · have HR:=hI_ (HTM.out.trans (if_pos (by rw[show(z.1 !=z.2)=true by simp[bne,h12]];simp[hu])));obtain rfl:v4= !up:=by cases v4 <;> cases up <;> simp_all
    clear hu;go_enter Tryz.func118,Tryz.ntmps118
    go_wp2_with fail
    rw[HW0.out];go_wp2_with (first
     |(go_at_call 124;refine(qaV _ _ _ _).mono ?_;rintro e w9 ⟨rfl,rfl⟩)
     |(go_at_call 194;refine(qbY ⟨s,bd,fs,ls,ks,ps⟩ _ _ _ _ _ _ _ HL0.out).mono ?_;rintro e w1 ⟨rfl,hb1⟩;rw[HM4.out]
       have hl1s:=hb1.size;obtain⟨t0,t1,t2,t3,t4,t5,tf⟩:=qaa ((hb1.block _ hl0).trans HP0.out);obtain⟨y0,y1,y2,y3,y4,y5,yf⟩:=qaa ((hb1.block _ hl1).trans HZ0.out);have hq1:qeB w1 (w.heap.size+1+1) z:=(hb1.block _ hl2).trans HQ0.out;obtain⟨u0,u1,uf⟩:=hq1.c))
    have HB1:Hid (bB w (w1.alloc (.cells #[] 99))):=hI_ (qab (HB0.out.trans (hb1.mono HB0.out.size)) _);have HT1:Hid (w1.heap[w.heap.size]? =_):=hI_ ((hb1.block _ hl0).trans HP0.out);have HZ1:Hid (w1.heap[w.heap.size+1]? =_):=hI_ ((hb1.block _ hl1).trans HZ0.out);have HQ1:=hI_ hq1;have hlw13:w.heap.size+3≤w1.heap.size:=a_;clear p0 p1 p2 p3 p4 p5 pf z0 zz1 zz2 z3 z4 z5 zf q0 q1 qf t0 t1 t2 t3 t4 t5 tf y0 y1 y2 y3 y4 y5 yf u0 u1 uf hq1 hb1 hl1s;go_loopw [3,10,11] (fun s3 s10 i wr=>∃ k:Nat,k≤ls.length∧i=.int .i64 k∧s3=.bool (qa8 ls z up k).up∧qgt w #[.int .i64 s,.int .i64 bd,.slice fA fs.length fc,.slice lA ls.length lc,.slice aA ks.length ac,.slice nA ps.length nc] wr (qa8 ls z up k) s10) (fun _ _ i _=>ls.length-(intOf i).toNat)
    case atStart=>exact⟨0,Nat.zero_le _,rfl,rfl,⟨qau HT1.out,qau HZ1.out,qau HQ1.out,qav.empty (heap_alloc_new _ _) hlw13,HB1.out⟩⟩
    case round=>
     obtain⟨k,hk,rfl,rfl,ht⟩:=hrel;have HTW:=hI_ ht;obtain⟨p0,p1,p2,p3,p4,p5,pf⟩:=qaa ht.p;obtain⟨z0,z1,z2,z3,z4,z5,zf⟩:=qaa ht.z;obtain⟨q0,q1,qf⟩:=ht.q.c;have hwl:=ht.b.size;clear ht;by_cases hlt:k<ls.length
     case neg=>
      obtain rfl:k=ls.length:=a_;have HTL0:Hid (qfr ls z up=if (qa8 ls z up ls.length).up then (qa8 ls z up ls.length).out++[(qa8 ls z up ls.length).key] else (qa8 ls z up ls.length).out):=hI_ (by unfold qfr qa8;rw[List.take_length]);have HLN:=hI_ (qa8.len (z:=z) (up:=up) ls.length (nr_ _));obtain⟨st,HST⟩:=nm_ (qa8 ls z up ls.length);rw[HST.out] at HTW HTL0 HLN q0 q1 ⊢;obtain⟨out,u,⟨k1,k2⟩⟩:=st;simp only at q0 q1 ⊢;have hlo:out.length+1≤100000000000:=by have:=HLN.out;have:ls.length≤1000000:=HML.out;simp only at *;omega
      cases u
      · obtain⟨A5,c5,rfl⟩:=HTW.out.o.sl;have HTL:Hid (qfr ls z up=out):=hI_ HTL0.out;go_wp2_with fail
        have hX:WdS wr ⟨s,bd,fs,ls,ks,ps⟩ _ _ _ _:=HXw.out.below HTW.out.b;have hY:WdS wr ⟨s,bd,fs,qfr ls z up,ks,ps⟩ _ (.slice A5 out.length c5) _ _:=WdS.of hX.feeds (by rw[HTL.out];exact HTW.out.o.stb e_) hX.asked hX.net;have hY2:=hY.keep (qaA.set1 (i:=3) HTW.out.p e_ (.slice A5 out.length c5));have hz2:=(Below.heap_setCell wr ⟨w.heap.size,3,none⟩ (.slice A5 out.length c5) (w.heap.size+1) U_).trans HTW.out.z;have hb2:=qaN (i:=3) (q:=w.heap.size) (v:=.slice A5 out.length c5) HTW.out.b (nr_ _);obtain⟨y0,y1,y2,y3,y4,y5,yf⟩:=qaa hz2;refine bodyPost_ret (v:=.agg #[.int .i64 s,.int .i64 bd,.slice fA fs.length fc,.slice A5 out.length c5,.slice aA ks.length ac,.slice nA ps.length nc]) bY_ rfl ?_;rw[HR.out];exact⟨_,_,_,_,rfl,hY2.set6 hz2 _ _ _ _ _ _,qae hb2 (Nat.le_succ _) _ _ _ _ _ _⟩
      · have HTL:Hid (qfr ls z up=out++[(k1,k2)]):=hI_ HTL0.out;go_wp2_with (at_builtin;refine qaF rfl fun K hK=>qbj (base:=w.heap.size+3) HTW.out.o hlo (by have:=(Array.getElem?_eq_some_iff.1 HTW.out.q).1;omega) rfl rfl rfl rfl (fun A5 c5 w5 ho5 hg5=>hK _ _ ?_);obtain⟨n5,hn5⟩:∃ n,({out:=out,up:=true,key:=(k1,k2)}:qcR).out.length+1=n:=⟨_,rfl⟩;simp only[hn5] at ho5 ⊢;clear hn5;have hT5:=HTW.out.grow (u':=false) hg5 ho5;have HT5:=hI_ hT5;obtain⟨d0,d1,d2,d3,d4,d5,df⟩:=qaa hT5.p;obtain⟨x0,x1,x2,x3,x4,x5,xf⟩:=qaa hT5.z;clear hT5)
        have hX:WdS w5 ⟨s,bd,fs,ls,ks,ps⟩ _ _ _ _:=HXw.out.below HT5.out.b;have hY:WdS w5 ⟨s,bd,fs,qfr ls z up,ks,ps⟩ _ (.slice A5 n5 c5) _ _:=WdS.of hX.feeds (by rw[HTL.out];exact HT5.out.o.stb e_) hX.asked hX.net;have hY2:=hY.keep (qaA.set1 (i:=3) HT5.out.p e_ (.slice A5 n5 c5));have hz2:=(Below.heap_setCell w5 ⟨w.heap.size,3,none⟩ (.slice A5 n5 c5) (w.heap.size+1) U_).trans HT5.out.z;have hb2:=qaN (i:=3) (q:=w.heap.size) (v:=.slice A5 n5 c5) HT5.out.b (nr_ _);obtain⟨y0,y1,y2,y3,y4,y5,yf⟩:=qaa hz2;refine bodyPost_ret (v:=.agg #[.int .i64 s,.int .i64 bd,.slice fA fs.length fc,.slice A5 n5 c5,.slice aA ks.length ac,.slice nA ps.length nc]) bY_ rfl ?_;rw[HR.out];exact⟨_,_,_,_,rfl,hY2.set6 hz2 _ _ _ _ _ _,qae hb2 (Nat.le_succ _) _ _ _ _ _ _⟩
     have hlz:ls.length≤1000000:=HML.out;have hki:(k:Int)<(ls.length:Int):=a_;have hk0:(0:Int)≤(k:Int):=a_;obtain⟨b',o,hAe,hbs,e0,e1⟩:=(HLw.out.below HTW.out.b).at_ hlt;subst hAe;have HSN:=hI_ (qa8.snoc (z:=z) (up:=up) hlt);have HLN:=hI_ (qa8.len (z:=z) (up:=up) k hk);have HN2:=hI_ (qa8.len (z:=z) (up:=up) (k+1) hlt);obtain⟨st,HST⟩:=nm_ (qa8 ls z up k);rw[HST.out] at HSN HTW HLN q0 q1 ⊢;obtain⟨⟨y1,y2⟩,HY⟩:∃ y,Hid (ls[k]=y):=⟨_,hI_ rfl⟩
     rw[HY.out] at e0 e1 HSN;obtain⟨out,u,⟨k1,k2⟩⟩:=st;have HLT:Hid (k+1≤ls.length):=hI_ hlt;simp only at q0 q1 e0 e1 ⊢;have hpar:(u=true∧k1<y1)∨(u=true∧y1=k1∧k2<y2)∨(u=false)∨(u=true∧¬ k1<y1∧(y1==k1)=false)∨(u=true∧y1=k1∧¬ k2<y2):=by
      cases u
      · exact .inr (.inr (.inl rfl))
      · by_cases h1:k1<y1
        · exact .inl ⟨rfl,h1⟩
        · by_cases h2:y1=k1
          · by_cases h3:k2<y2
            · exact .inr (.inl ⟨rfl,h2,h3⟩)
            · exact .inr (.inr (.inr (.inr ⟨rfl,h2,h3⟩)))
          · exact .inr (.inr (.inr (.inl ⟨rfl,h1,by rw[beq_eq_false_iff_ne];exact h2⟩)))
     obtain⟨Wl,HWl⟩:=nm_ (wr.alloc (.cells #[.int .i64 y1,.int .i64 y2] 99));have hsl:Wl.heap.size=wr.heap.size+1:=by rw[←HWl.out];simp
     have HTl:=hI_ (HTW.out.alloc (.cells #[.int .i64 y1,.int .i64 y2] 99));rw[HWl.out] at HTl;have HYl:Hid (qeB Wl wr.heap.size (y1,y2)):=hI_ (by unfold qeB;rw[←HWl.out];exact heap_alloc_new _ _);have HBl:Hid (bB w Wl):=hI_ (by rw[←HWl.out];exact HTW.out.b.alloc hwl _);have HRl:=hI_ HTW.out.o.lt;have HSl:=hI_ hsl;have hlq:=(Array.getElem?_eq_some_iff.1 HTW.out.q).1;have hn1:wr.heap.size≠w.heap.size+1+1:=a_;have hn2:w.heap.size+1+1≠wr.heap.size:=a_;have hlo:out.length+1+1≤100000000000:=by have:=HLN.out;have:=HML.out;simp only at *;omega
     clear hsl;rcases hpar with hA|hA|hB|hB|hB;rotate_left 2
     · obtain rfl:=hB;have HT:=hI_ (qee (s:=⟨out,false,(k1,k2)⟩) (l:=(y1,y2)) rfl);have HTN:=HT;by_cases h1:y1=k1
       · obtain rfl:=h1;by_cases h2:y2=k2
         · obtain rfl:=h2;have HTE:Hid (qa8 ls z up (k+1)=⟨out,false,(y1,y2)⟩):=hI_ (by rw[HSN.out,HT.out];simp);go_wp2_with fail
           go_roundw
           case rel=>exact⟨k+1,HLT.out,(by have:=HLT.out;have:ls.length≤1000000:=HML.out;go_num),aq_,by rw[HTE.out,HWl.out];exact HTl.out⟩
           case measure=>(have:=HLT.out;have:ls.length≤1000000:=HML.out;simp[intOf];omega)
         · have h2':(y2==k2)=false:=by rw[beq_eq_false_iff_ne];exact h2
           have HTE:Hid (qa8 ls z up (k+1)=⟨out++[(y1,y2)],false,(y1,k2)⟩):=hI_ (by rw[HSN.out,HT.out];simp[h2']);clear h2;go_wp2_with (at_builtin;rw[HWl.out];refine qaF rfl fun K hK=>qbj (base:=w.heap.size+3) HTl.out.o K_ X_ rfl rfl rfl HSl.out.symm (fun A5 c5 w5 ho5 hg5=>hK _ _ ?_);obtain⟨n5,hn5⟩:∃ n,({out:=out,up:=false,key:=(y1,k2)}:qcR).out.length+1=n:=⟨_,rfl⟩;simp only[hn5] at ho5 ⊢;clear hn5)
           go_roundw
           case rel=>exact⟨k+1,HLT.out,(by have:=HLT.out;have:ls.length≤1000000:=HML.out;go_num),aq_,ax_⟩
           case measure=>(have:=HLT.out;have:ls.length≤1000000:=HML.out;simp[intOf];omega)
       · have h1':(y1==k1)=false:=by rw[beq_eq_false_iff_ne];exact h1
         have HTE:Hid (qa8 ls z up (k+1)=⟨out++[(y1,y2)],false,(k1,k2)⟩):=hI_ (by rw[HSN.out,HT.out];simp[h1']);clear h1;go_wp2_with (at_builtin;rw[HWl.out];refine qaF rfl fun K hK=>qbj (base:=w.heap.size+3) HTl.out.o K_ X_ rfl rfl rfl HSl.out.symm (fun A5 c5 w5 ho5 hg5=>hK _ _ ?_);obtain⟨n5,hn5⟩:∃ n,({out:=out,up:=false,key:=(k1,k2)}:qcR).out.length+1=n:=⟨_,rfl⟩;simp only[hn5] at ho5 ⊢;clear hn5)
         go_roundw
         case rel=>exact⟨k+1,HLT.out,(by have:=HLT.out;have:ls.length≤1000000:=HML.out;go_num),aq_,ax_⟩
         case measure=>(have:=HLT.out;have:ls.length≤1000000:=HML.out;simp[intOf];omega)
     · obtain⟨rfl,hB1,hB2⟩:=hB;have HTE:Hid (qa8 ls z up (k+1)=⟨out++[(y1,y2)],true,(k1,k2)⟩):=hI_ (by rw[HSN.out,qee (by simp[gtL,hB1,hB2])];simp[hB2]);go_wp2_with (at_builtin;rw[HWl.out];refine qaF rfl fun K hK=>qbj (base:=w.heap.size+3) HTl.out.o K_ X_ rfl rfl rfl HSl.out.symm (fun A5 c5 w5 ho5 hg5=>hK _ _ ?_);obtain⟨n5,hn5⟩:∃ n,({out:=out,up:=true,key:=(k1,k2)}:qcR).out.length+1=n:=⟨_,rfl⟩;simp only[hn5] at ho5 ⊢;clear hn5)
       go_roundw
       case rel=>exact⟨k+1,HLT.out,(by have:=HLT.out;have:ls.length≤1000000:=HML.out;go_num),aq_,ax_⟩
       case measure=>(have:=HLT.out;have:ls.length≤1000000:=HML.out;simp[intOf];omega)
     · obtain⟨rfl,rfl,hB2⟩:=hB;have hB3:gtL (y1,y2) (y1,k2)=false:=by simp[gtL,hB2]
       by_cases h2:y2=k2
       · obtain rfl:=h2;have HTE:Hid (qa8 ls z up (k+1)=⟨out,true,(y1,y2)⟩):=hI_ (by rw[HSN.out,qee (by simp[hB3])];simp);clear hB3;go_wp2_with fail
         go_roundw
         case rel=>exact⟨k+1,HLT.out,(by have:=HLT.out;have:ls.length≤1000000:=HML.out;go_num),aq_,by rw[HTE.out,HWl.out];exact HTl.out⟩
         case measure=>(have:=HLT.out;have:ls.length≤1000000:=HML.out;simp[intOf];omega)
       · have h2':(y2==k2)=false:=by rw[beq_eq_false_iff_ne];exact h2
         have HTE:Hid (qa8 ls z up (k+1)=⟨out++[(y1,y2)],true,(y1,k2)⟩):=hI_ (by rw[HSN.out,qee (by simp[hB3])];simp[h2']);clear h2 hB3;go_wp2_with (at_builtin;rw[HWl.out];refine qaF rfl fun K hK=>qbj (base:=w.heap.size+3) HTl.out.o K_ X_ rfl rfl rfl HSl.out.symm (fun A5 c5 w5 ho5 hg5=>hK _ _ ?_);obtain⟨n5,hn5⟩:∃ n,({out:=out,up:=true,key:=(y1,k2)}:qcR).out.length+1=n:=⟨_,rfl⟩;simp only[hn5] at ho5 ⊢;clear hn5)
         go_roundw
         case rel=>exact⟨k+1,HLT.out,(by have:=HLT.out;have:ls.length≤1000000:=HML.out;go_num),aq_,ax_⟩
         case measure=>(have:=HLT.out;have:ls.length≤1000000:=HML.out;simp[intOf];omega)
     · obtain⟨rfl,hA⟩:=hA;have hG:gtL (y1,y2) (k1,k2)=true:=by simp[gtL,hA]
       have HG:=hI_ (qhI (s:=⟨out,true,(k1,k2)⟩) (l:=(y1,y2)) rfl hG);clear hG;by_cases h1:y1= -1
       · obtain rfl:=h1;by_cases h2:y2=0
         · obtain rfl:=h2;have HTE:Hid (qa8 ls z up (k+1)=⟨out++[(k1,k2)],false,(-1,0)⟩):=hI_ (by rw[HSN.out,HG.out];simp);go_wp2_with (first|(at_builtin;rw[HWl.out];refine qaF rfl fun K hK=>qbj (base:=w.heap.size+3) HTl.out.o K_ X_ rfl rfl rfl HSl.out.symm (fun A5 c5 w5 ho5 hg5=>hK _ _ ?_);obtain⟨n5,hn5⟩:∃ n,({out:=out,up:=true,key:=(k1,k2)}:qcR).out.length+1=n:=⟨_,rfl⟩;simp only[hn5] at ho5 ⊢;clear hn5;have hT5:=HTl.out.grow (u':=false) hg5 ho5;obtain⟨j0,j1,jf⟩:=hT5.q.c;have hy5:=HYl.out.grow hg5 (fun e=>by have:=HRl.out _ e;omega);obtain⟨l0,l1,lf⟩:=hy5.c;obtain⟨W6,HW6⟩:=nm_ ((w5.setCell ⟨w.heap.size+1+1,0,none⟩ (.int .i64 (-1))).setCell ⟨w.heap.size+1+1,1,none⟩ (.int .i64 0));have hT6:=hT5.key (u':=false) (-1,0);rw[HW6.out] at hT6;have HT6:=hI_ hT6;have hs6:W6.heap.size=w5.heap.size:=aD_;have HS6:=hI_ hs6;have hl6:w.heap.size+3≤w5.heap.size:=Y_;have HL6:=hI_ hl6;clear hT5 hy5 hT6 hs6 hl6)|(at_builtin;rw[HW6.out];refine qaF rfl fun K hK=>qbj (base:=w.heap.size+3) HT6.out.o aa_ ab_ rfl rfl rfl HS6.out.symm (fun A7 c7 w7 ho7 hg7=>hK _ _ ?_);obtain⟨n7,hn7⟩:∃ n,({out:=out++[(k1,k2)],up:=false,key:=(-1,0)}:qcR).out.length+1=n:=⟨_,rfl⟩;simp only[hn7] at ho7 ⊢;clear hn7))
           go_roundw
           case rel=>exact⟨k+1,HLT.out,(by have:=HLT.out;have:ls.length≤1000000:=HML.out;go_num),aq_,by rw[HTE.out,HW6.out];exact HT6.out⟩
           case measure=>(have:=HLT.out;have:ls.length≤1000000:=HML.out;simp[intOf];omega)
         · have h2':(y2==0)=false:=by rw[beq_eq_false_iff_ne];exact h2
           have HTE:Hid (qa8 ls z up (k+1)=⟨out++[(k1,k2)]++[(-1,y2)],false,(-1,0)⟩):=hI_ (by rw[HSN.out,HG.out];simp[h2']);clear h2;go_wp2_with (first|(at_builtin;rw[HWl.out];refine qaF rfl fun K hK=>qbj (base:=w.heap.size+3) HTl.out.o K_ X_ rfl rfl rfl HSl.out.symm (fun A5 c5 w5 ho5 hg5=>hK _ _ ?_);obtain⟨n5,hn5⟩:∃ n,({out:=out,up:=true,key:=(k1,k2)}:qcR).out.length+1=n:=⟨_,rfl⟩;simp only[hn5] at ho5 ⊢;clear hn5;have hT5:=HTl.out.grow (u':=false) hg5 ho5;obtain⟨j0,j1,jf⟩:=hT5.q.c;have hy5:=HYl.out.grow hg5 (fun e=>by have:=HRl.out _ e;omega);obtain⟨l0,l1,lf⟩:=hy5.c;obtain⟨W6,HW6⟩:=nm_ ((w5.setCell ⟨w.heap.size+1+1,0,none⟩ (.int .i64 (-1))).setCell ⟨w.heap.size+1+1,1,none⟩ (.int .i64 0));have hT6:=hT5.key (u':=false) (-1,0);rw[HW6.out] at hT6;have HT6:=hI_ hT6;have hs6:W6.heap.size=w5.heap.size:=aD_;have HS6:=hI_ hs6;have hl6:w.heap.size+3≤w5.heap.size:=Y_;have HL6:=hI_ hl6;clear hT5 hy5 hT6 hs6 hl6)|(at_builtin;rw[HW6.out];refine qaF rfl fun K hK=>qbj (base:=w.heap.size+3) HT6.out.o aa_ ab_ rfl rfl rfl HS6.out.symm (fun A7 c7 w7 ho7 hg7=>hK _ _ ?_);obtain⟨n7,hn7⟩:∃ n,({out:=out++[(k1,k2)],up:=false,key:=(-1,0)}:qcR).out.length+1=n:=⟨_,rfl⟩;simp only[hn7] at ho7 ⊢;clear hn7))
           go_roundw
           case rel=>exact⟨k+1,HLT.out,(by have:=HLT.out;have:ls.length≤1000000:=HML.out;go_num),aq_,ay_⟩
           case measure=>(have:=HLT.out;have:ls.length≤1000000:=HML.out;simp[intOf];omega)
       · have h1':(y1== -1)=false:=by rw[beq_eq_false_iff_ne];exact h1
         have HTE:Hid (qa8 ls z up (k+1)=⟨out++[(k1,k2)]++[(y1,y2)],false,(-1,0)⟩):=hI_ (by rw[HSN.out,HG.out];simp[h1']);clear h1;go_wp2_with (first|(at_builtin;rw[HWl.out];refine qaF rfl fun K hK=>qbj (base:=w.heap.size+3) HTl.out.o K_ X_ rfl rfl rfl HSl.out.symm (fun A5 c5 w5 ho5 hg5=>hK _ _ ?_);obtain⟨n5,hn5⟩:∃ n,({out:=out,up:=true,key:=(k1,k2)}:qcR).out.length+1=n:=⟨_,rfl⟩;simp only[hn5] at ho5 ⊢;clear hn5;have hT5:=HTl.out.grow (u':=false) hg5 ho5;obtain⟨j0,j1,jf⟩:=hT5.q.c;have hy5:=HYl.out.grow hg5 (fun e=>by have:=HRl.out _ e;omega);obtain⟨l0,l1,lf⟩:=hy5.c;obtain⟨W6,HW6⟩:=nm_ ((w5.setCell ⟨w.heap.size+1+1,0,none⟩ (.int .i64 (-1))).setCell ⟨w.heap.size+1+1,1,none⟩ (.int .i64 0));have hT6:=hT5.key (u':=false) (-1,0);rw[HW6.out] at hT6;have HT6:=hI_ hT6;have hs6:W6.heap.size=w5.heap.size:=aD_;have HS6:=hI_ hs6;have hl6:w.heap.size+3≤w5.heap.size:=Y_;have HL6:=hI_ hl6;clear hT5 hy5 hT6 hs6 hl6)|(at_builtin;rw[HW6.out];refine qaF rfl fun K hK=>qbj (base:=w.heap.size+3) HT6.out.o aa_ ab_ rfl rfl rfl HS6.out.symm (fun A7 c7 w7 ho7 hg7=>hK _ _ ?_);obtain⟨n7,hn7⟩:∃ n,({out:=out++[(k1,k2)],up:=false,key:=(-1,0)}:qcR).out.length+1=n:=⟨_,rfl⟩;simp only[hn7] at ho7 ⊢;clear hn7))
         go_roundw
         case rel=>exact⟨k+1,HLT.out,(by have:=HLT.out;have:ls.length≤1000000:=HML.out;go_num),aq_,ay_⟩
         case measure=>(have:=HLT.out;have:ls.length≤1000000:=HML.out;simp[intOf];omega)
     · obtain⟨rfl,rfl,hA⟩:=hA;have hG:gtL (y1,y2) (y1,k2)=true:=by simp[gtL,hA]
       have HG:=hI_ (qhI (s:=⟨out,true,(y1,k2)⟩) (l:=(y1,y2)) rfl hG);clear hG;by_cases h1:y1= -1
       · obtain rfl:=h1;by_cases h2:y2=0
         · obtain rfl:=h2;have HTE:Hid (qa8 ls z up (k+1)=⟨out++[(-1,k2)],false,(-1,0)⟩):=hI_ (by rw[HSN.out,HG.out];simp);go_wp2_with (first|(at_builtin;rw[HWl.out];refine qaF rfl fun K hK=>qbj (base:=w.heap.size+3) HTl.out.o K_ X_ rfl rfl rfl HSl.out.symm (fun A5 c5 w5 ho5 hg5=>hK _ _ ?_);obtain⟨n5,hn5⟩:∃ n,({out:=out,up:=true,key:=(-1,k2)}:qcR).out.length+1=n:=⟨_,rfl⟩;simp only[hn5] at ho5 ⊢;clear hn5;have hT5:=HTl.out.grow (u':=false) hg5 ho5;obtain⟨j0,j1,jf⟩:=hT5.q.c;have hy5:=HYl.out.grow hg5 (fun e=>by have:=HRl.out _ e;omega);obtain⟨l0,l1,lf⟩:=hy5.c;obtain⟨W6,HW6⟩:=nm_ ((w5.setCell ⟨w.heap.size+1+1,0,none⟩ (.int .i64 (-1))).setCell ⟨w.heap.size+1+1,1,none⟩ (.int .i64 0));have hT6:=hT5.key (u':=false) (-1,0);rw[HW6.out] at hT6;have HT6:=hI_ hT6;have hs6:W6.heap.size=w5.heap.size:=aD_;have HS6:=hI_ hs6;have hl6:w.heap.size+3≤w5.heap.size:=Y_;have HL6:=hI_ hl6;clear hT5 hy5 hT6 hs6 hl6)|(at_builtin;rw[HW6.out];refine qaF rfl fun K hK=>qbj (base:=w.heap.size+3) HT6.out.o (by show(out++[(-1,k2)]).length+1≤_;rw[List.length_append];show out.length+1+1≤_;omega) ab_ rfl rfl rfl HS6.out.symm (fun A7 c7 w7 ho7 hg7=>hK _ _ ?_);obtain⟨n7,hn7⟩:∃ n,({out:=out++[(-1,k2)],up:=false,key:=(-1,0)}:qcR).out.length+1=n:=⟨_,rfl⟩;simp only[hn7] at ho7 ⊢;clear hn7))
           go_roundw
           case rel=>exact⟨k+1,HLT.out,(by have:=HLT.out;have:ls.length≤1000000:=HML.out;go_num),aq_,by rw[HTE.out,HW6.out];exact HT6.out⟩
           case measure=>(have:=HLT.out;have:ls.length≤1000000:=HML.out;simp[intOf];omega)
         · have h2':(y2==0)=false:=by rw[beq_eq_false_iff_ne];exact h2
           have HTE:Hid (qa8 ls z up (k+1)=⟨out++[(-1,k2)]++[(-1,y2)],false,(-1,0)⟩):=hI_ (by rw[HSN.out,HG.out];simp[h2']);clear h2;go_wp2_with (first|(at_builtin;rw[HWl.out];refine qaF rfl fun K hK=>qbj (base:=w.heap.size+3) HTl.out.o K_ X_ rfl rfl rfl HSl.out.symm (fun A5 c5 w5 ho5 hg5=>hK _ _ ?_);obtain⟨n5,hn5⟩:∃ n,({out:=out,up:=true,key:=(-1,k2)}:qcR).out.length+1=n:=⟨_,rfl⟩;simp only[hn5] at ho5 ⊢;clear hn5;have hT5:=HTl.out.grow (u':=false) hg5 ho5;obtain⟨j0,j1,jf⟩:=hT5.q.c;have hy5:=HYl.out.grow hg5 (fun e=>by have:=HRl.out _ e;omega);obtain⟨l0,l1,lf⟩:=hy5.c;obtain⟨W6,HW6⟩:=nm_ ((w5.setCell ⟨w.heap.size+1+1,0,none⟩ (.int .i64 (-1))).setCell ⟨w.heap.size+1+1,1,none⟩ (.int .i64 0));have hT6:=hT5.key (u':=false) (-1,0);rw[HW6.out] at hT6;have HT6:=hI_ hT6;have hs6:W6.heap.size=w5.heap.size:=aD_;have HS6:=hI_ hs6;have hl6:w.heap.size+3≤w5.heap.size:=Y_;have HL6:=hI_ hl6;clear hT5 hy5 hT6 hs6 hl6)|(at_builtin;rw[HW6.out];refine qaF rfl fun K hK=>qbj (base:=w.heap.size+3) HT6.out.o (by show(out++[(-1,k2)]).length+1≤_;rw[List.length_append];show out.length+1+1≤_;omega) ab_ rfl rfl rfl HS6.out.symm (fun A7 c7 w7 ho7 hg7=>hK _ _ ?_);obtain⟨n7,hn7⟩:∃ n,({out:=out++[(-1,k2)],up:=false,key:=(-1,0)}:qcR).out.length+1=n:=⟨_,rfl⟩;simp only[hn7] at ho7 ⊢;clear hn7))
           go_roundw
           case rel=>exact⟨k+1,HLT.out,(by have:=HLT.out;have:ls.length≤1000000:=HML.out;go_num),aq_,ay_⟩
           case measure=>(have:=HLT.out;have:ls.length≤1000000:=HML.out;simp[intOf];omega)
       · have h1':(y1== -1)=false:=by rw[beq_eq_false_iff_ne];exact h1
         have HTE:Hid (qa8 ls z up (k+1)=⟨out++[(y1,k2)]++[(y1,y2)],false,(-1,0)⟩):=hI_ (by rw[HSN.out,HG.out];simp[h1']);clear h1;go_wp2_with (first|(at_builtin;rw[HWl.out];refine qaF rfl fun K hK=>qbj (base:=w.heap.size+3) HTl.out.o K_ X_ rfl rfl rfl HSl.out.symm (fun A5 c5 w5 ho5 hg5=>hK _ _ ?_);obtain⟨n5,hn5⟩:∃ n,({out:=out,up:=true,key:=(y1,k2)}:qcR).out.length+1=n:=⟨_,rfl⟩;simp only[hn5] at ho5 ⊢;clear hn5;have hT5:=HTl.out.grow (u':=false) hg5 ho5;obtain⟨j0,j1,jf⟩:=hT5.q.c;have hy5:=HYl.out.grow hg5 (fun e=>by have:=HRl.out _ e;omega);obtain⟨l0,l1,lf⟩:=hy5.c;obtain⟨W6,HW6⟩:=nm_ ((w5.setCell ⟨w.heap.size+1+1,0,none⟩ (.int .i64 (-1))).setCell ⟨w.heap.size+1+1,1,none⟩ (.int .i64 0));have hT6:=hT5.key (u':=false) (-1,0);rw[HW6.out] at hT6;have HT6:=hI_ hT6;have hs6:W6.heap.size=w5.heap.size:=aD_;have HS6:=hI_ hs6;have hl6:w.heap.size+3≤w5.heap.size:=Y_;have HL6:=hI_ hl6;clear hT5 hy5 hT6 hs6 hl6)|(at_builtin;rw[HW6.out];refine qaF rfl fun K hK=>qbj (base:=w.heap.size+3) HT6.out.o (by show(out++[(y1,k2)]).length+1≤_;rw[List.length_append];show out.length+1+1≤_;omega) ab_ rfl rfl rfl HS6.out.symm (fun A7 c7 w7 ho7 hg7=>hK _ _ ?_);obtain⟨n7,hn7⟩:∃ n,({out:=out++[(y1,k2)],up:=false,key:=(-1,0)}:qcR).out.length+1=n:=⟨_,rfl⟩;simp only[hn7] at ho7 ⊢;clear hn7))
         go_roundw
         case rel=>exact⟨k+1,HLT.out,(by have:=HLT.out;have:ls.length≤1000000:=HML.out;go_num),aq_,ay_⟩
         case measure=>(have:=HLT.out;have:ls.length≤1000000:=HML.out;simp[intOf];omega)
end Go.Proofs.YtekaaekpdebloaaGreatDoor

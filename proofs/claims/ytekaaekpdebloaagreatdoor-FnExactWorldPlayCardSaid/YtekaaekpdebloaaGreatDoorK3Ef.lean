/- Words and walks of the law. -/
import Derived.Test.YtekaaekpdebloaaGreatDoorK2Ef
set_option linter.unusedVariables false
set_option linter.unusedSimpArgs false
set_option maxHeartbeats 12800000
set_option maxRecDepth 100000
namespace Go.Proofs.YtekaaekpdebloaaGreatDoor
open Go.RowKit Go.ChangeShapes Go.WideShapes Go.Deep

section
variable {H:Type} {enc:TypeId×Value→H} {w:World} {base:Nat} {held:Bool}
theorem qws:Tryz.prog.cellsOf 69=5:=by kernel_rfl
def qwq(cs:List Value)(e:Ev):Prop:=cs=[.int .i64 e.kind,.int .i64 e.a,.int .i64 e.b,.int .i64 e.c,.string e.txt]∧e.txt.size≤maxLen
theorem qvQ(n:Nat)(cs:List Value)(y:DataW H×List MemPlace)(hl:cs.length=5)(h:DataW.trod enc Tryz.prog w base (fun _=>true) held n 69 cs=some y):∃ e,qwq cs e:=by
 obtain⟨n,hf⟩:=qpx Tryz.underlying69 h
 match cs,hl with
 |[c0,c1,c2,c3,c4],_=>
  obtain⟨y0,h0⟩:=hf 0 _ rfl;obtain⟨y1,h1⟩:=hf 1 _ rfl;obtain⟨y2,h2⟩:=hf 2 _ rfl;obtain⟨y3,h3⟩:=hf 3 _ rfl;obtain⟨y4,h4⟩:=hf 4 _ rfl;simp[C1,CT] at h0 h1 h2 h3 h4;obtain⟨n0,e0,-,-⟩:=DataW.trod_int Tryz.underlying3 h0;obtain⟨n1,e1,-,-⟩:=DataW.trod_int Tryz.underlying3 h1;obtain⟨n2,e2,-,-⟩:=DataW.trod_int Tryz.underlying3 h2;obtain⟨n3,e3,-,-⟩:=DataW.trod_int Tryz.underlying3 h3;obtain⟨s,e4,-,hs⟩:=DataW.trod_string Tryz.underlying9 h4;obtain rfl:c0=.int .i64 n0:=by simpa using e0
  obtain rfl:c1=.int .i64 n1:=by simpa using e1
  obtain rfl:c2=.int .i64 n2:=by simpa using e2
  obtain rfl:c3=.int .i64 n3:=by simpa using e3
  obtain rfl:c4=.string s:=by simpa using e4
  exact⟨⟨n0,n1,n2,n3,s⟩,rfl,hs⟩
instance:Inhabited Ev:=⟨⟨0,0,0,0,⟨#[]⟩⟩⟩
theorem qvS{r:Reach}{b0:Nat}{v:Value}{d:DataW H}{p:List MemPlace}(hv:Value.okWide Tryz.prog w r b0 76 v)(h:DataW.Trod enc Tryz.prog w base (fun _=>true) held 76 v d p):
 ∃ (es:List Ev) (F:Nat→Value),RN 5 w v es.length F∧qwj F es∧∀ j (hj:j<es.length),es[j].txt.size≤maxLen:=by
 obtain⟨a,n,c,rfl⟩:=okWide_slice Tryz.underlying76 hv;obtain⟨fuel,hf⟩:=h;obtain⟨es,F,h1,h2⟩:=qpZ (N:=5) a_ Tryz.underlying76 qws (qvQ (enc:=enc) (w:=w) (base:=base) (held:=held)) hf;refine⟨es,F,h1,fun j hj=> ?_,fun j hj=>(h2 j hj).2⟩;obtain⟨he,_⟩:=h2 j hj;simp[List.range_succ] at he;exact he
end
end Go.Proofs.YtekaaekpdebloaaGreatDoor
namespace Go.Proofs.YtekaaekpdebloaaGreatDoor
open Go.RowKit

theorem qwg:(Tryz.prog.info? 30).map (fun i=>(i.zero,i.size,i.bytes))=some (some (.agg #[.int .i64 0,.int .i64 0,.int .i64 0,.int .i64 0,.string ⟨#[]⟩]),5,48):=by kernel_rfl
theorem ON.put5{B g n cap:Nat}{e:TypeId}{w:World}{F:Nat→Value}(h:ON 5 B e w (.slice (some ⟨g,0,none⟩) n cap) n F){k:Nat}(hk:k<n)(x0 x1 x2 x3 x4:Value):
 ON 5 B e (((((w.setCell ⟨g,k*5,none⟩ x0).setCell ⟨g,k*5+1,none⟩ x1).setCell ⟨g,k*5+2,none⟩ x2).setCell ⟨g,k*5+3,none⟩ x3).setCell ⟨g,k*5+4,none⟩ x4) (.slice (some ⟨g,0,none⟩) n cap) n
  (fun s=>if s=k*5+4 then x4 else if s=k*5+3 then x3 else if s=k*5+2 then x2 else if s=k*5+1 then x1 else if s=k*5 then x0 else F s):=by
 have a0:=h.setAt (t:=k*5) a_ x0;have a1:=a0.1.setAt (t:=k*5+1) a_ x1;have a2:=a1.1.setAt (t:=k*5+2) a_ x2;have a3:=a2.1.setAt (t:=k*5+3) a_ x3;have a4:=a3.1.setAt (t:=k*5+4) a_ x4;exact a4.1
theorem qvv(es:List Ev)(F:Nat→Value)(v:Value)(w:World)(hv:RN 5 w v es.length F)(hF:qwj F es)(hl:es.length≤1048576):
 Calls Tryz.prog 43 #[v] w fun e w'=>e=.returned (.slice (some ⟨w.heap.size,0,none⟩) es.length es.length)∧(∃ G,ON 5 w.heap.size 30 w' (.slice (some ⟨w.heap.size,0,none⟩) es.length es.length) es.length G∧qwj G es)∧bB w w':=by
 have HV:=hI_ hv;have HFF:=hI_ hF;obtain⟨A,c,rfl⟩:=hv.sl;clear hv hF;obtain⟨i0,hi,hz0,hz1,hz2⟩:=info_parts qwg;have hmk:=fun W=>qhD (P:=Tryz.prog) 37 30 i0 _ Tryz.underlying37 hi hz0 (N:=5) (zc:= #[.int .i64 0,.int .i64 0,.int .i64 0,.int .i64 0,.string ⟨#[]⟩]) hz1 rfl .i64 .i64 es.length bS_ a_ W;have HN:=hI_ (ON.madeN (e:=30) (w:=w) (N:=5) (n:=es.length) #[.int .i64 0,.int .i64 0,.int .i64 0,.int .i64 0,.string ⟨#[]⟩] s_);go_enter Tryz.func43,Tryz.ntmps43
 go_wp2
 clear hmk;go_loopw [4] (fun i wr=>∃ (k:Nat) (G:Nat→Value),k≤es.length∧i=.int .i64 k∧ON 5 w.heap.size 30 wr (.slice (some ⟨w.heap.size,0,none⟩) es.length es.length) es.length G∧(∀ j (hj:j<es.length),j<k→G (j*5)=.int .i64 es[j].kind∧G (j*5+1)=.int .i64 es[j].a∧G (j*5+2)=.int .i64 es[j].b∧G (j*5+3)=.int .i64 es[j].c∧G (j*5+4)=.string es[j].txt)∧bB w wr) (fun i _=>es.length-(intOf i).toNat)
 case atStart=>exact⟨0,_,Nat.zero_le _,rfl,HN.out,fun j _ h=>a_,(bR_ _ _).alloc (nr_ _) _⟩
 case round=>
  obtain⟨k,G,hk,rfl,hN,hG,hb⟩:=hrel;have HG:=hI_ hG;clear hG;by_cases hlt:k<es.length
  · obtain⟨b,o,rfl,hbs,e0,e1,e2,e3,e4⟩:=qvU (HV.out.below hb) HFF.out hlt;have hkl:(k:Int)<(es.length:Int):=a_;obtain⟨a,ha⟩:=nm_ (es[k]);rw[ha.out] at e0 e1 e2 e3 e4;go_wp2_with fail
    refine(qvw _ _ _ _ _ wr).mono ?_;rintro e w1 ⟨rfl,hb1⟩;have hN1:=hN.below hb1;have hb2:=hb.trans (hb1.mono hb.size);obtain⟨d0,f0⟩:=hN1.at_ (t:=k*5) a_;obtain⟨d1,f1⟩:=hN1.at_ (t:=k*5+1) a_;obtain⟨d2,f2⟩:=hN1.at_ (t:=k*5+2) a_;obtain⟨d3,f3⟩:=hN1.at_ (t:=k*5+3) a_;obtain⟨d4,f4⟩:=hN1.at_ (t:=k*5+4) a_;clear e0 e1 e2 e3 e4 hb hb1 hN;go_wp2
    go_roundw
    case rel=>
     refine⟨k+1,_,a_,t_,hN1.put5 hlt _ _ _ _ _,fun j hj hjk=> ?_,((((hb2.setCell (p:=⟨w.heap.size,k*5,none⟩) (nr_ _) _).setCell (p:=⟨w.heap.size,k*5+1,none⟩) (nr_ _) _).setCell (p:=⟨w.heap.size,k*5+2,none⟩) (nr_ _) _).setCell (p:=⟨w.heap.size,k*5+3,none⟩) (nr_ _) _).setCell (p:=⟨w.heap.size,k*5+4,none⟩) (nr_ _) _⟩;by_cases hjk2:j=k
     · subst hjk2;rw[ha.out];simp
     · obtain⟨q0,q1,q2,q3,q4⟩:=HG.out j hj a_;rw[if_neg a_,if_neg a_,if_neg a_,if_neg a_,if_neg a_];refine⟨q0,?_,?_,?_,?_⟩
       · rw[if_neg a_,if_neg a_,if_neg a_,if_neg a_,if_neg a_];exact q1
       · rw[if_neg a_,if_neg a_,if_neg a_,if_neg a_,if_neg a_];exact q2
       · rw[if_neg a_,if_neg a_,if_neg a_,if_neg a_,if_neg a_];exact q3
       · rw[if_neg a_,if_neg a_,if_neg a_,if_neg a_,if_neg a_];exact q4
    case measure=>simp[intOf];omega
  · obtain rfl:k=es.length:=a_;go_wp2
    go_ret;exact⟨rfl,⟨G,hN,fun j hj=>HG.out j hj hj⟩,hb⟩
theorem qvM(k a b c:Int)(t:ByteArray)(w:World):gV 95 #[.agg #[.int .i64 k,.int .i64 a,.int .i64 b,.int .i64 c,.string t],.agg #[.int .i64 k,.int .i64 a,.int .i64 b,.int .i64 c,.string t]] w (.bool true):=by
 go_enter Tryz.func95,Tryz.ntmps95
 go_wp2
 go_ret;exact⟨rfl,((bR_ _ _).alloc (nr_ _) _).alloc k_ _⟩
theorem qvL(es:List Ev)(F G:Nat→Value)(va vb:Value)(w:World)(ha:RN 5 w va es.length F)(hF:qwj F es)(hb:RN 5 w vb es.length G)(hG:qwj G es):
 gV 44 #[va,vb] w (.bool true):=by
 have HA:=hI_ ha;have HB:=hI_ hb;have HF:=hI_ hF;have HG:=hI_ hG;have hm:=ha.len;obtain⟨A,c,rfl⟩:=ha.sl;obtain⟨A2,c2,rfl⟩:=hb.sl;unfold maxLen at hm;clear ha hb hF hG;have hnn:((es.length:Int)!=(es.length:Int))=false:=k_;go_enter Tryz.func44,Tryz.ntmps44
 go_wp2
 go_loopw [5] (fun i wr=>∃ k:Nat,k≤es.length∧i=.int .i64 k∧bB w wr) (fun i _=>es.length-(intOf i).toNat)
 case atStart=>exact⟨0,Nat.zero_le _,rfl,bR_ _ _⟩
 case round=>
  obtain⟨k,hk,rfl,hbw⟩:=hrel;by_cases hlt:k<es.length
  · obtain⟨b,o,rfl,hbs,e0,e1,e2,e3,e4⟩:=qvU (HA.out.below hbw) HF.out hlt;obtain⟨b',o',rfl,hbs',d0,d1,d2,d3,d4⟩:=qvU (HB.out.below hbw) HG.out hlt;generalize es[k]=x at*
    have hup:=qap wr;have hki:(k:Int)<(es.length:Int):=a_;have hk0:(0:Int)≤(k:Int):=a_;go_wp2
    refine qoH ?_;repeat(go_big_quiet_step ((go_at_call 95;exact qal (qvM _ _ _ _ _ _))))
    refine wq_ fun w1 hb1=>?_;clear hup;go_wp2
    go_roundw
    case rel=>exact⟨k+1,a_,t_,hbw.trans (hb1.mono hbw.size)⟩
    case measure=>simp[intOf];omega
  · go_wp2
    go_ret;exact⟨rfl,hbw⟩
theorem qvJ{B g n c:Nat}{G:Nat→Value}(k:Nat)(w:World)(hN:ON 5 B 30 w (.slice (some ⟨g,0,none⟩) n c) n G)(hn:n≤1048576)(hk:k≤100000000):
 Calls Tryz.prog 45 #[.slice (some ⟨g,0,none⟩) n c,.int .i64 k] w fun e w'=>e=.returned (.int .i64 ((k+5*n:Nat):Int))∧w.grownBy w' (some g):=by
 have HN:=hI_ hN;clear hN;go_enter Tryz.func45,Tryz.ntmps45
 go_wp2
 go_loopw [1,5] (fun t i wr=>∃ j:Nat,j≤n∧i=.int .i64 j∧t=.int .i64 ((k+5*j:Nat):Int)∧(∃ F,ON 5 B 30 wr (.slice (some ⟨g,0,none⟩) n c) n F)∧w.grownBy wr (some g)) (fun _ i _=>n-(intOf i).toNat)
 case atStart=>exact⟨0,Nat.zero_le _,rfl,rfl,⟨_,HN.out⟩,qii _ _⟩
 case round=>
  obtain⟨j,hj,rfl,rfl,⟨F,hF⟩,hg⟩:=hrel;have HG:=hI_ hg;have HF:=hI_ hF;clear hg hF;by_cases hlt:j<n
  · obtain⟨K,HK⟩:∃ K:Int,Hid (((k+5*j:Nat):Int)=K):=⟨_,hI_ rfl⟩
    have hK0:0≤K:=by rw[←HK.out];omega
    have hK1:K≤1000000000:=by rw[←HK.out];omega
    have hji:(j:Int)<(n:Int):=a_;have hj0:(0:Int)≤(j:Int):=a_;obtain⟨⟨u0,e0⟩,f0'⟩:(∃ u,wr.cell? ⟨g,j*5,none⟩=some u)∧wr.frozen? ⟨g,j*5,none⟩=false:=by have:=HF.out.at_ (t:=j*5) a_;exact⟨⟨_,this.1⟩,this.2⟩
    obtain⟨⟨u1,e1⟩,f1'⟩:(∃ u,wr.cell? ⟨g,j*5+1,none⟩=some u)∧wr.frozen? ⟨g,j*5+1,none⟩=false:=by have:=HF.out.at_ (t:=j*5+1) a_;exact⟨⟨_,this.1⟩,this.2⟩
    obtain⟨⟨u2,e2⟩,f2'⟩:(∃ u,wr.cell? ⟨g,j*5+2,none⟩=some u)∧wr.frozen? ⟨g,j*5+2,none⟩=false:=by have:=HF.out.at_ (t:=j*5+2) a_;exact⟨⟨_,this.1⟩,this.2⟩
    obtain⟨⟨u3,e3⟩,f3'⟩:(∃ u,wr.cell? ⟨g,j*5+3,none⟩=some u)∧wr.frozen? ⟨g,j*5+3,none⟩=false:=by have:=HF.out.at_ (t:=j*5+3) a_;exact⟨⟨_,this.1⟩,this.2⟩
    have a0:=HF.out.setAt (t:=j*5) a_ (.int .i64 K);have a1:=a0.1.setAt (t:=j*5+1) a_ (.int .i64 (K+1));have a2:=a1.1.setAt (t:=j*5+2) a_ (.int .i64 (K+1+1));have a3:=a2.1.setAt (t:=j*5+3) a_ (.int .i64 (K+1+1+1));obtain⟨W4,HW4⟩:=nm_ ((((wr.setCell ⟨g,j*5,none⟩ (.int .i64 K)).setCell ⟨g,j*5+1,none⟩ (.int .i64 (K+1))).setCell ⟨g,j*5+2,none⟩ (.int .i64 (K+1+1))).setCell ⟨g,j*5+3,none⟩ (.int .i64 (K+1+1+1)));have HN4:=hI_ a3.1;have HG4:=hI_ (qat HG.out (qat (qat (qat a0.2 a1.2) a2.2) a3.2));rw[HW4.out] at HN4 HG4;clear a0 a1 a2 a3;rw[HK.out];go_wp2_with fail
    rw[HW4.out];rw[show K+1+1+1+1=((k+5*j+4:Nat):Int) by rw[←HK.out];omega];clear e0 e1 e2 e3 f0' f1' f2' f3';refine(qpH (k+5*j+4) W4 a_).mono ?_;rintro e w5 ⟨rfl,hb5⟩;have hN5:=HN4.out.below hb5;obtain⟨d4,g4⟩:=hN5.at_ (t:=j*5+4) a_;obtain⟨T,HTT⟩:=nm_ (mtx (k+5*j+4));rw[HTT.out];have a4:=hN5.setAt (t:=j*5+4) a_ (.string T);have HN6:=hI_ a4.1;have HG6:=hI_ (qat HG4.out (qat (qaP hb5) a4.2));obtain⟨K5,HK5⟩:∃ K:Int,Hid (((k+5*j+4:Nat):Int)=K):=⟨_,hI_ rfl⟩
    have hK5:0≤K5:=by rw[←HK5.out];omega
    have hK6:K5≤1000000000:=by rw[←HK5.out];omega
    rw[HK5.out];clear hN5 a4 hb5;go_wp2_with fail
    go_roundw
    case rel=>exact⟨j+1,a_,t_,by rw[show K5+1=((k+5*(j+1):Nat):Int) by rw[←HK5.out];omega],⟨_,HN6.out⟩,HG6.out⟩
    case measure=>simp[intOf];omega
  · obtain rfl:j=n:=a_;have hji:¬ (j:Int)<(j:Int):=a_;go_wp2_with fail
    go_ret;exact⟨rfl,HG.out⟩
end Go.Proofs.YtekaaekpdebloaaGreatDoor
namespace Go.Proofs.YtekaaekpdebloaaGreatDoor
open Go.RowKit
attribute [local go_sem ↓] Go.wp_at_zero Go.wp_at_succ

theorem qv1(x:Wd)(es:List Ev):qqP (quL x es)≤1048576:=by
 by_cases h:quM x es=true
 · rw[quO h];exact Nat.le_trans (qrx (quZ h)) e_
 · rw[qv9 (by simpa using h)];decide
theorem qwo{x:Wd}(hs:qqP x≤1048576):qrg 1 x≤40000000:=by
 have hZ:=qqh hs;unfold qqP at hs;unfold qrg;have c1:qpN 1 x.feeds x.feeds.length≤10000000:=by unfold qpN;rw[qpy,qqM];omega
 have c2:qpN 1 x.feeds x.feeds.length+2*x.links.length≤20000000:=a_;obtain⟨K2,h2⟩:∃ K,qpN 1 x.feeds x.feeds.length+2*x.links.length=K:=⟨_,rfl⟩
 rw[h2] at c2 ⊢;have c3:qpR K2 x.asked x.asked.length≤30000000:=by unfold qpR;rw[qpy,qqN];omega
 obtain⟨K3,h3⟩:∃ K,qpR K2 x.asked x.asked.length=K:=⟨_,rfl⟩
 rw[h3] at c3 ⊢;unfold qpS;rw[qpy,qqO];omega
theorem qwe{a b:World}{g B1 B2:Nat}(h:a.grownBy b (some g))(h1:B1≤g)(h2:g<B2):Mid B1 B2 a b:=Mid.grown h (fun k hk=>by cases hk;exact⟨h1,h2⟩)
theorem FnExactWorldPlay_any(x:Wd)(es:List Ev)(F:Nat→Value)(vE vF vL vK vN:Value)(w:World)(hx:WdR w x vF vL vK vN)(ht:qrA x)(hE:RN 5 w vE es.length F)(hF:qwj F es)(hte:∀ j (hj:j<es.length),es[j].txt.size≤maxLen)(he:qsC w):
 gV 13 #[.agg #[.int .i64 x.sec,.int .i64 x.bad,vF,vL,vK,vN],vE] w (.bool true):=by
 obtain⟨y,HY⟩:=nm_ (quL x es);obtain⟨ok,HOK⟩:=nm_ (quM x es);have HYS:Hid (qqP y≤1048576):=hI_ (by rw[←HY.out];exact qv1 x es);have HX0:=hI_ hx;have HT:=hI_ ht;have HTE:=hI_ hte;have HER:=hI_ he;have HLT:=hI_ he.lt;have HE0:=hI_ hE;have HF:=hI_ hF;obtain⟨EA,Ec,rfl⟩:=hE.sl;obtain⟨q,HQQ⟩:=nm_ w.heap.size;have HSV:Hid (∀ (uF uL uK uN uE:Value) (W':World),WdS W' x uF uL uK uN→qu8 W' uE es→Calls Tryz.prog 21 #[.agg #[.int .i64 x.sec,.int .i64 x.bad,uF,uL,uK,uN],uE] W' (quR W' y ok)):=hI_ (fun uF uL uK uN uE W' h hE=>by
  have:=quQ x es uF uL uK uN uE W' h HT.out.n hE HTE.out;rwa[HY.out,HOK.out] at this)
 have HIV:Hid (∀ (uF uL uK uN uE:Value) (W':World),WdR W' x uF uL uK uN→qu8 W' uE es→bB w W'→Calls Tryz.prog 20 #[.agg #[.int .i64 x.sec,.int .i64 x.bad,uF,uL,uK,uN],uE] W' (qvy W' y ok)):=hI_ (fun uF uL uK uN uE W' h hE hb=>by
  have:=qvE x es uF uL uK uN uE W' h HT.out.n hE HTE.out (HER.out.next HLT.out hb);rwa[HY.out,HOK.out] at this)
 have hoo:(ok !=ok)=false:=k_;clear HY HOK hx ht hte he hE hF;obtain⟨W0,HW0⟩:=nm_ (w.alloc (.cells #[.int .i64 x.sec,.int .i64 x.bad,vF,vL,vK,vN] 68));have HB0:Hid (bB w W0):=hI_ (by rw[←HW0.out];exact qab (bR_ _ _) _);have HP:Hid (W0.heap[q]? =some (.cells #[.int .i64 x.sec,.int .i64 x.bad,vF,vL,vK,vN] 68 (0,0))):=hI_ (by rw[←HW0.out,←HQQ.out];exact heap_alloc_new w _);have HX:=hI_ (HX0.out.below HB0.out);have hw:w.heap.size=q:=HQQ.out;go_enter Tryz.func13,Tryz.ntmps13
 go_wp2_with fail
 clear hw;rw[HW0.out];refine(qre _ _ _ _ _ W0 HX.out HT.out).mono ?_;rintro e w1 ⟨r,rfl,hr,hz,hb1⟩;have HB1:=hI_ (HB0.out.trans (hb1.mono HB0.out.size));have HB01:=hI_ hb1;by_cases hn:r<0
 · go_wp2
   go_ret;exact⟨rfl,HB1.out⟩
 have HWS:=hI_ (hz a_);have HZ:=hI_ (qqh HWS.out);clear hz hb1;go_wp2_with fail
 refine(qvO es F _ r w1 (HE0.out.below HB1.out) HF.out HTE.out a_ a_).mono ?_;rintro e w2 ⟨⟨r2,rfl,hr2,hr3⟩,hb2⟩;have HB2:=hI_ (HB01.out.trans (hb2.mono HB01.out.size));have HBW:=hI_ (HB0.out.trans (HB2.out.mono HB0.out.size));clear hb2;by_cases hn2:r2<0
 · go_wp2
   go_ret;exact⟨rfl,HBW.out⟩
 have HEL:=hI_ (hr3 a_).1;clear hr hr2 hr3 HB01 HB1;have HP2:=hI_ ((HB2.out.block _ (qai HP.out)).trans HP.out);have HX2:=hI_ (HX.out.below HB2.out);have HE2:=hI_ (HE0.out.below HBW.out);clear HP HX HB2 HW0 HB0 HE0;obtain⟨p0,p1,p2,p3,p4,p5,pf⟩:=qaa HP2.out;go_wp2_with fail
 refine(qpF _ _ _ _ _ w2 HX2.out HZ.out).mono ?_;rintro e w3 ⟨A1,c1,A2,c2,A3,c3,A4,c4,rfl,ho3,hb3⟩;have HB23:=hI_ hb3;have HS3:=hI_ ho3.p.st;clear ho3 hb3 hn hn2 p0 p1 p2 p3 p4 p5 pf;go_wp2_with fail
 refine(qvv es F _ w3 (HE2.out.below HB23.out) HF.out HEL.out).mono ?_;rintro e w4 ⟨rfl,⟨G,hG1,hG2⟩,hb4⟩;have HB24:=hI_ (HB23.out.trans (hb4.mono HB23.out.size));have HS4:=hI_ (HS3.out.below hb4);have HV4:Hid (qu8 w4 (.slice (some ⟨w3.heap.size,0,none⟩) es.length es.length) es):=hI_ ⟨G,hG1.rn,hG2⟩;clear hG1 hG2 hb4 HS3;go_wp2_with fail
 refine(HSV.out _ _ _ _ _ w4 HS4.out HV4.out).mono ?_;rintro e w5 ⟨uF,uL,uA,uN,rfl,hs,hb5⟩;obtain⟨⟨E1,e1,rfl⟩,⟨E2,e2,rfl⟩,⟨E3,e3,rfl⟩,⟨E4,e4,rfl⟩⟩:=hs.sl;have HB25:=hI_ (HB24.out.trans (hb5.mono HB24.out.size));obtain⟨m,HMM0⟩:=nm_ w5.heap.size;obtain⟨W3,HW3⟩:=nm_ (w5.alloc (.cells #[.int .i64 y.sec,.int .i64 y.bad,.slice E1 y.feeds.length e1,.slice E2 y.links.length e2,.slice E3 y.asked.length e3,.slice E4 y.net.length e4] 28));have hb55:bB w5 W3:=by rw[←HW3.out];exact qab (bR_ _ _) _
 have hb23:=HB25.out.trans (hb55.mono HB25.out.size);have HM3:Hid (W3.heap[m]? =some (.cells #[.int .i64 y.sec,.int .i64 y.bad,.slice E1 y.feeds.length e1,.slice E2 y.links.length e2,.slice E3 y.asked.length e3,.slice E4 y.net.length e4] 28 (0,0))):=hI_ (by rw[←HW3.out,←HMM0.out];exact heap_alloc_new _ _);have HS3:=hI_ (hs.below hb55).r;have HP3:=hI_ ((hb23.block _ (qai HP2.out)).trans HP2.out);have HE3:=hI_ (HE2.out.below hb23);have HX3:=hI_ (HX2.out.below hb23);have HBW3:=hI_ (HBW.out.trans (hb23.mono HBW.out.size));clear hs hb5 hb55 hb23 HP2 HE2 HX2 HBW HS4 HV4 HB24 HB23 HB25;go_upto_region 9 with fail
 rw[HW3.out,HMM0.out];obtain⟨p0,p1,p2,p3,p4,p5,pf⟩:=qaa HP3.out;go_wp2_with fail
 refine(qpF _ _ _ _ _ W3 HX3.out HZ.out).mono ?_;rintro e w4 ⟨X1,x1,X2,x2,X3,x3,X4,x4,rfl,ho4,hb4⟩;clear p0 p1 p2 p3 p4 p5 pf;obtain⟨g,HGG⟩:=nm_ w4.heap.size;obtain⟨W4,HW4⟩:=nm_ (w4.alloc (.cells #[.int .i64 x.sec,.int .i64 x.bad,.slice X1 x.feeds.length x1,.slice X2 x.links.length x2,.slice X3 x.asked.length x3,.slice X4 x.net.length x4] 28));have hbx:bB w4 W4:=by rw[←HW4.out];exact(bR_ _ _).alloc (nr_ _) _
 have HG:Hid (W4.heap[g]? =some (.cells #[.int .i64 x.sec,.int .i64 x.bad,.slice X1 x.feeds.length x1,.slice X2 x.links.length x2,.slice X3 x.asked.length x3,.slice X4 x.net.length x4] 28 (0,0))):=hI_ (by rw[←HW4.out,←HGG.out];exact heap_alloc_new w4 _);have HB34:Hid (bB W3 W4):=hI_ (hb4.trans (hbx.mono hb4.size));have HO:=hI_ (ho4.below hbx);have HG4:Hid (g<W4.heap.size):=hI_ (qai HG.out);clear hbx ho4 hb4;go_upto_region 10 with fail
 rw[HW4.out,HGG.out];go_wp2_with fail
 refine(qvv es F _ W4 (HE3.out.below HB34.out) HF.out HEL.out).mono ?_;rintro e w5 ⟨rfl,⟨G,hG1,hG2⟩,hb5⟩;obtain⟨k9,HK9⟩:=nm_ W4.heap.size;rw[HK9.out] at hG1 ⊢;have HK9L:Hid (k9<w5.heap.size):=hI_ (hG1.lt k9 rfl).2;have HN9:Hid (ON 5 k9 30 w5 (.slice (some ⟨k9,0,none⟩) es.length es.length) es.length G):=hI_ hG1;have HG9:=hI_ hG2;have HB35_:=hI_ (HB34.out.trans (hb5.mono HB34.out.size));have HG5:=hI_ ((hb5.block _ (qai HG.out)).trans HG.out);have HO5:=hI_ (HO.out.below hb5);have HGK:Hid (g<k9):=hI_ (by rw[←HK9.out];exact HG4.out);clear hG1 hG2 hb5 HG HO;have g0:=qaa HG5.out;go_wp2_with fail
 refine(HIV.out _ _ _ _ _ w5 HO5.out.p.st.r ⟨G,HN9.out.rn,HG9.out⟩ (HBW3.out.trans (HB35_.out.mono HBW3.out.size))).mono ?_;rintro e w6 ⟨uF,uL,uA,uN,rfl,hs,hb6⟩;obtain⟨⟨H1,h1,rfl⟩,⟨H2,h2,rfl⟩,⟨H3,h3,rfl⟩,⟨H4,h4,rfl⟩⟩:=hs.st.sl;obtain⟨B,HBB⟩:=nm_ w5.heap.size;rw[HBB.out] at hs;obtain⟨C,hC,hsp⟩:=hs;obtain⟨n,HNN⟩:=nm_ w6.heap.size;obtain⟨W5,HW5⟩:=nm_ (w6.alloc (.cells #[.int .i64 y.sec,.int .i64 y.bad,.slice H1 y.feeds.length h1,.slice H2 y.links.length h2,.slice H3 y.asked.length h3,.slice H4 y.net.length h4] 28));have hb66:bB w6 W5:=by rw[←HW5.out];exact qab (bR_ _ _) _
 have hb56:=hb6.trans (hb66.mono hb6.size);have HN5:Hid (W5.heap[n]? =some (.cells #[.int .i64 y.sec,.int .i64 y.bad,.slice H1 y.feeds.length h1,.slice H2 y.links.length h2,.slice H3 y.asked.length h3,.slice H4 y.net.length h4] 28 (0,0))):=hI_ (by rw[←HW5.out,←HNN.out];exact heap_alloc_new _ _);have HS5:=hI_ (hsp.below hb66);have HCN:Hid (C≤n):=hI_ (by rw[←HNN.out];exact hC);have HBN:Hid (B≤n):=hI_ (by rw[←HNN.out,←HBB.out];exact hb6.size);have HKB:Hid (k9<B):=hI_ (by rw[←HBB.out];exact HK9L.out);have HB35:Hid (bB W3 W5):=hI_ (HB35_.out.trans (hb56.mono HB35_.out.size));have HG6_:=hI_ ((hb56.block _ (qai HG5.out)).trans HG5.out);have HO6_:=hI_ (HO5.out.below hb56);have HN96:=hI_ (HN9.out.below hb56);clear hsp hC hb6 hb66 hb56 HG5 HO5 HN9 HB35_ HK9L g0;go_upto_region 12 with fail
 rw[HW5.out,HNN.out];have m0:=qaa ((HB35.out.block _ (qai HM3.out)).trans HM3.out);have n0:=qaa HN5.out;go_wp2_with fail
 refine(qpC y _ _ _ _ _ _ _ _ W5 HS5.out.r (HS3.out.below HB35.out)).mono ?_;rintro e w6 ⟨rfl,hb6⟩;clear m0 n0;have HB36:Hid (bB W3 w6):=hI_ (HB35.out.trans (hb6.mono HB35.out.size));have HG6:=hI_ ((hb6.block _ (qai HG6_.out)).trans HG6_.out);have HP6:=hI_ ((HB36.out.block _ (qai HP3.out)).trans HP3.out);have HO6:=hI_ (HO6_.out.below hb6);have HX6:=hI_ (HX3.out.below HB36.out);have HS6:=hI_ (HS5.out.below hb6);have HN6:=hI_ ((hb6.block _ (qai HN5.out)).trans HN5.out);have HV6:=hI_ (HN96.out.below hb6);clear hb6 HG6_ HO6_ HN96 HS5 HN5 HB35;go_upto_region 14 with fail
 obtain⟨D,HD0⟩:∃ D,w6.drew=D:=⟨_,rfl⟩
 have hbD:bB w6 D:=by rw[←HD0];exact qac (bR_ _ _)
 have HBD:=hI_ hbD;have HGD:=hI_ ((hbD.block _ (qai HG6.out)).trans HG6.out);have HPD:=hI_ ((hbD.block _ (qai HP6.out)).trans HP6.out);have HSS:Hid (∀ W,bB D W→W.cell? ⟨g,0,none⟩=some (.int .i64 x.sec)∧W.cell? ⟨g,1,none⟩=some (.int .i64 x.bad)∧W.cell? ⟨g,2,none⟩=some (.slice X1 x.feeds.length x1)∧W.cell? ⟨g,3,none⟩=some (.slice X2 x.links.length x2)∧W.cell? ⟨g,4,none⟩=some (.slice X3 x.asked.length x3)∧W.cell? ⟨g,5,none⟩=some (.slice X4 x.net.length x4)∧W.cell? ⟨q,0,none⟩=some (.int .i64 x.sec)∧W.cell? ⟨q,1,none⟩=some (.int .i64 x.bad)∧W.cell? ⟨q,2,none⟩=some (vF)∧W.cell? ⟨q,3,none⟩=some (vL)∧W.cell? ⟨q,4,none⟩=some (vK)∧W.cell? ⟨q,5,none⟩=some (vN)):=hI_ (fun W hb=>by
  obtain⟨p0,p1,p2,p3,p4,p5,-⟩:=qaa ((hb.block _ (qai HGD.out)).trans HGD.out);obtain⟨v0,v1,v2,v3,v4,v5,-⟩:=qaa ((hb.block _ (qai HPD.out)).trans HPD.out);exact⟨p0,p1,p2,p3,p4,p5,v0,v1,v2,v3,v4,v5⟩)
 clear hbD;refine qwE (fun i=>decide (i<3)) HD0 HSS.out (fun hS hI=> ?_);clear HD0;refine gU_ ?_ hI hS;clear hI;refine tU_ 0 ?_;refine tU_ 1 ?_;refine eU_ fun hI=>?_;clear hS;refine qrQ (i:=2) hI rfl d_ (fun K_ hK=> ?_);clear hI;go_simp;go_at_call 37
 refine(qpF x vF vL vK vN D (HX6.out.below HBD.out) HZ.out).mono ?_;rintro e w7 ⟨B1,d1,B2,d2,B3,d3,B4,d4,rfl,ho7,hb7⟩;have HO7:=hI_ ho7.r;have HB7:=hI_ hb7;clear ho7 hb7;refine hK.out _ _ (HSS.out _ HB7.out) (fun hI=> ?_);clear hK;refine qrK (i:=3) hI rfl d_ rfl (fun K_ hK=> ?_);clear hI;go_simp;go_at_call 39
 refine(qpC x _ _ _ _ _ _ _ _ w7 ((HO6.out.below HBD.out).below HB7.out).r HO7.out).mono ?_;rintro e w8 ⟨rfl,hb8⟩;have HB68_:=hI_ (HBD.out.trans ((HB7.out.trans (hb8.mono HB7.out.size)).mono HBD.out.size));clear hb8;refine hK.out _ _ (fun hI=> ?_);clear hK;refine qrK (i:=4) hI rfl d_ rfl (fun K_ hK=> ?_);clear hI;go_simp;refine hK.out _ _ (fun hI=> ?_);clear hK;refine qrM d_ ?_;clear HGD HPD HSS HBD HB7 HO7 HP6 HX6;go_wp2_with fail
 refine(qvv es F _ w8 ((HE3.out.below HB36.out).below HB68_.out) HF.out HEL.out).mono ?_;rintro e w7 ⟨rfl,⟨G7,hG1,hG2⟩,hb7⟩;have HB67:=hI_ (HB68_.out.trans (hb7.mono HB68_.out.size));have HV7:=hI_ hG1.rn;have HG7:=hI_ hG2;clear hG1 hG2 hb7;go_wp2_with fail
 refine(qvL es G G7 _ _ w7 (HV6.out.below HB67.out).rn HG9.out HV7.out HG7.out).mono ?_;rintro e w9 ⟨rfl,hb9⟩;have HB68:=hI_ (HB67.out.trans (hb9.mono HB67.out.size));obtain⟨w8,rfl⟩:∃ W,W=w9:=⟨_,rfl⟩
 have HB38:Hid (bB W3 w8):=hI_ (HB36.out.trans (HB68.out.mono HB36.out.size));have HO8:=hI_ (HO6.out.below HB68.out);have HS8:=hI_ (HS6.out.below HB68.out);have HN8:=hI_ ((HB68.out.block _ (qai HN6.out)).trans HN6.out);have HG8:=hI_ ((HB68.out.block _ (qai HG6.out)).trans HG6.out);have HV8:=hI_ (HV6.out.below HB68.out);have HSZ8:Hid (w4.heap.size≤w8.heap.size):=hI_ (by rw[HGG.out];exact Nat.le_of_lt (qai HG8.out));clear hb9 HV7 HG7 HB67 HB68_ HO6 HS6 HN6 HG6 HV6 HB68;have g0:=qaa HG8.out;go_wp2_with fail
 refine(qqb x _ _ _ _ 1 W3.heap.size w4.heap.size w8 HO8.out HSZ8.out HWS.out a_).mono ?_;rintro e w9 ⟨rfl,hm9⟩;clear g0;have HS9:=hI_ (HS8.out.mid hm9 (by rw[HGG.out];exact Nat.le_of_lt (Nat.lt_trans HGK.out HKB.out)));have HB39:Hid (bB W3 w9):=hI_ (HB38.out.trans (hm9.below (nr_ _) HB38.out.size));have HNB9:=hI_ ((hm9.block n (qai HN8.out) (.inr (by rw[HGG.out];exact Nat.le_trans (Nat.le_of_lt (Nat.lt_trans HGK.out HKB.out)) HBN.out))).trans HN8.out);have HV9:Hid (ON 5 k9 30 w9 (.slice (some ⟨k9,0,none⟩) es.length es.length) es.length G):=hI_ (ON.mid HV8.out hm9 (by rw[HGG.out];exact Nat.le_of_lt HGK.out));clear hm9 HO8 HS8 HN8 HG8 HV8;go_wp2_with fail
 refine(qvJ (qrg 1 x) w9 HV9.out HEL.out (by have:=qwo HWS.out;omega)).mono ?_;rintro e w9 ⟨rfl,hg9⟩;have hm9:=qwe hg9 (nr_ k9) (Nat.lt_succ_self k9);obtain⟨K,HK⟩:∃ K:Int,Hid (((qrg 1 x+5*es.length:Nat):Int)=K):=⟨_,hI_ rfl⟩
 have hK:¬ K<0:=by rw[←HK.out];omega
 rw[HK.out];have HK3:Hid (W3.heap.size≤k9):=hI_ (by rw[←HK9.out];exact HB34.out.size);replace HS9:=hI_ (HS9.out.mid hm9 HKB.out);replace HNB9:=hI_ ((hm9.block n (qai HNB9.out) (.inr (Nat.le_trans HKB.out HBN.out))).trans HNB9.out);replace HB39:Hid (bB W3 w9):=hI_ (HB39.out.trans (hm9.below HK3.out HB39.out.size));clear hm9 hg9 HV9;have n0:=qaa HNB9.out;have m0:=qaa ((HB39.out.block _ (qai HM3.out)).trans HM3.out);go_wp2_with fail
 clear m0 n0;refine(qpC y _ _ _ _ _ _ _ _ w9 HS9.out.r (HS3.out.below HB39.out)).mono ?_;rintro e w10 ⟨rfl,hb10⟩;have HS10:=hI_ (HS9.out.below hb10);have HB310:Hid (bB W3 w10):=hI_ (HB39.out.trans (hb10.mono HB39.out.size));have HN10:=hI_ ((hb10.block _ (qai HNB9.out)).trans HNB9.out);clear hb10;have n0:=qaa HN10.out;go_wp2_with fail
 clear n0;refine(qp1 y _ _ _ _ 1 B C w10 HS10.out (Nat.le_trans HBN.out (Nat.le_of_lt (qai HN10.out))) (Nat.le_trans HCN.out (Nat.le_of_lt (qai HN10.out))) HYS.out a_).mono ?_;rintro e w11 ⟨rfl,hs11,hm11⟩;obtain⟨M,HMM⟩:∃ M:Int,Hid (((qrg 1 y:Nat):Int)=M):=⟨_,hI_ rfl⟩
 have hM:¬ M<0:=by rw[←HMM.out];omega
 have hMM:(M !=M)=false:=k_;rw[HMM.out];have HS11:=hI_ hs11.r;have HB311:Hid (bB W3 w11):=hI_ (HB310.out.trans (hm11.below (Nat.le_trans HK3.out (Nat.le_of_lt HKB.out)) HB310.out.size));have HN11:=hI_ ((hm11.block n (qai HN10.out) (.inr HCN.out)).trans HN10.out);clear hs11 hm11;have n0:=qaa HN11.out;go_wp2_with fail
 clear n0;refine(qpJ y _ _ _ _ _ _ 1 w11 HS11.out HYS.out a_).mono ?_;rintro e w12 ⟨rfl,hb12⟩;rw[HMM.out];have HB12:=hI_ hb12;have HB312:=hI_ (HB311.out.trans (hb12.mono HB311.out.size));clear hb12;obtain⟨p0,p1,p2,p3,p4,p5,pf⟩:=qaa ((HB312.out.block _ (qai HP3.out)).trans HP3.out);go_wp2_with fail
 refine(qpF _ _ _ _ _ w12 (HX3.out.below HB312.out) HZ.out).mono ?_;rintro e w13 ⟨Y1,y1,Y2,y2,Y3,y3,Y4,y4,rfl,ho13,hb13⟩;have HB13:=hI_ (qa3 HB12.out hb13);have HS13:=hI_ ho13.p.st;clear ho13 hb13 p0 p1 p2 p3 p4 p5 pf;go_wp2_with fail
 refine(qvv es F _ w13 (HE3.out.below (HB311.out.trans (HB13.out.mono HB311.out.size))) HF.out HEL.out).mono ?_;rintro e w14 ⟨rfl,⟨G14,hG1,hG2⟩,hb14⟩;have HB14_:=hI_ (qa3 HB13.out hb14);have HS14_:=hI_ (HS13.out.below hb14);have HV14:Hid (qu8 w14 (.slice (some ⟨w13.heap.size,0,none⟩) es.length es.length) es):=hI_ ⟨G14,hG1.rn,hG2⟩;clear hG1 hG2 hb14 HS13 HB13;go_wp2_with fail
 refine(HIV.out _ _ _ _ _ w14 HS14_.out.r HV14.out (HBW3.out.trans ((HB311.out.trans (HB14_.out.mono HB311.out.size)).mono HBW3.out.size))).mono ?_;rintro e w15 ⟨uF,uL,uA,uN,rfl,hs,hb15⟩;obtain⟨⟨J1,j1,rfl⟩,⟨J2,j2,rfl⟩,⟨J3,j3,rfl⟩,⟨J4,j4,rfl⟩⟩:=hs.st.sl;obtain⟨r3,HR3⟩:=nm_ w15.heap.size;obtain⟨W14,HW14⟩:=nm_ (w15.alloc (.cells #[.int .i64 y.sec,.int .i64 y.bad,.slice J1 y.feeds.length j1,.slice J2 y.links.length j2,.slice J3 y.asked.length j3,.slice J4 y.net.length j4] 28));have hb1515:bB w15 W14:=by rw[←HW14.out];exact qab (bR_ _ _) _
 have HB14:=hI_ (qa3 (qa3 HB14_.out hb15) hb1515);have HS14:=hI_ (hs.st.below hb1515).r;have hj14:W14.heap[r3]? =some (.cells #[.int .i64 y.sec,.int .i64 y.bad,.slice J1 y.feeds.length j1,.slice J2 y.links.length j2,.slice J3 y.asked.length j3,.slice J4 y.net.length j4] 28 (0,0)):=by rw[←HW14.out,←HR3.out];exact heap_alloc_new _ _
 have HJ14:=hI_ hj14;clear hs hb15 hb1515 hj14 HS14_ HV14 HB14_;go_upto_region 32 with fail
 rw[HW14.out,HR3.out];have n0:=qaa HJ14.out;have HB314:=hI_ (HB311.out.trans (HB14.out.mono HB311.out.size));have m0:=qaa ((HB314.out.block _ (qai HM3.out)).trans HM3.out);go_wp2_with fail
 clear m0 n0;refine(qpC y _ _ _ _ _ _ _ _ W14 HS14.out (HS3.out.below HB314.out)).mono ?_;rintro e w15 ⟨rfl,hb15⟩;have HB15:=hI_ (qa3 HB14.out hb15);clear hb15;have n0:=qaa ((HB15.out.block _ (qai HN11.out)).trans HN11.out);go_wp2_with fail
 clear n0;refine(qpJ y _ _ _ _ _ _ 1 w15 (HS11.out.below HB15.out) HYS.out a_).mono ?_;rintro e w16 ⟨rfl,hb16⟩;rw[HMM.out];have HB16:=hI_ (qa3 HB15.out hb16);clear hb16;go_wp2
 go_ret;exact⟨rfl,HBW3.out.trans ((HB311.out.trans (HB16.out.mono HB311.out.size)).mono HBW3.out.size)⟩
end Go.Proofs.YtekaaekpdebloaaGreatDoor

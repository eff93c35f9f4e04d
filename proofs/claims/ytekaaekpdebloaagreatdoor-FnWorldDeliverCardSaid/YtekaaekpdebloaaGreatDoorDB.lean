/- Words and walks of the law. -/
import Derived.Test.YtekaaekpdebloaaGreatDoorCT
import Derived.Test.YtekaaekpdebloaaGreatDoorCG
import Derived.Test.YtekaaekpdebloaaGreatDoorCF
set_option linter.unusedVariables false
set_option linter.unusedSimpArgs false
namespace Go.Proofs.YtekaaekpdebloaaGreatDoor

theorem qu5{sec:Int}{f0 f:Fd}(h:qgA sec f0 f)(hn:0<f.hd.len):qbE (qhr sec) f.hd=true:=by
 have h1:=h.v;unfold qaq at h1;simp only[Bool.and_eq_true,Bool.or_eq_true] at h1;rw[←h.pub];rcases h1.1.1.1.1.2 with h2|h2
 · unfold Hd.isZero at h2;simp only[Bool.and_eq_true,beq_iff_eq] at h2;omega
 · exact h2
theorem quY{x:Wd}(h:DW x){i j:Nat}(hi:i<x.feeds.length)(hj:j<x.feeds.length)(e:x.feeds[i].hd.len=x.feeds[j].hd.len):x.feeds[i].hd=x.feeds[j].hd:=by
 by_cases h0:x.feeds[i].hd.len=0
 · have a1:=h.z i;have a2:=h.z j;rw[qam hi] at a1;rw[qam hj] at a2;rw[a1 h0,a2 a_]
 · rcases(h.v.fd i hi).hd with h1|h1
   · exact absurd h1 h0
   · rcases(h.v.fd j hj).hd with h2|h2
     · omega
     · rw[h1,h2,e]
section
variable {x:Wd}
theorem qvT{e:Ev}(h:8<e.kind):wdo x e=x:=by
 unfold wdo;rw[if_neg a_,if_neg a_,if_neg a_,if_neg a_,if_neg a_,if_neg a_,if_neg a_,if_neg a_]
theorem qwi(c:Int)(t:ByteArray):wdo x ⟨2,0,x.feeds.length,c,t⟩=x:=by
 show qeh x 0 x.feeds.length true=x;unfold qeh;rw[if_neg];unfold qmd;simp only[Bool.and_eq_true];rintro⟨⟨_,h⟩,_⟩;have:=qak.1 h;unfold qbw at this;simp only at this;omega
theorem qwn{k:Int}(hk:(x.net.length:Int)≤k)(b c:Int)(t:ByteArray):wdo x ⟨7,k,b,c,t⟩=x:=by
 show qgz x k false=x;unfold qgz;rw[if_neg];rw[qak];omega
theorem qvA(a b:Int):qbw b a=qbw a b:=by unfold qbw;rw[Int.min_comm,Int.max_comm]
theorem qvR(a b:Int):qbk x b a=qbk x a b:=by unfold qbk;rw[qvA]
theorem qvt{i j:Nat}(hij:i≠j)(hi:i<x.feeds.length)(hj:j<x.feeds.length)(up:Bool):qmd x i j up=(qbk x i j !=up):=by
 unfold qmd;have h1:((qbw i j).1 !=(qbw i j).2)=true:=by unfold qbw;simp only[bne_iff_ne,ne_eq];omega
 have h2:inB (qbw (i:Int) j).1 0 ((x.feeds.length:Int)-1)=true:=qak.2 (by unfold qbw;simp only;omega);have h3:inB (qbw (i:Int) j).2 0 ((x.feeds.length:Int)-1)=true:=qak.2 (by unfold qbw;simp only;omega);rw[h1,h2,h3];simp
theorem qvB{a b:Int}{up:Bool}(h:qmd x a b up=false):qeh x a b up=x:=by unfold qeh;rw[h];rfl
theorem qvC{a b:Int}{up:Bool}(h:qmd x a b up=true):qeh x a b up={x with links:=qfr x.links (qbw a b) up}:=by unfold qeh;rw[if_pos h]
theorem qv4(a b:Int)(up:Bool):qeh x b a up=qeh x a b up:=by unfold qeh qmd;rw[qvA,qvR]
theorem WV.links0(h:WV x):∀ y ∈ x.links,0≤y.1:=fun y hy=>by
 have:=(qc6.1 h.ln).1 y hy;unfold qc5 at this;rw[Bool.and_eq_true,qak] at this;exact this.1.1
theorem qvH{a b:Int}(h:qbk x a b=false):qbw a b ∉ x.links:=fun hm=>by
 have:qbk x a b=true:=qd6.2 hm;rw[h] at this;cases this
theorem qv8(h:WV x){i j:Nat}(hij:i≠j)(hi:i<x.feeds.length)(hj:j<x.feeds.length):qbk (qeh x i j true) i j=true:=by
 cases hl:qbk x i j
 · rw[qvC bW_];show qc8 (qfr x.links (qbw i j) true) (qbw i j)=true;rw[qm0 h.links0 (qvH hl)];exact qd6.2 (qht.2 (.inr rfl))
 · rw[qvB bW_];exact hl
theorem qv7{i j:Nat}(hij:i≠j)(hi:i<x.feeds.length)(hj:j<x.feeds.length):qbk (qeh x i j false) i j=false:=by
 cases hl:qbk x i j
 · rw[qvB bW_];exact hl
 · rw[qvC bW_];show qc8 (qfr x.links (qbw i j) false) (qbw i j)=false;rw[qkX];cases hh:qc8 (x.links.filter (fun l=> !(l.1==(qbw (i:Int) j).1&&l.2==(qbw (i:Int) j).2))) (qbw i j)
   · rfl
   · have:=(List.mem_filter.1 (qd6.1 hh)).2;simp at this
theorem qvz{k:Int×Int}{l:List (Int×Int)}(h:k ∉ l):l.filter (fun y=> !(y.1==k.1&&y.2==k.2))=l:=by
 refine List.filter_eq_self.2 fun y hy=> ?_;simp only[Bool.not_eq_true',Bool.and_eq_false_iff,beq_eq_false_iff_ne];by_cases h1:y.1=k.1
 · refine .inr fun h2=>h ?_;have:y=k:=Prod.ext h1 h2;rw[←this];exact hy
 · exact .inl h1
theorem qvG{k:Int×Int}:∀ {l:List (Int×Int)},k ∉ l→(qlN l k).filter (fun y=> !(y.1==k.1&&y.2==k.2))=l
 |[],_=>by simp[qlN]
 |y::r,h=>by
  have hy:(!(y.1==k.1&&y.2==k.2))=true:=by
    have:=qvz (k:=k) (l:=[y]) (fun hm=>h (by rw[List.mem_singleton.1 hm];exact List.mem_cons_self));by_cases hc:(!(y.1==k.1&&y.2==k.2))=true
    · exact hc
    · rw[List.filter_cons,if_neg hc] at this;cases this
  unfold qlN;split
  · rw[List.filter_cons,if_neg k_];exact qvz h
  · rw[List.filter_cons,if_pos hy,qvG (fun hm=>h (List.mem_cons_of_mem _ hm))]
theorem qvY(h:WV x){i j:Nat}(hij:i≠j)(hi:i<x.feeds.length)(hj:j<x.feeds.length):qeh (qeh x i j true) i j false=qeh x i j false:=by
 cases hl:qbk x i j
 · have e1:=qvC (x:=x) (a:=i) (b:=j) (up:=true) bW_;have hu:=qv8 h hij hi hj;have e2:=qvC (x:=qeh x i j true) (a:=i) (b:=j) (up:=false) (by rw[qvt hij (by rw[e1];exact hi) (by rw[e1];exact hj),hu];rfl);rw[e2,e1];rw[qvB (x:=x) bW_];show({x with links:=qfr (qfr x.links (qbw i j) true) (qbw i j) false}:Wd)=x;rw[qm0 h.links0 (qvH hl),qkX,qvG (qvH hl)]
 · rw[qvB (x:=x) (up:=true) bW_]
theorem qwf(h:WV x){i j:Nat}(hi:i<x.feeds.length)(hj:j<x.feeds.length)(hL:qbk x i j=true)(hlt:(x.feeds.getD j Fd.none).hd.len<(x.feeds.getD i Fd.none).hd.len):
 ((qa0 x i j).feeds.getD j Fd.none).hd=(x.feeds.getD i Fd.none).hd:=by
 have ha:=h.fdD hi;have hbd:=h.fdD hj;obtain⟨l1,l2,l3⟩:=qax h.v0;obtain⟨b1,b2,b3⟩:=qax hbd.v;have hle:=ha.le;obtain⟨f,HF⟩:∃ f,x.feeds.getD i Fd.none=f:=⟨_,rfl⟩
 obtain⟨g,HG⟩:∃ f,x.feeds.getD j Fd.none=f:=⟨_,rfl⟩
 rw[HF] at hlt ha hle;rw[HG] at hlt hbd b1 b2 b3;have hn0:0<f.hd.len:=a_;have hck:qbE g.pub f.hd=true:=by rw[hbd.pub];exact qu5 ha hn0
 have hfd:f.hd=(qbJ x.sec ((lvs x.f0.bl).take f.hd.len.toNat)).1:=by
  rcases ha.hd with h1|h1
  · omega
  · exact h1
 have hlv:=qcV l2 f.hd.len.toNat
 obtain⟨k1,k2⟩:=qfS h.key hlv;have hfg:f.hd.dg=qbN ((lvs x.f0.bl).take f.hd.len.toNat):=by rw[←k2,←hfd]
 have hlen:((lvs x.f0.bl).take f.hd.len.toNat).length=f.hd.len.toNat:=by rw[List.length_take,qcP];omega
 have hc0:qdJ g f.hd (qcv ((lvs x.f0.bl).take f.hd.len.toNat) g.hd.len)=0:=by
  by_cases hz0:g.hd.len=0
  · exact qo6 hck a_ hz0
  · have hd:g.hd=(qbJ x.sec ((lvs x.f0.bl).take g.hd.len.toNat)).1:=by
     rcases hbd.hd with h1|h1
     · exact absurd h1 hz0
     · exact h1
    obtain⟨m1,m2⟩:=qfS h.key (qcV l2 g.hd.len.toNat);have hdg:g.hd.dg=qbN ((lvs x.f0.bl).take g.hd.len.toNat):=by rw[←m2,←hd]
    have hgl:=qpn (l:=(lvs x.f0.bl).take f.hd.len.toNat) hlv (m:=g.hd.len.toNat) a_ a_;rw[List.take_take,show min g.hd.len.toNat f.hd.len.toNat=g.hd.len.toNat by omega,←hdg,←hfg,hlen,show((f.hd.len.toNat:Nat):Int)=f.hd.len by omega,show((g.hd.len.toNat:Nat):Int)=g.hd.len by omega] at hgl;unfold qdJ;rw[hck,hgl,if_neg n_,if_neg,if_neg a_,if_neg a_,if_neg k_];intro hs;have:=Hd.same_iff.1 hs;rw[this] at hlt;omega
 have hT:qet x i j=(g.grow f.hd,0):=by
  rw[qkE,HF,HG];exact qd4 hbd.v hc0
 have hM:qdj x i j=true:=by
  unfold qdj;rw[hL,Bool.true_and];show decide ((x.feeds.getD j Fd.none).hd.len<(x.feeds.getD i Fd.none).hd.len)=true;rw[HF,HG];exact decide_eq_true hlt
 unfold qa0;rw[hT,hM,if_pos (show(true&&((0:Int)==0))=true from rfl),HF];show(x.feeds.set (j:Int).toNat _ |>.getD j Fd.none).hd=_;rw[Int.toNat_natCast,List.getD_eq_getElem?_getD,List.getElem?_set_self hj];rfl
theorem qwl{i j:Nat}(h:qbk x i j=false∨(x.feeds.getD i Fd.none).hd.len≤(x.feeds.getD j Fd.none).hd.len):qa0 x i j=x:=by
 have hM:qdj x i j=false:=by
  unfold qdj;rcases h with h|h
  · rw[h,Bool.false_and]
  · rw[Bool.and_eq_false_iff];refine .inr ?_;show decide ((x.feeds.getD j Fd.none).hd.len<(x.feeds.getD i Fd.none).hd.len)=false;exact decide_eq_false a_
 unfold qa0;rw[hM,Bool.false_and];rfl
theorem qwk(h:WV x){a b c:Int}(hn:((qiT x a b c).asked.getD a.toNat []).length≠(x.asked.getD a.toNat []).length):
 ∃ (i j k:Nat) (hi:i<x.feeds.length) (hj:j<x.feeds.length),a=i∧b=j∧c=k∧qbk x i j=true∧x.feeds[i].hd.len=x.feeds[j].hd.len∧k<x.feeds[i].hv.length∧k<x.feeds[j].hv.length∧x.feeds[j].hv.getD k false=true∧x.feeds[i].hv.getD k false=false∧((qiT x a b c).asked.getD i []).length=(x.asked.getD i []).length+1:=by
 by_cases hc:(qgE x a b c&&(qfs (x.asks a) (b,c) (qh2 x a)).2)=true;rotate_left
 · exfalso;refine hn ?_;unfold qiT;rw[if_neg hc]
 have e1:qiT x a b c={x with asked:=x.asked.set a.toNat (qfs (x.asks a) (b,c) (qh2 x a)).1}:=if_pos hc;rw[Bool.and_eq_true] at hc;obtain⟨c1,c2⟩:=hc;unfold qgE at c1;simp only[Bool.and_eq_true,beq_iff_eq,Bool.not_eq_true'] at c1;obtain⟨⟨⟨d1,d2⟩,d3⟩,d4⟩:=c1;obtain⟨i,j,rfl,rfl,hi,hj,ea,eb⟩:=h.fd_ d1;obtain⟨k,rfl,k1,k2⟩:=qlI d3;rw[eb] at k1 k2;rw[ea,Int.toNat_natCast] at d4;rw[ea,eb] at d2;have q1:=qax (h.fd i hi).v;have q2:=qax (h.fd j hj).v;have hia:i<x.asked.length:=by rw[h.na];exact hi
 refine⟨i,j,k,hi,hj,rfl,rfl,rfl,d1,d2,a_,k1,k2,d4,?_⟩;rw[e1];show((x.asked.set (i:Int).toNat _).getD i []).length=_;rw[Int.toNat_natCast,quS hia,qve c2,List.length_append];rfl
theorem qvX{k:Nat}(hk:k<x.net.length):qgz x k false=qd2 {x with net:=x.net.eraseIdx k} x.net[k]:=by
 unfold qgz;rw[if_pos (qak.2 a_),if_neg e_,Int.toNat_natCast,qam hk]
theorem qvF(h:WV x){k:Nat}(hk:k<x.net.length):
 ∃ (t m:Nat) (_:t<x.feeds.length) (_:m<x.f0.bl.length),x.net[k].to_=t∧x.net[k].idx=m∧(qgz x k false).net=x.net.eraseIdx k∧
 (((qgz x k false).feeds.getD t Fd.none=x.feeds.getD t Fd.none∧(qgz x k false).asked.getD t []=x.asked.getD t [])∨
  ((qgz x k false).feeds.getD t Fd.none=(x.feeds.getD t Fd.none).put m x.net[k].txt∧m<(x.feeds.getD t Fd.none).hv.length∧(x.feeds.getD t Fd.none).hv.getD m false=false∧qbi x.net[k].txt.data.toList=qbi (x.f0.bl.getD m ⟨#[]⟩).data.toList∧∀ a ∈ (qgz x k false).asked.getD t [],a.2≠m)∨
  ((qgz x k false).feeds.getD t Fd.none=x.feeds.getD t Fd.none∧∀ a ∈ (qgz x k false).asked.getD t [],a.1≠x.net[k].fr)):=by
 obtain⟨p,HP⟩:∃ p,x.net[k]=p:=⟨_,rfl⟩
 have hp:=h.pc k hk;have e0:=qvX hk;rw[HP] at hp e0 ⊢;obtain⟨p1,p2,p3,p4,p5,p6⟩:=qcF.1 hp;have p2':=qak.1 p2;have p3':=qak.1 p3;have p4':=qak.1 p4;obtain⟨l1,l2,l3⟩:=qax h.v0;obtain⟨t,ht⟩:∃ t:Nat,p.to_=t:=⟨p.to_.toNat,a_⟩
 obtain⟨m,hm⟩:∃ m:Nat,p.idx=m:=⟨p.idx.toNat,a_⟩
 have htl:t<x.feeds.length:=a_;have hta:t<x.asked.length:=by rw[h.na];exact htl
 refine⟨t,m,htl,a_,ht,hm,?_⟩;rw[e0];have he:=h.erase k;obtain⟨z,HZ⟩:∃ z:Wd,({x with net:=x.net.eraseIdx k}:Wd)=z:=⟨_,rfl⟩
 have z1:z.feeds=x.feeds:=by rw[←HZ]
 have z2:z.asked=x.asked:=by rw[←HZ]
 have z3:z.net=x.net.eraseIdx k:=by rw[←HZ]
 rw[HZ];have ef:z.feed p.to_=x.feeds.getD t Fd.none:=by unfold Wd.feed;rw[z1,ht,Int.toNat_natCast]
 have ea:z.asks p.to_=x.asked.getD t []:=by unfold Wd.asks;rw[z2,ht,Int.toNat_natCast]
 have hwin:qaG (x.asked.getD t [])=true:=by rw[qam hta];exact h.wd t hta
 unfold qd2;split
 · exact⟨z3,.inl ⟨by rw[z1],by rw[z2]⟩⟩
 · rename_i hc
   rw[Bool.not_eq_true,Bool.or_eq_false_iff] at hc;have hh:qc8 (x.asked.getD t []) (p.fr,p.idx)=true:=by have:=hc.1;rw[ea] at this;simpa using this
   have hl:(x.feeds.getD t Fd.none).hd.len=p.len:=by have:=hc.2;rw[ef] at this;simpa using this
   split
   · rename_i hput
     rw[ef] at hput;obtain⟨q1,q2⟩:=qob h.v0 h.wh h.key hp (h.fdD htl) hl hput;obtain⟨s1,s2,s3,s4,s5⟩:=qfO hput;unfold qbR at s3;simp only[Bool.and_eq_true,Bool.not_eq_true'] at s3;obtain⟨⟨u1,u2⟩,u3⟩:=s3;have u1':=qak.1 u1;rw[hm,Int.toNat_natCast] at u2 s5 q2;have q3:=qax s1;refine⟨z3,.inr (.inl ⟨?_,a_,u2,q2,fun a ha=> ?_⟩)⟩
     · rw[ef,hm,s5];show(z.feeds.set p.to_.toNat _).getD t Fd.none=_;rw[ht,Int.toNat_natCast,z1,quS htl]
     · have ha':a ∈ (z.asked.set p.to_.toNat (qhJ (z.asks p.to_) (p.fr,p.idx))).getD t []:=ha;rw[ht,Int.toNat_natCast,z2,quS hta,←ht,ea] at ha';unfold qhJ at ha';split at ha'
       · try rw[if_pos hh] at ha'
         have:=(List.mem_filter.1 ha').2;rw[bne_iff_ne] at this;rw[←hm];exact this
       · cases ha'
   · refine⟨z3,.inr (.inr ⟨by show z.feeds.getD t Fd.none=_;rw[z1],fun a ha=> ?_⟩)⟩;have ha':a ∈ (z.asked.set p.to_.toNat (qeg (z.asks p.to_) p.fr)).getD t []:=ha;rw[ht,Int.toNat_natCast,z2,quS hta,←ht,ea] at ha';unfold qeg at ha';split at ha'
     · have:=(List.mem_filter.1 ha').2;rwa[bne_iff_ne] at this
     · cases ha'
end
end Go.Proofs.YtekaaekpdebloaaGreatDoor
namespace Go.Proofs.YtekaaekpdebloaaGreatDoor
open Go.RowKit

theorem qvu{x:Wd}{a b:Int}{v:Bool}(h:Hid (qbk x a b=v))(vF vL vA vN:Value)(w:World)(hL:RP w vL x.links):
 Calls Tryz.prog 27 #[.agg #[.int .i64 x.sec,.int .i64 x.bad,vF,vL,vA,vN],.int .i64 a,.int .i64 b] w fun e w'=>e=.returned (.bool v)∧Below w.heap.size w w':=by
 rw[←h.out];exact qvZ x a b vF vL vA vN w hL
theorem qvs{x:Wd}{b:Bool}(h:Hid (qcc x=b))(vF vL vA vN:Value)(w:World)(hx:WdR w x vF vL vA vN)(ht:∀ j (hj:j<x.net.length),x.net[j].txt.size≤maxLen):
 Calls Tryz.prog 18 #[.agg #[.int .i64 x.sec,.int .i64 x.bad,vF,vL,vA,vN]] w fun e w'=>e=.returned (.bool b)∧Below w.heap.size w w':=by
 rw[←h.out];exact qdO x vF vL vA vN w hx ht
end Go.Proofs.YtekaaekpdebloaaGreatDoor

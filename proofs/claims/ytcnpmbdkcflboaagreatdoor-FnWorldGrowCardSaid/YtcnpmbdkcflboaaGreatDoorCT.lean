/- Plain laws: a request is made once, a head is given once, no block is lost. No condition. | Plain laws: an honest answer has the block; the writer appends a block. No condition. | Appending a list of feeds onto an empty row of the call's own; its first feed written anew. No condition. | Plain laws: a delivery changes one peer. No condition. -/
import Derived.Test.YtcnpmbdkcflboaaGreatDoorCR
set_option linter.unusedVariables false
set_option linter.unusedSimpArgs false
namespace Go.Proofs.YtcnpmbdkcflboaaGreatDoor

section
variable {x:Wd}
theorem quS{α:Type}{l:List α}{j:Nat}(h:j<l.length)(a d:α):(l.set j a).getD j d=a:=by
 rw[List.getD_eq_getElem?_getD,List.getElem?_set_self h];rfl
theorem qve{l:List (Int×Int)}{a:Int×Int}{en:Bool}(h:(qfs l a en).2=true):(qfs l a en).1=l++[a]:=by
 unfold qfs at h ⊢;generalize(if en=true then 2 else 1)=m at h ⊢
 by_cases k1:(qaG l&&qcB a)=true
 · rw[if_pos k1] at h ⊢;by_cases k2:(qc8 l a||decide (3≤qcX l a.1)||decide (m≤qdL l a.2))=true
   · rw[if_pos k2] at h;cases h
   · rw[if_neg k2]
 · rw[if_neg k1] at h;cases h
theorem qvd{l:List (Int×Int)}{a:Int×Int}{en:Bool}(h:a ∈ l):(qfs l a en).2=false:=by
 unfold qfs;rw[qd6.2 h];split <;> rfl
theorem qu9(h:WV x)(a b c:Int):qiT (qiT x a b c) a b c=qiT x a b c:=by
 by_cases hc:(qgE x a b c&&(qfs (x.asks a) (b,c) (qh2 x a)).2)=true
 · have e1:qiT x a b c={x with asked:=x.asked.set a.toNat (qfs (x.asks a) (b,c) (qh2 x a)).1}:=if_pos hc;rw[e1];rw[Bool.and_eq_true] at hc;have hl:qbk x a b=true:=by
    have:=hc.1;unfold qgE at this;simp only[Bool.and_eq_true] at this;exact this.1.1.1
   obtain⟨i,j,rfl,rfl,hi,hj⟩:=h.wi.lk hl;have hia:(i:Int).toNat<x.asked.length:=by rw[h.na];simpa using hi
   have e2:({x with asked:=x.asked.set (i:Int).toNat (qfs (x.asks i) (j,c) (qh2 x i)).1}:Wd).asks i=(qfs (x.asks i) (j,c) (qh2 x i)).1:=quS hia _ _;refine if_neg ?_;rw[Bool.and_eq_true];rintro⟨_,h2⟩;rw[e2] at h2;rw[qve hc.2,qvd k_] at h2;cases h2
 · have e1:qiT x a b c=x:=if_neg hc;rw[e1,e1]
theorem qu6(h:WV x)(a b:Int):qa0 (qa0 x a b) a b=qa0 x a b:=by
 by_cases hc:(qdj x a b&&(qet x a b).2==0)=true
 · have e1:qa0 x a b={x with feeds:=x.feeds.set b.toNat (qet x a b).1}:=if_pos hc;rw[e1];rw[Bool.and_eq_true,beq_iff_eq] at hc;have hm:=hc.1;unfold qdj at hm;rw[Bool.and_eq_true,decide_eq_true_eq] at hm;obtain⟨i,j,rfl,rfl,hi,hj,ea,eb⟩:=h.fd_ hm.1;have hij:i≠j:=fun e=>by subst e;have:=hm.2;omega
   have h0:qdJ (x.feed j) (x.feed i).hd (qcv ((lvs x.f0.bl).take (x.feed i).hd.len.toNat) (x.feed j).hd.len)=0:=by
    have:=hc.2;unfold qet qc9 at this;rw[eb,(h.fd j hj).v] at this;rw[eb];exact this
   have e4:(qet x i j).1=(x.feed j).grow (x.feed i).hd:=by
    unfold qet;rw[qd4 (by rw[eb];exact(h.fd j hj).v) h0]
   refine if_neg ?_;rw[Bool.and_eq_true];rintro⟨h2,_⟩;unfold qdj at h2;rw[Bool.and_eq_true,decide_eq_true_eq] at h2;have f1:({x with feeds:=x.feeds.set (j:Int).toNat (qet x i j).1}:Wd).feed j=(qet x i j).1:=quS ae_ _ _;have f2:({x with feeds:=x.feeds.set (j:Int).toNat (qet x i j).1}:Wd).feed i=x.feed i:=getD_set_ne (by simpa using hij) _ _;have h3:=h2.2;rw[f1,f2,e4] at h3;exact absurd h3 (Int.lt_irrefl _)
 · have e1:qa0 x a b=x:=if_neg hc;rw[e1,e1]
structure KB (f g:Fd):Prop where
 len:f.hd.len≤g.hd.len
 hv:∀ i,f.hv.getD i false=true→g.hv.getD i false=true∧g.bl.getD i qfo=f.bl.getD i qfo
theorem KB.refl(f:Fd):KB f f:=⟨Int.le_refl _,fun _ h=>⟨h,rfl⟩⟩
theorem quV{l:List Bool}{i:Nat}(h:l.getD i false=true):i<l.length:=by
 refine Nat.lt_of_not_le fun hc=> ?_;rw[List.getD_eq_getElem?_getD,List.getElem?_eq_none hc] at h;cases h
theorem KB.app{f g:Fd}{a:List ByteArray}{b:List Bool}(hv:qaq f=true)(hl:f.hd.len≤g.hd.len)(e1:g.bl=f.bl++a)(e2:g.hv=f.hv++b):KB f g:=by
 refine⟨hl,fun i hi=> ?_⟩;have h1:=quV hi;have h2:=(qax hv).1;rw[e1,e2,List.getD_eq_getElem?_getD,List.getElem?_append_left h1,←List.getD_eq_getElem?_getD,List.getD_eq_getElem?_getD (l:=f.bl++a),List.getElem?_append_left a_,←List.getD_eq_getElem?_getD];exact⟨hi,rfl⟩
theorem KB.set{f:Fd}(j:Nat)(h:KB (x.feeds.getD j Fd.none) f)(i:Nat):KB (x.feeds.getD i Fd.none) ((x.feeds.set j f).getD i Fd.none):=by
 by_cases hij:i=j
 · subst hij;by_cases hi:i<x.feeds.length
   · rw[quS hi];exact h
   · rw[List.set_eq_of_length_le a_];exact .refl _
 · rw[getD_set_ne hij];exact .refl _
theorem KB.put{f:Fd}{i:Int}{t:ByteArray}{p:List Int}(h:(qes f i t p).2=true):KB f (qes f i t p).1:=by
 obtain⟨_,_,h3,_,h5⟩:=qfO h;rw[h5];unfold qbR at h3;simp only[Bool.and_eq_true,Bool.not_eq_true'] at h3;refine⟨Int.le_refl _,fun k hk=> ?_⟩;have hne:k≠i.toNat:=fun e=>by rw[e,h3.1.2] at hk;cases hk
 show(f.hv.set i.toNat true).getD k false=true∧(f.bl.set i.toNat t).getD k qfo=f.bl.getD k qfo;rw[List.getD_eq_getElem?_getD,List.getElem?_set_ne (Ne.symm hne),←List.getD_eq_getElem?_getD,List.getD_eq_getElem?_getD (l:=f.bl.set _ _),List.getElem?_set_ne (Ne.symm hne),←List.getD_eq_getElem?_getD];exact⟨hk,rfl⟩
theorem KB.to{j:Nat}{f:Fd}{y:Wd}(h:KB (x.feeds.getD j Fd.none) f)(e:y.feeds=x.feeds.set j f)(i:Nat):KB (x.feeds.getD i Fd.none) (y.feeds.getD i Fd.none):=by rw[e];exact h.set j i
theorem KB.same{y:Wd}(e:y.feeds=x.feeds)(i:Nat):KB (x.feeds.getD i Fd.none) (y.feeds.getD i Fd.none):=by rw[e];exact .refl _
theorem qu2(p:Pc)(i:Nat):KB (x.feeds.getD i Fd.none) ((qd2 x p).feeds.getD i Fd.none):=by
 unfold qd2;split
 · exact .same rfl i
 · split
   · rename_i hp
     exact KB.to (KB.put (f:=x.feed p.to_) hp) rfl i
   · exact .same rfl i
theorem WV.keeps(h:WV x)(e:Ev)(i:Nat):KB (x.feeds.getD i Fd.none) ((wdo x e).feeds.getD i Fd.none):=by
 unfold wdo;split
 · unfold qd1;split
   · exact .same rfl i
   · rename_i hc
     obtain⟨_,_,m3⟩:=h.more (t:=e.txt) a_ a_;exact KB.to (KB.app (f:=x.f0) (a:=[e.txt]) (b:=[true]) h.v0 (by rw[m3];omega) rfl rfl) rfl i
 split
 · unfold qeh;split <;> exact .same rfl i
 split
 · unfold qeh;split <;> exact .same rfl i
 split
 · by_cases hc:(qdj x e.a e.b&&(qet x e.a e.b).2==0)=true
   · have e1:qa0 x e.a e.b={x with feeds:=x.feeds.set e.b.toNat (qet x e.a e.b).1}:=if_pos hc;rw[e1];rw[Bool.and_eq_true,beq_iff_eq] at hc;have hm:=hc.1;unfold qdj at hm;rw[Bool.and_eq_true,decide_eq_true_eq] at hm;obtain⟨j,k,_,_,_,hk,_,eb⟩:=h.fd_ hm.1;have hv:qaq (x.feed e.b)=true:=by rw[eb];exact(h.fd k hk).v
     have h0:qdJ (x.feed e.b) (x.feed e.a).hd (qcv ((lvs x.f0.bl).take (x.feed e.a).hd.len.toNat) (x.feed e.b).hd.len)=0:=by
      have:=hc.2;unfold qet qc9 at this;rw[hv] at this;exact this
     have e4:(qet x e.a e.b).1=(x.feed e.b).grow (x.feed e.a).hd:=by
      unfold qet;rw[qd4 hv h0]
     rw[e4];exact KB.to (KB.app (f:=x.feed e.b) (g:=(x.feed e.b).grow (x.feed e.a).hd) hv (Int.le_of_lt hm.2) rfl rfl) rfl i
   · have e1:qa0 x e.a e.b=x:=if_neg hc;rw[e1];exact .refl _
 split
 · unfold qiT;split <;> exact .same rfl i
 split
 · unfold qbO;split <;> exact .same rfl i
 split
 · unfold qgz;split
   · exact qu2 (x:={x with net:=x.net.eraseIdx e.a.toNat}) _ i
   · exact .refl _
 split
 · unfold qgz;split
   · exact .same rfl i
   · exact .refl _
 exact .refl _
theorem qvh(e:Ev):(wdo x e).feeds.length=x.feeds.length:=by
 unfold wdo;repeat' split
 · unfold qd1;split <;> simp
 iterate 2
  · unfold qeh;split <;> rfl
 · unfold qa0;split <;> simp
 · unfold qiT;split <;> rfl
 · unfold qbO;split <;> rfl
 iterate 2
  · unfold qgz;split
    · split
      · rfl
      · unfold qd2;split
        · rfl
        · split <;> simp
    · rfl
 · rfl
end
section
variable {x:Wd}
theorem qvl{e:Ev}(hk:e.kind=6):wdo x e=qbO x e.a e.b e.c e.txt:=by
 unfold wdo;rw[hk];rfl
theorem qvn(h:WV x){a b c:Int}{t:ByteArray}(hb:b≠x.bad)(hn:(qbO x a b c t).net.length≠x.net.length):
 ∃ (j k:Nat) (hj:j<x.feeds.length) (hk:k<x.feeds[j].bl.length),b=j∧c=k∧(qbO x a b c t).net=x.net++[⟨j,a,x.feeds[j].hd.len,k,x.feeds[j].bl[k],qaQ ((lvs x.f0.bl).take x.feeds[j].hd.len.toNat) k⟩]∧x.feeds[j].bl[k].size≤8∧qaT x.feeds[j].hd.dg x.feeds[j].hd.len k (qbi x.feeds[j].bl[k].data.toList) (qaQ ((lvs x.f0.bl).take x.feeds[j].hd.len.toNat) k)=true:=by
 by_cases hc:(qfj x a b c&&decide ((qdP x b c t).size≤8))=true;rotate_left
 · exfalso;refine hn ?_;unfold qbO;rw[if_neg hc]
 have e1:(qbO x a b c t).net=x.net++[⟨b,a,(x.feed b).hd.len,c,qdP x b c t,qaQ ((lvs x.f0.bl).take (x.feed b).hd.len.toNat) c⟩]:=by unfold qbO;rw[if_pos hc]
 simp only[Bool.and_eq_true,decide_eq_true_eq] at hc;obtain⟨c1,c2⟩:=hc;unfold qfj at c1;simp only[Bool.and_eq_true,decide_eq_true_eq] at c1;obtain⟨⟨⟨d1,d2⟩,d3⟩,d4⟩:=c1;obtain⟨i,j,rfl,rfl,hi,hj,ea,eb⟩:=h.fd_ d1;obtain⟨k,rfl,k1,k2⟩:=qlI d3;rw[eb] at k1 k2;have hf:=h.fd j hj;obtain⟨l1,l2,l3⟩:=qax hf.v;obtain⟨m1,m2,m3⟩:=qax h.v0;have hle:=hf.le;have hkb:k<x.feeds[j].bl.length:=a_;have et:qdP x j k t=x.feeds[j].bl[k]:=by
  unfold qdP;rw[if_pos (bne_iff_ne.2 hb),eb,Int.toNat_natCast,qam hkb]
 rw[eb,et] at e1;rw[et] at c2;refine⟨j,k,hj,hkb,rfl,rfl,e1,c2,?_⟩;have hd:x.feeds[j].hd=(qbJ x.sec ((lvs x.f0.bl).take x.feeds[j].hd.len.toNat)).1:=by
  rcases hf.hd with h1|h1
  · omega
  · exact h1
 obtain⟨n1,n2⟩:=qfS h.key (qcV m2 x.feeds[j].hd.len.toNat);have hdg:x.feeds[j].hd.dg=qbN ((lvs x.f0.bl).take x.feeds[j].hd.len.toNat):=by rw[←n2,←hd]
 have hlt:k<x.f0.bl.length:=a_;have hlen:((lvs x.f0.bl).take x.feeds[j].hd.len.toNat).length=x.feeds[j].hd.len.toNat:=by rw[List.length_take,qcP];omega
 have hg:((lvs x.f0.bl).take x.feeds[j].hd.len.toNat).getD (k:Int).toNat 0=qbi x.feeds[j].bl[k].data.toList:=by
  have hbl:=hf.bl k hkb k2;rw[qam hkb,qam hlt] at hbl;rw[Int.toNat_natCast,List.getD_eq_getElem?_getD,List.getElem?_take_of_lt a_,←List.getD_eq_getElem?_getD,qlW hlt,hbl]
 have hck:=qeI (l:=(lvs x.f0.bl).take x.feeds[j].hd.len.toNat) (i:=k) (qcV m2 _) bF_ (by rw[hg];exact qgh _) (qga _);rw[hlen,hg,←hdg,show((x.feeds[j].hd.len.toNat:Nat):Int)=x.feeds[j].hd.len by omega] at hck;exact hck
theorem qvp{t:ByteArray}(hn:x.f0.bl.length=16):qd1 x t=x:=by
 unfold qd1;rw[if_pos (.inr a_)]
theorem qvr(h:WV x){t:ByteArray}(ht:t.size≤8)(hn:x.f0.bl.length≠16):∃ g:Fd,qd1 x t={x with feeds:=x.feeds.set 0 g}∧g.bl=x.f0.bl++[t]∧g.hd.len=(x.f0.bl.length:Int)+1∧qbE g.pub g.hd=true:=by
 obtain⟨l1,l2,l3⟩:=qax h.v0;obtain⟨m1,m2,m3⟩:=h.more ht a_;refine⟨x.f0.more x.sec t,?_,rfl,a_,?_⟩
 · unfold qd1;rw[if_neg a_]
 · show qbE x.f0.pub (qbJ x.sec (lvs (x.f0.bl++[t]))).1=true;rw[h.pub];exact qjr h.key (qmO n_)
end
end Go.Proofs.YtcnpmbdkcflboaaGreatDoor
namespace Go.Proofs.YtcnpmbdkcflboaaGreatDoor
open Go.RowKit

theorem qvm{w:World}{fs:List Fd}{H:Nat→Value}(h:∀ j (hj:j<fs.length),H (j*6)=.int .i64 fs[j].pub∧H (j*6+1)=.int .i64 fs[j].hd.len∧H (j*6+2)=.int .i64 fs[j].hd.dg∧H (j*6+3)=.int .i64 fs[j].hd.sg∧qaU w fs[j] (H (j*6+4)) (H (j*6+5))):∀ t,t<fs.length*6→(H t).oneCell'=true:=by
 intro t ht;obtain⟨j,r,rfl,hr⟩:∃ j r,t=j*6+r∧r<6:=⟨t/6,t%6,a_,a_⟩
 obtain⟨h0,h1,h2,h3,h4⟩:=h j a_;obtain⟨bA,bc,hb⟩:=h4.bl.sl';obtain⟨vA,vc,hv⟩:=h4.hv.sl';obtain rfl|rfl|rfl|rfl|rfl|rfl:r=0∨r=1∨r=2∨r=3∨r=4∨r=5:=a_
 · rw[Nat.add_zero,h0];rfl
 · rw[h1];rfl
 · rw[h2];rfl
 · rw[h3];rfl
 · rw[hb];rfl
 · rw[hv];rfl
theorem qvq{o:Oper}{a:Act}{K:Act→World→Prop}{Q:Exit→Act→World→Prop}{B:Nat}{w0 w:World}{v x:Value}{fs:List Fd}{F:Nat→Value}(hown:ON 6 B 40 w v 0 F)(hB:w0.heap.size≤B)(hBw:B≤w.heap.size)(hr:qa6 w0 x fs)(hb:Below w0.heap.size w0 w)(hn:fs.length≤100000000000){s y:Operand}
 (ho:o.op=.call {callee:=.builtin .append,args:= #[s,y],argTypes:= #[23,23]}) (hs:a.eval s=v) (hx:a.eval y=x)
 (h:∀ A c w' G,ON 6 B 40 w' (.slice A fs.length c) fs.length G→(∀ j (hj:j<fs.length),G (j*6)=.int .i64 fs[j].pub∧G (j*6+1)=.int .i64 fs[j].hd.len∧G (j*6+2)=.int .i64 fs[j].hd.dg∧G (j*6+3)=.int .i64 fs[j].hd.sg∧qaU w0 fs[j] (G (j*6+4)) (G (j*6+5)))→w.grownBy w' v.ownBlock→Below w0.heap.size w0 w'→K (a.put o.dst (.slice A fs.length c)) w'):Oper.wp Tryz.prog o a w K Q:=by
 obtain⟨H,h1,h2⟩:=hr;obtain⟨i0,hi,hz0,hz1,hz2⟩:=info_parts qfU;refine qcQ 23 40 6 80 i0 _ Tryz.underlying23 hi hz0 hz1 hz2 rfl a_ a_ hown (h1.below hb) (qvm h2) a_ hBw ho hs hx fun A c w' h3 h4=> ?_;simp only[Nat.zero_add,Nat.zero_mul] at h3 ⊢;refine h A c w' H (h3.congr fun t _=> ?_) h2 h4 (hb.grown h4 hb.size (fun r hr=>Nat.le_trans hB (hown.lt r hr).1));rw[qaD (Nat.zero_le _)];rfl
theorem qvo{m n c:Nat}{w0 W:World}{fs:List Fd}{G:Nat→Value}{f0:Fd}{vb vh:Value}(h:ON 6 w0.heap.size 40 W (.slice (some ⟨m,0,none⟩) n c) n G)(hn:n=fs.length)(h0:0<fs.length)(hG:∀ j (hj:j<fs.length),G (j*6)=.int .i64 fs[j].pub∧G (j*6+1)=.int .i64 fs[j].hd.len∧G (j*6+2)=.int .i64 fs[j].hd.dg∧G (j*6+3)=.int .i64 fs[j].hd.sg∧qaU w0 fs[j] (G (j*6+4)) (G (j*6+5)))(hf:qaU w0 f0 vb vh)(hb:Below w0.heap.size w0 W):
 qa6 ((((((W.setCell ⟨m,0,none⟩ (.int .i64 f0.pub)).setCell ⟨m,1,none⟩ (.int .i64 f0.hd.len)).setCell ⟨m,2,none⟩ (.int .i64 f0.hd.dg)).setCell ⟨m,3,none⟩ (.int .i64 f0.hd.sg)).setCell ⟨m,4,none⟩ vb).setCell ⟨m,5,none⟩ vh) (.slice (some ⟨m,0,none⟩) n c) (fs.set 0 f0):=by
 subst hn;obtain⟨F,h1,h2,a0,a1,a2,a3,a4,a5,hot⟩:=h.put6' (x:=0) h0 (.int .i64 f0.pub) (.int .i64 f0.hd.len) (.int .i64 f0.hd.dg) (.int .i64 f0.hd.sg) vb vh;simp only[Nat.zero_mul,Nat.zero_add] at h1 h2 a0 a1 a2 a3 a4 a5;have hb2:=qae hb (h.lt m rfl).1 (.int .i64 f0.pub) (.int .i64 f0.hd.len) (.int .i64 f0.hd.dg) (.int .i64 f0.hd.sg) vb vh;refine⟨F,by rw[List.length_set];exact h1.rn,fun j hj=> ?_⟩;rw[List.length_set] at hj;by_cases hj0:j=0
 · subst hj0;simp only[List.getElem_set_self,Nat.zero_mul,Nat.zero_add];exact⟨a0,a1,a2,a3,by rw[a4,a5];exact hf.below' hb2⟩
 · obtain⟨g0,g1,g2,g3,g4⟩:=hG j hj;simp only[List.getElem_set_ne (Ne.symm hj0)];rw[hot (j*6) a_,hot (j*6+1) a_,hot (j*6+2) a_,hot (j*6+3) a_,hot (j*6+4) a_,hot (j*6+5) a_];exact⟨g0,g1,g2,g3,g4.below' hb2⟩
end Go.Proofs.YtcnpmbdkcflboaaGreatDoor
namespace Go.Proofs.YtcnpmbdkcflboaaGreatDoor

section
variable {x:Wd}
theorem qvi{α:Type}{l:List α}{i j:Nat}(h:i≠j)(a d:α):(l.set j a).getD i d=l.getD i d:=by
 rw[List.getD_eq_getElem?_getD,List.getElem?_set_ne (Ne.symm h),←List.getD_eq_getElem?_getD]
theorem qvk(p:Pc){i:Nat}(h:i≠p.to_.toNat):(qd2 x p).feeds.getD i Fd.none=x.feeds.getD i Fd.none∧(qd2 x p).asked.getD i []=x.asked.getD i []∧(qd2 x p).feeds.length=x.feeds.length∧(qd2 x p).asked.length=x.asked.length:=by
 unfold qd2;split
 · exact⟨rfl,rfl,rfl,rfl⟩
 · split
   · exact⟨qvi h _ _,qvi h _ _,k_,k_⟩
   · exact⟨rfl,qvi h _ _,rfl,k_⟩
theorem qvj{k i:Nat}(hk:k<x.net.length)(h:i≠(x.net[k]).to_.toNat):(qgz x k false).feeds.getD i Fd.none=x.feeds.getD i Fd.none∧(qgz x k false).asked.getD i []=x.asked.getD i []∧(qgz x k false).feeds.length=x.feeds.length∧(qgz x k false).asked.length=x.asked.length:=by
 have e:qgz x k false=qd2 {x with net:=x.net.eraseIdx k} x.net[k]:=by
  unfold qgz;rw[if_pos (qak.2 a_),if_neg e_,Int.toNat_natCast,qam hk]
 rw[e];exact qvk (x:={x with net:=x.net.eraseIdx k}) _ h
end
end Go.Proofs.YtcnpmbdkcflboaaGreatDoor

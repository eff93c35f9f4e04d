/- Words and walks of the law. -/
import Derived.Test.YtekaaekpdebloaaGreatDoorZi5
import Derived.Test.YtekaaekpdebloaaGreatDoorBP5
set_option linter.unusedVariables false
set_option linter.unusedSimpArgs false
set_option maxHeartbeats 12800000
set_option maxRecDepth 100000
namespace Go.Proofs.YtekaaekpdebloaaGreatDoor

structure qgA (sec:Int) (f0 f:Fd):Prop where
 v:qaq f=true
 pub:f.pub=qhr sec
 le:f.hd.len≤f0.hd.len
 hd:f.hd.len=0∨f.hd=(qbJ sec ((lvs f0.bl).take f.hd.len.toNat)).1
 bl:∀ i,i<f.bl.length→f.hv.getD i false=true→qbi (f.bl.getD i ⟨#[]⟩).data.toList=qbi (f0.bl.getD i ⟨#[]⟩).data.toList
theorem qmI{a b:Hd}:qlJ a b=true↔a=b:=by
 cases a;cases b;simp[qlJ,and_assoc]
theorem qgG{sec:Int}{f0 f:Fd}:qcy sec f0 f=true↔qgA sec f0 f:=by
 unfold qcy;simp only[Bool.and_eq_true,Bool.or_eq_true,beq_iff_eq,decide_eq_true_eq,qcS,qmI];constructor
 · rintro⟨⟨⟨⟨h1,h2⟩,h3⟩,h4⟩,h5⟩;refine⟨h1,h2,h3,h4,fun i hi hh=> ?_⟩;have:=h5 i hi;unfold qb8 at this;rw[hh] at this;simpa using this
 · rintro⟨h1,h2,h3,h4,h5⟩;refine⟨⟨⟨⟨h1,h2⟩,h3⟩,h4⟩,fun i hi=> ?_⟩;unfold qb8;cases hh:f.hv.getD i false
   · rfl
   · simpa using h5 i hi hh
structure WV (x:Wd):Prop where
 set:qfb x.sec x.feeds.length x.bad=true
 v0:qaq x.f0=true
 wh:qbA x.f0.hv=true
 ln:qcE x.feeds.length x.links=true
 na:x.asked.length=x.feeds.length
 nn:x.net.length≤12
 fd:∀ j (hj:j<x.feeds.length),qgA x.sec x.f0 x.feeds[j]
 wd:∀ j (hj:j<x.asked.length),qaG x.asked[j]=true
 pc:∀ j (hj:j<x.net.length),qaX x.feeds.length x.f0 x.net[j]=true
theorem qcq{x:Wd}:qcc x=true↔WV x:=by
 unfold qcc;simp only[Bool.and_eq_true,beq_iff_eq,decide_eq_true_eq,qcS];constructor
 · rintro⟨⟨⟨⟨⟨⟨⟨h1,h2⟩,h3⟩,h4⟩,h5⟩,h6⟩,h7⟩,h8⟩;refine⟨h1,h2,h3,h4,h5,h6,fun j hj=> ?_,fun j hj=> ?_,fun j hj=> ?_⟩
   · have:=h7 j hj;unfold qdf at this;rw[Bool.and_eq_true,qam hj] at this;exact qgG.1 this.1
   · have:=h7 j a_;unfold qdf at this;rw[Bool.and_eq_true,qam hj] at this;exact this.2
   · have:=h8 j hj;unfold qew at this;rwa[qam hj] at this
 · rintro⟨h1,h2,h3,h4,h5,h6,h7,h8,h9⟩;refine⟨⟨⟨⟨⟨⟨⟨h1,h2⟩,h3⟩,h4⟩,h5⟩,h6⟩,fun j hj=> ?_⟩,fun j hj=> ?_⟩
   · unfold qdf;rw[Bool.and_eq_true,qam hj,qam a_];exact⟨qgG.2 (h7 j hj),h8 j a_⟩
   · unfold qew;rw[qam hj];exact h9 j hj
theorem qd6{l:List (Int×Int)}{a:Int×Int}:qc8 l a=true↔a ∈ l:=by
 refine⟨qjU,fun h=> ?_⟩;unfold qc8;exact List.any_eq_true.2 ⟨a,h,k_⟩
structure qen (l:List (Int×Int)):Prop where
 ok:∀ a ∈ l,qcB a=true
 nd:l.Nodup
 p:∀ a ∈ l,qcX l a.1≤3
 b:∀ a ∈ l,qdL l a.2≤2
theorem qbt{l:List (Int×Int)}:qaG l=true↔qen l:=by
 unfold qaG;rw[qcS];constructor
 · intro h;have h':∀ j (hj:j<l.length),qcB l[j]=true∧qc8 (l.take j) l[j]=false∧qcX l l[j].1≤3∧qdL l l[j].2≤2:=fun j hj=>by
    have:=h j hj;unfold qh1 at this;rw[qam hj] at this;simp only[Bool.and_eq_true,Bool.not_eq_true',decide_eq_true_eq] at this;exact⟨this.1.1.1,this.1.1.2,this.1.2,this.2⟩
   refine⟨fun a ha=> ?_,?_,fun a ha=> ?_,fun a ha=> ?_⟩
   · obtain⟨j,hj,rfl⟩:=List.mem_iff_getElem.1 ha;exact(h' j hj).1
   · refine List.pairwise_iff_getElem.2 fun i j hi hj hij he=> ?_;have h2:=(h' j hj).2.1;have:qc8 (l.take j) l[j]=true:=qd6.2 (by rw[←he];exact List.mem_take_iff_getElem.2 ⟨i,a_,rfl⟩);rw[h2] at this;cases this
   · obtain⟨j,hj,rfl⟩:=List.mem_iff_getElem.1 ha;exact(h' j hj).2.2.1
   · obtain⟨j,hj,rfl⟩:=List.mem_iff_getElem.1 ha;exact(h' j hj).2.2.2
 · intro h j hj;unfold qh1;rw[qam hj];simp only[Bool.and_eq_true,Bool.not_eq_true',decide_eq_true_eq];have hm:=List.getElem_mem hj;refine⟨⟨⟨h.ok _ hm,?_⟩,h.p _ hm⟩,h.b _ hm⟩;cases hh:qc8 (l.take j) l[j]
   · rfl
   · obtain⟨i,hi,he⟩:=List.mem_take_iff_getElem.1 (qd6.1 hh);exact absurd he (List.pairwise_iff_getElem.1 h.nd i j a_ hj a_)
theorem qmB{l m:List (Int×Int)}(h:l.Sublist m)(p:Int):qcX l p≤qcX m p:=h.countP_le
theorem qmA{l m:List (Int×Int)}(h:l.Sublist m)(p:Int):qdL l p≤qdL m p:=h.countP_le
theorem qen.sub{l m:List (Int×Int)}(hm:qen m)(h:l.Sublist m):qen l:=
 ⟨fun a ha=>hm.ok a (h.subset ha),h.nodup hm.nd,fun a ha=>Nat.le_trans (qmB h _) (hm.p a (h.subset ha)),fun a ha=>Nat.le_trans (qmA h _) (hm.b a (h.subset ha))⟩
theorem qen.nil:qen []:=⟨fun _ h=>aj_,List.nodup_nil,fun _ h=>aj_,fun _ h=>aj_⟩
theorem qlq(l:List (Int×Int))(a:Int×Int)(p:Int):qcX (l++[a]) p=qcX l p+if a.1=p then 1 else 0:=by
 unfold qcX;rw[List.countP_append];simp[List.countP_cons]
theorem qln(l:List (Int×Int))(a:Int×Int)(p:Int):qdL (l++[a]) p=qdL l p+if a.2=p then 1 else 0:=by
 unfold qdL;rw[List.countP_append];simp[List.countP_cons]
theorem qlp{l:List (Int×Int)}{p:Int}(h:∀ a ∈ l,a.1≠p):qcX l p=0:=by
 unfold qcX;rw[List.countP_eq_zero];intro a ha;simpa using h a ha
theorem qen.push{l:List (Int×Int)}(h:qen l){a:Int×Int}(ha:qcB a=true)(hn:a ∉ l)(hp:qcX l a.1<3)(hb:qdL l a.2<2):qen (l++[a]):=by
 refine⟨fun y hy=> ?_,?_,fun y hy=> ?_,fun y hy=> ?_⟩
 · rcases List.mem_append.1 hy with h1|h1
   · exact h.ok y h1
   · rw[List.mem_singleton.1 h1];exact ha
 · rw[List.nodup_append];exact⟨h.nd,k_,fun y hy z hz e=>by rw[List.mem_singleton.1 hz] at e;subst e;exact hn hy⟩
 · rw[qlq];rcases List.mem_append.1 hy with h1|h1
   · have:=h.p y h1;split
     · rename_i e;rw[←e];omega
     · omega
   · rw[List.mem_singleton.1 h1,if_pos rfl];omega
 · rw[qln];rcases List.mem_append.1 hy with h1|h1
   · have:=h.b y h1;split
     · rename_i e;rw[←e];omega
     · omega
   · rw[List.mem_singleton.1 h1,if_pos rfl];omega
theorem qlo(l:List (Int×Int))(a:Int×Int)(p:Int):qcX (a::l) p=qcX l p+if a.1=p then 1 else 0:=by
 unfold qcX;simp[List.countP_cons]
theorem qmj:∀ {l:List (Int×Int)},(∀ a ∈ l,qcB a=true)→l.length=qcX l 0+qcX l 1+qcX l 2+qcX l 3+qcX l 4+qcX l 5
 |[],_=>rfl
 |a::l,h=>by
  have ih:=qmj (l:=l) fun y hy=>h y (List.mem_cons_of_mem _ hy);have ha:=h a List.mem_cons_self;unfold qcB at ha;rw[Bool.and_eq_true,qak] at ha;simp only[List.length_cons,qlo];obtain⟨⟨h1,h2⟩,_⟩:=ha;have:a.1=0∨a.1=1∨a.1=2∨a.1=3∨a.1=4∨a.1=5:=a_;rcases this with e|e|e|e|e|e <;> simp[e] <;> omega
theorem qen.le3{l:List (Int×Int)}(h:qen l)(p:Int):qcX l p≤3:=by
 by_cases hp:∃ a ∈ l,a.1=p
 · obtain⟨a,ha,rfl⟩:=hp;exact h.p a ha
 · rw[qlp fun a ha e=>hp ⟨a,ha,e⟩];omega
theorem qen.len{l:List (Int×Int)}(h:qen l):l.length≤18:=by
 have:=qmj h.ok;have:=h.le3 0;have:=h.le3 1;have:=h.le3 2;have:=h.le3 3;have:=h.le3 4;have:=h.le3 5;omega

theorem qf4{a b:Int×Int}:ltL a b=true↔(a.1<b.1∨(a.1=b.1∧a.2<b.2)):=by unfold ltL;simp
theorem qjn{l x:Int×Int}:gtL l x=true↔ltL x l=true:=by
 unfold gtL;rw[qf4];simp only[Bool.or_eq_true,decide_eq_true_eq,Bool.and_eq_true,beq_iff_eq];constructor <;> (intro h;omega)
theorem qiB{a b c:Int×Int}(h:ltL a b=true)(h2:ltL b c=true):ltL a c=true:=by
 rw[qf4] at *;omega
theorem qc6{n:Nat}{l:List (Int×Int)}:qcE n l=true↔(∀ y ∈ l,qc5 n y=true)∧l.Pairwise (fun a b=>ltL a b=true):=by
 unfold qcE;rw[qcS];constructor
 · intro h;have h':∀ j (hj:j<l.length),qc5 n l[j]=true∧∀ i (hi:i<l.length),i+1=j→ltL l[i] l[j]=true:=fun j hj=>by
    have:=h j hj;unfold qdV at this;rw[qam hj] at this;simp only[Bool.and_eq_true,Bool.or_eq_true,beq_iff_eq] at this;refine⟨this.1,fun i hi e=> ?_⟩;subst e;rcases this.2 with h0|h0
    · omega
    · rwa[Nat.add_sub_cancel,qam hi] at h0
   refine⟨fun y hy=> ?_,List.pairwise_iff_getElem.2 fun i j hi hj hij=> ?_⟩
   · obtain⟨j,hj,rfl⟩:=List.mem_iff_getElem.1 hy;exact(h' j hj).1
   · induction j with
     |zero=>omega
     |succ j ih=>
      have h1:=(h' (j+1) hj).2 j a_ rfl;by_cases hij':i=j
      · subst hij';exact h1
      · exact qiB (ih a_ a_) h1
 · rintro⟨h1,h2⟩ j hj;unfold qdV;rw[qam hj,h1 _ (List.getElem_mem hj),Bool.true_and,Bool.or_eq_true,beq_iff_eq];by_cases h0:j=0
   · exact .inl h0
   · refine .inr ?_;rw[qam a_];exact List.pairwise_iff_getElem.1 h2 (j-1) j a_ hj a_
theorem qg2(f:Int×Int→Int):∀ {l:List (Int×Int)} (m:Int),m≤36→(∀ y ∈ l,m≤f y∧f y≤35)→l.Pairwise (fun a b=>f a<f b)→(l.length:Int)≤36-m
 |[],m,hm,_,_=>by simp;omega
 |a::l,m,hm,h,hp=>by
  have ha:=h a List.mem_cons_self;rw[List.pairwise_cons] at hp;have:=qg2 f (l:=l) (f a+1) a_ (fun y hy=>⟨by have:=hp.1 y hy;omega,(h y (List.mem_cons_of_mem _ hy)).2⟩) hp.2;simp only[List.length_cons];omega
theorem qlT{n:Nat}{l:List (Int×Int)}(hn:n≤6)(h:qcE n l=true):l.length≤36:=by
 obtain⟨h1,h2⟩:=qc6.1 h;have hb:∀ y ∈ l,0≤y.1∧y.1≤5∧0≤y.2∧y.2≤5:=fun y hy=>by
  have:=h1 y hy;unfold qc5 at this;rw[Bool.and_eq_true,qak,qak] at this;omega
 have:=qg2 (fun y=>y.1*6+y.2) (l:=l) 0 a_ (fun y hy=>by have:=hb y hy;omega) (h2.imp_of_mem (fun{a b} ha hb' hab=>by
  have:=hb a ha;have:=hb b hb';rw[qf4] at hab;omega))
 omega
def qlN:List (Int×Int)→Int×Int→List (Int×Int)
 |[],x=>[x]
 |l::r,x=>if gtL l x then x::l::r else l::qlN r x
theorem qht{x:Int×Int}:∀ {l:List (Int×Int)} {y:Int×Int},y ∈ qlN l x↔y ∈ l∨y=x
 |[],y=>by simp[qlN]
 |l::r,y=>by
  unfold qlN;split
  · simp only[List.mem_cons];constructor
    · rintro(h|h|h) <;> simp[h]
    · rintro((h|h)|h) <;> simp[h]
  · rw[List.mem_cons,qht,List.mem_cons,or_assoc]
theorem qfW{x:Int×Int}:∀ {l:List (Int×Int)},x ∉ l→l.Pairwise (fun a b=>ltL a b=true)→(qlN l x).Pairwise (fun a b=>ltL a b=true)
 |[],_,_=>by simp[qlN]
 |l::r,hx,hp=>by
  unfold qlN;split
  · rename_i hg
    rw[List.pairwise_cons];refine⟨fun y hy=> ?_,hp⟩;rw[List.pairwise_cons] at hp;rw[List.mem_cons] at hy;rcases hy with rfl|hy
    · exact qjn.1 hg
    · exact qiB (qjn.1 hg) (hp.1 y hy)
  · rename_i hg
    rw[List.pairwise_cons] at hp ⊢;rw[List.mem_cons,not_or] at hx;refine⟨fun y hy=> ?_,qfW hx.2 hp.2⟩;rcases qht.1 hy with hy|rfl
    · exact hp.1 y hy
    · rw[qjn,qf4] at hg;rw[qf4];have:¬ (y.1=l.1∧y.2=l.2):=fun e=>hx.1 (Prod.ext e.1 e.2);omega
theorem qfA(k:Int×Int):∀ (ls out:List (Int×Int)),ls.foldl qeV ⟨out,false,k⟩=⟨out++ls.filter (fun l=> !(l.1==k.1&&l.2==k.2)),false,k⟩
 |[],out=>by simp
 |l::ls,out=>by
  rw[List.foldl_cons,qee rfl,List.filter_cons];dsimp only;cases h:(l.1==k.1&&l.2==k.2)
  · simp only[Bool.false_eq_true,if_false,Bool.not_false,if_true];rw[qfA k ls,List.append_assoc];rfl
  · simp only[if_true,Bool.not_true,Bool.false_eq_true,if_false];exact qfA k ls out
theorem qke(k:Int×Int):∀ (ls out:List (Int×Int)),(∀ y ∈ ls,0≤y.1)→k ∉ ls→
 (if (ls.foldl qeV ⟨out,true,k⟩).up then (ls.foldl qeV ⟨out,true,k⟩).out++[(ls.foldl qeV ⟨out,true,k⟩).key] else (ls.foldl qeV ⟨out,true,k⟩).out)=out++qlN ls k
 |[],out,_,_=>by simp[qlN]
 |l::ls,out,h0,hk=>by
  have hl:=h0 l List.mem_cons_self;rw[List.mem_cons,not_or] at hk;rw[List.foldl_cons];unfold qlN;by_cases hg:gtL l k=true
  · rw[qhI rfl hg];have h1:(l.1==(-1:Int))=false:=by rw[beq_eq_false_iff_ne];omega
    rw[h1];simp only[Bool.false_and,Bool.false_eq_true,if_false];rw[qfA,hg];simp only[Bool.false_eq_true,if_false,if_true];rw[List.filter_eq_self.2 fun y hy=>by
      have:=h0 y (List.mem_cons_of_mem _ hy);have:(y.1==(-1:Int))=false:=by rw[beq_eq_false_iff_ne];omega
      rw[this];rfl]
    simp
  · rw[qee (by simpa using hg),if_neg hg];have h1:(l.1==k.1&&l.2==k.2)=false:=by
      cases h:(l.1==k.1&&l.2==k.2)
      · rfl
      · simp only[Bool.and_eq_true,beq_iff_eq] at h;exact absurd (Prod.ext h.1 h.2).symm hk.1
    dsimp only;rw[h1];simp only[Bool.false_eq_true,if_false];rw[qke k ls (out++[l]) (fun y hy=>h0 y (List.mem_cons_of_mem _ hy)) hk.2,List.append_assoc];rfl
theorem qm0{ls:List (Int×Int)}{k:Int×Int}(h0:∀ y ∈ ls,0≤y.1)(hk:k ∉ ls):qfr ls k true=qlN ls k:=by
 have:=qke k ls [] h0 hk;rwa[List.nil_append] at this
theorem qkX(ls:List (Int×Int))(k:Int×Int):qfr ls k false=ls.filter (fun l=> !(l.1==k.1&&l.2==k.2)):=by
 unfold qfr;simp only[qfA];simp
theorem qjD(l:List Int)(i:Int):(qaQ l i).length≤100:=by
 unfold qaQ;split
 · rename_i h
   rw[Bool.and_eq_true] at h;have h1:=(qaJ.1 h.1).1;have h2:=qak.1 h.2;obtain⟨p1,p2,p3,_⟩:=qhA l.length a_ i.toNat a_;have ht:=qaY 0 l.length;unfold qcg qgd others;simp only[List.length_append,List.length_map,List.length_range,List.length_eraseIdx];split <;> omega
 · simp
theorem qcF{n:Nat}{f0:Fd}{p:Pc}:qaX n f0 p=true↔inB p.fr 0 ((n:Int)-1)=true∧inB p.to_ 0 ((n:Int)-1)=true∧inB p.len 1 f0.hd.len=true∧inB p.idx 0 (p.len-1)=true∧p.txt.size≤8∧p.prf=qaQ ((lvs f0.bl).take p.len.toNat) p.idx:=by
 unfold qaX;simp only[Bool.and_eq_true,decide_eq_true_eq,beq_iff_eq,and_assoc]
theorem WV.wi{x:Wd}(h:WV x):WI 40 x:=by
 obtain⟨s1,s2,s3,s4,s5⟩:=qb5 h.set;have hf:=h.fd 0 a_;have h0:x.f0=x.feeds[0]'(by omega):=qam a_ _;refine⟨s1,s2,s3,h.na,by rw[h0];exact hf.pub,h.wh,fun j hj=>⟨(h.fd j hj).v,(h.fd j hj).le⟩,fun j hj=>(qc6.1 h.ln).1 _ (List.getElem_mem hj),fun j hj=>Nat.le_trans (qbt.1 (h.wd j hj)).len a_,Nat.le_trans (qlT s3 h.ln) a_,h.nn,fun j hj=> ?_⟩;obtain⟨p1,p2,p3,p4,p5,p6⟩:=qcF.1 (h.pc j hj);exact⟨p1,p2,p5,by rw[p6];exact qjD _ _⟩
def leB(a b:List Bool):Prop:=∀ i,a.getD i false=true→b.getD i false=true
theorem leB.refl(a:List Bool):leB a a:=fun _ h=>h
theorem leB.trans{a b c:List Bool}(h:leB a b)(h2:leB b c):leB a c:=fun i hi=>h2 i (h i hi)
theorem qg0{a a' b:Int}(h1:dig a=true)(h2:dig a'=true)(h:qbo a b=qbo a' b):a=a':=by
 rw[qa4] at h1 h2;unfold qbo at h;omega
theorem qg1{a b b':Int}(h1:dig b=true)(h2:dig b'=true)(h:qbo a b=qbo a b'):b=b':=by
 rw[qa4] at h1 h2;unfold qbo at h;omega
theorem qiF(i:Nat):∀ (xs:List Int) (j:Nat) (r r':Int),dig r=true→dig r'=true→qb0 i j r xs=qb0 i j r' xs→r=r'
 |[],_,_,_,_,_,h=>h
 |x::xs,j,r,r',h1,h2,h=>by
  unfold qb0 at h;have:=qiF i xs (j+1) _ _ (by split <;> exact qb4 _ _) (by split <;> exact qb4 _ _) h;split at this
  · exact qg0 h1 h2 this
  · exact qg1 h1 h2 this
theorem qjT:∀ (l:List Int) {a a':Int},dig a=true→dig a'=true→qdI a l=qdI a' l→a=a'
 |[],_,_,_,_,h=>h
 |x::l,a,a',h1,h2,h=>qg0 h1 h2 (qjT l (qb4 a x) (qb4 a' x) h)
theorem qlk{dg n i a b:Int}{p:List Int}(ha:qaT dg n i a p=true)(hb:qaT dg n i b p=true):a=b:=by
 unfold qaT at ha hb;simp only[Bool.and_eq_true] at ha hb;obtain⟨⟨⟨⟨_,_⟩,da⟩,_⟩,ca⟩:=ha;obtain⟨⟨⟨⟨_,_⟩,db⟩,_⟩,cb⟩:=hb;unfold qbl at ca cb;simp only[Bool.and_eq_true,beq_iff_eq] at ca cb;have h:=ca.2.trans cb.2.symm;have e:∀ (x:Int) (A B:List Int) (r:Int),qdI x (A++[r]++B)=qdI (qbo (qdI x A) r) B:=fun x A B r=>by
  unfold qdI;rw[List.foldl_append,List.foldl_append];rfl
 rw[e,e] at h;have h2:=qg1 (qc7 _ _ _ _ da) (qc7 _ _ _ _ db) (qjT _ (qb4 _ _) (qb4 _ _) h);exact qiF _ _ _ _ _ da db h2
theorem qkv:∀ b,b<997→b≠0→Nat.gcd 997 b=1:=by decide +kernel
theorem qn8{a b:Nat}(ha:1≤a)(ha2:a<997)(hb:1≤b)(hb2:b<997):a*b%997≠0:=fun h=>by
 have h1:997 ∣ a*b:=Nat.dvd_of_mod_eq_zero h;have h2:Nat.Coprime 997 b:=qkv b hb2 a_;have h3:=h2.dvd_of_dvd_mul_right h1;have:=Nat.le_of_dvd a_ h3;omega
theorem qjr{s:Int}{l:List Int}(hk:key s=true)(hl:qaE l=true):qbE (qhr s) (qbJ s l).1=true:=by
 have hp:=qfw hk;have ht:=qgj hl;have hb:=qdW l.length (qbN l);obtain⟨k1,k2⟩:=qcd.1 hk;have e:(qbJ s l).1=⟨l.length,qbN l,s*(qbo l.length (qbN l)+1)%997⟩:=by unfold qbJ;rw[hk,hl];rfl
 rw[e];unfold qbE;generalize qbo l.length (qbN l)=m at*
 rw[hp,ht];simp only[Bool.true_and,Bool.and_true];have h1:inB (l.length:Int) 0 16=true:=qak.2 (by have:=(qaJ.1 hl).1;omega);rw[h1];have h2:key (s*(m+1)%997)=true:=by
  rw[qcd];obtain⟨a,rfl⟩:∃ a:Nat,s=a:=⟨s.toNat,a_⟩
  obtain⟨b,hb'⟩:∃ b:Nat,m+1=b:=⟨(m+1).toNat,a_⟩
  rw[hb'];have:=qn8 (a:=a) (b:=b) a_ a_ a_ a_;have e2:(a:Int)*(b:Int)%997=((a*b%997:Nat):Int):=k_;rw[e2];omega
 rw[h2];simp only[Bool.true_and,beq_iff_eq];unfold qhr;rw[if_pos hk,Int.mul_emod (s*(m+1)%997) 5,Int.emod_emod_of_dvd _ (Int.dvd_refl _),←Int.mul_emod,Int.mul_emod (s*5%997),Int.emod_emod_of_dvd _ (Int.dvd_refl _),←Int.mul_emod];congr 1;rw[Int.mul_assoc,Int.mul_assoc,Int.mul_comm (m+1) 5]
theorem qfS{s:Int}{l:List Int}(hk:key s=true)(hl:qaE l=true):(qbJ s l).1.len=l.length∧(qbJ s l).1.dg=qbN l:=by
 unfold qbJ;rw[hk,hl];exact⟨rfl,rfl⟩
theorem qeH{t:ByteArray}(ht:t.size≤8):∀ {bl:List ByteArray} {hv:List Bool},bl.length=hv.length→qaI bl hv=true→qaI (bl++[t]) (hv++[true])=true
 |[],[],_,_=>by simp[qaI,qbQ,ht]
 |s::bl,b::hv,hl,h=>by
  simp only[qaI,Bool.and_eq_true,List.cons_append] at h ⊢;exact⟨h.1,qeH ht (by simpa using hl) h.2⟩
 |[],_::_,hl,_=>by simp at hl
 |_::_,[],hl,_=>by simp at hl
theorem qj5(bl:List ByteArray)(t:ByteArray){n:Nat}(hn:n≤bl.length):(lvs (bl++[t])).take n=(lvs bl).take n:=by
 unfold lvs;rw[List.map_append,List.take_append_of_le_length aY_]
theorem qlB{α:Type}{l:List α}{t d:α}{i:Nat}(h:i<l.length):(l++[t]).getD i d=l.getD i d:=by
 rw[List.getD_eq_getElem?_getD,List.getD_eq_getElem?_getD,List.getElem?_append_left h]
theorem qmO{bl:List ByteArray}(h:bl.length≤16):qaE (lvs bl)=true:=qaJ.2 ⟨by rw[qcP];exact h,qlV _⟩
theorem qcV{bl:List ByteArray}(h:bl.length≤16)(n:Nat):qaE ((lvs bl).take n)=true:=qaJ.2 ⟨by rw[List.length_take,qcP];omega,qcb (qlV _) _⟩

theorem qm4{l:List (Int×Int)}{a:Int×Int}{en:Bool}(hl:qaG l=true)(h:(qfs l a en).2=true):qaG (qfs l a en).1=true:=by
 unfold qfs at h ⊢;by_cases hw:(qaG l&&qcB a)=true
 · rw[if_pos hw] at h ⊢;by_cases hn:(qc8 l a||decide (3≤qcX l a.1)||decide ((if en=true then 2 else 1)≤qdL l a.2))=true
   · rw[if_pos hn] at h;cases h
   · rw[if_neg hn];simp only[Bool.or_eq_true,decide_eq_true_eq,not_or,Bool.not_eq_true] at hn;rw[Bool.and_eq_true] at hw;refine qbt.2 ((qbt.1 hl).push hw.2 (fun hm=> ?_) a_ ?_)
     · rw[qd6.2 hm] at hn;exact absurd hn.1.1 k_
     · have:=hn.2;split at this <;> omega
 · rw[if_neg hw] at h;cases h
section
variable {x:Wd}
theorem WV.f0_(h:WV x):x.f0=x.feeds[0]'(by have:=(qb5 h.set).2.1;omega):=qam (by have:=(qb5 h.set).2.1;omega) _
theorem WV.key(h:WV x):key x.sec=true:=(qb5 h.set).1
theorem WV.pub(h:WV x):x.f0.pub=qhr x.sec:=h.wi.pub
theorem WV.more(h:WV x){t:ByteArray}(ht:t.size≤8)(hb:x.f0.bl.length<16):qaq (x.f0.more x.sec t)=true∧qbA (x.f0.more x.sec t).hv=true∧(x.f0.more x.sec t).hd.len=x.f0.hd.len+1:=by
 obtain⟨l1,l2,l3⟩:=qax h.v0;have hl:qaE (lvs (x.f0.bl++[t]))=true:=qmO n_;obtain⟨m1,m2⟩:=qfS h.key hl;have hc:=qjr h.key hl;rw[qcP,List.length_append] at m1;simp only[List.length_cons,List.length_nil] at m1;have hw:qbA (x.f0.hv++[true])=true:=qko n_ fun j hj=>by
  simp only[List.length_append,List.length_cons,List.length_nil] at hj;by_cases hj':j<x.f0.hv.length
  · rw[List.getElem?_append_left hj'];exact qds h.wh j hj'
  · have:j=x.f0.hv.length:=a_;subst this;simp
 have hv:=h.v0;refine⟨?_,hw,by show(qbJ x.sec (lvs (x.f0.bl++[t]))).1.len=_;rw[m1];omega⟩;simp only[qaq,Bool.and_eq_true,beq_iff_eq] at hv;obtain⟨⟨⟨⟨⟨v1,v2⟩,v3⟩,v4⟩,v5⟩,v6⟩:=hv;simp only[qaq,Bool.and_eq_true,beq_iff_eq,Fd.more];refine⟨⟨⟨⟨⟨v1,by rw[h.pub,hc,Bool.or_true]⟩,by rw[m1];simp⟩,by rw[m1];simp;omega⟩,qeH ht l1 v5⟩,?_⟩;rw[m2];simp
theorem qgA.more{sec:Int}{f0 f:Fd}{t:ByteArray}(h:qgA sec f0 f)(hv:qaq f0=true)(hl:(f0.more sec t).hd.len=f0.hd.len+1):qgA sec (f0.more sec t) f:=by
 obtain⟨l1,l2,l3⟩:=qax hv;obtain⟨k1,k2,k3⟩:=qax h.v;have hle:=h.le;refine⟨h.v,h.pub,a_,?_,fun i hi hh=> ?_⟩
 · rcases h.hd with h0|h0
   · exact .inl h0
   · refine .inr ?_;show f.hd=(qbJ sec ((lvs (f0.bl++[t])).take f.hd.len.toNat)).1;rw[qj5 _ _ a_];exact h0
 · rw[h.bl i hi hh];show _=qbi ((f0.bl++[t]).getD i ⟨#[]⟩).data.toList;rw[qlB a_]
theorem qiI{n:Nat}{sec:Int}{f0:Fd}{p:Pc}{t:ByteArray}(h:qaX n f0 p=true)(hv:qaq f0=true)(hl:(f0.more sec t).hd.len=f0.hd.len+1):qaX n (f0.more sec t) p=true:=by
 obtain⟨l1,l2,l3⟩:=qax hv;obtain⟨p1,p2,p3,p4,p5,p6⟩:=qcF.1 h;have p3':=qak.1 p3;refine qcF.2 ⟨p1,p2,qak.2 a_,p4,p5,?_⟩;show p.prf=qaQ ((lvs (f0.bl++[t])).take p.len.toNat) p.idx;rw[qj5 _ _ a_];exact p6
theorem WV.grow(h:WV x)(t:ByteArray):WV (qd1 x t):=by
 unfold qd1;split
 · exact h
 · rename_i hc
   have h1:t.size≤8:=a_;have h2:x.f0.bl.length<16:=a_;obtain⟨m1,m2,m3⟩:=h.more h1 h2;have hn:=(qb5 h.set).2.1;have e0:(⟨x.sec,x.bad,x.feeds.set 0 (x.f0.more x.sec t),x.links,x.asked,x.net⟩:Wd).f0=x.f0.more x.sec t:=by
    unfold Wd.f0;rw[qam n_];simp
   refine⟨by simpa using h.set,by rw[e0];exact m1,by rw[e0];exact m2,by simpa using h.ln,by simpa using h.na,h.nn,fun j hj=> ?_,h.wd,fun j hj=> ?_⟩
   · rw[e0];simp only[List.length_set] at hj;by_cases h0:j=0
     · subst h0;simp only[List.getElem_set_self];refine⟨m1,by show x.f0.pub=_;exact h.pub,Int.le_refl _,.inr ?_,fun i hi hh=>rfl⟩;show(qbJ x.sec (lvs (x.f0.bl++[t]))).1=(qbJ x.sec ((lvs (x.f0.bl++[t])).take (x.f0.more x.sec t).hd.len.toNat)).1;have:=(qax m1).2.2;rw[List.take_of_length_le];rw[qcP];show(x.f0.more x.sec t).bl.length≤_;omega
     · simp only[List.getElem_set_ne (Ne.symm h0)];exact(h.fd j hj).more h.v0 m3
   · rw[e0];simp only[List.length_set];exact qiI (h.pc j hj) h.v0 m3
theorem WV.turn(h:WV x)(a b:Int)(up:Bool):WV (qeh x a b up):=by
 unfold qeh;split
 · rename_i hc
   unfold qmd at hc;simp only[Bool.and_eq_true] at hc;obtain⟨⟨⟨c1,c2⟩,c3⟩,c4⟩:=hc;obtain⟨g1,g2⟩:=qc6.1 h.ln;have hkey:qc5 x.feeds.length (qbw a b)=true:=by
    unfold qc5;have c1':(qbw a b).1≠(qbw a b).2:=by simpa using c1
    have c2':=qak.1 c2;have c3':=qak.1 c3;have:(qbw a b).1≤(qbw a b).2:=by unfold qbw;simp only;omega
    rw[Bool.and_eq_true,qak,qak];omega
   have hl:qcE x.feeds.length (qfr x.links (qbw a b) up)=true:=by
    rw[qc6];cases up
    · rw[qkX];exact⟨fun y hy=>g1 y (List.mem_filter.1 hy).1,g2.sublist List.filter_sublist⟩
    · have hn:qbw a b ∉ x.links:=fun hm=>by
       have:qbk x a b=true:=qd6.2 hm;rw[this] at c4;cases c4
      rw[qm0 (fun y hy=>by
       have:=g1 y hy;unfold qc5 at this;rw[Bool.and_eq_true,qak] at this;exact this.1.1) hn]
      refine⟨fun y hy=> ?_,qfW hn g2⟩;rcases qht.1 hy with hy|rfl
      · exact g1 y hy
      · exact hkey
   exact⟨h.set,h.v0,h.wh,hl,h.na,h.nn,h.fd,h.wd,h.pc⟩
 · exact h
theorem qly{x:Wd}{j:Nat}{f:Fd}{k:List (List (Int×Int))}(hj:j≠0):(⟨x.sec,x.bad,x.feeds.set j f,x.links,k,x.net⟩:Wd).f0=x.f0:=by
 unfold Wd.f0;rw[List.getD_eq_getElem?_getD,List.getD_eq_getElem?_getD,List.getElem?_set_ne hj]
theorem WV.setF(h:WV x){j:Nat}{f:Fd}(hj:j≠0)(hf:qgA x.sec x.f0 f):WV {x with feeds:=x.feeds.set j f}:=by
 have e0:({x with feeds:=x.feeds.set j f}:Wd).f0=x.f0:=qly hj;refine⟨by simpa using h.set,by rw[e0];exact h.v0,by rw[e0];exact h.wh,by simpa using h.ln,by simpa using h.na,h.nn,fun i hi=> ?_,h.wd,fun i hi=> ?_⟩
 · rw[e0];simp only[List.length_set] at hi;by_cases hij:i=j
   · subst hij;simpa using hf
   · simp only[List.getElem_set_ne (Ne.symm hij)];exact h.fd i hi
 · rw[e0];simpa using h.pc i hi
theorem WV.setA(h:WV x){j:Nat}{l:List (Int×Int)}(hl:qaG l=true):WV {x with asked:=x.asked.set j l}:=by
 refine⟨h.set,h.v0,h.wh,h.ln,by simpa using h.na,h.nn,h.fd,fun i hi=> ?_,h.pc⟩;simp only[List.length_set] at hi;by_cases hij:i=j
 · subst hij;simpa using hl
 · simp only[List.getElem_set_ne (Ne.symm hij)];exact h.wd i hi
theorem qnG{sec:Int}{f0 f g:Fd}{l:List Int}(hg:qgA sec f0 g)(hf:qgA sec f0 f)(h0:qdJ f g.hd l=0):qgA sec f0 (f.grow g.hd):=by
 obtain⟨c1,c2,c3,_⟩:=qd7 h0;obtain⟨k1,k2,k3⟩:=qax hf.v;refine⟨qkC hf.v h0,hf.pub,hg.le,hg.hd,fun i hi hh=> ?_⟩;by_cases h1:i<f.bl.length
 · have e1:(f.grow g.hd).hv.getD i false=f.hv.getD i false:=by
    unfold Fd.grow;simp only;rw[List.getD_eq_getElem?_getD,List.getD_eq_getElem?_getD,List.getElem?_append_left a_]
   have e2:(f.grow g.hd).bl.getD i ⟨#[]⟩=f.bl.getD i ⟨#[]⟩:=by
    unfold Fd.grow;simp only;rw[List.getD_eq_getElem?_getD,List.getD_eq_getElem?_getD,List.getElem?_append_left h1]
   rw[e1] at hh;rw[e2];exact hf.bl i h1 hh
 · exfalso;unfold Fd.grow at hh;simp only at hh;rw[List.getD_eq_getElem?_getD,List.getElem?_append_right a_,List.getElem?_replicate] at hh;split at hh <;> simp at hh
theorem WV.fd_(h:WV x){a b:Int}(hl:qbk x a b=true):∃ i j:Nat,a=i∧b=j∧∃ (hi:i<x.feeds.length) (hj:j<x.feeds.length),x.feed a=x.feeds[i]∧x.feed b=x.feeds[j]:=by
 obtain⟨i,j,rfl,rfl,hi,hj⟩:=h.wi.lk hl;exact⟨i,j,rfl,rfl,hi,hj,h.wi.fd hi,h.wi.fd hj⟩
theorem WV.head(h:WV x)(a b:Int):WV (qa0 x a b):=by
 unfold qa0;split
 · rename_i hc
   simp only[Bool.and_eq_true,beq_iff_eq] at hc;obtain⟨c1,c2⟩:=hc;unfold qdj at c1;simp only[Bool.and_eq_true,decide_eq_true_eq] at c1;obtain⟨i,j,rfl,rfl,hi,hj,ea,eb⟩:=h.fd_ c1.1;have c3:=c1.2;unfold qet at c2 ⊢;rw[ea,eb] at c2 c3 ⊢;rw[Int.toNat_natCast];have hv:=(h.fd j hj).v;have h0:qdJ x.feeds[j] x.feeds[i].hd (qcv ((lvs x.f0.bl).take x.feeds[i].hd.len.toNat) x.feeds[j].hd.len)=0:=by
    have:=c2;unfold qc9 at this;rw[hv] at this;exact this
   rw[qd4 hv h0];refine h.setF (fun e=> ?_) (qnG (h.fd i hi) (h.fd j hj) h0);subst e;have:=(h.fd i hi).le;rw[h.f0_] at this;omega
 · exact h
theorem WV.ask(h:WV x)(a b c:Int):WV (qiT x a b c):=by
 unfold qiT;split
 · rename_i hc
   rw[Bool.and_eq_true] at hc;have hw:qaG (x.asks a)=true:=by
    unfold Wd.asks;by_cases ha:a.toNat<x.asked.length
    · rw[qam ha];exact h.wd _ ha
    · rw[List.getD_eq_getElem?_getD,List.getElem?_eq_none a_];rfl
   exact h.setA (qm4 hw hc.2)
 · exact h
theorem qlI{f:Fd}{c:Int}(h:qiS f c=true):∃ k:Nat,c=k∧k<f.hv.length∧f.hv.getD k false=true:=by
 unfold qiS at h;rw[Bool.and_eq_true,qak] at h;exact⟨c.toNat,a_,a_,h.2⟩
theorem WV.answer(h:WV x)(a b c:Int)(t:ByteArray):WV (qbO x a b c t):=by
 unfold qbO;split
 · rename_i hc
   simp only[Bool.and_eq_true,decide_eq_true_eq] at hc;obtain⟨c1,c2⟩:=hc;unfold qfj at c1;simp only[Bool.and_eq_true,decide_eq_true_eq] at c1;obtain⟨⟨⟨d1,d2⟩,d3⟩,d4⟩:=c1;obtain⟨i,j,rfl,rfl,hi,hj,ea,eb⟩:=h.fd_ d1;obtain⟨k,rfl,k1,k2⟩:=qlI d3;rw[eb] at k1 k2 ⊢;obtain⟨l1,l2,l3⟩:=qax (h.fd j hj).v;have hle:=(h.fd j hj).le;refine⟨h.set,h.v0,h.wh,h.ln,h.na,n_,h.fd,h.wd,fun m hm=> ?_⟩;by_cases hm':m<x.net.length
   · have:=h.pc m hm';show qaX x.feeds.length x.f0 _=true;simp only[List.getElem_append_left hm'];exact this
   · have hm2:m=x.net.length:=by
      simp only[List.length_append,List.length_cons,List.length_nil] at hm;omega
     subst hm2;show qaX x.feeds.length x.f0 _=true;simp only[List.getElem_concat_length];exact qcF.2 ⟨qak.2 (by dsimp only;omega),qak.2 (by dsimp only;omega),qak.2 (by dsimp only;omega),qak.2 (by dsimp only;omega),c2,rfl⟩
 · exact h
theorem qob{sec:Int}{n:Nat}{f0 f:Fd}{p:Pc}(h0:qaq f0=true)(hw:qbA f0.hv=true)(hk:key sec=true)(hp:qaX n f0 p=true)(hf:qgA sec f0 f)(hl:f.hd.len=p.len)(h:(qes f p.idx p.txt p.prf).2=true):
 qgA sec f0 (qes f p.idx p.txt p.prf).1∧qbi p.txt.data.toList=qbi (f0.bl.getD p.idx.toNat ⟨#[]⟩).data.toList:=by
 obtain⟨t1,t2,t3,t4,t5⟩:=qfO h;rw[t5];obtain⟨l1,l2,l3⟩:=qax h0;obtain⟨k1,k2,k3⟩:=qax hf.v;obtain⟨p1,p2,p3,p4,p5,p6⟩:=qcF.1 hp;have hle:=hf.le;have p3':=qak.1 p3;have p4':=qak.1 p4;unfold qbR at t3;simp only[Bool.and_eq_true,Bool.not_eq_true'] at t3;obtain⟨⟨u1,u2⟩,u3⟩:=t3;have hd:f.hd=(qbJ sec ((lvs f0.bl).take f.hd.len.toNat)).1:=by
  rcases hf.hd with h1|h1
  · omega
  · exact h1
 obtain⟨m1,m2⟩:=qfS hk (qcV l2 f.hd.len.toNat);have hdg:f.hd.dg=qbN ((lvs f0.bl).take f.hd.len.toNat):=by rw[←m2,←hd]
 have hlt:p.idx.toNat<f0.bl.length:=a_;have hlen:((lvs f0.bl).take p.len.toNat).length=p.len.toNat:=by rw[List.length_take,qcP];omega
 have hg:((lvs f0.bl).take p.len.toNat).getD p.idx.toNat 0=qbi (f0.bl.getD p.idx.toNat ⟨#[]⟩).data.toList:=by
  rw[List.getD_eq_getElem?_getD,List.getElem?_take_of_lt a_,←List.getD_eq_getElem?_getD,qlW hlt,qam hlt]
 have hck:=qeI (l:=(lvs f0.bl).take p.len.toNat) (i:=p.idx) (qcV l2 _) (by rw[hlen];exact qak.2 a_) (by rw[hg];exact qgh _) (qga _);rw[hlen,hg,←p6] at hck;rw[hdg,hl] at u3;rw[show((p.len.toNat:Nat):Int)=p.len by omega] at hck;have htx:=qlk u3 hck;refine⟨⟨t4,hf.pub,hf.le,hf.hd,fun i hi hh=> ?_⟩,htx⟩;unfold Fd.put at hi hh ⊢;simp only[List.length_set] at hi;by_cases hie:i=p.idx.toNat
 · subst hie;simp only[List.getD_eq_getElem?_getD,List.getElem?_set_self hi,Option.getD_some];rw[←List.getD_eq_getElem?_getD];exact htx
 · simp only[List.getD_eq_getElem?_getD,List.getElem?_set_ne (Ne.symm hie)] at hh ⊢;simp only[←List.getD_eq_getElem?_getD] at hh ⊢;exact hf.bl i hi hh
theorem qnV{l:List (Int×Int)}(h:qaG l=true)(a:Int×Int):qaG (qhJ l a)=true:=by
 unfold qhJ;split
 · split
   · exact qbt.2 ((qbt.1 h).sub List.filter_sublist)
   · exact h
 · exact qbt.2 qen.nil
theorem qm5{l:List (Int×Int)}(h:qaG l=true)(p:Int):qaG (qeg l p)=true:=by
 unfold qeg;split
 · exact qbt.2 ((qbt.1 h).sub List.filter_sublist)
 · exact qbt.2 qen.nil
theorem qmX{f:Fd}{i:Int}{t:ByteArray}{p:List Int}(hv:qaq f=true)(hw:qbA f.hv=true)(h:(qes f i t p).2=true):False:=by
 obtain⟨t1,t2,t3,t4,t5⟩:=qfO h;unfold qbR at t3;simp only[Bool.and_eq_true,Bool.not_eq_true'] at t3;obtain⟨⟨u1,u2⟩,u3⟩:=t3;have:=qak.1 u1;have h2:=qds hw i.toNat (by have:=(qax hv).1;omega)
 rw[List.getD_eq_getElem?_getD,h2] at u2;cases u2
theorem WV.store(h:WV x){p:Pc}(hp:qaX x.feeds.length x.f0 p=true):WV (qd2 x p):=by
 obtain⟨p1,p2,p3,p4,p5,p6⟩:=qcF.1 hp;have p2':=qak.1 p2;obtain⟨j,hj⟩:∃ j:Nat,p.to_=j:=⟨p.to_.toNat,a_⟩
 have hjl:j<x.feeds.length:=a_;have ef:x.feed p.to_=x.feeds[j]:=by rw[hj];exact h.wi.fd hjl
 have ea:x.asks p.to_=x.asked[j]'(by rw[h.na];exact hjl):=by rw[hj];exact h.wi.as_ hjl
 have hwin:=h.wd j (by rw[h.na];exact hjl);unfold qd2;split
 · exact h
 · rename_i hc
   rw[Bool.not_eq_true,Bool.or_eq_false_iff] at hc;have hl:x.feeds[j].hd.len=p.len:=by
    have:=hc.2;rw[ef] at this;simpa using this
   split
   · rename_i hput
     rw[ef] at hput;obtain⟨q1,_⟩:=qob h.v0 h.wh h.key hp (h.fd j hjl) hl hput;have hj0:j≠0:=fun e=>by
      subst e;rw[←h.f0_] at hput;exact qmX h.v0 h.wh hput
     have h2:=(h.setF (j:=j) hj0 q1).setA (j:=j) (qnV hwin (p.fr,p.idx));rw[ef,ea,hj,Int.toNat_natCast];exact h2
   · rw[ea,hj,Int.toNat_natCast];exact h.setA (qm5 hwin p.fr)
theorem WV.erase(h:WV x)(k:Nat):WV {x with net:=x.net.eraseIdx k}:=by
 refine⟨h.set,h.v0,h.wh,h.ln,h.na,by have:=h.nn;have:=List.length_eraseIdx_le x.net k;show(x.net.eraseIdx k).length≤12;omega,h.fd,h.wd,fun j hj=> ?_⟩;have hm:(x.net.eraseIdx k)[j] ∈ x.net:=(List.eraseIdx_sublist x.net k).subset (List.getElem_mem hj);obtain⟨i,hi,he⟩:=List.mem_iff_getElem.1 hm;show qaX x.feeds.length x.f0 (x.net.eraseIdx k)[j]=true;rw[←he];exact h.pc i hi
theorem WV.net_(h:WV x)(k:Int)(lost:Bool):WV (qgz x k lost):=by
 unfold qgz;split
 · rename_i hc
   have hc':=qak.1 hc;have he:=h.erase k.toNat
   split
   · exact he
   · refine he.store ?_;have hk:k.toNat<x.net.length:=a_;rw[qam hk];exact h.pc _ hk
 · exact h
theorem WV.do_(h:WV x)(e:Ev):WV (wdo x e):=by
 unfold wdo;repeat' split
 · exact h.grow _
 iterate 2
  · exact h.turn _ _ _
 · exact h.head _ _
 · exact h.ask _ _ _
 · exact h.answer _ _ _ _
 iterate 2
  · exact h.net_ _ _
 · exact h
end
structure Gv (b:Nat) (x y:Wd):Prop where
 sec:y.sec=x.sec
 bad:y.bad=x.bad
 links:y.links=x.links
 asked:y.asked=x.asked
 net:y.net=x.net
 n:y.feeds.length=x.feeds.length
 oth:∀ j,j≠b→y.feeds.getD j Fd.none=x.feeds.getD j Fd.none
 f0:y.f0=x.f0
 wv:WV y
def qn3(x:Wd)(j:Nat):Prop:=(x.feeds.getD j Fd.none).hd=x.f0.hd∧∀ i,i<(x.feeds.getD j Fd.none).hv.length→(x.feeds.getD j Fd.none).hv.getD i false=true
theorem Gv.refl(b:Nat){x:Wd}(h:WV x):Gv b x x:=⟨rfl,rfl,rfl,rfl,rfl,rfl,fun _ _=>rfl,rfl,h⟩
theorem Gv.trans{b:Nat}{x y z:Wd}(h:Gv b x y)(k:Gv b y z):Gv b x z:=
 ⟨k.sec.trans h.sec,k.bad.trans h.bad,k.links.trans h.links,k.asked.trans h.asked,k.net.trans h.net,k.n.trans h.n,fun j hj=>(k.oth j hj).trans (h.oth j hj),k.f0.trans h.f0,k.wv⟩
theorem getD_set_ne{l:List Fd}{i j:Nat}(h:j≠i)(f d:Fd):(l.set i f).getD j d=l.getD j d:=by
 rw[List.getD_eq_getElem?_getD,List.getD_eq_getElem?_getD,List.getElem?_set_ne (Ne.symm h)]
section
variable {x:Wd} {i j:Nat}
def NZ(x:Wd):Prop:=∀ k,(x.feeds.getD k Fd.none).hd.len=0→(x.feeds.getD k Fd.none).hd=Hd.zero
end
end Go.Proofs.YtekaaekpdebloaaGreatDoor
namespace Go.Proofs.YtekaaekpdebloaaGreatDoor
open Go.RowKit

structure DW (x:Wd):Prop where
 v:WV x
 z:NZ x
section
variable {x:Wd}
theorem NZ.set{j:Nat}{f:Fd}(h:NZ x)(hf:f.hd.len=0→f.hd=Hd.zero):NZ {x with feeds:=x.feeds.set j f}:=fun k=>by
 show((x.feeds.set j f).getD k Fd.none).hd.len=0→((x.feeds.set j f).getD k Fd.none).hd=Hd.zero;by_cases hkj:k=j
 · subst hkj;by_cases hk:k<x.feeds.length
   · rw[List.getD_eq_getElem?_getD,List.getElem?_set_self hk];exact hf
   · rw[List.getD_eq_getElem?_getD,List.getElem?_eq_none n_];intro _;rfl
 · rw[getD_set_ne hkj];exact h k
end
end Go.Proofs.YtekaaekpdebloaaGreatDoor
namespace Go.Proofs.YtekaaekpdebloaaGreatDoor
open Go.RowKit
attribute [local go_sem ↓] Go.wp_at_zero Go.wp_at_succ

def qhV(r:List (Int×Int))(ok:Bool)(w:World)(e:Ending)(w':World):Prop:=∃ v',e=.returned (.tuple #[v',.bool ok])∧qav w.heap.size 109 w' v' r∧bB w w'
def qgC(r:List (Int×Int))(w:World)(e:Ending)(w':World):Prop:=∃ v' n,e=.returned (.tuple #[v',.int .i64 n])∧qav w.heap.size 109 w' v' r∧bB w w'
theorem qav.below{B:Nat}{e:TypeId}{w w':World}{v:Value}{l:List (Int×Int)}(h:qav B e w v l)(hb:bB w w'):qav B e w' v l:=h.next (T:=[e]) (qaA.of_below hb) k_
theorem qaH{W:World}{q:Nat}{x0 x1:Value}{t:TypeId}(h:W.heap[q]? =some (.cells #[x0,x1] t (0,0))):W.cell? ⟨q,0,none⟩=some x0∧W.cell? ⟨q,1,none⟩=some x1∧∀ o,W.frozen? ⟨q,o,none⟩=false:=
 ⟨cell_of_row _ _ 0 _ _ _ h,cell_of_row _ _ 1 _ _ _ h,fun o=>am_⟩
theorem qav.lt'{B:Nat}{e:TypeId}{w:World}{v:Value}{l:List (Int×Int)}(h:qav B e w v l):∀ k,v.ownBlock=some k→B≤k∧k<w.heap.size:=by obtain⟨F,h1,h2⟩:=h;exact h1.lt
theorem qm2{l:List (Int×Int)}{a:Int×Int}{en:Bool}(h:(qaG l&&qcB a)=false):qfs l a en=([],false):=by unfold qfs;rw[h];rfl
theorem qnT{l:List (Int×Int)}{a:Int×Int}{en:Bool}(h:(qaG l&&qcB a)=true):qfs l a en=if qc8 l a||decide (3≤qcX l a.1)||decide ((if en then 2 else 1)≤qdL l a.2) then (l,false) else (l++[a],true):=by unfold qfs;rw[h];rfl
theorem qfF(l:List (Int×Int))(a:Int×Int)(en:Bool)(v:Value)(w:World)(hv:RP w v l)(hl:l.length≤1000000):
 Calls Tryz.prog 177 #[v,.agg #[.int .i64 a.1,.int .i64 a.2],.bool en] w (qhV (qfs l a en).1 (qfs l a en).2 w):=by
 obtain⟨W0,HW0⟩:=nm_ (w.alloc (.cells #[.int .i64 a.1,.int .i64 a.2] 109));have HB0:Hid (bB w W0):=hI_ q_;have hp:W0.heap[w.heap.size]? =some (.cells #[.int .i64 a.1,.int .i64 a.2] 109 (0,0)):=by rw[←HW0.out];exact heap_alloc_new w _
 have lp:=(Array.getElem?_eq_some_iff.1 hp).1;have HP:=hI_ hp;have HV0:Hid (RP W0 v l):=hI_ (hv.below HB0.out);obtain⟨A,c,rfl⟩:=hv.sl;have HL:=hI_ hl;clear hv hp hl;obtain⟨b1,H1⟩:=nm_ (qaG l);obtain⟨b2,H2⟩:=nm_ (qcB a);have HBAD:Hid (∀ W,(b1&&b2)=false→bB w W→qhV (qfs l a en).1 (qfs l a en).2 w (.returned (.tuple #[.slice (some ⟨W.heap.size,0,none⟩) 0 0,.bool false])) (W.alloc (.cells #[] 109))):=hI_ (by
  intro W hb hB;rw[qm2 aQ_];exact⟨_,rfl,qav.empty (heap_alloc_new W _) hB.size,hB.alloc hB.size _⟩)
 obtain⟨p0,p1,pf⟩:=qaH HP.out;cases b1
 · go_enter Tryz.func177,Tryz.ntmps177
   go_wp2_with fail
   rw[HW0.out];go_wp2_with (go_at_call 60;refine(qaL H1 _ _ HV0.out).mono ?_;rintro e w1 ⟨rfl,hb1⟩;have HB1:=hI_ (HB0.out.trans (hb1.mono HB0.out.size));clear hb1)
   go_ret2
   exact HBAD.out _ rfl HB1.out
 cases b2
 · go_enter Tryz.func177,Tryz.ntmps177
   go_wp2_with fail
   rw[HW0.out];go_wp2_with (first
    |(go_at_call 60;refine(qaL H1 _ _ HV0.out).mono ?_;rintro e w1 ⟨rfl,hb1⟩;obtain⟨p0,p1,pf⟩:=qaH ((hb1.block _ lp).trans HP.out);have HB1:=hI_ (HB0.out.trans (hb1.mono HB0.out.size));clear hb1)
    |(go_at_call 135;refine(qcJ H2 _).mono ?_;rintro e w2 ⟨rfl,hb2⟩;have HB2:=hI_ (HB1.out.trans (hb2.mono HB1.out.size));clear hb2))
   go_ret2
   exact HBAD.out _ rfl HB2.out
 clear HBAD;obtain⟨b3,H3⟩:=nm_ (qc8 l a);obtain⟨n4,H4⟩:=nm_ (qcX l a.1);obtain⟨n5,H5⟩:=nm_ (qdL l a.2);have HR:Hid (qfs l a en=if b3||decide (3≤n4)||decide ((if en then 2 else 1)≤n5) then (l,false) else (l++[a],true)):=hI_ (by rw[qnT aJ_,H3.out,H4.out,H5.out]);have HNO:Hid (∀ v' W,(b3||decide (3≤n4)||decide ((if en then 2 else 1)≤n5))=true→qav w.heap.size 109 W v' l→bB w W→qhV (qfs l a en).1 (qfs l a en).2 w (.returned (.tuple #[v',.bool false])) W):=hI_ (by
  intro v' W h1 h2 h3;rw[HR.out,h1];exact⟨_,rfl,h2,h3⟩)
 have HYES:Hid (∀ v' W,(b3||decide (3≤n4)||decide ((if en then 2 else 1)≤n5))=false→qav w.heap.size 109 W v' (l++[a])→bB w W→qhV (qfs l a en).1 (qfs l a en).2 w (.returned (.tuple #[v',.bool true])) W):=hI_ (by
  intro v' W h1 h2 h3;rw[HR.out,h1];exact⟨_,rfl,h2,h3⟩)
 clear HR;have HF:Hid (∀ x:Bool,(true||x)=true):=hI_ fun _=>rfl;have hcase:(b3=true∧Hid ((b3||decide (3≤n4)||decide ((if en then 2 else 1)≤n5))=true))∨(b3=false∧(3:Int)≤(n4:Int)∧Hid ((b3||decide (3≤n4)||decide ((if en then 2 else 1)≤n5))=true))∨
  (b3=false∧¬ (3:Int)≤(n4:Int)∧(if en then (2:Int) else 1)≤(n5:Int)∧Hid ((b3||decide (3≤n4)||decide ((if en then 2 else 1)≤n5))=true))∨
  (b3=false∧¬ (3:Int)≤(n4:Int)∧¬ (if en then (2:Int) else 1)≤(n5:Int)∧Hid ((b3||decide (3≤n4)||decide ((if en then 2 else 1)≤n5))=false)):=by
  cases b3
  · by_cases h4:3≤n4
    · exact .inr (.inl ⟨rfl,a_,hI_ (by simp[h4])⟩)
    · by_cases h5:(if en then 2 else 1)≤n5
      · refine .inr (.inr (.inl ⟨rfl,a_,?_,hI_ (by simp[h5])⟩));cases en <;> simp at h5 ⊢ <;> omega
      · refine .inr (.inr (.inr ⟨rfl,a_,?_,hI_ (by simp only[h4,h5];rfl)⟩));cases en <;> simp at h5 ⊢ <;> omega
  · exact .inl ⟨rfl,hI_ rfl⟩
 clear HF;have hl:=HL.out;cases en <;> simp only[Bool.false_eq_true,if_false,if_true] at hcase
 all_goals
  rcases hcase with⟨rfl,HC⟩|⟨rfl,h4,HC⟩|⟨rfl,h4,h5,HC⟩|⟨rfl,h4,h5,HC⟩
  all_goals
   go_enter Tryz.func177,Tryz.ntmps177
   go_wp2_with fail
   rw[HW0.out];go_wp2_with (first
    |(go_at_call 60;refine(qaL H1 _ _ HV0.out).mono ?_;rintro e w1 ⟨rfl,hb1⟩;obtain⟨p0,p1,pf⟩:=qaH ((hb1.block _ lp).trans HP.out);have HB1:=hI_ hb1;clear hb1)
    |(go_at_call 135;refine(qcJ H2 _).mono ?_;rintro e w2 ⟨rfl,hb2⟩;have HB2:Hid (bB W0 w2):=hI_ (HB1.out.trans (hb2.mono HB1.out.size));clear hb2)
    |(at_builtin;refine qaF rfl fun K hK=>qhN (base:=w.heap.size) (l2:=l) (heap_alloc_new _ _) (Nat.le_trans HB0.out.size HB2.out.size) (HV0.out.below (qab HB2.out _)) a_ (Nat.le_trans HB0.out.size (qab HB2.out _).size) rfl rfl rfl (fun A5 c5 w5 ho5 hg5=>hK _ _ ?_)
      have hb05:=(qab HB2.out (.cells #[] 109)).grown hg5 (qab HB2.out (.cells #[] 109)).size (fun r hr=>by cases hr;exact HB2.out.size);obtain⟨p0,p1,pf⟩:=qaH ((hb05.block _ lp).trans HP.out);have HB5:=hI_ hb05;have HO5:=hI_ ho5;clear hb05 ho5 hg5)
    |(go_at_call 136;refine(qbL H3 _ _ (HV0.out.below HB5.out)).mono ?_;rintro e w6 ⟨rfl,hb6⟩
      have HB6:Hid (bB W0 w6):=hI_ (HB5.out.trans (hb6.mono HB5.out.size));have HO6:=hI_ (HO5.out.below hb6);obtain⟨p0,p1,pf⟩:=qaH ((HB6.out.block _ lp).trans HP.out);clear hb6)
    |(go_at_call 137;refine(qc2 H4 _ _ (HV0.out.below HB6.out)).mono ?_;rintro e w' ⟨rfl,rfl⟩)
    |(go_at_call 138;refine(qcD H5 _ _ (HV0.out.below HB6.out)).mono ?_;rintro e w' ⟨rfl,rfl⟩)
    |(at_builtin;refine qaF rfl fun K hK=>qfB (base:=w.heap.size) HO6.out a_ (Nat.le_trans HB0.out.size HB6.out.size) rfl rfl rfl rfl (fun A7 c7 w7 ho7 hg7=>hK _ _ ?_)
      have hb07:=(HB0.out.trans (HB6.out.mono HB0.out.size)).grown hg7 (Nat.le_trans HB0.out.size HB6.out.size) (fun r hr=>(HO6.out.lt' r hr).1);have HB7:=hI_ hb07;have HO7:=hI_ ho7;clear hb07 ho7 hg7))
   go_ret2
   first
    |exact HNO.out _ _ HC.out HO6.out (HB0.out.trans (HB6.out.mono HB0.out.size))
    |exact HYES.out _ _ HC.out HO7.out HB7.out
theorem qf7{g P:Nat}{w w':World}(h:qbb g w w')(hr:Rdr w g P):qaA LT2 w w':=
 qaA.of_grown h (fun r hr'=>by
  cases hr'
  obtain⟨bs,A,c,p,h1,_⟩:=hr;exact⟨_,_,_,h1,e_⟩)
theorem qav.only{B g P:Nat}{e:TypeId}{w w':World}{v:Value}{l:List (Int×Int)}(h:qav B e w v l)(ho:qbb g w w')(hr:Rdr w g P)(he:e ∈ LT2):qav B e w' v l:=h.next (qf7 ho hr) he
end Go.Proofs.YtekaaekpdebloaaGreatDoor

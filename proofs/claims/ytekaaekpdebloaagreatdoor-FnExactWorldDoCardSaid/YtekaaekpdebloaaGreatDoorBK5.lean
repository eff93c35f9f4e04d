/- Words and walks of the law. -/
import Derived.Test.YtekaaekpdebloaaGreatDoorBJ5
set_option linter.unusedVariables false
set_option linter.unusedSimpArgs false
set_option maxHeartbeats 12800000
set_option maxRecDepth 100000
namespace Go.Proofs.YtekaaekpdebloaaGreatDoor

def qdv(n:Nat)(p:Nat→Bool):Bool:=(List.range n).all p
theorem qcS{n:Nat}{p:Nat→Bool}:qdv n p=true↔∀ j,j<n→p j=true:=by simp[qdv]
theorem qb9{p:Nat→Bool}:qdv 0 p=true:=rfl
theorem qbh{k:Nat}{p:Nat→Bool}(h:qdv k p=true)(hp:p k=true):qdv (k+1) p=true:=by
 rw[qcS] at h ⊢;intro j hj;by_cases hjk:j=k
 · rw[hjk];exact hp
 · exact h j a_
theorem qdi{n k:Nat}{p:Nat→Bool}(hk:k<n)(hp:p k=false):qdv n p=false:=by
 cases h:qdv n p
 · rfl
 · rw[qcS] at h;rw[h k hk] at hp;cases hp

def qc5(n:Nat)(l:Int×Int):Bool:=inB l.1 0 ((n:Int)-1)&&inB l.2 (l.1+1) ((n:Int)-1)
def ltL(a b:Int×Int):Bool:=decide (a.1<b.1∨(a.1=b.1∧a.2<b.2))
def qdV(n:Nat)(l:List (Int×Int))(j:Nat):Bool:=qc5 n (l.getD j (0,0))&&(j==0||ltL (l.getD (j-1) (0,0)) (l.getD j (0,0)))
def qcE(n:Nat)(l:List (Int×Int)):Bool:=qdv l.length (qdV n l)

def qcB(a:Int×Int):Bool:=inB a.1 0 5&&inB a.2 0 15
def qcX(l:List (Int×Int))(p:Int):Nat:=l.countP fun a=>a.1==p
def qdL(l:List (Int×Int))(b:Int):Nat:=l.countP fun a=>a.2==b
def qc8(l:List (Int×Int))(a:Int×Int):Bool:=l.any fun x=>x.1==a.1&&x.2==a.2
def qh1(l:List (Int×Int))(i:Nat):Bool:=
 qcB (l.getD i (0,0))&& !qc8 (l.take i) (l.getD i (0,0))&&decide (qcX l (l.getD i (0,0)).1≤3)&&decide (qdL l (l.getD i (0,0)).2≤2)
def qgD(l:List (Int×Int))(i:Nat):Bool:=
 qcB (l.getD i (0,0))&& !qc8 (l.take i) (l.getD i (0,0))&&decide (qcX (l.take (i+1)) (l.getD i (0,0)).1≤3)&&decide (qdL (l.take (i+1)) (l.getD i (0,0)).2≤2)
def qaG(l:List (Int×Int)):Bool:=qdv l.length (qh1 l)
theorem qib{α β:Type}[BEq β][LawfulBEq β](f:α→β)(m:Nat)(d:α)(l:List α):∀ k,k≤l.length→(∀ i,i<k→(l.take (i+1)).countP (fun a=>f a==f (l.getD i d))≤m)→∀ i,i<k→(l.take k).countP (fun a=>f a==f (l.getD i d))≤m
 |0,_,_,i,hi=>by omega
 |k+1,hk,h,i,hi=>by
  by_cases he:f l[k]=f (l.getD i d)
  · have h1:=h k (Nat.lt_succ_self k);rw[List.getD_eq_getElem?_getD,List.getElem?_eq_getElem a_,Option.getD_some,he] at h1;exact h1
  · have hik:i<k:=by
      rcases Nat.lt_or_ge i k with h2|h2
      · exact h2
      · exfalso;obtain rfl:i=k:=a_;exact he (by rw[List.getD_eq_getElem?_getD,List.getElem?_eq_getElem a_,Option.getD_some])
    have h1:=qib f m d l k a_ (fun j hj=>h j a_) i hik;rw[List.take_succ_eq_append_getElem a_,List.countP_append];have h2:([l[k]]:List α).countP (fun a=>f a==f (l.getD i d))=0:=by rw[List.countP_cons_of_neg (by simpa only[beq_iff_eq] using he),List.countP_nil]
    omega
theorem qia{α β:Type}[BEq β][LawfulBEq β](f:α→β)(m:Nat)(d:α)(l:List α):(∀ i,i<l.length→(l.take (i+1)).countP (fun a=>f a==f (l.getD i d))≤m)↔∀ i,i<l.length→l.countP (fun a=>f a==f (l.getD i d))≤m:=by
 constructor
 · intro h i hi;have:=qib f m d l l.length (nr_ _) h i hi;rwa[List.take_length] at this
 · intro h i hi;exact Nat.le_trans (List.Sublist.countP_le (List.take_sublist _ _)) (h i hi)
theorem qg4(l:List (Int×Int)):qdv l.length (qgD l)=qaG l:=by
 have hP:=qia (fun a:Int×Int=>a.1) 3 (0,0) l;have hB:=qia (fun a:Int×Int=>a.2) 2 (0,0) l;unfold qaG;rw[Bool.eq_iff_iff,qcS,qcS];unfold qgD qh1 qcX qdL;simp only[Bool.and_eq_true,decide_eq_true_eq,Bool.not_eq_true'];constructor
 · intro h i hi;exact⟨⟨(h i hi).1.1,hP.1 (fun j hj=>(h j hj).1.2) i hi⟩,hB.1 (fun j hj=>(h j hj).2) i hi⟩
 · intro h i hi;exact⟨⟨(h i hi).1.1,hP.2 (fun j hj=>(h j hj).1.2) i hi⟩,hB.2 (fun j hj=>(h j hj).2) i hi⟩

def qlJ(a b:Hd):Bool:=a.len==b.len&&a.dg==b.dg&&a.sg==b.sg
def qb8(f0 f:Fd)(i:Nat):Bool:= !f.hv.getD i false||qbi (f.bl.getD i ⟨#[]⟩).data.toList==qbi (f0.bl.getD i ⟨#[]⟩).data.toList
def qcy(sec:Int)(f0 f:Fd):Bool:=
 qaq f&&f.pub==qhr sec&&decide (f.hd.len≤f0.hd.len)&&(f.hd.len==0||qlJ f.hd (qbJ sec ((lvs f0.bl).take f.hd.len.toNat)).1)&&qdv f.bl.length (qb8 f0 f)
structure Pc where
 fr:Int
 to_:Int
 len:Int
 idx:Int
 txt:ByteArray
 prf:List Int
def qaX(n:Nat)(f0:Fd)(p:Pc):Bool:=
 inB p.fr 0 ((n:Int)-1)&&inB p.to_ 0 ((n:Int)-1)&&inB p.len 1 f0.hd.len&&inB p.idx 0 (p.len-1)&&decide (p.txt.size≤8)&&(p.prf==qaQ ((lvs f0.bl).take p.len.toNat) p.idx)
structure Wd where
 sec:Int
 bad:Int
 feeds:List Fd
 links:List (Int×Int)
 asked:List (List (Int×Int))
 net:List Pc
def Fd.none:Fd:=⟨0,Hd.zero,[],[]⟩
def Pc.none:Pc:=⟨0,0,0,0,⟨#[]⟩,[]⟩
def Wd.f0(x:Wd):Fd:=x.feeds.getD 0 Fd.none
def qdf(x:Wd)(i:Nat):Bool:=qcy x.sec x.f0 (x.feeds.getD i Fd.none)&&qaG (x.asked.getD i [])
def qew(x:Wd)(i:Nat):Bool:=qaX x.feeds.length x.f0 (x.net.getD i Pc.none)
def qcc(x:Wd):Bool:=
 qfb x.sec x.feeds.length x.bad&&qaq x.f0&&qbA x.f0.hv&&qcE x.feeds.length x.links&&x.asked.length==x.feeds.length&&decide (x.net.length≤12)&&
  qdv x.feeds.length (qdf x)&&qdv x.net.length (qew x)
theorem qam{α:Type}{l:List α}{j:Nat}(h:j<l.length)(d:α):l.getD j d=l[j]:=by rw[List.getD_eq_getElem?_getD,List.getElem?_eq_getElem h,Option.getD_some]
theorem qaZ{α:Type}{l:List α}{j:Nat}(h:j<l.length):l.take (j+1)=l.take j++[l[j]]:=List.take_succ_eq_append_getElem h
theorem qh7{l:List (Int×Int)}{j:Nat}(h:j<l.length)(p:Int):qcX (l.take (j+1)) p=qcX (l.take j) p+if l[j].1==p then 1 else 0:=by
 unfold qcX;rw[qaZ h,List.countP_append];simp[List.countP_cons]
theorem qh6{l:List (Int×Int)}{j:Nat}(h:j<l.length)(p:Int):qdL (l.take (j+1)) p=qdL (l.take j) p+if l[j].2==p then 1 else 0:=by
 unfold qdL;rw[qaZ h,List.countP_append];simp[List.countP_cons]
theorem qfL(l:List (Int×Int))(p:Int):qcX l p≤l.length:=List.countP_le_length
theorem qfK(l:List (Int×Int))(p:Int):qdL l p≤l.length:=List.countP_le_length
theorem qfQ{l:List (Int×Int)}{j:Nat}(h:j<l.length)(a:Int×Int):qc8 (l.take (j+1)) a=(qc8 (l.take j) a||(l[j].1==a.1&&l[j].2==a.2)):=by
 unfold qc8;rw[qaZ h,List.any_append];simp
theorem qjo{l:List (Int×Int)}{j:Nat}(h:j<l.length){a:Int×Int}(h1:(l[j].1==a.1&&l[j].2==a.2)=true):qc8 l a=true:=by
 unfold qc8;rw[List.any_eq_true];exact⟨_,List.getElem_mem h,h1⟩
end Go.Proofs.YtekaaekpdebloaaGreatDoor
namespace Go.Proofs.YtekaaekpdebloaaGreatDoor
open Go.RowKit

section
variable {α:Type} {e1 e2:α→Value} {w w':World} {v:Value} {l:List α}
theorem R2.sl(h:R2 e1 e2 w v l):∃ A c,v=.slice A l.length c:=by obtain⟨A,c,h,_⟩:=h;exact⟨A,c,h⟩
theorem R2.up(h:R2 e1 e2 w v l)(X:World):R2 e1 e2 (up w X) v l:=h.below (qao w X)
theorem R2.take{A:Option Addr}{c n:Nat}(h:R2 e1 e2 w (.slice A n c) l){m:Nat}(hm:m≤l.length):R2 e1 e2 w (.slice A m c) (l.take m):=by
 obtain⟨A',c',he,h1,h2,h3⟩:=h;obtain⟨rfl,rfl,rfl⟩:A=A'∧n=l.length∧c=c':=by injection he with a b c;exact⟨a,b,c⟩
 have hlen:(l.take m).length=m:=by rw[List.length_take];omega
 refine⟨A,c,by rw[hlen],⟨a_,h1.2⟩,h2,fun hl=> ?_⟩;obtain⟨b,o,hA,hb,hc⟩:=h3 a_;exact⟨b,o,hA,hb,fun j hj=>by rw[List.getElem_take];exact hc j a_⟩
theorem R2.at_{A:Option Addr}{c n:Nat}(h:R2 e1 e2 w (.slice A n c) l){j:Nat}(hj:j<l.length):
 ∃ b o,A=some ⟨b,o,none⟩∧b<w.heap.size∧w.cell? ⟨b,o+j*2,none⟩=some (e1 l[j])∧w.cell? ⟨b,o+j*2+1,none⟩=some (e2 l[j]):=by
 obtain⟨A',c',he,h1,h2,h3⟩:=h;obtain⟨rfl,rfl,rfl⟩:A=A'∧n=l.length∧c=c':=by injection he with a b c;exact⟨a,b,c⟩
 obtain⟨b,o,hA,hb,hc⟩:=h3 a_;exact⟨b,o,hA,hb,(hc j hj).1,(hc j hj).2⟩
end
theorem R1.sl'{α:Type}{enc:α→Value}{w:World}{v:Value}{l:List α}(h:R1 enc w v l):∃ A c,v=.slice A l.length c:=by obtain⟨A,c,h,_⟩:=h;exact⟨A,c,h⟩
abbrev RP:=R2 (fun a:Int×Int=>.int .i64 a.1) (fun a:Int×Int=>.int .i64 a.2)
section
variable {N n:Nat} {w w':World} {v:Value} {F:Nat→Value}
theorem RN.cell{A:Option Addr}{m c:Nat}(h:RN N w (.slice A m c) n F)(hn:0<n):∃ b o,A=some ⟨b,o,none⟩∧b<w.heap.size∧m=n∧∀ t,t<n*N→w.cell? ⟨b,o+t,none⟩=some (F t):=by
 obtain⟨A',c',he,h1,h2,h3⟩:=h;obtain⟨rfl,rfl,rfl⟩:A=A'∧m=n∧c=c':=by injection he with a b c;exact⟨a,b,c⟩
 obtain⟨b,o,hA,hb,hc⟩:=h3 hn;exact⟨b,o,hA,hb,rfl,hc⟩
end
def qdh(w:World)(v:Value)(ls:List (List (Int×Int))):Prop:=∃ F,RN 1 w v ls.length F∧∀ j (hj:j<ls.length),RP w (F j) ls[j]
section
variable {w w':World} {v:Value} {ls:List (List (Int×Int))}
theorem qdh.below(h:qdh w v ls)(hb:bB w w'):qdh w' v ls:=by
 obtain⟨F,h1,h2⟩:=h;exact⟨F,h1.below hb,fun j hj=>(h2 j hj).below hb⟩
theorem qdh.sl(h:qdh w v ls):∃ A c,v=.slice A ls.length c:=by obtain⟨F,h1,_⟩:=h;exact h1.sl
theorem qdh.len(h:qdh w v ls):ls.length≤maxLen:=by obtain⟨F,h1,_⟩:=h;exact h1.len
theorem qdh.at_{A:Option Addr}{n c:Nat}(h:qdh w (.slice A n c) ls){j:Nat}(hj:j<ls.length):
 ∃ b o x,A=some ⟨b,o,none⟩∧b<w.heap.size∧w.cell? ⟨b,o+j,none⟩=some x∧RP w x ls[j]:=by
 obtain⟨F,h1,h2⟩:=h;obtain⟨b,o,hA,hb,_,hc⟩:=h1.cell a_;exact⟨b,o,_,hA,hb,hc j a_,h2 j hj⟩
end
def qbx(w:World)(v:Value)(ps:List Pc):Prop:=
 ∃ F,RN 6 w v ps.length F∧∀ j (hj:j<ps.length),F (j*6)=.int .i64 ps[j].fr∧F (j*6+1)=.int .i64 ps[j].to_∧F (j*6+2)=.int .i64 ps[j].len∧F (j*6+3)=.int .i64 ps[j].idx∧F (j*6+4)=.string ps[j].txt∧RI w (F (j*6+5)) ps[j].prf
section
variable {w w':World} {v:Value} {ps:List Pc}
theorem qbx.below(h:qbx w v ps)(hb:bB w w'):qbx w' v ps:=by
 obtain⟨F,h1,h2⟩:=h;exact⟨F,h1.below hb,fun j hj=>⟨(h2 j hj).1,(h2 j hj).2.1,(h2 j hj).2.2.1,(h2 j hj).2.2.2.1,(h2 j hj).2.2.2.2.1,(h2 j hj).2.2.2.2.2.below hb⟩⟩
theorem qbx.sl(h:qbx w v ps):∃ A c,v=.slice A ps.length c:=by obtain⟨F,h1,_⟩:=h;exact h1.sl
theorem qbx.len(h:qbx w v ps):ps.length≤maxLen:=by obtain⟨F,h1,_⟩:=h;exact h1.len
theorem qbx.at_{A:Option Addr}{n c:Nat}(h:qbx w (.slice A n c) ps){j:Nat}(hj:j<ps.length):
 ∃ b o x,A=some ⟨b,o,none⟩∧b<w.heap.size∧w.cell? ⟨b,o+j*6,none⟩=some (.int .i64 ps[j].fr)∧w.cell? ⟨b,o+j*6+1,none⟩=some (.int .i64 ps[j].to_)∧w.cell? ⟨b,o+j*6+2,none⟩=some (.int .i64 ps[j].len)∧
  w.cell? ⟨b,o+j*6+3,none⟩=some (.int .i64 ps[j].idx)∧w.cell? ⟨b,o+j*6+4,none⟩=some (.string ps[j].txt)∧w.cell? ⟨b,o+j*6+5,none⟩=some x∧RI w x ps[j].prf:=by
 obtain⟨F,h1,h2⟩:=h;obtain⟨b,o,hA,hb,_,hc⟩:=h1.cell a_;obtain⟨f0,f1,f2,f3,f4,f5⟩:=h2 j hj;refine⟨b,o,_,hA,hb,?_,?_,?_,?_,?_,?_,f5⟩
 · rw[hc _ a_,f0]
 · rw[Nat.add_assoc,hc _ a_,f1]
 · rw[Nat.add_assoc,hc _ a_,f2]
 · rw[Nat.add_assoc,hc _ a_,f3]
 · rw[Nat.add_assoc,hc _ a_,f4]
 · rw[Nat.add_assoc,hc _ a_]
end
structure WdR (w:World) (x:Wd) (vF vL vA vN:Value):Prop where
 feeds:qa6 w vF x.feeds
 links:RP w vL x.links
 asked:qdh w vA x.asked
 net:qbx w vN x.net
theorem WdR.below{w w':World}{x:Wd}{vF vL vA vN:Value}(h:WdR w x vF vL vA vN)(hb:bB w w'):WdR w' x vF vL vA vN:=⟨h.feeds.below hb,h.links.below hb,h.asked.below hb,h.net.below hb⟩
section
variable {N B n g cap:Nat} {e:TypeId} {w:World} {F:Nat→Value}
theorem ON.put2(h:ON 2 B e w (.slice (some ⟨g,0,none⟩) n cap) n F){k:Nat}(hk:k<n)(x0 x1:Value):
 ON 2 B e ((w.setCell ⟨g,k*2,none⟩ x0).setCell ⟨g,k*2+1,none⟩ x1) (.slice (some ⟨g,0,none⟩) n cap) n (fun s=>if s=k*2+1 then x1 else if s=k*2 then x0 else F s)∧
  w.grownBy ((w.setCell ⟨g,k*2,none⟩ x0).setCell ⟨g,k*2+1,none⟩ x1) (some g):=by
 have a:=h.setAt (t:=k*2) a_ x0;have b:=a.1.setAt (t:=k*2+1) a_ x1;exact⟨b.1,qat a.2 b.2⟩
theorem ON.put6(h:ON 6 B e w (.slice (some ⟨g,0,none⟩) n cap) n F){k:Nat}(hk:k<n)(x0 x1 x2 x3 x4 x5:Value):
 ON 6 B e ((((((w.setCell ⟨g,k*6,none⟩ x0).setCell ⟨g,k*6+1,none⟩ x1).setCell ⟨g,k*6+2,none⟩ x2).setCell ⟨g,k*6+3,none⟩ x3).setCell ⟨g,k*6+4,none⟩ x4).setCell ⟨g,k*6+5,none⟩ x5) (.slice (some ⟨g,0,none⟩) n cap) n
  (fun s=>if s=k*6+5 then x5 else if s=k*6+4 then x4 else if s=k*6+3 then x3 else if s=k*6+2 then x2 else if s=k*6+1 then x1 else if s=k*6 then x0 else F s)∧
  w.grownBy ((((((w.setCell ⟨g,k*6,none⟩ x0).setCell ⟨g,k*6+1,none⟩ x1).setCell ⟨g,k*6+2,none⟩ x2).setCell ⟨g,k*6+3,none⟩ x3).setCell ⟨g,k*6+4,none⟩ x4).setCell ⟨g,k*6+5,none⟩ x5) (some g):=by
 have a0:=h.setAt (t:=k*6) a_ x0;have a1:=a0.1.setAt (t:=k*6+1) a_ x1;have a2:=a1.1.setAt (t:=k*6+2) a_ x2;have a3:=a2.1.setAt (t:=k*6+3) a_ x3;have a4:=a3.1.setAt (t:=k*6+4) a_ x4;have a5:=a4.1.setAt (t:=k*6+5) a_ x5;exact⟨a5.1,qat (qat (qat (qat (qat a0.2 a1.2) a2.2) a3.2) a4.2) a5.2⟩
end
theorem qaK.far{B g:Nat}{w w':World}{f:Fd}{a b:Value}(h:qaK B w f a b)(hg:w.grownBy w' (some g))(hB:g<B):qaK B w' f a b:=
 ⟨h.bl.grown hg (.inr fun e=>by have:=(h.bl.lt _ e).1;omega),h.hv.grown hg (.inr fun e=>by have:=(h.hv.lt _ e).1;omega)⟩
def Up(C:Nat)(v:Value):Prop:=∀ k,v.ownBlock=some k→k<C
theorem Up.mono{C C':Nat}{v:Value}(h:Up C v)(hC:C≤C'):Up C' v:=fun k hk=>nL_ (h k hk) hC
theorem O1.up_{α:Type}{enc:α→Value}{B:Nat}{e:TypeId}{w:World}{v:Value}{l:List α}(h:O1 enc B e w v l):Up w.heap.size v:=fun k hk=>(h.lt k hk).2
theorem ON.up_{N B n:Nat}{e:TypeId}{w:World}{v:Value}{F:Nat→Value}(h:ON N B e w v n F):Up w.heap.size v:=fun k hk=>(h.lt k hk).2
def Dis(n:Nat)(G:Nat→Value):Prop:=∀ i j,i<j→j<n→∀ k,(G i).ownBlock=some k→(G j).ownBlock≠some k
theorem Dis.push{k m:Nat}{G G':Nat→Value}(h:Dis k G)(h1:∀ j,j<k→G' j=G j)(hlt:∀ j,j<k→∀ b,(G j).ownBlock=some b→b<m)(hge:∀ b,(G' k).ownBlock=some b→m≤b):Dis (k+1) G':=by
 intro i j hij hj b hb;by_cases hjk:j=k
 · subst hjk;intro he;rw[h1 i hij] at hb;have:=hlt i hij b hb;have:=hge b he;omega
 · rw[h1 j a_];rw[h1 i a_] at hb;exact h i j hij a_ b hb
def qa7(B C:Nat)(w:World)(v:Value)(fs:List Fd):Prop:=
 Up C v∧∃ F,ON 6 B 50 w v fs.length F∧(∀ j (hj:j<fs.length),F (j*6)=.int .i64 fs[j].pub∧F (j*6+1)=.int .i64 fs[j].hd.len∧F (j*6+2)=.int .i64 fs[j].hd.dg∧F (j*6+3)=.int .i64 fs[j].hd.sg∧qaK B w fs[j] (F (j*6+4)) (F (j*6+5))∧Up C (F (j*6+4))∧Up C (F (j*6+5)))∧
  Dis fs.length (fun j=>F (j*6+4))∧Dis fs.length (fun j=>F (j*6+5))
def qct(B C:Nat)(e:TypeId)(w:World)(v:Value)(l:List (Int×Int)):Prop:=
 Up C v∧∃ F,ON 2 B e w v l.length F∧∀ j (hj:j<l.length),F (j*2)=.int .i64 l[j].1∧F (j*2+1)=.int .i64 l[j].2
def qcA(B C:Nat)(w:World)(v:Value)(ls:List (List (Int×Int))):Prop:=
 Up C v∧∃ F,ON 1 B 54 w v ls.length F∧(∀ j (hj:j<ls.length),qct B C 109 w (F j) ls[j])∧Dis ls.length F
def qbd(B C:Nat)(w:World)(v:Value)(ps:List Pc):Prop:=
 Up C v∧∃ F,ON 6 B 57 w v ps.length F∧(∀ j (hj:j<ps.length),F (j*6)=.int .i64 ps[j].fr∧F (j*6+1)=.int .i64 ps[j].to_∧F (j*6+2)=.int .i64 ps[j].len∧F (j*6+3)=.int .i64 ps[j].idx∧F (j*6+4)=.string ps[j].txt∧O1 (Value.int .i64) B 3 w (F (j*6+5)) ps[j].prf∧Up C (F (j*6+5)))∧
  Dis ps.length (fun j=>F (j*6+5))
section
variable {B B' C C':Nat} {e:TypeId} {w w':World} {v:Value}
theorem qa7.below{fs:List Fd}(h:qa7 B C w v fs)(hb:bB w w'):qa7 B C w' v fs:=by
 obtain⟨h0,F,h1,h2,h3⟩:=h;exact⟨h0,F,h1.below hb,fun j hj=>⟨(h2 j hj).1,(h2 j hj).2.1,(h2 j hj).2.2.1,(h2 j hj).2.2.2.1,(h2 j hj).2.2.2.2.1.below hb,(h2 j hj).2.2.2.2.2⟩,h3⟩
theorem qa7.mono{fs:List Fd}(h:qa7 B C w v fs)(hB:B'≤B)(hC:C≤C'):qa7 B' C' w v fs:=by
 obtain⟨h0,F,h1,h2,h3⟩:=h;exact⟨h0.mono hC,F,h1.mono hB,fun j hj=>⟨(h2 j hj).1,(h2 j hj).2.1,(h2 j hj).2.2.1,(h2 j hj).2.2.2.1,(h2 j hj).2.2.2.2.1.mono hB,(h2 j hj).2.2.2.2.2.1.mono hC,(h2 j hj).2.2.2.2.2.2.mono hC⟩,h3⟩
theorem qa7.r{fs:List Fd}(h:qa7 B C w v fs):qa6 w v fs:=by
 obtain⟨h0,F,h1,h2,h3⟩:=h;exact⟨F,h1.rn,fun j hj=>⟨(h2 j hj).1,(h2 j hj).2.1,(h2 j hj).2.2.1,(h2 j hj).2.2.2.1,(h2 j hj).2.2.2.2.1.r⟩⟩
theorem qct.below{l:List (Int×Int)}(h:qct B C e w v l)(hb:bB w w'):qct B C e w' v l:=by
 obtain⟨h0,F,h1,h2⟩:=h;exact⟨h0,F,h1.below hb,h2⟩
theorem qct.mono{l:List (Int×Int)}(h:qct B C e w v l)(hB:B'≤B)(hC:C≤C'):qct B' C' e w v l:=by
 obtain⟨h0,F,h1,h2⟩:=h;exact⟨h0.mono hC,F,h1.mono hB,h2⟩
theorem qct.r{l:List (Int×Int)}(h:qct B C e w v l):RP w v l:=by
 obtain⟨_,F,h1,h2⟩:=h;obtain⟨A,c,hv,q1,q2,q3⟩:=h1.rn;refine⟨A,c,hv,q1,q2,fun hl=> ?_⟩;obtain⟨b,o,hA,hb,hc⟩:=q3 hl;refine⟨b,o,hA,hb,fun j hj=>⟨?_,?_⟩⟩
 · rw[hc _ a_,(h2 j hj).1]
 · rw[Nat.add_assoc,hc _ a_,(h2 j hj).2]
theorem qct.lt{l:List (Int×Int)}(h:qct B C e w v l):∀ k,v.ownBlock=some k→B≤k∧k<w.heap.size:=by obtain⟨_,F,h1,_⟩:=h;exact h1.lt
theorem qcA.below{ls:List (List (Int×Int))}(h:qcA B C w v ls)(hb:bB w w'):qcA B C w' v ls:=by
 obtain⟨h0,F,h1,h2,h3⟩:=h;exact⟨h0,F,h1.below hb,fun j hj=>(h2 j hj).below hb,h3⟩
theorem qcA.mono{ls:List (List (Int×Int))}(h:qcA B C w v ls)(hB:B'≤B)(hC:C≤C'):qcA B' C' w v ls:=by
 obtain⟨h0,F,h1,h2,h3⟩:=h;exact⟨h0.mono hC,F,h1.mono hB,fun j hj=>(h2 j hj).mono hB hC,h3⟩
theorem qcA.r{ls:List (List (Int×Int))}(h:qcA B C w v ls):qdh w v ls:=by
 obtain⟨_,F,h1,h2,_⟩:=h;exact⟨F,h1.rn,fun j hj=>(h2 j hj).r⟩
theorem qbd.below{ps:List Pc}(h:qbd B C w v ps)(hb:bB w w'):qbd B C w' v ps:=by
 obtain⟨h0,F,h1,h2,h3⟩:=h;exact⟨h0,F,h1.below hb,fun j hj=>⟨(h2 j hj).1,(h2 j hj).2.1,(h2 j hj).2.2.1,(h2 j hj).2.2.2.1,(h2 j hj).2.2.2.2.1,(h2 j hj).2.2.2.2.2.1.below hb,(h2 j hj).2.2.2.2.2.2⟩,h3⟩
theorem qbd.mono{ps:List Pc}(h:qbd B C w v ps)(hB:B'≤B)(hC:C≤C'):qbd B' C' w v ps:=by
 obtain⟨h0,F,h1,h2,h3⟩:=h;exact⟨h0.mono hC,F,h1.mono hB,fun j hj=>⟨(h2 j hj).1,(h2 j hj).2.1,(h2 j hj).2.2.1,(h2 j hj).2.2.2.1,(h2 j hj).2.2.2.2.1,(h2 j hj).2.2.2.2.2.1.mono hB,(h2 j hj).2.2.2.2.2.2.mono hC⟩,h3⟩
theorem qbd.r{ps:List Pc}(h:qbd B C w v ps):qbx w v ps:=by
 obtain⟨_,F,h1,h2,_⟩:=h;exact⟨F,h1.rn,fun j hj=>⟨(h2 j hj).1,(h2 j hj).2.1,(h2 j hj).2.2.1,(h2 j hj).2.2.2.1,(h2 j hj).2.2.2.2.1,(h2 j hj).2.2.2.2.2.1.r1⟩⟩
end
def WdO(B C:Nat)(w:World)(x:Wd)(vF vL vA vN:Value):Prop:=
 ∃ b1 b2 b3,B≤b1∧b1≤b2∧b2≤b3∧b3≤C∧qa7 B b1 w vF x.feeds∧qct b1 b2 99 w vL x.links∧qcA b2 b3 w vA x.asked∧qbd b3 C w vN x.net
theorem WdO.below{B C:Nat}{w w':World}{x:Wd}{vF vL vA vN:Value}(h:WdO B C w x vF vL vA vN)(hb:bB w w'):WdO B C w' x vF vL vA vN:=by
 obtain⟨b1,b2,b3,h1,h2,h3,h4,p1,p2,p3,p4⟩:=h;exact⟨b1,b2,b3,h1,h2,h3,h4,p1.below hb,p2.below hb,p3.below hb,p4.below hb⟩
theorem WdO.mono{B B' C C':Nat}{w:World}{x:Wd}{vF vL vA vN:Value}(h:WdO B C w x vF vL vA vN)(hB:B'≤B)(hC:C≤C'):WdO B' C' w x vF vL vA vN:=by
 obtain⟨b1,b2,b3,h1,h2,h3,h4,p1,p2,p3,p4⟩:=h;exact⟨b1,b2,b3,Nat.le_trans hB h1,h2,h3,Nat.le_trans h4 hC,p1.mono hB (nr_ _),p2,p3,p4.mono (nr_ _) hC⟩
theorem WdO.r{B C:Nat}{w:World}{x:Wd}{vF vL vA vN:Value}(h:WdO B C w x vF vL vA vN):WdR w x vF vL vA vN:=by
 obtain⟨b1,b2,b3,_,_,_,_,p1,p2,p3,p4⟩:=h;exact⟨p1.r,p2.r,p3.r,p4.r⟩
def qaA(T:List TypeId)(w w':World):Prop:=w.heap.size≤w'.heap.size∧∀ (k:Nat) (cur:Array Value) (e:TypeId) (fr:Nat×Nat),w.heap[k]? =some (Obj.cells cur e fr)→e ∈ T→w'.heap[k]? =w.heap[k]?
section
variable {T T':List TypeId} {w w' w2:World}
theorem qaA.refl(T:List TypeId)(w:World):qaA T w w:=⟨nr_ _,fun _ _ _ _ _ _=>rfl⟩
theorem qaA.trans(h:qaA T w w')(h2:qaA T w' w2):qaA T w w2:=
 ⟨Nat.le_trans h.1 h2.1,fun k cur e fr hk he=>(h2.2 k cur e fr ((h.2 k cur e fr hk he).trans hk) he).trans (h.2 k cur e fr hk he)⟩
theorem qaA.mono(h:qaA T' w w')(hT:∀ e ∈ T,e ∈ T'):qaA T w w':=⟨h.1,fun k cur e fr hk he=>h.2 k cur e fr hk (hT e he)⟩
theorem qaA.of_below(h:bB w w'):qaA T w w':=⟨h.size,fun k _ _ _ hk _=>h.block k (Array.getElem?_eq_some_iff.1 hk).1⟩
theorem qaA.of_grown{row:Option Nat}(h:w.grownBy w' row)(hr:∀ r,row=some r→∃ cur e fr,w.heap[r]? =some (.cells cur e fr)∧e ∉ T):qaA T w w':=by
 refine⟨h.size,fun k cur e fr hk he=>h.block k (Array.getElem?_eq_some_iff.1 hk).1 (fun hkr=> ?_)⟩;obtain⟨cur',e',fr',h1,h2⟩:=hr k hkr.symm;rw[hk] at h1;cases h1
 exact h2 he
theorem qaA.set{p:Addr}{cur:Array Value}{e:TypeId}{fr:Nat×Nat}(hp:w.heap[p.block]? =some (.cells cur e fr))(he:e ∉ T)(u:Value):qaA T w (w.setCell p u):=
 qaA.of_grown (qaR w p u) (fun r hr=>by cases hr;exact⟨cur,e,fr,hp,he⟩)
theorem qaA.alloc(o:Obj):qaA T w (w.alloc o):=qaA.of_below ((bR_ _ _).alloc (nr_ _) o)
end
section
variable {α:Type} {enc:α→Value} {B:Nat} {e:TypeId} {w:World} {v:Value} {l:List α} {N n:Nat} {F:Nat→Value}
theorem O1.row(h:O1 enc B e w v l):∀ r,v.ownBlock=some r→∃ cur fr,w.heap[r]? =some (.cells cur e fr):=fun r hr=>by
 rcases h.2 with⟨rfl,_⟩|⟨g,cap,cur,rfl,hg,hh,_⟩
 · cases hr
 · cases hr;exact⟨cur,_,hh⟩
theorem ON.row(h:ON N B e w v n F):∀ r,v.ownBlock=some r→∃ cur fr,w.heap[r]? =some (.cells cur e fr):=fun r hr=>by
 rcases h.2 with⟨rfl,_⟩|⟨g,cap,cur,rfl,hg,hh,_⟩
 · cases hr
 · cases hr;exact⟨cur,_,hh⟩
end
def MK(T:List TypeId)(B C:Nat)(w w':World):Prop:=Mid B C w w'∧qaA T w w'
section
variable {T:List TypeId} {B C:Nat} {w w' w2:World}
theorem MK.refl(T:List TypeId)(B C:Nat)(w:World):MK T B C w w:=⟨Mid.refl _ _ _,qaA.refl _ _⟩
theorem MK.trans(h:MK T B C w w')(h2:MK T B C w' w2):MK T B C w w2:=⟨h.1.trans h2.1,h.2.trans h2.2⟩
theorem MK.of_below(h:bB w w'):MK T B C w w':=⟨Mid.of_below h,qaA.of_below h⟩
theorem O1.off{α:Type}{enc:α→Value}{e:TypeId}{v:Value}{l:List α}(h:O1 enc B e w v l)(he:e ∉ T):∀ r,v.ownBlock=some r→∃ cur e fr,w.heap[r]? =some (.cells cur e fr)∧e ∉ T:=fun r hr=>by obtain⟨cur,fr,hh⟩:=h.row r hr;exact⟨cur,e,fr,hh,he⟩
end
def NL:List TypeId:=[9,4,50,54,109,57,3]
def NA:List TypeId:=[9,4,50,99,57,3]
end Go.Proofs.YtekaaekpdebloaaGreatDoor

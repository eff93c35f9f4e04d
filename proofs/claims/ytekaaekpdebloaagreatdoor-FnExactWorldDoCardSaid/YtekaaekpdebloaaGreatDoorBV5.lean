/- Words and walks of the law. -/
import Derived.Test.YtekaaekpdebloaaGreatDoorBG5
set_option linter.unusedVariables false
set_option linter.unusedSimpArgs false
set_option maxHeartbeats 12800000
set_option maxRecDepth 100000
namespace Go.Proofs.YtekaaekpdebloaaGreatDoor

def qa2(m n:Nat):List (Nat×Nat):=qaz 0 m++qaz m n
def qcv(l:List Int)(m:Int):List Int:=if qaE l&&inB m 0 l.length then (qa2 m.toNat l.length).map (qdK l) else []

section
variable {α β:Type} (f:α→α→α) (g:β→β→β) (e:α→β)
def push(p:Nat):List (Nat×α)→Nat→α→List (Nat×α)
 |[],s,r=>[(s,r)]
 |(s',r')::st,s,r=>if s'=s∧p%(2*s)=0 then push p st (2*s) (f r' r) else (s,r)::(s',r')::st
def qde:Nat→List (Nat×α)→List (Nat×α)→List (Nat×α)
 |_,[],st=>st
 |p,(s,r)::is,st=>qde (p+s) is (push f (p+s) st s r)
def qcz(m n:Nat)(xs:List α):List α:=((qde f 0 (((qa2 m n).map Prod.snd).zip xs) []).map Prod.snd).reverse
def qiz(ps:List ((Nat×Nat)×α))(t:Nat×Nat):Option α:=ps.foldl (fun u p=>if p.1=t then some p.2 else u) none
def qdp(look:Nat×Nat→Option α):Nat→Nat→Option α
 |0,s=>look (s,1)
 |k+1,s=>match look (s,2 ^ (k+1)) with
  |some r=>some r
  |none=>match qdp look k s,qdp look k (s+2 ^ k) with
   |some a,some b=>some (f a b)
   |_,_=>none
variable (he:∀ a b,e (f a b)=g (e a) (e b))
include he
theorem qj9(p:Nat):∀ (st:List (Nat×α)) (s:Nat) (r:α),push g p (st.map (Prod.map id e)) s (e r)=(push f p st s r).map (Prod.map id e)
 |[],s,r=>rfl
 |(s',r')::st,s,r=>by
  simp only[List.map_cons,Prod.map,push,id];split
  · have:=qj9 p st (2*s) (f r' r);rw[he] at this;exact this
  · simp
theorem qgW:∀ (is st:List (Nat×α)) (p:Nat),qde g p (is.map (Prod.map id e)) (st.map (Prod.map id e))=(qde f p is st).map (Prod.map id e)
 |[],st,p=>rfl
 |(s,r)::is,st,p=>by
  simp only[List.map_cons,Prod.map,qde,id];rw[qj9 f g e he];exact qgW is _ _
theorem qe9(m n:Nat)(xs:List α):qcz g m n (xs.map e)=(qcz f m n xs).map e:=by
 unfold qcz;have h:=qgW f g e he (((qa2 m n).map Prod.snd).zip xs) [] 0;rw[show(List.map (Prod.map id e) ([]:List (Nat×α)))=[] from rfl] at h;rw[List.zip_map_right,h];simp[List.map_map,Function.comp_def]
end
section
variable {α:Type} (f:α→α→α) (P:α→Prop) (hf:∀ a b,P a→P b→P (f a b))
include hf
theorem qj8(p:Nat):∀ (st:List (Nat×α)) (s:Nat) (r:α),(∀ x ∈ st,P x.2)→P r→∀ x ∈ push f p st s r,P x.2
 |[],s,r,_,hr,x,hx=>by
  simp only[push,List.mem_singleton] at hx;subst hx;exact hr
 |(s',r')::st,s,r,hst,hr,x,hx=>by
  simp only[push] at hx;split at hx
  · exact qj8 p st (2*s) (f r' r) (fun y hy=>hst y (List.mem_cons_of_mem _ hy)) (hf _ _ (hst (s',r') List.mem_cons_self) hr) x hx
  · rcases List.mem_cons.1 hx with rfl|hx
    · exact hr
    · exact hst x hx
theorem qgV:∀ (is st:List (Nat×α)) (p:Nat),(∀ x ∈ is,P x.2)→(∀ x ∈ st,P x.2)→∀ x ∈ qde f p is st,P x.2
 |[],st,p,_,hst,x,hx=>hst x hx
 |(s,r)::is,st,p,his,hst,x,hx=>by
  simp only[qde] at hx;exact qgV is _ _ (fun y hy=>his y (List.mem_cons_of_mem _ hy)) (qj8 f P hf _ st s r hst (his (s,r) List.mem_cons_self)) x hx
theorem qkR(m n:Nat)(xs:List α)(hx:∀ x ∈ xs,P x):∀ y ∈ qcz f m n xs,P y:=by
 intro y hy;unfold qcz at hy;rw[List.mem_reverse,List.mem_map] at hy;obtain⟨z,hz,rfl⟩:=hy;exact qgV f P hf _ [] 0 (fun q hq=>hx q.2 (List.of_mem_zip hq).2) (fun q hq=>by cases hq) z hz
end
theorem qhz{α:Type}(t:Nat×Nat):∀ (ps:List ((Nat×Nat)×α)) (u:Option α),(∀ p ∈ ps,p.1≠t)→ps.foldl (fun u p=>if p.1=t then some p.2 else u) u=u
 |[],u,_=>rfl
 |p::ps,u,h=>by
  rw[List.foldl_cons,if_neg (h p List.mem_cons_self)];exact qhz t ps u (fun q hq=>h q (List.mem_cons_of_mem _ hq))
theorem qkN{α:Type}{t:Nat×Nat}{ps:List ((Nat×Nat)×α)}(h:∀ p ∈ ps,p.1≠t):qiz ps t=none:=qhz t ps none h
theorem qgU{α:Type}:∀ {ps:List ((Nat×Nat)×α)} (u:Option α),(ps.map Prod.fst).Nodup→∀ p ∈ ps,ps.foldl (fun u q=>if q.1=p.1 then some q.2 else u) u=some p.2
 |[],_,_,p,hp=>by cases hp
 |q::ps,u,hn,p,hp=>by
  rw[List.map_cons,List.nodup_cons] at hn;rw[List.foldl_cons];rcases List.mem_cons.1 hp with rfl|hp
  · rw[if_pos rfl];exact qhz _ ps _ (fun r hr e=>hn.1 (e ▸ List.mem_map_of_mem hr))
  · exact qgU _ hn.2 p hp
def qdd{α:Type}(m n:Nat)(xs:List α):Nat×Nat→Option α:=qiz ((qa2 m n).zip xs)
def qlP(m n:Nat)(a b:Nat×Nat):Nat×Nat:=if b.1=a.1+a.2∧b.2=a.2∧(qa2 m n).all (fun t=>decide (t≠(a.1,2*a.2)))=true then (a.1,2*a.2) else (99,0)
theorem qeO:∀ n,n<17→∀ m,m<n+1→qcz (qlP m n) m n (qa2 m n)=qaz 0 n:=by decide +kernel
theorem qij:∀ n,n<17→∀ m,m<n+1→(qa2 m n).Nodup:=by decide +kernel
theorem qeJ:∀ n,n<17→∀ m,m<n+1→∀ t ∈ qa2 m n,t.1+t.2≤n∧2 ^ t.2.log2=t.2∧t.2.log2≤4:=by decide +kernel
theorem qe3(m n:Nat):(qa2 m n).length≤34:=by
 unfold qa2;rw[List.length_append];have:=qaY 0 m;have:=qaY m n;omega
theorem qf9{a b:Nat}(h:2 ^ a=2 ^ b):a=b:=by
 have:=congrArg Nat.log2 h;rwa[Nat.log2_two_pow,Nat.log2_two_pow] at this
theorem qkS{m n:Nat}(hn:n≤16)(hm:m≤n)(R:Nat→Nat→Int→Prop)(hR:∀ k s x y,(qa2 m n).all (fun t=>decide (t≠(s,2 ^ (k+1))))=true→R k s x→R k (s+2 ^ k) y→R (k+1) s (qbo x y))
 {xs:List Int} (hl:xs.length=(qa2 m n).length) (h0:∀ p ∈ (qa2 m n).zip xs,R p.1.2.log2 p.1.1 p.2):
 ∃ ys:List ((Nat×Nat)×Int),ys.map Prod.fst=qaz 0 n∧ys.map Prod.snd=qcz qbo m n xs∧∀ y ∈ ys,R y.1.2.log2 y.1.1 y.2:=by
 let F:(Nat×Nat)×Int→(Nat×Nat)×Int→(Nat×Nat)×Int:=fun a b=>(qlP m n a.1 b.1,qbo a.2 b.2)
 have hall:=qkR F (fun p=>p.1.2=0∨∃ k,p.1.2=2 ^ k∧R k p.1.1 p.2) (by
  rintro⟨⟨s,z⟩,x⟩ ⟨⟨s',z'⟩,y⟩ ha hb;simp only[F,qlP];split
  · rename_i hc
    obtain⟨h1,h2,h3⟩:=hc;simp only at h1 h2 h3 ha hb ⊢;subst h1 h2;rcases ha with ha|⟨k,ha,hx⟩
    · exact .inl (by omega)
    · rcases hb with hb|⟨k',hb,hy⟩
      · exact .inl (by omega)
      · have e:k'=k:=qf9 (by rw[←ha,hb]);subst e;refine .inr ⟨k'+1,by rw[ha,Nat.pow_succ];omega,?_⟩;refine hR k' s x y ?_ hx (by rw[←ha];exact hy);rw[show 2 ^ (k'+1)=2*z' by rw[ha,Nat.pow_succ];omega];exact h3
  · exact .inl rfl) m n ((qa2 m n).zip xs) (fun p hp=>.inr ⟨p.1.2.log2,(qeJ n (by omega) m (by omega) p.1 (List.of_mem_zip hp).1).2.1.symm,h0 p hp⟩)
 refine⟨qcz F m n ((qa2 m n).zip xs),?_,?_,?_⟩
 · rw[←qe9 F (qlP m n) Prod.fst (fun _ _=>rfl),←qeO n (by omega) m (by omega)];congr 1;rw[List.map_fst_zip (by omega)]
 · rw[←qe9 F qbo Prod.snd (fun _ _=>rfl)];congr 1;rw[List.map_snd_zip (by omega)]
 · intro y hy;have h1:y.1 ∈ qaz 0 n:=by
    rw[←qeO n (by omega) m (by omega)];have h2:=List.mem_map_of_mem (f:=Prod.fst) hy;rw[←qe9 F (qlP m n) Prod.fst (fun _ _=>rfl),List.map_fst_zip (by omega)] at h2;exact h2
   obtain⟨t1,t2,t3⟩:=qcW n (by omega) 0 (by omega) y.1 h1;rcases hall y hy with h3|⟨k,h3,h4⟩
   · rw[h3] at t2;simp at t2
   · have e:y.1.2.log2=k:=qf9 (by rw[t2,h3]);rw[e];exact h4
theorem qgM{m n:Nat}(hn:n≤16)(hm:m≤n){xs:List Int}(hl:xs.length=(qa2 m n).length):
 (qaz 0 n).map (fun t=>qdp qbo (qdd m n xs) t.2.log2 t.1)=(qcz qbo m n xs).map some:=by
 obtain⟨ys,h1,h2,h3⟩:=qkS hn hm (fun k s x=>qdp qbo (qdd m n xs) k s=some x) (fun k s x y hk hx hy=>by
  have hnone:qdd m n xs (s,2 ^ (k+1))=none:=qkN (fun p hp=>by
   have:=List.all_eq_true.1 hk p.1 (List.of_mem_zip hp).1;simpa using this)
  simp only[qdp,hnone,hx,hy]) hl (fun p hp=>by
  have h4:qdd m n xs p.1=some p.2:=by
   unfold qdd qiz;exact qgU none (by rw[List.map_fst_zip (by omega)];exact qij n (by omega) m (by omega)) p hp
  obtain⟨_,t2,_⟩:=qeJ n (by omega) m (by omega) p.1 (List.of_mem_zip hp).1;have h5:qdd m n xs (p.1.1,2 ^ p.1.2.log2)=some p.2:=by rw[t2];exact h4
  generalize p.1.2.log2=k at h5
  cases k with
  |zero=>exact h5
  |succ k=>simp only[qdp,h5])
 rw[←h1,←h2,List.map_map,List.map_map];apply List.map_congr_left;intro y hy;exact h3 y hy
def qdF(m:Nat)(old:Int)(n:Nat)(dg:Int)(proof:List Int):Bool:=
 decide (proof.length=(qa2 m n).length)&&(qdI m (proof.take (qaz 0 m).length)==old)&&(qdI n (qcz qbo m n proof)==dg)
def qbc(m old n dg:Int)(proof:List Int):Bool:=inB n 0 16&&inB m 0 n&&qb7 proof&&qdF m.toNat old n.toNat dg proof
def qfo:ByteArray:=⟨#[]⟩
theorem qds{l:List Bool}(h:qbA l=true):∀ j,j<l.length→l[j]? =some true:=by
 intro j hj;unfold qbA qeG at h;split at h
 · rename_i h16
   have h1:cnt l=l.length:=by have:=beq_iff_eq.1 h;omega
   have h2:=List.count_eq_length.1 h1;have h3:=h2 l[j] (List.getElem_mem hj);rw[List.getElem?_eq_getElem hj,←h3]
 · have:=beq_iff_eq.1 h;omega
theorem qko{l:List Bool}(h16:l.length≤16)(h:∀ j,j<l.length→l[j]? =some true):qbA l=true:=by
 unfold qbA qeG;rw[if_pos h16];have:cnt l=l.length:=List.count_eq_length.2 fun b hb=>by
  obtain⟨j,hj,rfl⟩:=List.getElem_of_mem hb;have:=h j hj;rw[List.getElem?_eq_getElem hj] at this;exact(Option.some.inj this).symm
 simp[this]
def Hd.same(a b:Hd):Bool:=a.len==b.len&&a.dg==b.dg&&a.sg==b.sg
def qdJ(f:Fd)(h:Hd)(growth:List Int):Int:=
 if !qbE f.pub h||h.len==0 then 4
 else if h.same f.hd then 1
 else if h.len<f.hd.len then 2
 else if h.len=f.hd.len then 3
 else if decide (0<f.hd.len)&& !qbc f.hd.len f.hd.dg h.len h.dg growth then 4
 else 0
def Fd.grow(f:Fd)(h:Hd):Fd:=⟨f.pub,h,f.bl++List.replicate (h.len.toNat-f.bl.length) qfo,f.hv++List.replicate (h.len.toNat-f.hv.length) false⟩
def qc9(f:Fd)(h:Hd)(growth:List Int):Fd×Int:=
 if qaq f then (if qdJ f h growth=0 then f.grow h else f,qdJ f h growth) else (Fd.zero,5)
theorem qd7{f:Fd}{h:Hd}{l:List Int}(h0:qdJ f h l=0):qbE f.pub h=true∧h.len≠0∧f.hd.len<h.len∧(0<f.hd.len→qbc f.hd.len f.hd.dg h.len h.dg l=true):=by
 unfold qdJ at h0;split at h0
 · cases h0
 · rename_i c1
   split at h0
   · cases h0
   · split at h0
     · cases h0
     · split at h0
       · cases h0
       · split at h0
         · cases h0
         · rename_i c4 c5 c6
           simp only[Bool.or_eq_true,Bool.not_eq_true',beq_iff_eq,not_or,Bool.not_eq_false] at c1;refine⟨c1.1,c1.2,a_,fun hp=> ?_⟩;simpa[hp] using c6
theorem qe4{p:Int}{h:Hd}(hc:qbE p h=true):0≤h.len∧h.len≤16:=by
 simp only[qbE,Bool.and_eq_true] at hc;exact qak.1 hc.1.1.1.2
theorem qjF{l:List Bool}{k:Nat}(hk:0<k):qbA (l++List.replicate k false)=false:=by
 cases h:qbA (l++List.replicate k false)
 · rfl
 · have:=qds h l.length n_;rw[List.getElem?_append_right a_] at this;simp[hk] at this
theorem qdz:∀ {bl:List ByteArray} {hv:List Bool} (k:Nat),bl.length=hv.length→qaI bl hv=true→qaI (bl++List.replicate k qfo) (hv++List.replicate k false)=true
 |[],[],0,_,_=>rfl
 |[],[],k+1,_,_=>by
  have:=qdz (bl:=[]) (hv:=[]) k rfl rfl;simp only[List.nil_append] at this ⊢;rw[List.replicate_succ,List.replicate_succ,qaI,this];rfl
 |s::bl,b::hv,k,hl,h=>by
  simp only[qaI,Bool.and_eq_true,List.cons_append] at h ⊢;exact⟨h.1,qdz k (by simpa using hl) h.2⟩
theorem qkC{f:Fd}{h:Hd}{l:List Int}(hv:qaq f=true)(h0:qdJ f h l=0):qaq (f.grow h)=true:=by
 obtain⟨c1,c2,c3,_⟩:=qd7 h0;obtain⟨l1,l2,l3⟩:=qax hv;obtain⟨b1,b2⟩:=qe4 c1;simp only[qaq,Bool.and_eq_true,beq_iff_eq] at hv;obtain⟨⟨⟨⟨⟨v1,v2⟩,v3⟩,v4⟩,v5⟩,v6⟩:=hv;have e1:h.len.toNat-f.bl.length=h.len.toNat-f.hv.length:=a_;simp only[qaq,Bool.and_eq_true,beq_iff_eq,Fd.grow];refine⟨⟨⟨⟨⟨v1,by rw[c1,Bool.or_true]⟩,n_⟩,n_⟩,?_⟩,?_⟩
 · rw[e1];exact qdz _ l1 v5
 · rw[qjF a_];simp
theorem qjS{f:Fd}{h:Hd}{l:List Int}(hv:qaq f=false):qc9 f h l=(Fd.zero,5):=by unfold qc9;rw[hv];rfl
theorem qd4{f:Fd}{h:Hd}{l:List Int}(hv:qaq f=true)(h0:qdJ f h l=0):qc9 f h l=(f.grow h,0):=by unfold qc9;rw[hv,h0];rfl
theorem qcC{f:Fd}{h:Hd}{l:List Int}{c:Int}(hv:qaq f=true)(hc:qdJ f h l=c)(h0:c≠0):qc9 f h l=(f,c):=by unfold qc9;rw[hv,hc,if_pos rfl,if_neg h0]
end Go.Proofs.YtekaaekpdebloaaGreatDoor

/- Words and walks of the law. -/
import Derived.Test.YtekaaekpdebloaaGreatDoorVg5
import Derived.Test.YtekaaekpdebloaaGreatDoorBV5
import Derived.Maps.OwnSet
import Derived.Maps.OwnOps
import Derived.DeepKeys4
import Derived.MapViews
import Derived.Lib.AppendZerosOnto
set_option linter.unusedVariables false
set_option linter.unusedSimpArgs false
set_option maxHeartbeats 12800000
set_option maxRecDepth 100000
namespace Go.Proofs.YtekaaekpdebloaaGreatDoor
open Go.RowKit

theorem O1.takeN{α:Type}{enc:α→Value}{B:Nat}{e:TypeId}{w:World}{A:Option Addr}{n c m:Nat}{l:List α}(h:O1 enc B e w (.slice A n c) l)(hm:m≤l.length):O1 enc B e w (.slice A m c) (l.take m):=by
 have hl:(l.take m).length=m:=by simp;omega
 refine⟨k_,?_⟩;rcases h.2 with⟨hv,h0⟩|⟨g,cap,cur,hv,hg,hh,hn,hc,hs,ht⟩
 · injection hv with h1 h2 h3
   have hm0:m=0:=a_;refine .inl ⟨?_,by rw[hl];exact hm0⟩;rw[h1,h3,hm0]
 · injection hv with h1 h2 h3
   refine .inr ⟨g,cap,cur,by rw[h1,h3,hl],hg,hh,a_,hc,hs,?_⟩;rw[hl];have:=congrArg (List.take m) ht;rw[List.take_take] at this;rw[List.map_take,←this];congr 1;rw[Nat.mul_one,Nat.mul_one,Nat.min_eq_left a_]
def Sep(a b:Value):Prop:=∀ k,a.ownBlock=some k→b.ownBlock≠some k
theorem Sep.symm{a b:Value}(h:Sep a b):Sep b a:=fun k h1 h2=>h k h2 h1
theorem Sep.ne{a b:Value}(h:Sep a b):a.ownBlock=none∨a.ownBlock≠b.ownBlock:=by
 cases hb:a.ownBlock with
 |none=>exact .inl rfl
 |some k=>exact .inr (fun e=>h k hb e.symm)
theorem Sep.app{α:Type}{enc:α→Value}{a a' b:Value}{B:Nat}{e:TypeId}{w:World}{l:List α}(h:Sep a b)(hb:O1 enc B e w b l)(ha:∀ k,a'.ownBlock=some k→a.ownBlock=some k∨w.heap.size≤k):Sep a' b:=by
 intro k h1 h2;rcases ha k h1 with h3|h3
 · exact h k h3 h2
 · have:=(hb.lt k h2).2;omega
section
variable {ops:Array Oper} {rest:List Oper} {o:Oper} {a:Act} {Q:Exit→Act→World→Prop} {w:World} {base:Nat} {v:Value}
theorem qdw{l:List Int}(hown:O1 (Value.int .i64) base 3 w v l)(hn:l.length≤100000000000)(hbase:base≤w.heap.size){y:Int}(hgd:o.guard=none){s x:Operand}
 (ho:o.op=.call {callee:=.builtin .append,args:= #[s,x],argTypes:= #[43,43]}) (hs:a.eval s=v) (hx:a.eval x=.slice (some ⟨w.heap.size,0,none⟩) 1 1)
 (h:∀ v' w',O1 (Value.int .i64) base 3 w' v' (l++[y])→w.grownBy w' v.ownBlock→(∀ k,v'.ownBlock=some k→v.ownBlock=some k∨w.heap.size≤k)→wpList Tryz.prog ops Q rest (a.put o.dst v') w'):
 wpList Tryz.prog ops Q (o::rest) a (w.alloc (.cells #[.int .i64 y] 3)):=by
 obtain⟨i0,hi,hz0,hz1,hz2⟩:=info_parts qfx;have hbd:(l.length+1)*8≤100000000001*1000:=Nat.mul_le_mul a_ a_;refine wpList_append_own_at _ hgd s x _ ho base 3 i0 _ 1 8 Tryz.underlying43 hi hz0 hz1 hz2 rfl a_ v l.length _ hs
  (hown.alloc _) ⟨w.heap.size,0,none⟩ 1 1 [.int .i64 y] hx k_ (fun j u hu=> ?_) (by simp;rfl) s_ a_ n_ ?_
 · have hadd:(⟨w.heap.size,0,none⟩:Addr).add j=⟨w.heap.size,j,none⟩:=by unfold Addr.add;split <;> simp_all
   rw[hadd,cell_of_row _ w.heap.size j _ 3 (0,0) (heap_alloc_new w _)];simpa using hu
 · intro v' w' h2 h3 _ h5;refine h v' w' (by unfold O1;simpa using h2) (qat (qaP ((bR_ _ _).alloc (nr_ _) _)) h3) (fun k hk=> ?_);rcases h5 with h5|h5
   · exact .inl (h5 ▸ hk)
   · rw[hk] at h5;have:=Option.some.inj h5;simp at this;exact .inr a_
theorem qeF{l l2:List (Nat×Nat)}{x:Value}(hown:OT base w v l)(hr:RT w x l2)(hn:l.length+l2.length≤100000000000)(hbase:base≤w.heap.size)
 (hgd:o.guard=none) {s y:Operand} (ho:o.op=.call {callee:=.builtin .append,args:= #[s,y],argTypes:= #[234,234]}) (hs:a.eval s=v) (hx:a.eval y=x)
 (h:∀ v' w',OT base w' v' (l++l2)→Below base w w'→wpList Tryz.prog ops Q rest (a.put o.dst v') w'):wpList Tryz.prog ops Q (o::rest) a w:=by
 obtain⟨i0,hi,hz0,hz1,hz2⟩:=info_parts qik;obtain⟨A,c,rfl,h2,h3,h4⟩:=hr;have hbd:(l.length+l2.length)*16≤100000000000*1000:=Nat.mul_le_mul hn a_;rcases A with _|ad
 · have hc0:c=0:=h2.2 rfl;have hl0:l2=[]:=List.eq_nil_of_length_eq_zero a_;subst hc0 hl0;exact wpList_append_own_none hgd s y _ ho base 238 i0 2 Tryz.underlying234 hi v l.length _ hs hown hx (h v w (by rw[List.append_nil];exact hown) (bR_ _ _))
 · refine wpList_append_own _ hgd s y _ ho base 238 i0 _ 2 16 Tryz.underlying234 hi hz0 hz1 hz2 rfl a_ v l.length _ hs hown ad l2.length c (l2.flatMap fun t=>[t1 t,t2 t]) hx (by rw[qhl (m:=2) (fun _=>rfl)]) (fun j u hu=> ?_) (by intro u hu;obtain⟨a,_,ha⟩:=List.mem_flatMap.1 hu;simp[t1,t2] at ha;rcases ha with rfl|rfl <;> rfl) s_ a_ hbase ?_
   · have hj:j<l2.length*2:=by
      have:=(List.getElem?_eq_some_iff.1 hu).1;rw[qhl (m:=2) (fun _=>rfl)] at this;exact this
     obtain⟨b,o',hA,hb,hcell⟩:=h4 a_;cases hA;have hadd:(⟨b,o',none⟩:Addr).add j=⟨b,o'+j,none⟩:=by unfold Addr.add;split <;> simp_all
     obtain⟨c1,c2⟩:=hcell (j/2) a_;have hf:=qhk (enc:=fun t:Nat×Nat=>[t1 t,t2 t]) (m:=2) (fun _=>rfl) l2 (j/2) (j%2) a_ a_;rw[show j/2*2+j%2=j by omega,hu] at hf;rw[hadd];rcases Nat.mod_two_eq_zero_or_one j with hm|hm
     · rw[hm] at hf;rw[show o'+j=o'+j/2*2 by omega,c1];simpa using hf.symm
     · rw[hm] at hf;rw[show o'+j=o'+j/2*2+1 by omega,c2];simpa using hf.symm
   · intro v' w' h5 h6 _;exact h v' w' (by unfold OT O2;simpa[List.flatMap_append] using h5) ((bR_ _ _).grown h6 hbase (fun k hk=>(World.ownsRow.lt hown k hk).1))
end
theorem R1.last{α:Type}{enc:α→Value}{w:World}{A:Option Addr}{n c:Nat}{l:List α}{x:α}(h:R1 enc w (.slice A n c) (l++[x])):
 n=l.length+1∧n≤c∧c≤maxLen∧∃ b o,A=some ⟨b,o,none⟩∧b<w.heap.size∧w.cell? ⟨b,o+l.length,none⟩=some (enc x):=by
 obtain⟨A',c',hv,h1,h2,h3⟩:=h;injection hv with e1 e2 e3
 subst e1 e3;have hl:(l++[x]).length=l.length+1:=k_;obtain⟨b,o,hA,hb,hc⟩:=h3 a_;refine⟨a_,a_,h2,b,o,hA,hb,?_⟩;have:=hc l.length a_;simpa using this


def szs(ts:List (Nat×Nat)):List Int:=ts.map fun t=>(t.2:Int)
theorem qkc{p n:Nat}(h:p<n)(hn:n≤16):szs (qaz p n)=(sz p n:Int)::szs (qaz (p+sz p n) n):=by unfold szs;rw[qcH h hn];rfl
theorem qma{p n:Nat}(h:n≤p):szs (qaz p n)=[]:=by unfold szs;rw[qd0 h];rfl
theorem ql9(p n:Nat):(szs (qaz p n)).length≤17:=by unfold szs;rw[List.length_map];exact qaY p n
theorem qkV(m n:Nat):szs (qa2 m n)=szs (qaz 0 m)++szs (qaz m n):=by simp[szs,qa2]
theorem ql3{l1 l2 l3:List Int}{k:Nat}(h:l1++l2=l3)(hl:l3.length≤k):l1.length≤k:=by
 have:=congrArg List.length h;simp at this;omega
theorem qjv(m n:Nat)(w:World)(hm:m≤16)(hn:n≤16):
 Calls Tryz.prog 278 #[.int .i64 m,.int .i64 n] w fun e w'=>∃ v',e=.returned (.tuple #[v',.int .i64 (qaz 0 m).length])∧O1 (Value.int .i64) w.heap.size 3 w' v' (szs (qa2 m n))∧bB w w':=by
 go_enter Tryz.func278,Tryz.ntmps278
 go_wp2
 go_loopw [6,7] (fun out q wr=>∃ (p:Nat) (l1:List Int),p≤m∧q=.int .i64 p∧O1 (Value.int .i64) w.heap.size 3 wr out l1∧Hid (l1++szs (qaz p m)=szs (qaz 0 m))∧bB w wr) (fun _ q _=>m-(intOf q).toNat)
 case atStart=>exact⟨0,[],Nat.zero_le _,rfl,O1.made _ _ _,hI_ rfl,(bR_ _ _).alloc (nr_ _) _⟩
 case round=>
  obtain⟨p,l1,hpl,rfl,hown,HX,hb⟩:=hrel;have hl1:=ql3 HX.out (ql9 0 m);by_cases hlt:p<m
  · obtain⟨hs1,hs2⟩:=qgf hlt;have HC:=hI_ (qkc hlt hm);generalize hs:sz p m=s at*
    have HS:=hI_ hs;clear hs;go_wp2_with (first
     |(go_at_call 208;refine(qb3 p m _ a_ hm).mono ?_;rw[HS.out];rintro e w' ⟨rfl,rfl⟩)
     |(at_builtin;refine qcf hown a_ hb.size rfl rfl rfl rfl ?_;intro v3 w3 hown3 hb3))
    go_roundw
    case rel=>exact⟨p+s,l1++[(s:Int)],a_,t_,hown3,hI_ aL_,hb.trans hb3⟩
    case measure=>simp[intOf];omega
  · have hz:=qma (show m≤p by omega);have HXX:=HX.out;rw[hz,List.append_nil] at HXX;have HL:Hid (l1.length=(qaz 0 m).length):=hI_ (by rw[HXX];simp[szs]);have HX2:=hI_ HXX;have hll:(qaz 0 m).length≤17:=qaY 0 m;obtain⟨A,c,rfl⟩:=hown.sl;clear HX hz HXX;go_wp2
    go_loopw [6,9] (fun out q wr=>∃ (p:Nat) (l2:List Int),p≤max m n∧q=.int .i64 p∧O1 (Value.int .i64) w.heap.size 3 wr out (l1++l2)∧Hid (l2++szs (qaz p n)=szs (qaz m n))∧bB w wr) (fun _ q _=>n-(intOf q).toNat)
    case atStart=>exact⟨m,[],Nat.le_max_left _ _,rfl,by simpa using hown,hI_ rfl,hb⟩
    case round=>
     clear hown hb;obtain⟨p,l2,hpl,rfl,hown,HX,hb⟩:=hrel;have hl2:=ql3 HX.out (ql9 m n);have hlen:(l1++l2).length≤34:=by simp;omega
     by_cases hlt:p<n
     · obtain⟨hs1,hs2⟩:=qgf hlt;have HC:=hI_ (qkc hlt hn);generalize hs:sz p n=s at*
       have HS:=hI_ hs;clear hs;go_wp2_with (first
        |(go_at_call 208;refine(qb3 p n _ a_ hn).mono ?_;rw[HS.out];rintro e w' ⟨rfl,rfl⟩)
        |(at_builtin;refine qcf hown a_ hb.size rfl rfl rfl rfl ?_;intro v3 w3 hown3 hb3))
       go_roundw
       case rel=>exact⟨p+s,l2++[(s:Int)],a_,t_,by rw[←List.append_assoc];exact hown3,hI_ aL_,hb.trans hb3⟩
       case measure=>simp[intOf];omega
     · have hz:=qma (show n≤p by omega);have HXX:=HX.out;rw[hz,List.append_nil] at HXX;have HX3:=hI_ HXX;clear HXX hz;go_wp2
       go_ret2
       refine⟨u6,?_,?_,hb⟩
       · rw[←HL.out];rfl
       · rw[qkV,←HX2.out,←HX3.out];exact hown

def qf5(zs:List Nat)(xs:List Int):List Int:=((qde qbo 0 (zs.zip xs) []).map Prod.snd).reverse
def qmo(st:List (Nat×Int)):List Int:=st.reverse.map fun p=>(p.1:Int)
def qmp(st:List (Nat×Int)):List Int:=st.reverse.map fun p=>p.2
theorem qdT(p:Nat×Int)(st:List (Nat×Int)):qmo (p::st)=qmo st++[(p.1:Int)]:=by simp[qmo]
theorem qdY(p:Nat×Int)(st:List (Nat×Int)):qmp (p::st)=qmp st++[p.2]:=by simp[qmp]
theorem qd5(st:List (Nat×Int)):(qmo st).length=st.length:=by simp[qmo]
theorem qed(st:List (Nat×Int)):(qmp st).length=st.length:=by simp[qmp]
def qn1(p:Nat)(st:List (Nat×Int)):Prop:=(st.map Prod.fst).sum≤p∧∀ x ∈ st,dig x.2=true
theorem qgb{p s:Nat}{r:Int}{st:List (Nat×Int)}(h:∀ s1 r1 st1,st=(s1,r1)::st1→¬ (s1=s∧p%(2*s)=0)):push qbo p st s r=(s,r)::st:=by
 cases st with
 |nil=>rfl
 |cons q st1=>obtain⟨s1,r1⟩:=q;unfold push;rw[if_neg (h s1 r1 st1 rfl)]
theorem qnP{p s:Nat}{r r1:Int}{st:List (Nat×Int)}(h:p%(2*s)=0):push qbo p ((s,r1)::st) s r=push qbo p st (2*s) (qbo r1 r):=by
 conv=>lhs;unfold push
 rw[if_pos ⟨rfl,h⟩]
theorem qjE{P s:Nat}{r:Int}{st:List (Nat×Int)}(h:s≤P∧qn1 (P-s) st)(hr:dig r=true):qn1 P ((s,r)::st):=by
 obtain⟨h1,h2,h3⟩:=h;refine⟨n_,fun x hx=> ?_⟩;rcases List.mem_cons.1 hx with rfl|hx
 · exact hr
 · exact h3 x hx
theorem qoc{P s:Nat}{x:Int}{st:List (Nat×Int)}(h:s≤P∧qn1 (P-s) ((s,x)::st)):2*s≤P∧qn1 (P-2*s) st:=by
 obtain⟨h1,h2,h3⟩:=h;simp only[List.map_cons,List.sum_cons] at h2;exact⟨a_,a_,fun x hx=>h3 x (List.mem_cons_of_mem _ hx)⟩
theorem O1.pre{α:Type}{enc:α→Value}{B:Nat}{e:TypeId}{w:World}{A:Option Addr}{n c m:Nat}{l:List α}{x:α}(h:O1 enc B e w (.slice A n c) (l++[x]))(hm:m=l.length):O1 enc B e w (.slice A m c) l:=by
 have:=h.takeN (m:=l.length) k_;rw[hm];simpa using this
theorem O1.pop{B:Nat}{w:World}{A:Option Addr}{n c:Nat}{st:List (Nat×Int)}{p:Nat×Int}(h:O1 (Value.int .i64) B 3 w (.slice A n c) (qmo (p::st))):O1 (Value.int .i64) B 3 w (.slice A st.length c) (qmo st):=by
 rw[qdT] at h;exact h.pre (qd5 st).symm
theorem O1.pop2{B:Nat}{w:World}{A:Option Addr}{n c:Nat}{st:List (Nat×Int)}{p:Nat×Int}(h:O1 (Value.int .i64) B 3 w (.slice A n c) (qmp (p::st))):O1 (Value.int .i64) B 3 w (.slice A st.length c) (qmp st):=by
 rw[qdY] at h;exact h.pre (qed st).symm
theorem qnd{zs:List Nat}{xs:List Int}{k:Nat}(h1:k<zs.length)(h2:k<xs.length):(zs.zip xs).drop k=(zs[k],xs[k])::(zs.zip xs).drop (k+1):=by
 rw[List.drop_eq_getElem_cons n_];simp
theorem qju(zs:List Nat)(xs:List Int)(zv xv:Value)(w:World)(hz:RI w zv (zs.map fun(z:Nat)=>(z:Int)))(hx:RI w xv xs)(hl:xs.length=zs.length)(h34:zs.length≤34)(hb16:∀ z ∈ zs,1≤z∧z≤16)(hd:qb7 xs=true):
 Calls Tryz.prog 279 #[zv,xv] w fun e w'=>∃ v',e=.returned v'∧O1 (Value.int .i64) w.heap.size 3 w' v' (qf5 zs xs)∧qb7 (qf5 zs xs)=true∧bB w w':=by
 have HB16:=hI_ hb16;have HD:=hI_ hd;have HL:=hI_ hl;have hzl:(zs.map fun(z:Nat)=>(z:Int)).length=zs.length:=k_;obtain⟨zA,zc,rfl,m1,m2,hzc⟩:=hz;obtain⟨xA,xc,rfl,m3,m4,hxc⟩:=hx;rw[hzl] at m1 ⊢;have hxl34:xs.length≤34:=a_;have HZC:Hid (0<zs.length→∃ b o,zA=some ⟨b,o,none⟩∧b<w.heap.size∧∀ j (hj:j<zs.length),w.cell? ⟨b,o+j,none⟩=some (.int .i64 (zs[j]:Int))):=hI_ (fun h=>by
  obtain⟨b,o,h1,h2,h3⟩:=hzc a_;exact⟨b,o,h1,h2,fun j hj=>by have:=h3 j ae_;simpa using this⟩)
 have HXC:=hI_ hxc;unfold maxLen at m2 m4;clear hb16 hd hl hzl hzc hxc;go_enter Tryz.func279,Tryz.ntmps279
 go_wp2
 go_loopw [5,6,7,8] (fun so ou pv iv wr=>∃ (k p:Nat) (st:List (Nat×Int)),k≤zs.length∧iv=.int .i64 k∧pv=.int .i64 p∧p≤16*k∧O1 (Value.int .i64) w.heap.size 3 wr so (qmo st)∧O1 (Value.int .i64) w.heap.size 3 wr ou (qmp st)∧Sep so ou∧st.length≤k∧
  Hid (qn1 p st)∧Hid (qde qbo p ((zs.zip xs).drop k) st=qde qbo 0 (zs.zip xs) [])∧bB w wr) (fun _ _ _ iv _=>zs.length-(intOf iv).toNat)
 case atStart=>
  refine⟨0,0,[],Nat.zero_le _,rfl,rfl,Nat.zero_le _,?_,?_,?_,Nat.zero_le _,hI_ ⟨nr_ _,fun x hx=>by cases hx⟩,hI_ rfl,?_⟩
  · exact(O1.made _ _ _).alloc _
  · have:=O1.made (Value.int .i64) (w.alloc (.cells #[] 3)) 3;simp only[World.size_alloc] at this;exact O1.mono this (Nat.le_succ _)
  · intro k h1 h2;simp[Value.ownBlock] at h1 h2;omega
  · exact((bR_ _ _).alloc (nr_ _) _).alloc k_ _
 case round=>
  obtain⟨k,p,st,hk,rfl,rfl,hp,hso,hou,hsep,hst,HST,HX,hb⟩:=hrel;have hfl:=qd5 st;have hsl:=qed st;by_cases hlt:k<zs.length
  · have hlt':(k:Int)<(zs.length:Int):=a_;have hxk:k<xs.length:=by have:=HL.out;omega
    obtain⟨zb,zo,rfl,zlt,hzc⟩:=HZC.out a_;obtain⟨xb,xo,rfl,xlt,hxc⟩:=HXC.out a_;have c1:=(hb.cell (p:=⟨zb,zo+k,none⟩) zlt).trans (hzc k hlt);have c2:=(hb.cell (p:=⟨xb,xo+k,none⟩) xlt).trans (hxc k hxk);obtain⟨z1,z2⟩:=HB16.out _ (List.getElem_mem hlt);have HDX:=hI_ (qdc HD.out hxk);have HZD:=hI_ (qnd hlt hxk);have hs1:=nL_ zlt hb.size;have hs2:=nL_ xlt hb.size;clear hzc hxc;generalize zs[k]=z at*
    generalize xs[k]=x at*
    obtain⟨P,HP⟩:=nm_ (p+z);have hP:P≤16*34:=by have:=HP.out;omega
    have ep:(p:Int)+(z:Int)=(P:Int):=by have:=HP.out;omega
    obtain⟨A1,q1,rfl⟩:=hso.sl;obtain⟨A2,q2,rfl⟩:=hou.sl;rw[hfl] at hso hsep;rw[hsl] at hou hsep;rw[hfl,hsl];clear hfl hsl;go_wp2
    go_loop [5,6,9,10] (fun so ou zv rv=>∃ (st2:List (Nat×Int)) (s:Nat) (r:Int) (A1 A2:Option Addr) (q1 q2:Nat),so=.slice A1 st2.length q1∧ou=.slice A2 st2.length q2∧zv=.int .i64 s∧rv=.int .i64 r∧1≤s∧s≤544∧st2.length≤k∧
     O1 (Value.int .i64) w.heap.size 3 wr (.slice A1 st2.length q1) (qmo st2)∧O1 (Value.int .i64) w.heap.size 3 wr (.slice A2 st2.length q2) (qmp st2)∧Sep (.slice A1 st2.length q1) (.slice A2 st2.length q2)∧
     Hid (s≤P∧qn1 (P-s) st2)∧Hid (dig r=true)∧Hid (push qbo P st2 s r=push qbo P st z x)) (fun _ _ zv _=>600-(intOf zv).toNat)
    case atStart=>exact⟨st,z,x,A1,A2,q1,q2,rfl,rfl,rfl,rfl,z1,a_,hst,hso,hou,hsep,hI_ ⟨by have:=HP.out;omega,by have:=HP.out;rw[show P-z=p by omega];exact HST.out⟩,HDX,hI_ rfl⟩
    case round=>
     clear hso hou hsep hst;obtain⟨st2,s,r,A1,A2,q1,q2,rfl,rfl,rfl,rfl,s1,s2,hlen2,hso2,hou2,hsep2,HS2,HR2,HPS⟩:=hrel;cases st2 with
     |nil=>
      clear c1 c2;go_wp2_with (first
        |(at_builtin;refine qdw hou2 (by rw[qed];omega) hb.size rfl rfl rfl rfl ?_;intro v3 w3 ho3 hg3 hloc3;have hso3:=hso2.grown hg3 hsep2.ne;have hb3:=hb.trans ((bR_ _ _).grown hg3 hb.size (fun k hk=>(hou2.lt k hk).1));have hsep3:=hsep2.symm.app hso2 hloc3)
        |(at_builtin;refine qdw hso3 (by rw[qd5];omega) hb3.size rfl rfl rfl rfl ?_;intro v4 w4 ho4 hg4 hloc4))
      have ho5:=ho3.grown hg4 (hsep3.ne);have hb4:=hb3.trans ((bR_ _ _).grown hg4 hb3.size (fun k hk=>(hso3.lt k hk).1));have hsep4:=hsep3.symm.app ho3 hloc4;have HPU:=hI_ (qgb (p:=P) (s:=s) (r:=r) (st:=[]) (by intro _ _ _ h;cases h));go_roundw
      case rel=>exact⟨k+1,P,(s,r)::[],a_,t_,rfl,by have:=HP.out;omega,by rw[qdT];exact ho4,by rw[qdY];exact ho5,hsep4,Nat.succ_le_succ hlen2,
        hI_ (qjE HS2.out HR2.out),hI_ aC_,hb4⟩
      case measure=>simp[intOf];omega
     |cons t st3=>
      obtain⟨t1,t2⟩:=t;obtain⟨-,nq1,mq1,b1,o1,rfl,lb1,c3⟩:=R1.last (l:=qmo st3) (x:=(t1:Int)) (by rw[←qdT (t1,t2)];exact hso2.r1);obtain⟨-,nq2,mq2,b2,o2,rfl,lb2,c4⟩:=R1.last (l:=qmp st3) (x:=t2) (by rw[←qdY (t1,t2)];exact hou2.r1);rw[qd5] at c3;rw[qed] at c4;simp only[List.length_cons] at*;clear c1 c2;unfold maxLen at mq1 mq2;have HT2:=hI_ (HS2.out.2.2 (t1,t2) List.mem_cons_self);have hsum:t1+s≤P:=by
        have h1:=HS2.out.2.1;have h2:=HS2.out.1;simp only[List.map_cons,List.sum_cons] at h1;omega
      have HLN:Hid (st3.length+1=((t1,t2)::st3).length):=hI_ rfl;by_cases e1:t1=s
      · subst e1;have em:((P:Int)-2*(t1:Int))%(2*(t1:Int))=((P%(2*t1):Nat):Int):=by
          rw[Int.sub_emod_right];simp
        have hp0:0≤(P:Int)-2*(t1:Int):=a_;by_cases e2:P%(2*t1)=0
        · have e3:((P:Int)-2*(t1:Int))%(2*(t1:Int))=0:=by rw[em,e2];rfl
          have HGO:=hI_ (qnP (p:=P) (s:=t1) (r:=r) (r1:=t2) (st:=st3) e2);clear em e2;go_wp2_with (go_at_call 256;refine(qcn _ _ _ HT2.out HR2.out).mono ?_;rintro e w' ⟨rfl,rfl⟩)
          go_round
          case rel=>exact⟨st3,2*t1,qbo t2 r,_,_,q1,q2,rfl,rfl,t_,rfl,a_,a_,a_,O1.pop hso2,O1.pop2 hou2,hsep2,hI_ (qoc HS2.out),hI_ (qb4 _ _),hI_ (by rw[←HGO.out,HPS.out])⟩
          case measure=>simp[intOf];omega
        · have e3:(((P:Int)-2*(t1:Int))%(2*(t1:Int))==0)=false:=by rw[em];generalize P%(2*t1)=d at e2;rw[beq_eq_false_iff_ne];omega
          have e4:((P:Int)%(2*(t1:Int))==0)=false:=by
            have e5:(P:Int)%(2*(t1:Int))=((P%(2*t1):Nat):Int):=k_;rw[e5];generalize P%(2*t1)=d at e2;rw[beq_eq_false_iff_ne];omega
          have HE2:=hI_ e2;clear em e2;go_wp2_with (first
            |(at_builtin;refine qdw hou2 (by rw[qed];show st3.length+1≤_;omega) hb.size rfl rfl rfl rfl ?_;intro v3 w3 ho3 hg3 hloc3;have hso3:=hso2.grown hg3 hsep2.ne;have hb3:=hb.trans ((bR_ _ _).grown hg3 hb.size (fun k hk=>(hou2.lt k hk).1));have hsep3:=hsep2.symm.app hso2 hloc3)
            |(at_builtin;refine qdw hso3 (by rw[qd5];show st3.length+1≤_;omega) hb3.size rfl rfl rfl rfl ?_;intro v4 w4 ho4 hg4 hloc4))
          have ho5:=ho3.grown hg4 (hsep3.ne);have hb4:=hb3.trans ((bR_ _ _).grown hg4 hb3.size (fun k hk=>(hso3.lt k hk).1));have hsep4:=hsep3.symm.app ho3 hloc4;have HPU:=hI_ (qgb (p:=P) (s:=t1) (r:=r) (st:=((t1,t2)::st3)) (by intro _ _ _ h hc;cases h;exact HE2.out hc.2));go_roundw
          case rel=>exact⟨k+1,P,(t1,r)::((t1,t2)::st3),a_,t_,rfl,by have:=HP.out;omega,by rw[qdT];exact ho4,by rw[qdY];exact ho5,hsep4,Nat.succ_le_succ hlen2,
            hI_ (qjE HS2.out HR2.out),hI_ aC_,hb4⟩
          case measure=>simp[intOf];omega
      · have e3:((t1:Int)==(s:Int))=false:=by simp;omega
        go_wp2_with (first
          |(at_builtin;refine qdw hou2 (by rw[qed];show st3.length+1≤_;omega) hb.size rfl rfl rfl rfl ?_;intro v3 w3 ho3 hg3 hloc3;have hso3:=hso2.grown hg3 hsep2.ne;have hb3:=hb.trans ((bR_ _ _).grown hg3 hb.size (fun k hk=>(hou2.lt k hk).1));have hsep3:=hsep2.symm.app hso2 hloc3)
          |(at_builtin;refine qdw hso3 (by rw[qd5];show st3.length+1≤_;omega) hb3.size rfl rfl rfl rfl ?_;intro v4 w4 ho4 hg4 hloc4))
        have ho5:=ho3.grown hg4 (hsep3.ne);have hb4:=hb3.trans ((bR_ _ _).grown hg4 hb3.size (fun k hk=>(hso3.lt k hk).1));have hsep4:=hsep3.symm.app ho3 hloc4;have HPU:=hI_ (qgb (p:=P) (s:=s) (r:=r) (st:=((t1,t2)::st3)) (by intro _ _ _ h hc;cases h;exact e1 hc.1));go_roundw
        case rel=>exact⟨k+1,P,(s,r)::((t1,t2)::st3),a_,t_,rfl,by have:=HP.out;omega,by rw[qdT];exact ho4,by rw[qdY];exact ho5,hsep4,Nat.succ_le_succ hlen2,
          hI_ (qjE HS2.out HR2.out),hI_ aC_,hb4⟩
        case measure=>simp[intOf];omega
  · go_wp2
    go_ret;obtain rfl:k=zs.length:=a_;have hxx:=HX.out;rw[List.drop_of_length_le n_,qde] at hxx;refine⟨_,rfl,?_,?_,hb⟩
    · unfold qf5;rw[←hxx,←List.map_reverse];exact hou
    · unfold qf5;rw[←hxx];unfold qb7;rw[List.all_reverse,List.all_map,List.all_eq_true];intro y hy;exact HST.out.2 y hy


theorem qhq{l:List Int}{m:Int}(h:(qaE l&&inB m 0 l.length)=false):qcv l m=[]:=by unfold qcv;rw[h];rfl
theorem qmH{l:List Int}{k:Nat}(h:qaE l=true)(hk:k≤l.length):qcv l k=qbm (l.take k) 0++qbm l k:=by
 obtain⟨h16,hd⟩:=qaJ.1 h;have hi:inB (k:Int) 0 (l.length:Int)=true:=qak.2 a_;unfold qcv qa2 qbm;rw[h,hi,List.map_append,Int.toNat_natCast];simp only[Bool.and_self,if_true];congr 1;rw[show(l.take k).length=k by simp;omega];apply List.map_congr_left;intro t ht;obtain⟨t1,t2,_⟩:=qcW k a_ 0 a_ t ht;exact(qcG _ _ (by rw[t2];exact t1)).symm
theorem qlt(l1 l2:List Int)(p1 p2:Nat):(qbm l1 p1).length+(qbm l2 p2).length≤100000000000:=by
 have h1:(qbm l1 p1).length≤17:=by unfold qbm;rw[List.length_map];exact qaY _ _
 have h2:(qbm l2 p2).length≤17:=by unfold qbm;rw[List.length_map];exact qaY _ _
 exact Nat.le_trans (Nat.add_le_add h1 h2) a_
theorem qhT(l:List Int)(m:Int)(v:Value)(w:World)(hv:RI w v l):
 Calls Tryz.prog 195 #[v,.int .i64 m] w fun e w'=>∃ v',e=.returned v'∧O1 (Value.int .i64) w.heap.size 3 w' v' (qcv l m)∧bB w w':=by
 have HV:=hI_ hv;obtain⟨A,c,rfl,h1,h2,h3⟩:=hv;unfold maxLen at h2;have hlc:=h1.1;obtain⟨b1,HL⟩:=nm_ (qaE l);obtain⟨b2,HI⟩:=nm_ (inB m 0 (l.length:Int));clear h1 h3;cases b1
 · have HG:=hI_ (qhq (l:=l) (m:=m) (by rw[HL.out];rfl));go_enter Tryz.func195,Tryz.ntmps195
   go_wp2_with (go_at_call 203;refine(qcY HL _ _ HV.out).mono ?_;rintro e w' ⟨rfl,rfl⟩)
   go_ret;exact⟨_,rfl,by rw[HG.out];exact O1.made _ _ _,(bR_ _ _).alloc (nr_ _) _⟩
 cases b2
 · have HG:=hI_ (qhq (l:=l) (m:=m) (by rw[HL.out,HI.out];rfl));go_enter Tryz.func195,Tryz.ntmps195
   go_wp2_with (first
    |(go_at_call 203;refine(qcY HL _ _ HV.out).mono ?_;rintro e w' ⟨rfl,rfl⟩)
    |(go_at_call 124;refine(qbG HI _).mono ?_;rintro e w' ⟨rfl,rfl⟩))
   go_ret;exact⟨_,rfl,by rw[HG.out];exact O1.made _ _ _,(bR_ _ _).alloc (nr_ _) _⟩
 obtain⟨h16,hd⟩:=qaJ.1 HL.out;have hi:=qak.1 HI.out;obtain⟨k,rfl⟩:∃ k:Nat,m=k:=⟨m.toNat,a_⟩
 have hk:k≤l.length:=a_;have HG:=hI_ (qmH HL.out hk);have HD:=hI_ hd;have HD2:=hI_ (qcb hd k);have HK:Hid ((l.take k).length=k):=hI_ n_;have HV2:=hI_ (R1.take HV.out hk);have HLC:=hI_ (qlt (l.take k) l 0 k);clear hd hi;go_enter Tryz.func195,Tryz.ntmps195
 go_wp2_with (first
  |(go_at_call 203;refine(qcY HL _ _ HV.out).mono ?_;rintro e w' ⟨rfl,rfl⟩)
  |(go_at_call 124;refine(qbG HI _).mono ?_;rintro e w' ⟨rfl,rfl⟩)
  |(go_at_call_of 205 (Value.slice A k c);refine(qeu (l.take k) 0 _ _ HD2.out (by rw[HK.out];omega) (Nat.zero_le _) HV2.out).mono ?_;rintro e w1 ⟨v1,rfl,ho1,hb1⟩)
  |(go_at_call_of 205 (Value.slice A l.length c);refine(qeu l k _ _ HD.out h16 hk (HV.out.below hb1)).mono ?_;rintro e w2 ⟨v2,rfl,ho2,hb2⟩;have ho1':=ho1.below hb2;have hb12:=qa3 hb1 hb2)
  |(at_builtin;refine qdx ho1' ho2.r1 HLC.out hb12.size rfl rfl rfl rfl ?_;intro v3 w3 ho3 hb3))
 go_ret;exact⟨_,rfl,by rw[HG.out];exact ho3,hb12.trans hb3⟩
theorem qeo{l:List Int}{b:Bool}(h:Hid (qaE l=b))(v:Value)(w:World)(hv:RI w v l):gS 212 #[v] w (.bool b):=by
 rw[←h.out];exact qbr l v w hv
theorem qhS(l:List Int)(m:Int)(v:Value)(w:World)(hv:RI w v l):
 Calls Tryz.prog 210 #[v,.int .i64 m] w fun e w'=>∃ v',e=.returned v'∧O1 (Value.int .i64) w.heap.size 3 w' v' (qcv l m)∧bB w w':=by
 have HV:=hI_ hv;obtain⟨A,c,rfl,h1,h2,h3⟩:=hv;unfold maxLen at h2;have hlc:=h1.1;obtain⟨b1,HL⟩:=nm_ (qaE l);obtain⟨b2,HI⟩:=nm_ (inB m 0 (l.length:Int));clear h1 h3;cases b1
 · have HG:=hI_ (qhq (l:=l) (m:=m) (by rw[HL.out];rfl));go_enter Tryz.func210,Tryz.ntmps210
   go_wp2_with (go_at_call 212;refine(qeo HL _ _ HV.out).mono ?_;rintro e w' ⟨rfl,rfl⟩)
   go_ret;exact⟨_,rfl,by rw[HG.out];exact O1.nil _ _ _ _,bR_ _ _⟩
 cases b2
 · have HG:=hI_ (qhq (l:=l) (m:=m) (by rw[HL.out,HI.out];rfl));go_enter Tryz.func210,Tryz.ntmps210
   go_wp2_with (first
    |(go_at_call 212;refine(qeo HL _ _ HV.out).mono ?_;rintro e w' ⟨rfl,rfl⟩)
    |(go_at_call 113;refine(qbe HI _).mono ?_;rintro e w' ⟨rfl,rfl⟩))
   go_ret;exact⟨_,rfl,by rw[HG.out];exact O1.nil _ _ _ _,bR_ _ _⟩
 obtain⟨h16,hd⟩:=qaJ.1 HL.out;have hi:=qak.1 HI.out;obtain⟨k,rfl⟩:∃ k:Nat,m=k:=⟨m.toNat,a_⟩
 have hk:k≤l.length:=a_;have HG:Hid (qcv l k=(qa2 k l.length).map (qdK l)):=hI_ (by unfold qcv;rw[HL.out,HI.out];rfl);have HD:=hI_ hd;have HOK:=hI_ (qeJ l.length a_ k a_);have HTL:Hid ((qaz 0 k).length+(qaz k l.length).length≤100000000000):=hI_ (Nat.le_trans (Nat.add_le_add (qaY 0 k) (qaY k l.length)) a_);have HGL:Hid ((qa2 k l.length).length≤40):=hI_ (Nat.le_trans (qe3 k l.length) a_);clear hd hi;go_enter Tryz.func210,Tryz.ntmps210
 go_wp2_with (first
  |(go_at_call 212;refine(qeo HL _ _ HV.out).mono ?_;rintro e w' ⟨rfl,rfl⟩)
  |(go_at_call 113;refine(qbe HI _).mono ?_;rintro e w' ⟨rfl,rfl⟩)
  |(go_at_call_of 213 (Value.int .i64 0);refine(qbs 0 k _ a_ a_).mono ?_;rintro e w1 ⟨v1,rfl,ho1,hb1⟩)
  |(go_at_call_of 213 (Value.int .i64 k);refine(qbs k l.length _ a_ h16).mono ?_;rintro e w2 ⟨v2,rfl,ho2,hb2⟩;have ho1':=ho1.below hb2;have hb12:=qa3 hb1 hb2)
  |(at_builtin;refine qeF ho1' ho2.r2 HTL.out hb12.size rfl rfl rfl rfl ?_;intro v3 w3 ho3 hb3;have hb13:=hb12.trans hb3)
  |(go_at_call 258;refine(ql6 l HD.out (qa2 k l.length) _ _ _ HOK.out HGL.out ho3.r2 (HV.out.below hb13)).mono ?_;rintro e w4 ⟨v4,rfl,ho4,hb4⟩))
 go_ret;exact⟨_,rfl,by rw[HG.out];exact ho4.mono hb13.size,hb13.trans (hb4.mono hb13.size)⟩


theorem qfY{l:List Int}{b:Bool}(h:Hid (qb7 l=b))(v:Value)(w:World)(hv:RI w v l):gS 274 #[v] w (.bool b):=by
 rw[←h.out];exact qdD l v w hv
theorem qhu{n r:Int}{l:List Int}(h:Hid (qdI n l=r))(v:Value)(w:World)(hn:dig n=true)(hl:qb7 l=true)(hv:RI w v l):gS 204 #[.int .i64 n,v] w (.int .i64 r):=by
 rw[←h.out];exact qgQ n l v w hn hl hv
theorem qog(ts:List (Nat×Nat)):szs ts=(ts.map Prod.snd).map fun(z:Nat)=>(z:Int):=by simp[szs]
theorem qlG:∀ n,n<17→∀ m,m<n+1→∀ z ∈ (qa2 m n).map Prod.snd,1≤z∧z≤16:=by decide +kernel
theorem qb2{m old n dg:Int}{l:List Int}(h:inB n 0 16=false∨inB m 0 n=false∨qb7 l=false):qbc m old n dg l=false:=by
 unfold qbc;rcases h with h|h|h <;> rw[h] <;> simp
theorem qei{a b:Nat}{old dg:Int}{l:List Int}(h1:inB (b:Int) 0 16=true)(h2:inB (a:Int) 0 (b:Int)=true)(h3:qb7 l=true):qbc a old b dg l=qdF a old b dg l:=by
 unfold qbc;rw[h1,h2,h3];rfl
theorem qeX(m old n dg:Int)(l:List Int)(v:Value)(w:World)(hv:RI w v l):
 gV 273 #[.int .i64 m,.int .i64 old,.int .i64 n,.int .i64 dg,v] w (.bool (qbc m old n dg l)):=by
 have HV:=hI_ hv;have hlen:=hv.len;obtain⟨A,c,rfl,h1,h2,h3⟩:=hv;unfold maxLen at h2 hlen;have hlc:=h1.1;clear h1 h3;obtain⟨b1,H1⟩:=nm_ (inB n 0 16);obtain⟨b2,H2⟩:=nm_ (inB m 0 n);obtain⟨b3,H3⟩:=nm_ (qb7 l);cases b1
 · have HG:=hI_ (qb2 (m:=m) (old:=old) (n:=n) (dg:=dg) (l:=l) (.inl H1.out));go_enter Tryz.func273,Tryz.ntmps273
   go_wp2_with (go_at_call 124;refine(qbG H1 _).mono ?_;rintro e w' ⟨rfl,rfl⟩)
   go_ret;exact⟨qaM HG.out.symm,bR_ _ _⟩
 cases b2
 · have HG:=hI_ (qb2 (m:=m) (old:=old) (n:=n) (dg:=dg) (l:=l) (.inr (.inl H2.out)));go_enter Tryz.func273,Tryz.ntmps273
   go_wp2_with (first
    |(go_at_call_of 124 (Value.int .i64 m);refine(qbG H2 _).mono ?_;rintro e w' ⟨rfl,rfl⟩)
    |(go_at_call 124;refine(qbG H1 _).mono ?_;rintro e w' ⟨rfl,rfl⟩))
   go_ret;exact⟨qaM HG.out.symm,bR_ _ _⟩
 cases b3
 · have HG:=hI_ (qb2 (m:=m) (old:=old) (n:=n) (dg:=dg) (l:=l) (.inr (.inr H3.out)));go_enter Tryz.func273,Tryz.ntmps273
   go_wp2_with (first
    |(go_at_call_of 124 (Value.int .i64 m);refine(qbG H2 _).mono ?_;rintro e w' ⟨rfl,rfl⟩)
    |(go_at_call 124;refine(qbG H1 _).mono ?_;rintro e w' ⟨rfl,rfl⟩)
    |(go_at_call 274;refine(qfY H3 _ _ HV.out).mono ?_;rintro e w' ⟨rfl,rfl⟩))
   go_ret;exact⟨qaM HG.out.symm,bR_ _ _⟩
 have i1:=qak.1 H1.out;have i2:=qak.1 H2.out;obtain⟨b,rfl⟩:∃ b:Nat,n=b:=⟨n.toNat,a_⟩
 obtain⟨a,rfl⟩:∃ a:Nat,m=a:=⟨m.toNat,a_⟩
 have hb16:b≤16:=a_;have hab:a≤b:=a_;have HG:=hI_ (qei (old:=old) (dg:=dg) H1.out H2.out H3.out);rw[HG.out];have HDA:Hid (dig (a:Int)=true):=hI_ (qa4.2 a_);have HDB:Hid (dig (b:Int)=true):=hI_ (qa4.2 a_);have HSZ:=hI_ (qlG b a_ a a_);have HGL:=hI_ (qe3 a b);have HFL:Hid ((qaz 0 a).length≤(qa2 a b).length):=hI_ (by unfold qa2;simp);obtain⟨ts,HTS⟩:=nm_ (qa2 a b);obtain⟨fl,HFF⟩:=nm_ ((qaz 0 a).length);rw[HTS.out] at HGL HSZ HFL;rw[HFF.out] at HFL;have hgl:=HGL.out;have hfl:=HFL.out;have HLS:Hid ((szs ts).length=ts.length):=hI_ (by simp[szs]);clear i1 i2;go_enter Tryz.func273,Tryz.ntmps273
 go_wp2_with (first
  |(go_at_call_of 124 (Value.int .i64 a);refine(qbG H2 _).mono ?_;rintro e w' ⟨rfl,rfl⟩)
  |(go_at_call 124;refine(qbG H1 _).mono ?_;rintro e w' ⟨rfl,rfl⟩)
  |(go_at_call 274;refine(qfY H3 _ _ HV.out).mono ?_;rintro e w' ⟨rfl,rfl⟩))
 refine(qjv a b w a_ hb16).mono ?_;rintro e w1 ⟨v1,rfl,ho1,hb1⟩;rw[HTS.out] at ho1;rw[HFF.out];obtain⟨A1,c1,rfl⟩:=ho1.sl;rw[HLS.out] at ho1 ⊢;have HV1:=hI_ (HV.out.below hb1);by_cases hle:l.length=ts.length
 · have hle':((l.length:Int)!=(ts.length:Int))=false:=by simp[hle]
   have HLE:=hI_ hle;have hfl2:(fl:Int)≤(c:Int):=a_;have hfl3:fl≤l.length:=a_;have HV2:=hI_ (R1.take HV1.out hfl3);have HD2:=hI_ (qcb H3.out fl);obtain⟨r1,HR1⟩:=nm_ (qdI a (l.take fl));have HRI:Hid (RI w1 (.slice A1 ts.length c1) ((ts.map Prod.snd).map fun(z:Nat)=>(z:Int))):=hI_ (by rw[←qog];exact ho1.r1);clear hle ho1;by_cases he:r1=old
   · have he':(r1==old)=true:=by simp[he]
     have HE:=hI_ he;clear he;go_wp2_with (first
      |(go_at_call_of 204 (Value.int .i64 a);refine(qhu HR1 _ _ HDA.out HD2.out HV2.out).mono ?_;rintro e w' ⟨rfl,rfl⟩)
      |(go_at_call 279;refine(qju (ts.map Prod.snd) l _ _ _ HRI.out HV1.out (by rw[List.length_map];exact HLE.out) (by rw[List.length_map];exact HGL.out) HSZ.out H3.out).mono ?_;rintro e w2 ⟨v2,rfl,ho2,hd2,hb2⟩))
     have HM:Hid (qf5 (ts.map Prod.snd) l=qcz qbo a b l):=hI_ (by rw[←HTS.out];rfl);rw[HM.out] at ho2 hd2;obtain⟨xs,HXS⟩:=nm_ (qcz qbo a b l);rw[HXS.out] at ho2 hd2;obtain⟨r2,HR2⟩:=nm_ (qdI b xs);have HGA:Hid (qdF a old b dg l=(r2==dg)):=hI_ (by
      unfold qdF;rw[HFF.out,HR1.out,he',HTS.out,decide_eq_true HLE.out,HXS.out,HR2.out];rfl)
     obtain⟨A2,c2,rfl⟩:=ho2.sl;go_wp2_with (go_at_call 204;refine(qhu HR2 _ _ HDB.out hd2 ho2.r1).mono ?_;rintro e w' ⟨rfl,rfl⟩)
     go_ret;exact⟨qaM HGA.out.symm,qa3 hb1 hb2⟩
   · have he':(r1==old)=false:=by rw[beq_eq_false_iff_ne];exact he
     have HGA:Hid (qdF a old b dg l=false):=hI_ (by
      unfold qdF;rw[HFF.out,HR1.out,he'];simp)
     clear he;go_wp2_with (go_at_call 204;refine(qhu HR1 _ _ HDA.out HD2.out HV2.out).mono ?_;rintro e w' ⟨rfl,rfl⟩)
     go_ret;exact⟨qaM HGA.out.symm,hb1⟩
 · have hle':((l.length:Int)!=(ts.length:Int))=true:=by simp;omega
   have HGA:Hid (qdF a old b dg l=false):=hI_ (by
    unfold qdF;rw[HTS.out,decide_eq_false hle];simp)
   clear hle;go_wp2
   go_ret;exact⟨qaM HGA.out.symm,hb1⟩
end Go.Proofs.YtekaaekpdebloaaGreatDoor
namespace Go.Proofs.YtekaaekpdebloaaGreatDoor

open Go.RowKit
open Go.Maps (Keyed)

theorem qnS:laidOutB Tryz.prog=true:=by kernel_rfl
theorem qoj:(238:TypeId)<Tryz.prog.types.size:=of_decide_eq_true d_
theorem qkd:Tryz.prog.cellsOf 238=2:=by kernel_rfl
theorem qnR:Tryz.prog.keyTypeAt (Tryz.prog.types.size+1) 238=true:=by kernel_rfl
theorem qoh:Tryz.prog.keyTypeAt 2 238=true:=by kernel_rfl
theorem qoi:WideMaps.KeyLaw Tryz.prog 238:=deep_law_laid qnS (m:=2) a_ qoj qoh (by rw[Tryz.underlying238])
theorem qeT:Keyed Tryz.prog 238:=Keyed.of_law qoi
theorem qlO:Tryz.prog.cellsOf 3=1:=by kernel_rfl
theorem qjX(w:World):(zeroValue 3).run Tryz.prog w=.ok (.int .i64 0) w:=by kernel_rfl
def tv(t:Nat×Nat):Value:=.agg #[.int .i64 t.1,.int .i64 t.2]
theorem qnn{n:Nat}(h:n≤1000):(Lit.int .i64 (n:Int)).wf=true:=by
 simp[Lit.wf,IntKind.min,IntKind.max,IntKind.signed,IntKind.bits];omega
theorem qme(t:Nat×Nat):(tv t).formed Tryz.prog 238=true:=by simp[tv,Value.formed,Tryz.underlying238,qkd]
theorem qol(w:World)(t:Nat×Nat)(h1:t.1≤1000)(h2:t.2≤1000):∃ l,keyOf Tryz.prog 238 (tv t)=some l:=by
 have:=keyOf_asKey (P:=Tryz.prog) (H:=Unit) (enc:=fun _=>()) (w:=w) (base:=0) (sp:=fun _=>true) (held:=true) qnR (by rw[Tryz.underlying238]) (qme t) (d:=.agg [.lit (.int .i64 t.1),.lit (.int .i64 t.2)]) (ps:=[]) ⟨3,by
  simp[DataW.trod,tv,Value.cells,Tryz.underlying238,Tryz.underlying3,qkd,qlO,qnn h1,qnn h2]⟩
 exact⟨_,this.1⟩
@[irreducible] noncomputable def kl (t : Nat × Nat) : Lit := (keyOf Tryz.prog 238 (tv t)).getD (.bool false)
theorem qgO(w:World){t:Nat×Nat}(h1:t.1≤1000)(h2:t.2≤1000):keyOf Tryz.prog 238 (tv t)=some (kl t):=by
 obtain⟨l,hl⟩:=qol w t h1 h2;unfold kl;rw[hl];rfl
theorem qok{t u:Nat×Nat}(h:tv t=tv u):t=u:=by
 cases t;cases u
 simp[tv] at h;rw[Prod.mk.injEq];omega
theorem qot(w:World){t u:Nat×Nat}(h1:t.1≤1000)(h2:t.2≤1000)(h3:u.1≤1000)(h4:u.2≤1000)(hne:t≠u):kl t≠kl u:=by
 intro e;have k1:=qgO w h1 h2;rw[e] at k1;exact hne (qok (qeT.inj k1 (qgO w h3 h4)))
theorem qn7{v:Value}{l:Lit}(h:keyOf Tryz.prog 238 v=some l):WideAt.IsKeyLit l:=qeT.key h
def DL(look:Nat×Nat→Option Int)(D:DataW Unit):Prop:=
 ∀ t:Nat×Nat,t.1≤1000→t.2≤1000→match look t with
  |none=>Maps.has D (kl t)=false
  |some r=>Maps.has D (kl t)=true∧D.atKey (kl t) (.lit (.int .i64 0))=.lit (.int .i64 r)
theorem DL.nil:DL (fun _=>none) (.map []):=fun t _ _=>by
 show Maps.has (.map []) (kl t)=false;rw[Maps.has_eq,List.any_nil]
theorem DL.put(w:World){look:Nat×Nat→Option Int}{D:DataW Unit}(h:DL look D)(hD:Maps.IsMap D){t:Nat×Nat}(h1:t.1≤1000)(h2:t.2≤1000)(r:Int):
 DL (fun u=>if t=u then some r else look u) (D.put (kl t) (.lit (.int .i64 r))):=by
 have hk:=qn7 (qgO w h1 h2);intro u u1 u2;by_cases e:t=u
 · subst e;simp only[if_true];exact⟨Maps.has_put_same hD hk _,Maps.atKey_put_same hD hk _ _⟩
 · have hne:=qot w u1 u2 h1 h2 (fun e2=>e e2.symm);simp only[if_neg e];rw[Maps.has_put_other hne];simp only[Maps.atKey_put_other hne];exact h u u1 u2
abbrev OM (w:World) (b n:Nat) (D:DataW Unit):Prop:=w.ownsMap Tryz.prog 238 (plainElem Tryz.prog 3) b n D
theorem OM.below{w w':World}{b n:Nat}{D:DataW Unit}(h:OM w b n D)(hb:bB w w'):OM w' b n D:=World.ownsMap.kept h (qaP hb (row:=none)) k_


theorem OM.alloc{w:World}{b n:Nat}{D:DataW Unit}(h:OM w b n D)(o:Obj):OM (w.alloc o) b n D:=World.ownsMap.alloc h o
theorem OM.up{w:World}{b n:Nat}{D:DataW Unit}(h:OM w b n D)(X:World):OM (up w X) b n D:=h.below (qao w X)
theorem DL.hit{look:Nat×Nat→Option Int}{D:DataW Unit}(h:DL look D){t:Nat×Nat}(h1:t.1≤1000)(h2:t.2≤1000){r:Int}(hl:look t=some r):Maps.has D (kl t)=true∧D.atKey (kl t) (.lit (.int .i64 0))=.lit (.int .i64 r):=by
 have:=h t h1 h2;rw[hl] at this;exact this
theorem DL.miss{look:Nat×Nat→Option Int}{D:DataW Unit}(h:DL look D){t:Nat×Nat}(h1:t.1≤1000)(h2:t.2≤1000)(hl:look t=none):Maps.has D (kl t)=false:=by
 have:=h t h1 h2;rw[hl] at this;exact this
theorem qnN{a b:Int}{d:DataW Unit}(h1:d=.lit (.int .i64 a))(h2:d=.lit (.int .i64 b)):a=b:=by
 rw[h1] at h2;simpa using h2
theorem qgL{look:Nat×Nat→Option Int}{D:DataW Unit}(b n:Nat)(HD:Hid (DL look D))(s z:Nat)(r:Int)(w:World)(hs:s≤1000)(hz:z≤1000)(hown:OM w b n D)(hl:look (s,z)=some r):
 gV 280 #[.agg #[.int .i64 s,.int .i64 z],.map (some b)] w (.int .i64 r):=by
 obtain⟨hh,ha⟩:=HD.out.hit (t:=(s,z)) hs hz hl;have HA:=hI_ ha;have HK:=hI_ (qgO w (t:=(s,z)) hs hz);have HO:=hI_ hown;clear ha hl hown;generalize kl (s,z)=K at*
 go_enter Tryz.func280,Tryz.ntmps280
 go_wp2_with (at_lookup;refine wpList_lookup_own_ok_int _ rfl _ _ 294 rfl 238 3 .i64 qeT Tryz.underlying294 Tryz.underlying3 (qjX _) b n D rfl (HO.out.alloc _) _ K rfl HK.out ?_;intro c hat hwc;have HC:=hI_ (qnN hat HA.out);clear hat hwc)
 go_ret;exact⟨qfp HC.out,(bR_ _ _).alloc (nr_ _) _⟩
theorem qmK{look:Nat×Nat→Option Int}{D:DataW Unit}(b n:Nat)(HD:Hid (DL look D))(HG:Hid (∀ k s r,qdp qbo look k s=some r→dig r=true)):∀ (k s:Nat) (s0 z0:Int) (r:Int) (w:World),s0=s→z0=((2 ^ k:Nat):Int)→k≤4→s+2 ^ k≤32→OM w b n D→qdp qbo look k s=some r→
 gV 280 #[.agg #[.int .i64 s0,.int .i64 z0],.map (some b)] w (.int .i64 r):=by
 intro k;induction k with
 |zero=>
  intro s s0 z0 r w h0 hz _ hs hown hj;subst h0;have hz1:z0=((1:Nat):Int):=by simpa using hz
  subst hz1;exact qgL b n HD s 1 r w a_ a_ hown hj
 |succ k ih=>
  intro s s0 z0 r w h0 hz hk hs hown hj;subst h0;have hp16:2 ^ (k+1)≤32:=a_;have hs32:s≤32:=by have:=Nat.le_trans (Nat.le_add_right s _) hs;exact this
  cases hlk:look (s,2 ^ (k+1)) with
  |some r'=>
   have hr:r'=r:=by simp only[qdp,hlk] at hj;exact Option.some.inj hj
   subst hr hz;exact qgL b n HD s (2 ^ (k+1)) r' w (Nat.le_trans hs32 a_) (Nat.le_trans hp16 a_) hown hlk
  |none=>
   obtain⟨x,y,hx,hy,hr⟩:∃ x y,qdp qbo look k s=some x∧qdp qbo look k (s+2 ^ k)=some y∧qbo x y=r:=by
      simp only[qdp,hlk] at hj;cases h1:qdp qbo look k s with
      |none=>rw[h1] at hj;cases hj
      |some x=>
       cases h2:qdp qbo look k (s+2 ^ k) with
       |none=>rw[h1,h2] at hj;cases hj
       |some y=>rw[h1,h2] at hj;exact⟨x,y,rfl,rfl,Option.some.inj hj⟩
   have hmiss:=HD.out.miss (t:=(s,2 ^ (k+1))) (Nat.le_trans hs32 a_) (Nat.le_trans hp16 a_) hlk;have HKL:=qgO w (t:=(s,2 ^ (k+1))) (Nat.le_trans hs32 a_) (Nat.le_trans hp16 a_);have HK:Hid (keyOf Tryz.prog 238 (.agg #[.int .i64 s,.int .i64 z0])=some (kl (s,2 ^ (k+1)))):=hI_ (by rw[hz];exact HKL);clear HKL;have hz':z0=2*((2 ^ k:Nat):Int):=by rw[hz,Nat.pow_succ];omega
   have hy1:1≤2 ^ k:=Nat.one_le_two_pow;have hs2:s+2 ^ k+2 ^ k≤32:=by rw[Nat.pow_succ] at hs;omega
   have D1:=hI_ (HG.out k s x hx);have D2:=hI_ (HG.out k (s+2 ^ k) y hy);have HR:=hI_ hr;have HX:=hI_ hx;have HY:=hI_ hy;have IH:Hid (∀ (s:Nat) (s0 z0:Int) (r:Int) (w:World),s0=s→z0=((2 ^ k:Nat):Int)→k≤4→s+2 ^ k≤32→OM w b n D→qdp qbo look k s=some r→
      Calls Tryz.prog 280 #[.agg #[.int .i64 s0,.int .i64 z0],.map (some b)] w fun e w'=>e=.returned (.int .i64 r)∧bB w w'):=ih
   clear ih hz hs hj hr hx hy hlk hp16;generalize kl (s,2 ^ (k+1))=K at*
   obtain⟨u,HU⟩:=nm_ ((2 ^ k:Nat));rw[HU.out] at hz' hy1 hs2 HY;subst hz';have HO:=hI_ hown;clear hown;have hq:2*(u:Int)/2=u:=a_;go_enter Tryz.func280,Tryz.ntmps280
   go_wp2_with (at_lookup;refine wpList_lookup_own_ok_int _ rfl _ _ 294 rfl 238 3 .i64 qeT Tryz.underlying294 Tryz.underlying3 (qjX _) b n D rfl (HO.out.alloc _) _ K rfl HK.out ?_;intro c hat hwc;clear hat hwc)
   have c0:(w.alloc (.cells #[.int .i64 s,.int .i64 (2*(u:Int))] 238)).cell? ⟨w.heap.size,0,none⟩=some (.int .i64 s):=cell_of_row _ _ 0 _ _ _ (heap_alloc_new w _);have hW:w.heap.size<(w.alloc (.cells #[.int .i64 s,.int .i64 (2*(u:Int))] 238)).heap.size:=k_;have hv':=HO.out.alloc (.cells #[.int .i64 s,.int .i64 (2*(u:Int))] 238);have hbW:=(bR_ w.heap.size w).alloc (nr_ _) (.cells #[.int .i64 s,.int .i64 (2*(u:Int))] 238);generalize w.alloc (.cells #[.int .i64 s,.int .i64 (2*(u:Int))] 238)=W at*
   have hup:=qap W;refine qoH ?_;repeat(go_big_quiet_step (first
      |(go_at_call_of 280 (Value.agg #[.int .i64 s,.int .i64 u]);refine qal (IH.out s _ _ x _ rfl (by rw[HU.out]) a_ (by rw[HU.out];omega) (hv'.up _) HX.out))
      |(go_at_call 280;refine qal (IH.out (s+u) _ _ y _ k_ (by rw[HU.out]) a_ (by rw[HU.out];omega) (hv'.up _) HY.out))
      |(go_at_call 260;refine qaj (qbf _ _ _ D1.out D2.out))))
   refine wq_ fun w1 hb1=>?_;clear hup;go_wp2
   go_ret;exact⟨qfp HR.out,hbW.trans (hb1.mono a_)⟩


theorem qkO{α:Type}(ps:List ((Nat×Nat)×α))(p:(Nat×Nat)×α):qiz (ps++[p])=fun u=>if p.1=u then some p.2 else qiz ps u:=by
 funext u;simp[qiz,List.foldl_append]
theorem qiA{α:Type}(t:Nat×Nat)(r:α):∀ (ps:List ((Nat×Nat)×α)) (u:Option α),ps.foldl (fun u p=>if p.1=t then some p.2 else u) u=some r→u=some r∨∃ p ∈ ps,p.2=r
 |[],u,h=>.inl h
 |p::ps,u,h=>by
  rw[List.foldl_cons] at h;rcases qiA t r ps _ h with h1|⟨q,hq,h1⟩
  · split at h1
    · exact .inr ⟨p,List.mem_cons_self,Option.some.inj h1⟩
    · exact .inl h1
  · exact .inr ⟨q,List.mem_cons_of_mem _ hq,h1⟩
theorem qj4{m n:Nat}{l:List Int}(h:qb7 l=true){t:Nat×Nat}{r:Int}(hl:qdd m n l t=some r):dig r=true:=by
 rcases qiA t r _ none hl with h1|⟨p,hp,h1⟩
 · cases h1
 · rw[←h1];exact List.all_eq_true.1 h p.2 (List.of_mem_zip hp).2
theorem qil{m n:Nat}{l:List Int}(h:qb7 l=true):∀ k s r,qdp qbo (qdd m n l) k s=some r→dig r=true
 |0,s,r,hj=>qj4 h hj
 |k+1,s,r,hj=>by
  simp only[qdp] at hj;cases h1:qdd m n l (s,2 ^ (k+1)) with
  |some r'=>rw[h1] at hj;rw[←Option.some.inj hj];exact qj4 h h1
  |none=>
   rw[h1] at hj;cases h2:qdp qbo (qdd m n l) k s with
   |none=>rw[h2] at hj;cases hj
   |some a=>
    cases h3:qdp qbo (qdd m n l) k (s+2 ^ k) with
    |none=>rw[h2,h3] at hj;cases hj
    |some b=>rw[h2,h3] at hj;rw[←Option.some.inj hj];exact qb4 _ _
theorem qfk{l:List Int}{b:Bool}(h:Hid (qb7 l=b))(v:Value)(w:World)(hv:RI w v l):gS 259 #[v] w (.bool b):=by
 rw[←h.out];exact qca l v w hv
theorem qe1{n r:Int}{l:List Int}(h:Hid (qdI n l=r))(v:Value)(w:World)(hn:dig n=true)(hl:qb7 l=true)(hv:RI w v l):gS 219 #[.int .i64 n,v] w (.int .i64 r):=by
 rw[←h.out];exact qcl n l v w hn hl hv
theorem qmY{α:Type}(ts:List (Nat×Nat))(l:List α){k:Nat}(h1:k<ts.length)(h2:k<l.length):(ts.zip l).take (k+1)=(ts.zip l).take k++[(ts[k],l[k])]:=by
 rw[List.take_succ_eq_append_getElem n_];simp
theorem O2.sl{α:Type}{e1 e2:α→Value}{B:Nat}{e:TypeId}{w:World}{v:Value}{l:List α}(h:O2 e1 e2 B e w v l):∃ A c,v=.slice A l.length c:=by
 obtain⟨A,c,h,_⟩:=h.r2;exact⟨A,c,h⟩
theorem qbb.grown2{g:Nat}{a b c:World}{row:Option Nat}(h:qbb g a b)(k:b.grownBy c row)(hr:∀ r,row=some r→r=g∨a.heap.size≤r):qbb g a c:=
 ⟨k.os.trans h.os,k.tape.trans h.tape,k.output.trans h.output,Nat.le_trans h.size k.size,fun i hi hne=>(k.block i (nL_ hi h.size) (fun e=>by
  rcases hr i e.symm with h1|h1
  · exact hne (by rw[h1])
  · omega)).trans (h.block i hi hne)⟩
theorem O2.only{α:Type}{e1 e2:α→Value}{B g:Nat}{e:TypeId}{w w':World}{v:Value}{l:List α}(h:O2 e1 e2 B e w v l)(ho:qbb g w w')(hg:g<B):O2 e1 e2 B e w' v l:=by
 refine⟨h.1,?_⟩;rcases h.2 with hn|⟨k,cap,cur,hv,hk,hh,r⟩
 · exact .inl hn
 · exact .inr ⟨k,cap,cur,hv,hk,(ho.block k (Array.getElem?_eq_some_iff.1 hh).1 (fun e=>by have:=Option.some.inj e;omega)).trans hh,r⟩
theorem OM.only{w w':World}{b n g:Nat}{D:DataW Unit}(h:OM w b n D)(ho:qbb g w w')(hg:b≠g):OM w' b n D:=
 World.ownsMap.kept h (row:=some g) ⟨ho.os,ho.tape,ho.output,ho.size,ho.block⟩ (fun e=>hg (Option.some.inj e))
theorem qoo{x:Int}(h:dig x=true):(Lit.int .i64 x).wf=true:=by
 have:=qa4.1 h;simp[Lit.wf,IntKind.min,IntKind.max,IntKind.signed,IntKind.bits];omega
theorem ql0{a b:Nat}(hb:b≤16)(ha:a≤b){l:List Int}(hl:l.length=(qa2 a b).length){k:Nat}(h1:k<(qaz 0 b).length):
 ∃ h2:k<(qcz qbo a b l).length,qdp qbo (qdd a b l) (qaz 0 b)[k].2.log2 (qaz 0 b)[k].1=some (qcz qbo a b l)[k]:=by
 have h:=qgM hb ha hl;have hlen:=congrArg List.length h;simp only[List.length_map] at hlen;refine⟨a_,?_⟩;have h3:=congrArg (fun z=>z[k]?) h;simp only[List.getElem?_map] at h3;rw[List.getElem?_eq_getElem h1,List.getElem?_eq_getElem a_] at h3;simpa using h3
theorem qgX{a b:Nat}(hb:b≤16)(ha:a≤b){l:List Int}(hl:l.length=(qa2 a b).length):(qcz qbo a b l).length=(qaz 0 b).length:=by
 have hlen:=congrArg List.length (qgM hb ha hl);simpa using hlen.symm
theorem qjA{a b:Nat}(hb:b≤16)(ha:a≤b){l:List Int}(hl:l.length=(qa2 a b).length)(hd:qb7 l=true):qb7 (qcz qbo a b l)=true:=by
 unfold qb7;rw[List.all_eq_true];intro x hx;obtain⟨k,hk,rfl⟩:=List.getElem_of_mem hx;obtain⟨_,h⟩:=ql0 hb ha hl (k:=k) (by rw[←qgX hb ha hl];exact hk);exact qil hd _ _ _ h
theorem qeW(m old n dg:Int)(l:List Int)(v:Value)(w:World)(hv:RI w v l):
 gV 276 #[.int .i64 m,.int .i64 old,.int .i64 n,.int .i64 dg,v] w (.bool (qbc m old n dg l)):=by
 have HV:=hI_ hv;have hlen:=hv.len;obtain⟨A,c,rfl,h1,h2,h3⟩:=hv;unfold maxLen at h2 hlen;have hlc:=h1.1;clear h1 h3;obtain⟨b1,H1⟩:=nm_ (inB n 0 16);obtain⟨b2,H2⟩:=nm_ (inB m 0 n);obtain⟨b3,H3⟩:=nm_ (qb7 l);cases b1
 · have HG:=hI_ (qb2 (m:=m) (old:=old) (n:=n) (dg:=dg) (l:=l) (.inl H1.out));go_enter Tryz.func276,Tryz.ntmps276
   go_wp2_with (go_at_call 113;refine(qbe H1 _).mono ?_;rintro e w' ⟨rfl,rfl⟩)
   go_ret;exact⟨qaM HG.out.symm,bR_ _ _⟩
 cases b2
 · have HG:=hI_ (qb2 (m:=m) (old:=old) (n:=n) (dg:=dg) (l:=l) (.inr (.inl H2.out)));go_enter Tryz.func276,Tryz.ntmps276
   go_wp2_with (first
    |(go_at_call_of 113 (Value.int .i64 m);refine(qbe H2 _).mono ?_;rintro e w' ⟨rfl,rfl⟩)
    |(go_at_call 113;refine(qbe H1 _).mono ?_;rintro e w' ⟨rfl,rfl⟩))
   go_ret;exact⟨qaM HG.out.symm,bR_ _ _⟩
 cases b3
 · have HG:=hI_ (qb2 (m:=m) (old:=old) (n:=n) (dg:=dg) (l:=l) (.inr (.inr H3.out)));go_enter Tryz.func276,Tryz.ntmps276
   go_wp2_with (first
    |(go_at_call_of 113 (Value.int .i64 m);refine(qbe H2 _).mono ?_;rintro e w' ⟨rfl,rfl⟩)
    |(go_at_call 113;refine(qbe H1 _).mono ?_;rintro e w' ⟨rfl,rfl⟩)
    |(go_at_call 259;refine(qfk H3 _ _ HV.out).mono ?_;rintro e w' ⟨rfl,rfl⟩))
   go_ret;exact⟨qaM HG.out.symm,bR_ _ _⟩
 have i1:=qak.1 H1.out;have i2:=qak.1 H2.out;obtain⟨b,rfl⟩:∃ b:Nat,n=b:=⟨n.toNat,a_⟩
 obtain⟨a,rfl⟩:∃ a:Nat,m=a:=⟨m.toNat,a_⟩
 have hb16:b≤16:=a_;have hab:a≤b:=a_;have HG:=hI_ (qei (old:=old) (dg:=dg) H1.out H2.out H3.out);rw[HG.out];have HDA:Hid (dig (a:Int)=true):=hI_ (qa4.2 a_);have HDB:Hid (dig (b:Int)=true):=hI_ (qa4.2 a_);have HOK:=hI_ (qeJ b a_ a a_);have HTL:Hid ((qaz 0 a).length+(qaz a b).length≤100000000000):=hI_ (Nat.le_trans (Nat.add_le_add (qaY 0 a) (qaY a b)) a_);have hgl:=qe3 a b;have hfl:(qaz 0 a).length≤(qa2 a b).length:=by unfold qa2;simp
 have hfl17:=qaY 0 a;have HGT:Hid (qaz 0 a++qaz a b=qa2 a b):=hI_ rfl;have HLK:Hid (qdd a b l=qiz ((qa2 a b).zip l)):=hI_ rfl;have HGA0:Hid (qdF a old b dg l=(decide (l.length=(qa2 a b).length)&&(qdI a (l.take (qaz 0 a).length)==old)&&(qdI b (qcz qbo a b l)==dg))):=hI_ rfl;clear i1 i2;go_enter Tryz.func276,Tryz.ntmps276
 go_wp2_with (first
  |(go_at_call_of 113 (Value.int .i64 a);refine(qbe H2 _).mono ?_;rintro e w' ⟨rfl,rfl⟩)
  |(go_at_call 113;refine(qbe H1 _).mono ?_;rintro e w' ⟨rfl,rfl⟩)
  |(go_at_call 259;refine(qfk H3 _ _ HV.out).mono ?_;rintro e w' ⟨rfl,rfl⟩))
 refine(qbs 0 a w a_ a_).mono ?_;rintro e w1 ⟨v1,rfl,ho1,hb1⟩;obtain⟨A1,c1,rfl⟩:∃ A c,v1=.slice A (qaz 0 a).length c:=by obtain⟨A,c,h,_⟩:=ho1.r2;exact⟨A,c,h⟩
 generalize hfe:(qaz 0 a).length=fl at*
 have HFE:=hI_ hfe;clear hfe;go_wp2_with fail
 refine(qbs a b w1 a_ hb16).mono ?_;rintro e w2 ⟨v2,rfl,ho2,hb2⟩;have ho1':=ho1.below hb2;have hb12:=qa3 hb1 hb2;obtain⟨ts,HTS⟩:=nm_ (qa2 a b);have HT3:Hid (qaz 0 a++qaz a b=ts):=hI_ (by rw[HGT.out,HTS.out]);rw[HTS.out] at HOK hgl hfl HLK HGA0;have hts:ts.length≤34:=hgl;by_cases hle:l.length=ts.length;rotate_left
 · have hle':((l.length:Int)!=(ts.length:Int))=true:=by simp;omega
   have HGA:Hid (qdF a old b dg l=false):=hI_ (by rw[HGA0.out,decide_eq_false hle];simp);clear hle;go_wp2_with (at_builtin;refine qeF ho1' ho2.r2 (by rw[HFE.out];exact HTL.out) hb12.size rfl rfl rfl rfl ?_;intro v3 w3 ho3 hb3;rw[HT3.out] at ho3;obtain⟨A3,c3,rfl⟩:=O2.sl ho3)
   go_ret;exact⟨qaM HGA.out.symm,hb12.trans hb3⟩
 have hle':((l.length:Int)!=(ts.length:Int))=false:=by simp[hle]
 have HLE:=hI_ hle;have hfl2:(fl:Int)≤(c:Int):=a_;have hfl3:fl≤l.length:=a_;have HV2:=hI_ (R1.take HV.out hfl3);have HD2:=hI_ (qcb H3.out fl);obtain⟨r1,HR1⟩:=nm_ (qdI a (l.take fl));by_cases he:r1=old;rotate_left
 · have he':(r1 !=old)=true:=by rw[bne_iff_ne];exact he
   have HGA:Hid (qdF a old b dg l=false):=hI_ (by rw[HGA0.out,HR1.out,beq_eq_false_iff_ne.2 he];simp);clear he hle;go_wp2_with (first
    |(at_builtin;refine qeF ho1' ho2.r2 (by rw[HFE.out];exact HTL.out) hb12.size rfl rfl rfl rfl ?_;intro v3 w3 ho3 hb3;rw[HT3.out] at ho3;obtain⟨A3,c3,rfl⟩:=O2.sl ho3;have hb13:=hb12.trans hb3)
    |(go_at_call 219;refine(qe1 HR1 _ _ HDA.out HD2.out (HV2.out.below hb13)).mono ?_;rintro e w' ⟨rfl,rfl⟩))
   go_ret;exact⟨qaM HGA.out.symm,hb13⟩
 have he':(r1 !=old)=false:=by simp[he]
 have HE:=hI_ he;clear he hle;have hmm:= @run_makeMap Tryz.prog;go_wp2_with (first
  |(at_builtin;refine qeF ho1' ho2.r2 (by rw[HFE.out];exact HTL.out) hb12.size rfl rfl rfl rfl ?_;intro v3 w3 ho3 hb3;rw[HT3.out] at ho3;obtain⟨A3,c3,rfl⟩:=O2.sl ho3;have hb13:=hb12.trans hb3)
  |(go_at_call 219;refine(qe1 HR1 _ _ HDA.out HD2.out (HV2.out.below hb13)).mono ?_;rintro e w' ⟨rfl,rfl⟩))
 have HRT:=hI_ ho3.r2;have HV3:=hI_ (HV.out.below hb13);have HB13:=hI_ hb13;have hs3:=hb13.size;have hll:l.length=ts.length:=HLE.out;clear ho1 ho2 ho1' hb1 hb2 hb12 ho3 hb3 hb13 hmm;go_loopw [58] (fun i wr=>∃ (k:Nat) (D:DataW Unit),k≤ts.length∧i=.int .i64 k∧OM wr w3.heap.size k D∧Hid (DL (qiz ((ts.zip l).take k)) D)∧bB w3 wr) (fun i _=>ts.length-(intOf i).toNat)
 case atStart=>exact⟨0,.map [],Nat.zero_le _,rfl,World.ownsMap_made _ _ _ _,hI_ DL.nil,(bR_ _ _).alloc (nr_ _) _⟩
 case round=>
  obtain⟨k,D,hk,rfl,hown,HDL,hb⟩:=hrel;by_cases hlt:k<ts.length
  · have hlt':(k:Int)<(ts.length:Int):=a_;have hkl:k<l.length:=a_;have hkl':(k:Int)<(l.length:Int):=a_;obtain⟨_,_,hA,_,_,hc⟩:=HRT.out.below hb;cases hA;obtain⟨tb,to,rfl,tlt,hc⟩:=hc a_;obtain⟨c1,c2⟩:=hc k hlt;obtain⟨_,_,hA,_,_,hc'⟩:=HV3.out.below hb;cases hA;obtain⟨pb,po,rfl,plt,hc'⟩:=hc' a_;have c3':=hc' k hkl;clear hc hc';obtain⟨g1,g2,g3⟩:=HOK.out _ (List.getElem_mem hlt);have hsz16:ts[k].2≤16:=a_;have hst16:ts[k].1≤16:=a_;have HZT:=hI_ (qmY ts l hlt hkl);have HXD:=hI_ (qdc H3.out hkl);simp only[t1,t2] at c1 c2;clear g1 g2 g3;generalize ts[k]=t at*
    obtain⟨ta,tz⟩:=t;simp only at c1 c2 hsz16 hst16;generalize l[k]=x at*
    go_wp2_with fail
    have hba:=(bR_ wr.heap.size wr).alloc (nr_ _) (.cells #[.int .i64 ta,.int .i64 tz] 238);have k0:(wr.alloc (.cells #[.int .i64 ta,.int .i64 tz] 238)).cell? ⟨wr.heap.size,0,none⟩=some (.int .i64 ta):=cell_of_row _ _ 0 _ _ _ (heap_alloc_new wr _);have k1:(wr.alloc (.cells #[.int .i64 ta,.int .i64 tz] 238)).cell? ⟨wr.heap.size,1,none⟩=some (.int .i64 tz):=cell_of_row _ _ 1 _ _ _ (heap_alloc_new wr _);have k3:=(hba.cell (p:=⟨pb,po+k,none⟩) plt).trans c3';have hown4:=hown.alloc (.cells #[.int .i64 ta,.int .i64 tz] 238);obtain⟨W4,HW4⟩:=nm_ (wr.alloc (.cells #[.int .i64 ta,.int .i64 tz] 238));obtain⟨q,HQ⟩:=nm_ wr.heap.size;have hb4:=hb.trans (hba.mono hb.size);rw[HW4.out] at k0 k1 k3 hown4 hb4 ⊢;rw[HQ.out] at k0 k1 ⊢;obtain⟨w5,hrun,ho5,hg5⟩:=World.ownsMap.update (w:=W4.drew) (t:=294) (key:=.agg #[.int .i64 ta,.int .i64 tz]) (val:=.int .i64 x) (d:=.lit (.int .i64 x)) (ps:=[]) (OM.below hown4 (qac (bR_ _ _))) qeT Tryz.underlying294 s_ (qgO W4 (t:=(ta,tz)) (by show ta≤1000;omega) (by show tz≤1000;omega)) (plainElem_int Tryz.underlying3 (qoo HXD.out));have HDP:=hI_ (HDL.out.put W4 hown4.isMap (t:=(ta,tz)) (by show ta≤1000;omega) (by show tz≤1000;omega) x);have HO5:=hI_ ho5;have HB5:=hI_ (hb4.trans (((bR_ W4.heap.size W4).drew).mono hb4.size |>.grown hg5 (by have:=hb4.size;exact this) (fun r hr=>by cases hr;exact nr_ _)));clear ho5 hg5 hown4 hb4 hown hb hba c1 c2 c3';go_region
    all_goals
     go_wp2
     go_roundw
     case rel=>exact⟨k+1,_,a_,t_,HO5.out,by rw[HZT.out,qkO];exact HDP,HB5.out⟩
     case measure=>simp[intOf];omega
  · have hlt':¬ (k:Int)<(ts.length:Int):=a_;obtain⟨wl,rfl⟩:∃ wl:World,wl=wr:=⟨_,rfl⟩
    have htk:(ts.zip l).take k=ts.zip l:=List.take_of_length_le n_;have HDL2:Hid (DL (qdd a b l) D):=hI_ (by rw[HLK.out,←htk];exact HDL.out);have HO:=hI_ hown;have HB:=hI_ hb;have HJD:=hI_ (qil (m:=a) (n:=b) H3.out);have hll2:l.length=(qa2 a b).length:=by rw[HTS.out];exact hll
    have HPK:=hI_ (fun(k:Nat) (h:k<(qaz 0 b).length)=>ql0 hb16 hab hll2 h);have HML:=hI_ (qgX hb16 hab hll2);have HMD:=hI_ (qjA hb16 hab hll2 H3.out);have HTB:=hI_ (qcW b a_ 0 a_);have htb17:=qaY 0 b;obtain⟨pk,HPKS⟩:=nm_ (qaz 0 b);obtain⟨ms,HMS⟩:=nm_ (qcz qbo a b l);rw[HPKS.out] at HPK HML HTB htb17;rw[HMS.out] at HML HMD HGA0;simp only[HMS.out] at HPK;obtain⟨r2,HR2⟩:=nm_ (qdI b ms);have HGA:Hid (qdF a old b dg l=(r2==dg)):=hI_ (by
     rw[HGA0.out,HR1.out,HR2.out,decide_eq_true hll,beq_iff_eq.2 HE.out];rfl)
    clear hown hb hll2 htk HDL;obtain⟨wB,HWB⟩:=nm_ (wl.alloc (.cells #[] 3));have hbB:bB wl wB:=by rw[←HWB.out];exact(bR_ _ _).alloc (nr_ _) _
    have hOB:O1 (Value.int .i64) wl.heap.size 3 wB (.slice (some ⟨wl.heap.size,0,none⟩) 0 0) []:=by rw[←HWB.out];exact O1.made _ _ _
    go_wp2_with fail
    rw[HWB.out];refine(qbs 0 b wB a_ hb16).mono ?_;rintro e w6 ⟨v6,rfl,ho6,hb6⟩;rw[HPKS.out] at ho6;obtain⟨A6,c6,rfl⟩:=O2.sl ho6;have HT6:=hI_ ho6;have hO6:=hOB.below hb6;have HB6:=hI_ (qa3 hbB hb6);have HM6:=hI_ (HO.out.below HB6.out);have hbr:=HB6.out.size;have hgB:wl.heap.size<wB.heap.size:=by rw[←HWB.out];simp
    have hml:=HO.out.lt;have hBE:=hI_ (HB13.out.trans (HB.out.mono hs3));have hsB:=HB.out.size;have hw6:=hb6.size;clear ho6 hb6 hbB hOB;go_wp2_with fail
    go_loopw [16,74] (fun out i wr=>∃ k:Nat,k≤pk.length∧i=.int .i64 k∧O1 (Value.int .i64) wl.heap.size 3 wr out (ms.take k)∧qbb wl.heap.size w6 wr∧(∀ r,out.ownBlock=some r→r=wl.heap.size∨w6.heap.size≤r)) (fun _ i _=>pk.length-(intOf i).toNat)
    case atStart=>exact⟨0,Nat.zero_le _,rfl,hO6,qbb.of_below (bR_ _ _),fun r hr=>.inl (Option.some.inj hr).symm⟩
    case round=>
     clear hO6;obtain⟨j,hj,rfl,hown,hb,hrow⟩:=hrel;have HROW:=hI_ hrow;clear hrow;by_cases hltj:j<pk.length
     · have hltj':(j:Int)<(pk.length:Int):=a_;obtain⟨_,_,hA,_,_,hc⟩:=(HT6.out.only hb hgB).r2;cases hA;obtain⟨tb,to,rfl,tlt,hc⟩:=hc a_;obtain⟨c1,c2⟩:=hc j hltj;obtain⟨g1,g2,g3⟩:=HTB.out _ (List.getElem_mem hltj);obtain⟨hjm,hJ⟩:=HPK.out j hltj;have HJ:=hI_ hJ;have HTK:=hI_ (qbz hjm);have HG2:=hI_ g2;have hbx:pk[j].1+pk[j].2≤16:=a_;have hlj:(ms.take j).length=j:=by simp;omega
       have HLJ:=hI_ hlj;simp only[t1,t2] at c1 c2;clear hc hJ g1 g2 hlj;generalize pk[j]=t at*
       obtain⟨ta,tz⟩:=t;simp only at c1 c2 hbx g3;generalize ms[j]=x at*
       have hMQ:=(HM6.out.only hb a_).alloc (.cells #[.int .i64 ta,.int .i64 tz] 238);have hba:=(bR_ wr.heap.size wr).alloc (nr_ _) (.cells #[.int .i64 ta,.int .i64 tz] 238);have hown1:=hown.alloc (.cells #[.int .i64 ta,.int .i64 tz] 238);have hbs:=hb.size;go_wp2_with (first
        |(go_at_call 280;refine(qmK w3.heap.size k HDL2 HJD tz.log2 ta _ _ x _ rfl (by rw[HG2.out]) g3 (by rw[HG2.out];show ta+tz≤32;omega) hMQ HJ.out).mono ?_;rintro e w7 ⟨rfl,hb7⟩;have hown2:=hown1.below hb7;have hb27:=hba.trans (hb7.mono hba.size);have hs27:=hb27.size)
        |(at_builtin;refine qdw hown2 (by rw[HLJ.out];omega) a_ rfl rfl rfl rfl ?_;intro v8 w8 hown8 hg8 hl8))
       go_roundw
       case rel=>
        refine⟨j+1,a_,t_,by rw[HTK.out];exact hown8,(hb.thenB hb27).grown2 hg8 HROW.out,fun r hr=> ?_⟩;rcases hl8 r hr with h1|h1
        · exact HROW.out r h1
        · exact .inr a_
       case measure=>simp[intOf];omega
     · have hltj':¬ (j:Int)<(pk.length:Int):=a_;have hmsj:ms.take j=ms:=List.take_of_length_le (by have:=HML.out;omega);rw[hmsj] at hown;clear hmsj;have hR:=hI_ hown.r1;obtain⟨A9,c9,rfl⟩:=hown.sl;have HBO:=hI_ hb;clear hb;go_wp2_with (go_at_call 219;refine(qe1 HR2 _ _ HDB.out HMD.out hR.out).mono ?_;rintro e w' ⟨rfl,rfl⟩)
       go_ret;exact⟨qaM HGA.out.symm,hBE.out.trans ((HB6.out.trans (HBO.out.below (nr_ _) a_)).mono hBE.out.size)⟩
theorem qeC{m old n dg:Int}{l:List Int}{b:Bool}(h:Hid (qbc m old n dg l=b))(v:Value)(w:World)(hv:RI w v l):
 gV 276 #[.int .i64 m,.int .i64 old,.int .i64 n,.int .i64 dg,v] w (.bool b):=by
 rw[←h.out];exact qeW m old n dg l v w hv
theorem qhc{l g:List Int}{m:Int}(h:Hid (qcv l m=g))(v:Value)(w:World)(hv:RI w v l):
 Calls Tryz.prog 210 #[v,.int .i64 m] w fun e w'=>∃ v',e=.returned v'∧O1 (Value.int .i64) w.heap.size 3 w' v' g∧bB w w':=by
 rw[←h.out];exact qhS l m v w hv
end Go.Proofs.YtekaaekpdebloaaGreatDoor
namespace Go.Proofs.YtekaaekpdebloaaGreatDoor

open Go.RowKit

theorem qhO(x:Value)(k:Nat):Builtin.zeroCells #[x] k=(List.replicate k x).toArray:=by
 apply Array.ext
 · simp[Builtin.zeroCells]
 · intro j h1 h2;simp[Builtin.zeroCells,Nat.mod_one]
theorem qeQ{α:Type}{enc:α→Value}{P:Program}(w:World)(t tn ty e:TypeId)(i:TypeInfo)(z:Value)(kn:IntKind)(ht:P.underlying t=some (.slice e))(htn:P.underlying tn=some (.int kn))(hi:P.info? e=some i)(hz:i.zero=some z)
 (hsize:i.size=1) (hb100:i.bytes≤1000) {a0:α} (hzs:z.cells= #[enc a0]) (h1:(enc a0).oneCell'=true) {base:Nat} {v:Value} {l:List α} (hown:O1 enc base e w v l) {k:Nat} (h0:0<k) (hlen:l.length+k≤1000) (hbase:base≤w.heap.size):
 ∃ v' w',(Builtin.append_ #[t,tn] ty #[v,.int .i64 (k:Int)]).run P w=.ok v' w'∧O1 enc base e w' v' (l++List.replicate k a0)∧w.grownBy w' v.ownBlock:=by
 have hk48:k*i.bytes≤281474976710656:=Nat.le_trans (Nat.mul_le_mul (show k≤1000 by omega) hb100) a_;have hzc:=qhO (enc a0);have hml:(l++List.replicate k a0).length=l.length+k:=k_
 -- what a new row is good for
 have fresh:∀ (old:Nat) (row:Option Nat),O1 enc base e (w.drew.alloc (.cells ((l.map enc).toArray++(List.replicate k (enc a0)).toArray++Builtin.zeroCells z.cells (grownCap w (l.length+k) old e-(l.length+k))) e)) (.slice (some ⟨w.heap.size,0,none⟩) (l.length+k) (grownCap w (l.length+k) old e)) (l++List.replicate k a0)∧
  w.grownBy (w.drew.alloc (.cells ((l.map enc).toArray++(List.replicate k (enc a0)).toArray++Builtin.zeroCells z.cells (grownCap w (l.length+k) old e-(l.length+k))) e)) row:=by
  intro old row;have hge:=grownCap_ge w (l.length+k) old e;have hcm:grownCap w (l.length+k) old e≤maxLen:=grownCap_le_maxLen w (l.length+k) old e s_;refine⟨⟨k_,.inr ⟨w.heap.size,_,_,by rw[hml],hbase,heap_alloc_new w.drew _,by rw[hml];exact hge,hcm,?_,?_⟩⟩,⟨rfl,rfl,rfl,k_,fun j hj _=>heap_alloc_old w.drew _ hj⟩⟩
  · rw[hzs,hzc];simp;omega
  · rw[hml,Array.toList_append,List.take_left' k_];simp
 have hw:IntKind.i64.wrap (k:Int)=k:=by rw[IntKind.wrap_i64];omega
 have hneg:¬ ((k:Int)<0):=a_;have hns:¬ (k*i.size=0):=by rw[hsize];omega
 have h48i:¬ (281474976710656<(k:Int)*(i.bytes:Int)):=by rw[←Int.natCast_mul];omega
 have h63:((l.length+k:Nat):Int)≤9223372036854775807:=a_;have hfitN:∀ c,c<l.length+k→Builtin.nextslicecap (l.length+k) c*i.bytes≤281474976710656:=fun c hc=>by
  refine growslice_fits a_ ?_;exact Nat.le_trans (Nat.mul_le_mul (show l.length+k≤1000 by omega) hb100) a_
 obtain⟨hlx,hr⟩:=id hown;rcases hr with⟨rfl,hn0⟩|⟨g,cap,cur,rfl,hbg,hg,hnc,hcm,hcs,htake⟩
 · have hl0:l=[]:=List.eq_nil_of_length_eq_zero hn0;subst hl0;have hr:=Lib.run_append_nil_zeros (P:=P) w t tn ty e i z .i64 kn ht htn hi hz k h0 a_ a_ hk48;obtain⟨f1,f2⟩:=fresh 0 (Value.ownBlock (.slice none 0 0));rw[hzs,hzc] at hr;rw[hzs] at f1 f2;simp only[List.length_nil,Nat.zero_add,List.nil_append,List.map_nil,Array.empty_append] at f1 f2;exact⟨_,_,hr,f1,f2⟩
 · by_cases hroom:l.length+k≤cap
   · have hst:=run_storeCells_at P g (l.length*i.size) e (List.replicate k (enc a0)) 0 cur w hg (by simp[hsize];omega) (by intro u hu;rw[List.eq_of_mem_replicate hu];exact h1);simp only[Nat.add_zero] at hst;have hr:(Builtin.append_ #[t,tn] ty #[.slice (some ⟨g,0,none⟩) l.length cap,.int .i64 (k:Int)]).run P w=.ok (.slice (some ⟨g,0,none⟩) (l.length+k) cap) (w.setRow g (cur.toList.take (l.length*i.size)++List.replicate k (enc a0)++cur.toList.drop (l.length*i.size+k)).toArray):=by
      simp[Builtin.append_,run_underlying ht,run_underlying htn,sizeOf,typeInfo,zeroValue,hi,hz,asInt,asIntOf,hw,hroom,hneg,hns,h48i,hzs,hzc,Addr.add_lit,hst]
     have hcs':cur.size=cap:=by rw[hcs,Nat.mul_one]
     refine⟨_,_,hr,⟨k_,.inr ⟨g,cap,_,by rw[hml],hbg,setRow_heap w g cur _ e _ hg,by rw[hml];exact hroom,hcm,?_,?_⟩⟩,⟨rfl,rfl,rfl,k_,fun j _ hj=>setRow_other w g j _ (fun e=>hj (by simp[Value.ownBlock,e]))⟩⟩
     · simp only[List.size_toArray,List.length_append,List.length_take,List.length_drop,Array.length_toList,List.length_replicate,hsize];omega
     · rw[Nat.mul_one] at htake;rw[hml,hsize,Nat.mul_one,Nat.mul_one,htake];simp only[List.map_append,List.map_replicate];exact List.take_left' k_
   · have holds:∀ j u,(l.map enc)[j]? =some u→w.cell? ((⟨g,0,none⟩:Addr).add j)=some u:=World.ownsRow.cells hown (g:=g) rfl;have hfo:=run_firstCells_some (P:=P) w.drew i.size l.length ⟨g,0,none⟩ l.length cap (l.map enc) (by rw[hsize];simp) (by simpa using holds);have hr:=Lib.run_append_grow_zeros (P:=P) w t tn ty e i z .i64 kn ht htn hi hz (some ⟨g,0,none⟩) l.length cap (l.map enc) hfo k h0 a_ a_ h63 hk48 (hfitN cap a_);obtain⟨f1,f2⟩:=fresh cap (Value.ownBlock (.slice (some ⟨g,0,none⟩) l.length cap));rw[hzs,hzc] at hr;rw[hzs] at f1 f2;exact⟨_,_,hr,f1,f2⟩
section
variable {ops:Array Oper} {rest:List Oper} {o:Oper} {a:Act} {Q:Exit→Act→World→Prop} {w:World} {base:Nat} {v:Value}
theorem qmx{l:List ByteArray}(hown:O1 Value.string base 9 w v l){k:Nat}(h0:0<k)(hlen:l.length+k≤1000)(hbase:base≤w.heap.size)(hgd:o.guard=none){s x:Operand}
 (ho:o.op=.call {callee:=.builtin .append,args:= #[s,x],argTypes:= #[47,3]}) (hs:a.eval s=v) (hx:a.eval x=.int .i64 (k:Int))
 (h:∀ v' w',O1 Value.string base 9 w' v' (l++List.replicate k qfo)→w.grownBy w' v.ownBlock→wpList Tryz.prog ops Q rest (a.put o.dst v') w'):wpList Tryz.prog ops Q (o::rest) a w:=by
 obtain⟨i0,hi,hz0,hz1,hz2⟩:=info_parts qfy;obtain⟨v',w',hr,h2,h3⟩:=qeQ (P:=Tryz.prog) (enc:=Value.string) (a0:=qfo) w 47 3 o.type 9 i0 _ .i64 Tryz.underlying47 Tryz.underlying3 hi hz0 hz1 a_ rfl rfl hown h0 hlen hbase;exact Lib.wpList_append_run w hgd s x _ _ ho _ _ hs hx v' w' hr (h v' w' h2 h3)
theorem qlg{l:List Bool}(hown:O1 Value.bool base 4 w v l){k:Nat}(h0:0<k)(hlen:l.length+k≤1000)(hbase:base≤w.heap.size)(hgd:o.guard=none){s x:Operand}
 (ho:o.op=.call {callee:=.builtin .append,args:= #[s,x],argTypes:= #[48,3]}) (hs:a.eval s=v) (hx:a.eval x=.int .i64 (k:Int))
 (h:∀ v' w',O1 Value.bool base 4 w' v' (l++List.replicate k false)→w.grownBy w' v.ownBlock→wpList Tryz.prog ops Q rest (a.put o.dst v') w'):wpList Tryz.prog ops Q (o::rest) a w:=by
 obtain⟨i0,hi,hz0,hz1,hz2⟩:=info_parts qeM;obtain⟨v',w',hr,h2,h3⟩:=qeQ (P:=Tryz.prog) (enc:=Value.bool) (a0:=false) w 48 3 o.type 4 i0 _ .i64 Tryz.underlying48 Tryz.underlying3 hi hz0 hz1 a_ rfl rfl hown h0 hlen hbase;exact Lib.wpList_append_run w hgd s x _ _ ho _ _ hs hx v' w' hr (h v' w' h2 h3)
end


theorem qeP(a1 a2 a3 b1 b2 b3:Int)(w:World):
 (binOp .eql 46 (.agg #[.int .i64 a1,.int .i64 a2,.int .i64 a3]) (.agg #[.int .i64 b1,.int .i64 b2,.int .i64 b3])).run Tryz.prog w=.ok (.bool (a1==b1&&a2==b2&&a3==b3)) w:=by
 rw[run_eql_struct,run_equalIn_agg _ _ _ _ _ d_ d_];simp[go_sem];by_cases h1:a1=b1 <;> by_cases h2:a2=b2 <;> by_cases h3:a3=b3 <;> simp[h1,h2,h3]
theorem qaS{W:World}{q:Nat}{x0 x1 x2:Value}{t:TypeId}(h:W.heap[q]? =some (.cells #[x0,x1,x2] t (0,0))):W.cell? ⟨q,0,none⟩=some x0∧W.cell? ⟨q,1,none⟩=some x1∧W.cell? ⟨q,2,none⟩=some x2∧∀ o,W.frozen? ⟨q,o,none⟩=false:=
 ⟨cell_of_row _ _ 0 _ _ _ h,cell_of_row _ _ 1 _ _ _ h,cell_of_row _ _ 2 _ _ _ h,fun o=>am_⟩
theorem qjV{f:Fd}{h:Hd}{l:List Int}{b1 b2 b3 b4 b5 b6:Bool}(h1:qbE f.pub h=b1)(h2:(h.len==0)=b2)(h3:h.same f.hd=b3)(h4:decide (h.len<f.hd.len)=b4)(h5:(h.len==f.hd.len)=b5)(h6:(decide (0<f.hd.len)&& !qbc f.hd.len f.hd.dg h.len h.dg l)=b6):
 qdJ f h l=if !b1||b2 then 4 else if b3 then 1 else if b4 then 2 else if b5 then 3 else if b6 then 4 else 0:=by
 unfold qdJ;rw[←h1,←h2,←h3,←h4,←h5,←h6];simp only[decide_eq_true_eq,beq_iff_eq]
theorem qkD(f:Fd)(h:Hd)(l:List Int)(vb vh lv:Value)(w:World)(hf:qaU w f vb vh)(hl:RI w lv l):
 gV 257 #[.agg #[.int .i64 f.pub,.int .i64 f.hd.len,.int .i64 f.hd.dg,.int .i64 f.hd.sg,vb,vh],.agg #[.int .i64 h.len,.int .i64 h.dg,.int .i64 h.sg],lv] w (.int .i64 (qdJ f h l)):=by
 obtain⟨W0,HW0⟩:=nm_ ((w.alloc (.cells #[.int .i64 f.pub,.int .i64 f.hd.len,.int .i64 f.hd.dg,.int .i64 f.hd.sg,vb,vh] 50)).alloc (.cells #[.int .i64 h.len,.int .i64 h.dg,.int .i64 h.sg] 46));have HB0:Hid (bB w W0):=hI_ r_;have hs0:w.heap.size+2=W0.heap.size:=by rw[←HW0.out];simp
 have HP0:Hid (W0.heap[w.heap.size]? =some (.cells #[.int .i64 f.pub,.int .i64 f.hd.len,.int .i64 f.hd.dg,.int .i64 f.hd.sg,vb,vh] 50 (0,0))):=hI_ (by
  rw[←HW0.out];exact(((bR_ (w.heap.size+1) _).alloc k_ _).block w.heap.size a_).trans (heap_alloc_new w _))
 have HZ0:Hid (W0.heap[w.heap.size+1]? =some (.cells #[.int .i64 h.len,.int .i64 h.dg,.int .i64 h.sg] 46 (0,0))):=hI_ (by
  rw[←HW0.out];have:=heap_alloc_new (w.alloc (.cells #[.int .i64 f.pub,.int .i64 f.hd.len,.int .i64 f.hd.dg,.int .i64 f.hd.sg,vb,vh] 50)) (.cells #[.int .i64 h.len,.int .i64 h.dg,.int .i64 h.sg] 46);simpa using this)
 have HLR:Hid (RI W0 lv l):=hI_ (hl.below HB0.out);have hl0:w.heap.size<W0.heap.size:=a_;have hl1:w.heap.size+1<W0.heap.size:=a_;obtain⟨A,c,rfl,_,_,_⟩:=hf.bl;obtain⟨B,d,rfl,_,_,_⟩:=hf.hv;obtain⟨C,k,rfl,_,_,_⟩:=hl;clear hf;obtain⟨x0,x1,x2,x3,x4,x5,xf⟩:=qaa HP0.out;obtain⟨y0,y1,y2,yf⟩:=qaS HZ0.out;obtain⟨b1,H1⟩:=nm_ (qbE f.pub h);obtain⟨b2,H2⟩:=nm_ ((h.len==0));obtain⟨b3,H3⟩:=nm_ (h.same f.hd);obtain⟨b4,H4⟩:=nm_ (decide (h.len<f.hd.len));obtain⟨b5,H5⟩:=nm_ ((h.len==f.hd.len));obtain⟨b7,H7⟩:=nm_ (decide (0<f.hd.len));obtain⟨b8,H8⟩:=nm_ (qbc f.hd.len f.hd.dg h.len h.dg l);have HR:Hid (qdJ f h l=if !b1||b2 then 4 else if b3 then 1 else if b4 then 2 else if b5 then 3 else if (b7&& !b8) then 4 else 0):=
  hI_ (qjV H1.out H2.out H3.out H4.out H5.out (by rw[H7.out,H8.out]))
 have HEQ:Hid (∀ w:World,(binOp .eql 46 (.agg #[.int .i64 h.len,.int .i64 h.dg,.int .i64 h.sg]) (.agg #[.int .i64 f.hd.len,.int .i64 f.hd.dg,.int .i64 f.hd.sg])).run Tryz.prog w=.ok (.bool b3) w):=
  hI_ (fun w=>by rw[qeP,←H3.out];rfl)
 rw[HR.out];go_enter Tryz.func257,Tryz.ntmps257
 go_wp2_with fail
 rw[HW0.out];refine(qbq H1 W0).mono ?_;rintro e w1 ⟨rfl,hb1⟩;clear x0 x1 x2 x3 x4 x5 xf y0 y1 y2 yf;obtain⟨x0,x1,x2,x3,x4,x5,xf⟩:=qaa ((hb1.block _ hl0).trans HP0.out);obtain⟨y0,y1,y2,yf⟩:=qaS ((hb1.block _ hl1).trans HZ0.out);have hb01:=hI_ (HB0.out.trans (hb1.mono (Nat.le_of_lt hl0)));have HL1:=hI_ (HLR.out.below hb1);clear hb1;cases b1
 · go_wp2
   go_ret;exact⟨rfl,hb01.out⟩
 cases b2
 rotate_left
 · have e2:=H2.out;go_wp2
   go_ret;exact⟨rfl,hb01.out⟩
 have e2:=H2.out;have e3:=HEQ.out;cases b3
 rotate_left
 · go_wp2
   go_ret;exact⟨rfl,hb01.out⟩
 have e4:=H4.out;cases b4
 rotate_left
 · go_wp2
   go_ret;exact⟨rfl,hb01.out⟩
 have e5:=H5.out;cases b5
 rotate_left
 · go_wp2
   go_ret;exact⟨rfl,hb01.out⟩
 have e7:=H7.out;cases b7
 · go_wp2
   go_ret;exact⟨rfl,hb01.out⟩
 cases b8
 iterate 2
  · go_wp2_with (go_at_call 276;refine(qeC H8 _ _ HL1.out).mono ?_;rintro e w2 ⟨rfl,hb2⟩)
    go_ret;exact⟨rfl,hb01.out.trans (hb2.mono hb01.out.size)⟩
end Go.Proofs.YtekaaekpdebloaaGreatDoor

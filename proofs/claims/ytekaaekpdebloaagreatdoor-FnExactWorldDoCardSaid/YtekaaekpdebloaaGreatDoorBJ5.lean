/- Words and walks of the law. -/
import Derived.Test.YtekaaekpdebloaaGreatDoorBG5
set_option linter.unusedVariables false
set_option linter.unusedSimpArgs false
set_option maxHeartbeats 12800000
set_option maxRecDepth 100000
namespace Go.Proofs.YtekaaekpdebloaaGreatDoor
open Go.RowKit

section
variable {N n:Nat} {w w':World} {v:Value} {F:Nat→Value}
def RN(N:Nat)(w:World)(v:Value)(n:Nat)(F:Nat→Value):Prop:=
 ∃ (A:Option Addr) (c:Nat),v=.slice A n c∧(n≤c∧(A=none→c=0))∧c≤maxLen∧
  (0<n→∃ b o,A=some ⟨b,o,none⟩∧b<w.heap.size∧∀ t,t<n*N→w.cell? ⟨b,o+t,none⟩=some (F t))
theorem RN.keep(h:RN N w v n F)(hs:w.heap.size≤w'.heap.size)(hk:∀ p:Addr,p.block<w.heap.size→w'.cell? p=w.cell? p):RN N w' v n F:=by
 obtain⟨A,c,hv,h1,h2,h3⟩:=h;refine⟨A,c,hv,h1,h2,fun hl=> ?_⟩;obtain⟨b,o,hA,hb,hc⟩:=h3 hl;exact⟨b,o,hA,a_,fun t ht=>(hk _ hb).trans (hc t ht)⟩
theorem RN.below(h:RN N w v n F)(hb:bB w w'):RN N w' v n F:=h.keep hb.size fun _ hp=>hb.cell hp
theorem RN.len(h:RN N w v n F):n≤maxLen:=by obtain⟨_,_,_,h1,h2,_⟩:=h;omega
theorem RN.sl(h:RN N w v n F):∃ A c,v=.slice A n c:=by obtain⟨A,c,h,_⟩:=h;exact⟨A,c,h⟩
theorem RN.nil(w:World):RN N w (.slice none 0 0) 0 F:=⟨none,0,rfl,⟨nr_ _,fun _=>rfl⟩,s_,fun h=>by simp at h⟩
def ON(N B:Nat)(e:TypeId)(w:World)(v:Value)(n:Nat)(F:Nat→Value):Prop:=w.ownsRow B e N v n ((List.range (n*N)).map F)
variable {B:Nat} {e:TypeId}
theorem ON.nil:ON N B e w (.slice none 0 0) 0 F:=⟨k_,.inl ⟨rfl,rfl⟩⟩
theorem ON.congr{F':Nat→Value}(h:ON N B e w v n F)(hF:∀ t,t<n*N→F t=F' t):ON N B e w v n F':=by
 unfold ON at h ⊢;rwa[List.map_congr_left (fun t ht=>hF t (List.mem_range.1 ht))] at h
theorem ON.below(h:ON N B e w v n F)(hb:bB w w'):ON N B e w' v n F:=by
 refine⟨h.1,?_⟩;rcases h.2 with hn|⟨g,cap,cur,hv,hg,hh,r⟩
 · exact .inl hn
 · exact .inr ⟨g,cap,cur,hv,hg,(hb.block g (Array.getElem?_eq_some_iff.1 hh).1).trans hh,r⟩
theorem ON.mono{B':Nat}(h:ON N B e w v n F)(hB:B'≤B):ON N B' e w v n F:=by
 refine⟨h.1,?_⟩;rcases h.2 with hn|⟨g,cap,cur,hv,hg,hh,r⟩
 · exact .inl hn
 · exact .inr ⟨g,cap,cur,hv,a_,hh,r⟩
theorem ON.lt(h:ON N B e w v n F):∀ k,v.ownBlock=some k→B≤k∧k<w.heap.size:=World.ownsRow.lt h
theorem ON.grown{row:Option Nat}(h:ON N B e w v n F)(hg:w.grownBy w' row)(hd:v.ownBlock=none∨v.ownBlock≠row):ON N B e w' v n F:=World.ownsRow.kept h hg hd
theorem ON.form(h:ON N B e w v n F)(hn:0<n):∃ g cap,v=.slice (some ⟨g,0,none⟩) n cap∧B≤g∧g<w.heap.size:=by
 rcases h.2 with⟨_,h0⟩|⟨g,cap,cur,hv,hg,hh,_⟩
 · omega
 · exact⟨g,cap,hv,hg,(Array.getElem?_eq_some_iff.1 hh).1⟩
theorem ON.rn(h:ON N B e w v n F):RN N w v n F:=by
 obtain⟨h1,h2⟩:=h;rcases h2 with⟨rfl,rfl⟩|⟨g,cap,cur,rfl,hg,hh,hn,hc,hs,ht⟩
 · exact RN.nil w
 · refine⟨_,cap,rfl,⟨hn,fun h=>aj_⟩,hc,fun _=>⟨g,0,rfl,(Array.getElem?_eq_some_iff.1 hh).1,fun t hlt=> ?_⟩⟩;rw[Nat.zero_add,cell_of_row w g t cur e (0,0) hh];have h3:((List.range (n*N)).map F)[t]? =some (F t):=by simp[hlt]
   rw[←ht,List.getElem?_take] at h3;split at h3
   · simpa using h3
   · exact absurd hlt (by assumption)
theorem ON.at_{g cap:Nat}(h:ON N B e w (.slice (some ⟨g,0,none⟩) n cap) n F){t:Nat}(hlt:t<n*N):w.cell? ⟨g,t,none⟩=some (F t)∧w.frozen? ⟨g,t,none⟩=false:=by
 obtain⟨h1,h2⟩:=h;rcases h2 with⟨hv,_⟩|⟨g',cap',cur,hv,hg,hh,hn,hc,hs,ht⟩
 · cases hv
 · cases hv
   refine⟨?_,by simp[World.frozen?,hh]⟩;rw[cell_of_row w g t cur e (0,0) hh];have h3:((List.range (n*N)).map F)[t]? =some (F t):=by simp[hlt]
   rw[←ht,List.getElem?_take] at h3;split at h3
   · simpa using h3
   · exact absurd hlt (by assumption)
theorem ON.setAt{g cap:Nat}(h:ON N B e w (.slice (some ⟨g,0,none⟩) n cap) n F){t:Nat}(hlt:t<n*N)(x:Value):
 ON N B e (w.setCell ⟨g,t,none⟩ x) (.slice (some ⟨g,0,none⟩) n cap) n (fun s=>if s=t then x else F s)∧w.grownBy (w.setCell ⟨g,t,none⟩ x) (some g):=by
 refine⟨?_,⟨rfl,rfl,rfl,a0_,fun k _ hk=>Below.heap_setCell w ⟨g,t,none⟩ _ k (fun e=>hk (by rw[e]))⟩⟩;obtain⟨h1,h2⟩:=h;rcases h2 with⟨hv,_⟩|⟨g',cap',cur,hv,hg,hh,hn,hc,hs,ht⟩
 · cases hv
 · injection hv with e1 e2 e3
   injection e1 with e1
   injection e1 with e1 _ _
   subst e1 e3;refine⟨k_,.inr ⟨g,cap,cur.setIfInBounds t x,k_,hg,?_,aY_,hc,by simpa using hs,?_⟩⟩
   · simp[World.setCell,Array.getElem?_modify,hh]
   · rw[Array.toList_setIfInBounds,List.take_set,ht];apply List.ext_getElem?;intro s;rw[List.getElem?_set];by_cases hst:t=s
     · subst hst;simp[hlt]
     · rw[if_neg hst];by_cases hs2:s<n*N
       · simp[hs2,if_neg (fun h:s=t=>hst h.symm)]
       · simp[hs2]
end

def Em(v:Value):Prop:=∃ A c,v=.slice A 0 c∧(A=none→c=0)∧c≤maxLen
theorem Em.none:Em (.slice none 0 0):=⟨_,_,rfl,fun _=>rfl,s_⟩
theorem Em.r1{α:Type}{enc:α→Value}{v:Value}(h:Em v)(w:World):R1 enc w v []:=by
 obtain⟨A,c,rfl,h1,h2⟩:=h;exact⟨A,c,rfl,⟨Nat.zero_le _,h1⟩,h2,fun h=>by simp at h⟩
theorem R1.em{α:Type}{enc:α→Value}{v:Value}{w:World}(h:R1 enc w v []):Em v:=by
 obtain⟨A,c,rfl,h1,h2,_⟩:=h;exact⟨A,c,rfl,h1.2,h2⟩

def qa6(w:World)(v:Value)(fs:List Fd):Prop:=
 ∃ F,RN 6 w v fs.length F∧∀ j (hj:j<fs.length),F (j*6)=.int .i64 fs[j].pub∧F (j*6+1)=.int .i64 fs[j].hd.len∧F (j*6+2)=.int .i64 fs[j].hd.dg∧F (j*6+3)=.int .i64 fs[j].hd.sg∧qaU w fs[j] (F (j*6+4)) (F (j*6+5))
theorem qaU.below'{w w':World}{f:Fd}{a b:Value}(h:qaU w f a b)(hb:bB w w'):qaU w' f a b:=⟨h.bl.below hb,h.hv.below hb⟩
theorem qa6.below{w w':World}{v:Value}{fs:List Fd}(h:qa6 w v fs)(hb:bB w w'):qa6 w' v fs:=by
 obtain⟨F,h1,h2⟩:=h;exact⟨F,h1.below hb,fun j hj=>⟨(h2 j hj).1,(h2 j hj).2.1,(h2 j hj).2.2.1,(h2 j hj).2.2.2.1,(h2 j hj).2.2.2.2.below' hb⟩⟩
theorem qa6.sl{w:World}{v:Value}{fs:List Fd}(h:qa6 w v fs):∃ A c,v=.slice A fs.length c:=by obtain⟨F,h1,_⟩:=h;exact h1.sl
theorem qa6.len{w:World}{v:Value}{fs:List Fd}(h:qa6 w v fs):fs.length≤maxLen:=by obtain⟨F,h1,_⟩:=h;exact h1.len
theorem qa6.at_{w:World}{A:Option Addr}{n c:Nat}{fs:List Fd}(h:qa6 w (.slice A n c) fs){j:Nat}(hj:j<fs.length):
 ∃ b o x y,A=some ⟨b,o,none⟩∧b<w.heap.size∧w.cell? ⟨b,o+j*6,none⟩=some (.int .i64 fs[j].pub)∧w.cell? ⟨b,o+j*6+1,none⟩=some (.int .i64 fs[j].hd.len)∧w.cell? ⟨b,o+j*6+2,none⟩=some (.int .i64 fs[j].hd.dg)∧w.cell? ⟨b,o+j*6+3,none⟩=some (.int .i64 fs[j].hd.sg)∧w.cell? ⟨b,o+j*6+4,none⟩=some x∧w.cell? ⟨b,o+j*6+5,none⟩=some y∧qaU w fs[j] x y:=by
 obtain⟨F,⟨A',c',he,h1,h2,h3⟩,h4⟩:=h;obtain⟨rfl,rfl,rfl⟩:A=A'∧n=fs.length∧c=c':=by injection he with a b c;exact⟨a,b,c⟩
 obtain⟨b,o,hA,hb,hc⟩:=h3 a_;obtain⟨f0,f1,f2,f3,f4⟩:=h4 j hj;refine⟨b,o,_,_,hA,hb,?_,?_,?_,?_,?_,?_,f4⟩
 · rw[hc _ a_,f0]
 · rw[Nat.add_assoc,hc _ a_,f1]
 · rw[Nat.add_assoc,hc _ a_,f2]
 · rw[Nat.add_assoc,hc _ a_,f3]
 · rw[Nat.add_assoc,hc _ a_]
 · rw[Nat.add_assoc,hc _ a_]

def qn2(w:World)(v:Value)(n:Nat):Prop:=∃ F,RN 1 w v n F∧∀ j,j<n→Em (F j)
theorem qn2.below{w w':World}{v:Value}{n:Nat}(h:qn2 w v n)(hb:bB w w'):qn2 w' v n:=by obtain⟨F,h1,h2⟩:=h;exact⟨F,h1.below hb,h2⟩
theorem qn2.sl{w:World}{v:Value}{n:Nat}(h:qn2 w v n):∃ A c,v=.slice A n c:=by obtain⟨F,h1,_⟩:=h;exact h1.sl
theorem qn2.len{w:World}{v:Value}{n:Nat}(h:qn2 w v n):n≤maxLen:=by obtain⟨F,h1,_⟩:=h;exact h1.len
theorem qn2.keep{w w':World}{v:Value}{n:Nat}(h:qn2 w v n)(hs:w.heap.size≤w'.heap.size)(hk:∀ b o,some b=v.ownBlock→w'.cell? ⟨b,o,none⟩=w.cell? ⟨b,o,none⟩):qn2 w' v n:=by
 obtain⟨F,⟨A,c,rfl,h1,h2,h3⟩,h4⟩:=h;refine⟨F,⟨A,c,rfl,h1,h2,fun hn=> ?_⟩,h4⟩;obtain⟨b,o,rfl,hb,hc⟩:=h3 hn;exact⟨b,o,rfl,a_,fun t ht=>(hk b (o+t) rfl).trans (hc t ht)⟩
theorem qn2.at_{w:World}{A:Option Addr}{m c n:Nat}(h:qn2 w (.slice A m c) n){j:Nat}(hj:j<n):∃ b o x d,A=some ⟨b,o,none⟩∧b<w.heap.size∧w.cell? ⟨b,o+j,none⟩=some (.slice x 0 d):=by
 obtain⟨F,⟨A',c',he,h1,h2,h3⟩,h4⟩:=h;obtain⟨rfl,rfl,rfl⟩:A=A'∧m=n∧c=c':=by injection he with a b c;exact⟨a,b,c⟩
 obtain⟨b,o,hA,hb,hc⟩:=h3 a_;obtain⟨x,d,hx,-,-⟩:=h4 j hj;exact⟨b,o,x,d,hA,hb,by rw[hc j a_,hx]⟩
theorem qjM{P:Program}{ops:Array Oper}{rest:List Oper}{o:Oper}{a:Act}{Q:Exit→Act→World→Prop}{w:World}(t e size bytes:Nat)(i:TypeInfo)(z:Value)
 (ht:P.underlying t=some (.slice e)) (hi:P.info? e=some i) (hz:i.zero=some z) (hsize:i.size=size) (hby:i.bytes=bytes) (hzs:z.cells.size=size) (hsz:0<size) (hb100:bytes≤1000)
 {base:Nat} {v:Value} {n:Nat} {xs:List Value} (hown:w.ownsRow base e size v n xs) (hn:n≤100000000000) (hbase:base≤w.heap.size)
 {cur:Array Value} (hgd:o.guard=none) {s x:Operand} (ho:o.op=.call {callee:=.builtin .append,args:= #[s,x],argTypes:= #[t,t]})
 (hs:a.eval s=v) (hx:a.eval x=.slice (some ⟨w.heap.size,0,none⟩) 1 1) (hl:cur.size=size) (h1:∀ u ∈ cur.toList,u.oneCell'=true)
 (h:∀ v' w',w'.ownsRow base e size v' (n+1) (xs++cur.toList)→w.grownBy w' v.ownBlock→wpList P ops Q rest (a.put o.dst v') w'):wpList P ops Q (o::rest) a (w.alloc (.cells cur e)):=by
 have hbd:(n+1)*bytes≤100000000001*1000:=Nat.mul_le_mul a_ hb100;refine wpList_append_own _ hgd s x t ho base e i z size bytes ht hi hz hsize hby hzs hsz v n xs hs
  (hown.alloc _) ⟨w.heap.size,0,none⟩ 1 1 cur.toList hx (by simp[hl]) (fun j u hu=> ?_) h1 s_ a_ n_ ?_
 · have hadd:(⟨w.heap.size,0,none⟩:Addr).add j=⟨w.heap.size,j,none⟩:=by unfold Addr.add;split <;> simp_all
   rw[hadd,cell_of_row _ w.heap.size j cur e (0,0) (heap_alloc_new w _)];simpa using hu
 · intro v' w' h2 h3 _;exact h v' w' h2 (qat (qaP ((bR_ _ _).alloc (nr_ _) _)) h3)
theorem ON.ne_{N N' B1 B2 n n':Nat}{t1 t2:TypeId}{w:World}{v1 v2:Value}{F G:Nat→Value}(h1:ON N B1 t1 w v1 n F)(h2:ON N' B2 t2 w v2 n' G)(ht:t1≠t2):v1.ownBlock=none∨v1.ownBlock≠v2.ownBlock:=by
 rcases h1.2 with⟨rfl,_⟩|⟨k,cap,cur,rfl,hk,hh,r⟩
 · exact .inl rfl
 · refine .inr fun he=> ?_;rcases h2.2 with⟨rfl,_⟩|⟨k2,cap2,cur2,rfl,hk2,hh2,r2⟩
   · cases he
   · cases he
     rw[hh] at hh2;cases hh2
     exact ht rfl
theorem qfU:(Tryz.prog.info? 50).map (fun i=>(i.zero,i.size,i.bytes))=some (some (.agg #[.int .i64 0,.int .i64 0,.int .i64 0,.int .i64 0,.slice none 0 0,.slice none 0 0]),6,80):=by kernel_rfl
theorem qeL:(Tryz.prog.info? 54).map (fun i=>(i.zero,i.size,i.bytes))=some (some (.slice none 0 0),1,24):=by kernel_rfl
def qiL(N n:Nat)(F:Nat→Value)(cur:List Value)(t:Nat):Value:=if t<n*N then F t else cur.getD (t-n*N) (.slice none 0 0)
theorem ON.push{N B n:Nat}{e:TypeId}{w:World}{v:Value}{F:Nat→Value}{cur:List Value}(h:w.ownsRow B e N v (n+1) ((List.range (n*N)).map F++cur))(hc:cur.length=N):ON N B e w v (n+1) (qiL N n F cur):=by
 have he:(List.range ((n+1)*N)).map (qiL N n F cur)=(List.range (n*N)).map F++cur:=by
  rw[Nat.succ_mul,List.range_add,List.map_append,List.map_map];congr 1
  · apply List.map_congr_left;intro t ht;unfold qiL;rw[if_pos (List.mem_range.1 ht)]
  · apply List.ext_getElem (by simp[hc]);intro s h1 h2;simp[qiL,List.getD_eq_getElem?_getD,h2];intro h;omega
 unfold ON;rw[he];exact h
def qjJ(p:Int)(n:Nat)(F:Nat→Value):Prop:=∀ j,j<n→F (j*6)=.int .i64 p∧F (j*6+1)=.int .i64 0∧F (j*6+2)=.int .i64 0∧F (j*6+3)=.int .i64 0∧Em (F (j*6+4))∧Em (F (j*6+5))
theorem qjJ.push{p:Int}{n:Nat}{F:Nat→Value}{x y:Value}(h:qjJ p n F)(hx:Em x)(hy:Em y):qjJ p (n+1) (qiL 6 n F [.int .i64 p,.int .i64 0,.int .i64 0,.int .i64 0,x,y]):=by
 intro j hj;unfold qiL;by_cases hlt:j<n
 · rw[if_pos a_,if_pos a_,if_pos a_,if_pos a_,if_pos a_,if_pos a_];exact h j hlt
 · obtain rfl:j=n:=a_;rw[if_neg a_,if_neg a_,if_neg a_,if_neg a_,if_neg a_,if_neg a_];rw[Nat.sub_self,Nat.add_sub_cancel_left,Nat.add_sub_cancel_left,Nat.add_sub_cancel_left,Nat.add_sub_cancel_left,Nat.add_sub_cancel_left];exact⟨rfl,rfl,rfl,rfl,hx,hy⟩
theorem qjJ.zero{p:Int}{F:Nat→Value}:qjJ p 0 F:=fun _ h=>by omega
def qk0(n:Nat)(F:Nat→Value):Prop:=∀ j,j<n→Em (F j)
theorem qk0.push{n:Nat}{F:Nat→Value}{x:Value}(h:qk0 n F)(hx:Em x):qk0 (n+1) (qiL 1 n F [x]):=by
 intro j hj;unfold qiL;by_cases hlt:j<n
 · rw[if_pos a_];exact h j hlt
 · obtain rfl:j=n:=a_;rw[if_neg a_,Nat.mul_one,Nat.sub_self];exact hx
theorem qk0.zero{F:Nat→Value}:qk0 0 F:=fun _ h=>by omega
theorem qjJ.feeds{p:Int}{n:Nat}{F:Nat→Value}{w:World}{v:Value}(h:qjJ p n F)(hr:RN 6 w v n F):qa6 w v (List.replicate n ⟨p,Hd.zero,[],[]⟩):=by
 refine⟨F,by rw[List.length_replicate];exact hr,fun j hj=> ?_⟩;rw[List.length_replicate] at hj;rw[List.getElem_replicate];obtain⟨h0,h1,h2,h3,h4,h5⟩:=h j hj;exact⟨h0,h1,h2,h3,⟨h4.r1 w,h5.r1 w⟩⟩

section
variable {ops:Array Oper} {rest:List Oper} {o:Oper} {a:Act} {Q:Exit→Act→World→Prop} {w:World} {base:Nat} {v:Value}
theorem qmv{p:Int}{n:Nat}{F:Nat→Value}{x y:Value}(hown:ON 6 base 50 w v n F)(hF:qjJ p n F)(hx':Em x)(hy':Em y)(hn:n≤100000000000)(hbase:base≤w.heap.size)(hgd:o.guard=none){s u:Operand}
 (ho:o.op=.call {callee:=.builtin .append,args:= #[s,u],argTypes:= #[23,23]}) (hs:a.eval s=v) {g:Nat} (hu:a.eval u=.slice (some ⟨g,0,none⟩) 1 1) (hg:g=w.heap.size)
 (h:∀ A c w' F',ON 6 base 50 w' (.slice A (n+1) c) (n+1) F'→qjJ p (n+1) F'→w.grownBy w' v.ownBlock→Below base w w'→wpList Tryz.prog ops Q rest (a.put o.dst (.slice A (n+1) c)) w'):
 wpList Tryz.prog ops Q (o::rest) a (w.alloc (.cells #[.int .i64 p,.int .i64 0,.int .i64 0,.int .i64 0,x,y] 50)):=by
 subst hg;obtain⟨i0,hi,hz0,hz1,hz2⟩:=info_parts qfU;obtain⟨xA,xc,rfl,e1,e2⟩:=hx';obtain⟨yA,yc,rfl,e3,e4⟩:=hy';refine qjM 23 50 6 80 i0 _ Tryz.underlying23 hi hz0 hz1 hz2 rfl a_ a_ hown hn hbase hgd ho hs hu rfl (by simp;exact⟨rfl,rfl,rfl,rfl⟩) fun v' w' h2 h3=> ?_;have h4:=ON.push h2 rfl;obtain⟨A,c,rfl⟩:=h4.rn.sl;exact h A c w' _ h4 (hF.push ⟨_,_,rfl,e1,e2⟩ ⟨_,_,rfl,e3,e4⟩) h3 ((bR_ _ _).grown h3 hbase (fun k hk=>(hown.lt k hk).1))
theorem qnw{n:Nat}{F:Nat→Value}{x:Value}(hown:ON 1 base 54 w v n F)(hF:qk0 n F)(hx':Em x)(hn:n≤100000000000)(hbase:base≤w.heap.size)(hgd:o.guard=none){s u:Operand}
 (ho:o.op=.call {callee:=.builtin .append,args:= #[s,u],argTypes:= #[25,25]}) (hs:a.eval s=v) {g:Nat} (hu:a.eval u=.slice (some ⟨g,0,none⟩) 1 1) (hg:g=w.heap.size)
 (h:∀ A c w' F',ON 1 base 54 w' (.slice A (n+1) c) (n+1) F'→qk0 (n+1) F'→w.grownBy w' v.ownBlock→Below base w w'→wpList Tryz.prog ops Q rest (a.put o.dst (.slice A (n+1) c)) w'):
 wpList Tryz.prog ops Q (o::rest) a (w.alloc (.cells #[x] 54)):=by
 subst hg;obtain⟨i0,hi,hz0,hz1,hz2⟩:=info_parts qeL;obtain⟨xA,xc,rfl,e1,e2⟩:=hx';refine qjM 25 54 1 24 i0 _ Tryz.underlying25 hi hz0 hz1 hz2 rfl a_ a_ hown hn hbase hgd ho hs hu rfl (by simp;rfl) fun v' w' h2 h3=> ?_;have h4:=ON.push h2 rfl;obtain⟨A,c,rfl⟩:=h4.rn.sl;exact h A c w' _ h4 (hF.push ⟨_,_,rfl,e1,e2⟩) h3 ((bR_ _ _).grown h3 hbase (fun k hk=>(hown.lt k hk).1))
end

theorem qcr{s p:Int}(h:Hid (qhr s=p))(w:World):gS 154 #[.int .i64 s] w (.int .i64 p):=by
 rw[←h.out];exact qhQ s w
theorem qki{p:Int}(hk:Hid (key p=true))(w:World):Calls Tryz.prog 125 #[.int .i64 p] w fun e w'=>∃ x y,e=.returned (.tuple #[.agg #[.int .i64 p,.int .i64 0,.int .i64 0,.int .i64 0,x,y],.bool true])∧Em x∧Em y∧bB w w':=by
 refine(qk4 p w).mono ?_;rintro e w' ⟨x,y,rfl,ho,hb⟩;have hf:(qnk p).pub=p:=by unfold qnk;rw[hk.out];rfl
 rw[hf,hk.out];exact⟨x,y,rfl,R1.em ho.bl.r1,R1.em ho.hv.r1,hb⟩
theorem qfw{s:Int}(h:key s=true):key (qhr s)=true:=by
 obtain⟨h1,h2⟩:=qcd.1 h;unfold qhr;rw[h,qcd];simp only[if_true];omega

def qfb(s n b:Int):Bool:=key s&&inB n 1 6&&(b== -1||inB b 1 (n-1))
theorem qej{s n b:Int}{r:Bool}(h:Hid (qfb s n b=r))(w:World):gS 69 #[.int .i64 s,.int .i64 n,.int .i64 b] w (.bool r):=by
 obtain⟨b1,H1⟩:=nm_ (key s);obtain⟨b2,H2⟩:=nm_ (inB n 1 6);obtain⟨b3,H3⟩:=nm_ (inB b 1 (n-1));have hr:(b1&&b2&&(b== -1||b3))=r:=by rw[←H1.out,←H2.out,←H3.out,←h.out];rfl
 subst hr;cases b1
 · go_enter Tryz.func69,Tryz.ntmps69
   go_wp2_with (go_at_call 149;refine(qbK H1 _).mono ?_;rintro e w' ⟨rfl,rfl⟩)
   go_ret;exact⟨rfl,rfl⟩
 cases b2
 · go_enter Tryz.func69,Tryz.ntmps69
   go_wp2_with (first
    |(go_at_call 149;refine(qbK H1 _).mono ?_;rintro e w' ⟨rfl,rfl⟩)
    |(go_at_call 113;refine(qbe H2 _).mono ?_;rintro e w' ⟨rfl,rfl⟩))
   go_ret;exact⟨rfl,rfl⟩
 have hn:=qak.1 H2.out;by_cases hb:b= -1
 · subst hb;go_enter Tryz.func69,Tryz.ntmps69
   go_wp2_with (first
    |(go_at_call 149;refine(qbK H1 _).mono ?_;rintro e w' ⟨rfl,rfl⟩)
    |(go_at_call 113;refine(qbe H2 _).mono ?_;rintro e w' ⟨rfl,rfl⟩))
   go_ret;exact⟨rfl,rfl⟩
 · have hb':(b== -1)=false:=by rw[beq_eq_false_iff_ne];exact hb
   rw[hb'];go_enter Tryz.func69,Tryz.ntmps69
   go_wp2_with (first
    |(go_at_call 149;refine(qbK H1 _).mono ?_;rintro e w' ⟨rfl,rfl⟩)
    |(go_at_call_of 113 (Value.int .i64 b);refine(qbe H3 _).mono ?_;rintro e w' ⟨rfl,rfl⟩)
    |(go_at_call 113;refine(qbe H2 _).mono ?_;rintro e w' ⟨rfl,rfl⟩))
   go_ret;exact⟨rfl,rfl⟩
def qns(ok:Bool)(n:Nat)(s b p:Int)(w:World)(e:Ending)(w':World):Prop:=
 ∃ vF vL vA vN F G,e=.returned (.tuple #[.agg #[.int .i64 s,.int .i64 b,vF,vL,vA,vN],.bool ok])∧ON 6 w.heap.size 50 w' vF n F∧qjJ p n F∧ON 1 w.heap.size 54 w' vA n G∧qk0 n G∧Em vL∧Em vN∧bB w w'
theorem qeE{s n b:Int}(h:Hid (qfb s n b=false))(w:World):Calls Tryz.prog 55 #[.int .i64 s,.int .i64 n,.int .i64 b] w (qns false 0 0 0 0 w):=by
 obtain⟨b1,H1⟩:=nm_ (key s);obtain⟨b2,H2⟩:=nm_ (inB n 1 6);obtain⟨b3,H3⟩:=nm_ (inB b 1 (n-1));have hr:(b1&&b2&&(b== -1||b3))=false:=by rw[←H1.out,←H2.out,←H3.out,←h.out];rfl
 have fin:∀ e w',(e=.returned (.tuple #[.agg #[.int .i64 0,.int .i64 0,.slice none 0 0,.slice none 0 0,.slice none 0 0,.slice none 0 0],.bool false])∧bB w w')→qns false 0 0 0 0 w e w':=by
  rintro e w' ⟨rfl,hb⟩;exact⟨_,_,_,_,fun _=>.int .i64 0,fun _=>.int .i64 0,rfl,ON.nil,qjJ.zero,ON.nil,qk0.zero,Em.none,Em.none,hb⟩
 have HFI:=hI_ fin;clear fin;cases b1
 · go_enter Tryz.func55,Tryz.ntmps55
   go_wp2_with (go_at_call 123;refine(qbS H1 _).mono ?_;rintro e w' ⟨rfl,rfl⟩)
   exact bodyPost_ret (v:=.tuple #[.agg #[.int .i64 0,.int .i64 0,.slice none 0 0,.slice none 0 0,.slice none 0 0,.slice none 0 0],.bool false]) b8_ rfl
    (HFI.out _ _ ⟨rfl,z_⟩)
 cases b2
 · go_enter Tryz.func55,Tryz.ntmps55
   go_wp2_with (first
    |(go_at_call 123;refine(qbS H1 _).mono ?_;rintro e w' ⟨rfl,rfl⟩)
    |(go_at_call 124;refine(qbG H2 _).mono ?_;rintro e w' ⟨rfl,rfl⟩))
   exact bodyPost_ret (v:=.tuple #[.agg #[.int .i64 0,.int .i64 0,.slice none 0 0,.slice none 0 0,.slice none 0 0,.slice none 0 0],.bool false]) b8_ rfl
    (HFI.out _ _ ⟨rfl,z_⟩)
 have hn:=qak.1 H2.out;have hb':(b== -1)=false:=by cases h1:(b== -1) <;> simp_all
 have hbn:(b != -1)=true:=by unfold bne;rw[hb'];rfl
 have hb3:b3=false:=by cases b3 <;> simp_all
 subst hb3;go_enter Tryz.func55,Tryz.ntmps55
 go_wp2_with (first
  |(go_at_call 123;refine(qbS H1 _).mono ?_;rintro e w' ⟨rfl,rfl⟩)
  |(go_at_call_of 124 (Value.int .i64 b);refine(qbG H3 _).mono ?_;rintro e w' ⟨rfl,rfl⟩)
  |(go_at_call 124;refine(qbG H2 _).mono ?_;rintro e w' ⟨rfl,rfl⟩))
 exact bodyPost_ret (v:=.tuple #[.agg #[.int .i64 0,.int .i64 0,.slice none 0 0,.slice none 0 0,.slice none 0 0,.slice none 0 0],.bool false]) b8_ rfl
  (HFI.out _ _ ⟨rfl,z_⟩)
theorem ON.setb{N B n:Nat}{e:TypeId}{w:World}{v:Value}{F:Nat→Value}(h:ON N B e w v n F){p:Addr}(hp:p.block<B)(u:Value):ON N B e (w.setCell p u) v n F:=
 h.grown (qaR w p u) (.inr (fun e=>by have:=(h.lt _ e).1;omega))
theorem qb5{s b:Int}{N:Nat}(h:qfb s N b=true):key s=true∧1≤N∧N≤6∧inB (N:Int) 1 6=true∧(b= -1∨inB b 1 ((N:Int)-1)=true):=by
 unfold qfb at h;simp only[Bool.and_eq_true,Bool.or_eq_true,beq_iff_eq] at h;obtain⟨⟨h1,h2⟩,h3⟩:=h;have:=qak.1 h2;exact⟨h1,a_,a_,h2,h3⟩
theorem Em.made(g:Nat):Em (.slice (Option.some ⟨g,0,Option.none⟩) 0 0):=⟨_,_,rfl,(fun h=>aj_),s_⟩
theorem qdu{s b:Int}{N:Nat}(h:Hid (qfb s N b=true))(w:World):Calls Tryz.prog 55 #[.int .i64 s,.int .i64 (N:Int),.int .i64 b] w (qns true N s b (qhr s) w):=by
 obtain⟨hks,hN1,hN6,hi2,hb3⟩:=qb5 h.out;obtain⟨p,HP⟩:=nm_ (qhr s);have HK:Hid (key p=true):=hI_ (by rw[←HP.out];exact qfw hks);have H1:=hI_ hks;have H2:=hI_ hi2;rw[HP.out];clear hks hi2 h;obtain⟨W2,HW2⟩:=nm_ ((((w.alloc (.cells #[.int .i64 0,.int .i64 0,.slice none 0 0,.slice none 0 0,.slice none 0 0,.slice none 0 0] 28)).alloc (.cells #[] 99)).alloc (.cells #[] 57)).alloc (.cells #[.int .i64 s,.int .i64 b,.slice none 0 0,.slice (some ⟨w.heap.size+1,0,none⟩) 0 0,.slice none 0 0,.slice (some ⟨w.heap.size+1+1,0,none⟩) 0 0] 28));have hs2:W2.heap.size=w.heap.size+1+1+1+1:=by rw[←HW2.out];simp
 have HB2:Hid (bB w W2):=hI_ (by rw[←HW2.out];exact((((bR_ _ _).alloc (nr_ _) _).alloc k_ _).alloc n_ _).alloc n_ _);have hz:W2.heap[w.heap.size]? =some (.cells #[.int .i64 0,.int .i64 0,.slice none 0 0,.slice none 0 0,.slice none 0 0,.slice none 0 0] 28 (0,0)):=by
  rw[←HW2.out,heap_alloc_old _ _ n_,heap_alloc_old _ _ n_,heap_alloc_old _ _ k_];exact heap_alloc_new w _
 have hq:W2.heap[w.heap.size+1+1+1]? =some (.cells #[.int .i64 s,.int .i64 b,.slice none 0 0,.slice (some ⟨w.heap.size+1,0,none⟩) 0 0,.slice none 0 0,.slice (some ⟨w.heap.size+1+1,0,none⟩) 0 0] 28 (0,0)):=by
  rw[←HW2.out];have:=heap_alloc_new (((w.alloc (.cells #[.int .i64 0,.int .i64 0,.slice none 0 0,.slice none 0 0,.slice none 0 0,.slice none 0 0] 28)).alloc (.cells #[] 99)).alloc (.cells #[] 57)) (.cells #[.int .i64 s,.int .i64 b,.slice none 0 0,.slice (some ⟨w.heap.size+1,0,none⟩) 0 0,.slice none 0 0,.slice (some ⟨w.heap.size+1+1,0,none⟩) 0 0] 28);simpa using this
 obtain⟨q,HQ⟩:=nm_ (w.heap.size+1+1+1);have hqr:w.heap.size<q:=by rw[←HQ.out];omega
 rw[HQ.out] at hq hs2;have HZ:=hI_ hz;have HQ0:=hI_ hq;clear hz hq;have hbb:(b != -1)=false∨(b != -1)=true∧Hid (inB b 1 ((N:Int)-1)=true):=by
  rcases hb3 with rfl|hb
  · exact .inl rfl
  · by_cases h1:b= -1
    · subst h1;exact .inl rfl
    · exact .inr ⟨by rw[bne_iff_ne];exact h1,hI_ hb⟩
 clear hb3;have HN:Hid (N≤6):=hI_ hN6;rcases hbb with hbn|⟨hbn,H3⟩
 all_goals
  go_enter Tryz.func55,Tryz.ntmps55
  go_wp2_with (first
   |(go_at_call 123;refine(qbS H1 _).mono ?_;rintro e w' ⟨rfl,rfl⟩)
   |(go_at_call_of 124 (Value.int .i64 b);refine(qbG H3 _).mono ?_;rintro e w' ⟨rfl,rfl⟩)
   |(go_at_call 124;refine(qbG H2 _).mono ?_;rintro e w' ⟨rfl,rfl⟩))
  rw[HW2.out,HQ.out];clear hbn;go_loopw [9] (fun i wr=>∃ (k:Nat) (vF vA:Value) (F G:Nat→Value),k≤N∧i=.int .i64 k∧wr.heap[q]? =some (.cells #[.int .i64 s,.int .i64 b,vF,.slice (some ⟨w.heap.size+1,0,none⟩) 0 0,vA,.slice (some ⟨w.heap.size+1+1,0,none⟩) 0 0] 28 (0,0))∧ON 6 (q+1) 50 wr vF k F∧qjJ p k F∧ON 1 (q+1) 54 wr vA k G∧qk0 k G∧Below q W2 wr) (fun i _=>N-(intOf i).toNat)
  case atStart=>exact⟨0,_,_,fun _=>.int .i64 0,fun _=>.int .i64 0,Nat.zero_le _,rfl,HQ0.out,ON.nil,qjJ.zero,ON.nil,qk0.zero,bR_ _ _⟩
  case round=>
   obtain⟨k,vF,vA,F,G,hk,rfl,hbox,hoF,hF,hoA,hG,hb⟩:=hrel;obtain⟨A,c,rfl⟩:=hoF.rn.sl;obtain⟨A2,c2,rfl⟩:=hoA.rn.sl;obtain⟨x0,x1,x2,x3,x4,x5,xf⟩:=qaa hbox;have hql:q<wr.heap.size:=(Array.getElem?_eq_some_iff.1 hbox).1;by_cases hlt:k<N
   · clear x0 x1 x2 x3 x4 x5 xf;go_wp2_with (first
      |(go_at_call 126;refine(qcs HP _).mono ?_;rintro e w' ⟨rfl,rfl⟩)
      |fail)
     refine(qki HK wr).mono ?_;rintro e w1 ⟨ux,uy,rfl,hux,huy,hb1⟩;have HUX:=hI_ hux;have HUY:=hI_ huy;obtain⟨uA,uc,rfl,-,-⟩:=hux;obtain⟨uB,ud,rfl,-,-⟩:=huy;have hb2:=hb1.alloc hb1.size (.cells #[.int .i64 p,.int .i64 0,.int .i64 0,.int .i64 0,.slice uA 0 uc,.slice uB 0 ud] 50);have hbox2:=(hb2.block q hql).trans hbox;obtain⟨x0,x1,x2,x3,x4,x5,xf⟩:=qaa hbox2;have hq1:q<w1.heap.size:=nL_ hql hb1.size;have HB1:=hI_ hbox2;have hoF2:=(hoF.below hb1).below ((bR_ w1.heap.size w1).alloc (nr_ _) (.cells #[.int .i64 p,.int .i64 0,.int .i64 0,.int .i64 0,.slice uA 0 uc,.slice uB 0 ud] 50));have hoA2:=(hoA.below hb1).below ((bR_ w1.heap.size w1).alloc (nr_ _) (.cells #[.int .i64 p,.int .i64 0,.int .i64 0,.int .i64 0,.slice uA 0 uc,.slice uB 0 ud] 50));have hbs:q+1≤(w1.alloc (.cells #[.int .i64 p,.int .i64 0,.int .i64 0,.int .i64 0,.slice uA 0 uc,.slice uB 0 ud] 50)).heap.size:=by simp;omega
     have hbr2:=hb.trans (hb2.mono (Nat.le_of_lt hql));clear hb2 hbox hb hoF hoA;clear hbox2;have HOF:=hI_ hoF2;have HOA:=hI_ hoA2;clear hoF2 hoA2;go_wp2_with (first
      |(at_builtin;refine qmv HOF.out hF HUX.out HUY.out a_ hbs rfl rfl rfl rfl k_ ?_;intro A' c' w3 F' ho3 hF3 hg3 hb3;have hbox3:=(hb3.block q (Nat.lt_succ_self q)).trans HB1.out;obtain⟨y0,y1,y2,y3,y4,y5,yf⟩:=qaa hbox3;have hoA3:=HOA.out.grown hg3 (HOA.out.ne_ HOF.out e_);have hbx4:(w3.setCell ⟨q,2,none⟩ (.slice A' (k+1) c')).heap[q]? =some (.cells #[.int .i64 s,.int .i64 b,.slice A' (k+1) c',.slice (some ⟨w.heap.size+1,0,none⟩) 0 0,.slice A2 k c2,.slice (some ⟨w.heap.size+1+1,0,none⟩) 0 0] 28 (0,0)):=qas (i:=2) hbox3 (.slice A' (k+1) c');have hoF4:=ho3.setb (p:=⟨q,2,none⟩) (Nat.lt_succ_self q) (.slice A' (k+1) c');have hoA4:=(hoA3.setb (p:=⟨q,2,none⟩) (Nat.lt_succ_self q) (.slice A' (k+1) c')).below ((bR_ _ _).alloc (nr_ _) (.cells #[] 109));have hs4:q+1≤((w3.setCell ⟨q,2,none⟩ (.slice A' (k+1) c')).alloc (.cells #[] 109)).heap.size:=by(have:=(Array.getElem?_eq_some_iff.1 hbox3).1;simp;omega))
      |(at_builtin;refine qnw hoA4 hG (Em.made w3.heap.size) a_ hs4 rfl rfl rfl rfl k_ ?_;intro A4 c4 w5 G' ho5 hG5 hg5 hb5;have hbox5:=(hb5.block q (Nat.lt_succ_self q)).trans ((((bR_ _ _).alloc (nr_ _) (.cells #[] 109)).block q (Array.getElem?_eq_some_iff.1 hbx4).1).trans hbx4);obtain⟨v0,v1,v2,v3,v4,v5,vf⟩:=qaa hbox5;have hoF5:=(hoF4.below ((bR_ _ _).alloc (nr_ _) (.cells #[] 109))).grown hg5 ((hoF4.below ((bR_ _ _).alloc (nr_ _) (.cells #[] 109))).ne_ hoA4 e_);have hb4:=(((hbr2.trans (hb3.mono (Nat.le_succ q))).setCell (p:=⟨q,2,none⟩) (nr_ q) (.slice A' (k+1) c')).alloc (by(have:=hs4;simp at this ⊢;omega)) (.cells #[] 109)).trans (hb5.mono (Nat.le_succ q))))
     go_roundw
     case rel=>exact⟨k+1,_,_,F',G',a_,t_,qas (i:=4) hbox5 _,hoF5.setb (p:=⟨q,4,none⟩) (Nat.lt_succ_self q) _,hF3,ho5.setb (p:=⟨q,4,none⟩) (Nat.lt_succ_self q) _,hG5,hb4.setCell (p:=⟨q,4,none⟩) (nr_ q) _⟩
     case measure=>simp[intOf];omega
   · obtain rfl:k=N:=a_;obtain⟨z0,z1,z2,z3,z4,z5,zf⟩:=qaa ((hb.block w.heap.size hqr).trans HZ.out);go_wp2
     refine bodyPost_ret (v:=.tuple #[.agg #[.int .i64 s,.int .i64 b,.slice A k c,.slice (some ⟨w.heap.size+1,0,none⟩) 0 0,.slice A2 k c2,.slice (some ⟨w.heap.size+1+1,0,none⟩) 0 0],.bool true]) (by simp[results,Tryz.results55,go_sem,z0,z1,z2,z3,z4,z5]) rfl
      ⟨_,_,_,_,F,G,rfl,?_,hF,?_,hG,Em.made _,Em.made _,?_⟩
     · exact(((((((hoF.setb (p:=⟨w.heap.size,0,none⟩) E_ _).setb (p:=⟨w.heap.size,1,none⟩) E_ _).setb (p:=⟨w.heap.size,2,none⟩) E_ _).setb (p:=⟨w.heap.size,3,none⟩) E_ _).setb (p:=⟨w.heap.size,4,none⟩) E_ _).setb (p:=⟨w.heap.size,5,none⟩) E_ _)).mono a_
     · exact(((((((hoA.setb (p:=⟨w.heap.size,0,none⟩) E_ _).setb (p:=⟨w.heap.size,1,none⟩) E_ _).setb (p:=⟨w.heap.size,2,none⟩) E_ _).setb (p:=⟨w.heap.size,3,none⟩) E_ _).setb (p:=⟨w.heap.size,4,none⟩) E_ _).setb (p:=⟨w.heap.size,5,none⟩) E_ _)).mono a_
     · exact qae (HB2.out.trans (hb.mono (Nat.le_of_lt hqr))) (nr_ _) _ _ _ _ _ _
end Go.Proofs.YtekaaekpdebloaaGreatDoor

/- Words and walks of the law. -/
import Derived.Test.YtekaaekpdebloaaGreatDoorBG
set_option linter.unusedVariables false
set_option linter.unusedSimpArgs false
namespace Go.Proofs.YtekaaekpdebloaaGreatDoor
open Go.RowKit

section
variable {N n:Nat} {w w':World} {v:Value} {F:Nat→Value}
def RN(N:Nat)(w:World)(v:Value)(n:Nat)(F:Nat→Value):Prop:=
 ∃ (A:Option Addr) (c:Nat),v=.slice A n c∧(n≤c∧(A=none→c=0))∧c≤maxLen∧
  (0<n→∃ b o,A=some ⟨b,o,none⟩∧b<w.heap.size∧∀ t,t<n*N→w.cell? ⟨b,o+t,none⟩=some (F t))
theorem RN.keep(h:RN N w v n F)(hs:w.heap.size≤w'.heap.size)(hk:∀ p:Addr,p.block<w.heap.size→w'.cell? p=w.cell? p):RN N w' v n F:=by
 obtain⟨A,c,hv,h1,h2,h3⟩:=h;refine⟨A,c,hv,h1,h2,fun hl=> ?_⟩;obtain⟨b,o,hA,hb,hc⟩:=h3 hl;exact⟨b,o,hA,a_,fun t ht=>(hk _ hb).trans (hc t ht)⟩
theorem RN.below(h:RN N w v n F)(hb:Below w.heap.size w w'):RN N w' v n F:=h.keep hb.size fun _ hp=>hb.cell hp
theorem RN.len(h:RN N w v n F):n≤maxLen:=by obtain⟨_,_,_,h1,h2,_⟩:=h;omega
theorem RN.sl(h:RN N w v n F):∃ A c,v=.slice A n c:=by obtain⟨A,c,h,_⟩:=h;exact⟨A,c,h⟩
theorem RN.nil(w:World):RN N w (.slice none 0 0) 0 F:=⟨none,0,rfl,⟨nr_ _,fun _=>rfl⟩,s_,fun h=>by simp at h⟩
def ON(N B:Nat)(e:TypeId)(w:World)(v:Value)(n:Nat)(F:Nat→Value):Prop:=w.ownsRow B e N v n ((List.range (n*N)).map F)
variable {B:Nat} {e:TypeId}
theorem ON.nil:ON N B e w (.slice none 0 0) 0 F:=⟨k_,.inl ⟨rfl,rfl⟩⟩
theorem ON.congr{F':Nat→Value}(h:ON N B e w v n F)(hF:∀ t,t<n*N→F t=F' t):ON N B e w v n F':=by
 unfold ON at h ⊢;rwa[List.map_congr_left (fun t ht=>hF t (List.mem_range.1 ht))] at h
theorem ON.below(h:ON N B e w v n F)(hb:Below w.heap.size w w'):ON N B e w' v n F:=by
 refine⟨h.1,?_⟩;rcases h.2 with hn|⟨g,cap,cur,hv,hg,hh,r⟩
 · exact .inl hn
 · exact .inr ⟨g,cap,cur,hv,hg,(hb.block g (Array.getElem?_eq_some_iff.1 hh).1).trans hh,r⟩
theorem ON.mono{B':Nat}(h:ON N B e w v n F)(hB:B'≤B):ON N B' e w v n F:=by
 refine⟨h.1,?_⟩;rcases h.2 with hn|⟨g,cap,cur,hv,hg,hh,r⟩
 · exact .inl hn
 · exact .inr ⟨g,cap,cur,hv,a_,hh,r⟩
theorem ON.lt(h:ON N B e w v n F):∀ k,v.ownBlock=some k→B≤k∧k<w.heap.size:=World.ownsRow.lt h
theorem ON.grown{row:Option Nat}(h:ON N B e w v n F)(hg:w.grownBy w' row)(hd:v.ownBlock=none∨v.ownBlock≠row):ON N B e w' v n F:=World.ownsRow.kept h hg hd
theorem ON.form(h:ON N B e w v n F)(hn:0<n):∃ g cap,v=.slice (some ⟨g,0,none⟩) n cap∧B≤g∧g<w.heap.size:=by
 rcases h.2 with⟨_,h0⟩|⟨g,cap,cur,hv,hg,hh,_⟩
 · omega
 · exact⟨g,cap,hv,hg,(Array.getElem?_eq_some_iff.1 hh).1⟩
theorem ON.rn(h:ON N B e w v n F):RN N w v n F:=by
 obtain⟨h1,h2⟩:=h;rcases h2 with⟨rfl,rfl⟩|⟨g,cap,cur,rfl,hg,hh,hn,hc,hs,ht⟩
 · exact RN.nil w
 · refine⟨_,cap,rfl,⟨hn,fun h=>aj_⟩,hc,fun _=>⟨g,0,rfl,(Array.getElem?_eq_some_iff.1 hh).1,fun t hlt=> ?_⟩⟩;rw[Nat.zero_add,cell_of_row w g t cur e (0,0) hh];have h3:((List.range (n*N)).map F)[t]? =some (F t):=by simp[hlt]
   rw[←ht,List.getElem?_take] at h3;split at h3
   · simpa using h3
   · exact absurd hlt (by assumption)
theorem ON.at_{g cap:Nat}(h:ON N B e w (.slice (some ⟨g,0,none⟩) n cap) n F){t:Nat}(hlt:t<n*N):w.cell? ⟨g,t,none⟩=some (F t)∧w.frozen? ⟨g,t,none⟩=false:=by
 obtain⟨h1,h2⟩:=h;rcases h2 with⟨hv,_⟩|⟨g',cap',cur,hv,hg,hh,hn,hc,hs,ht⟩
 · cases hv
 · cases hv
   refine⟨?_,by simp[World.frozen?,hh]⟩;rw[cell_of_row w g t cur e (0,0) hh];have h3:((List.range (n*N)).map F)[t]? =some (F t):=by simp[hlt]
   rw[←ht,List.getElem?_take] at h3;split at h3
   · simpa using h3
   · exact absurd hlt (by assumption)
theorem ON.setAt{g cap:Nat}(h:ON N B e w (.slice (some ⟨g,0,none⟩) n cap) n F){t:Nat}(hlt:t<n*N)(x:Value):
 ON N B e (w.setCell ⟨g,t,none⟩ x) (.slice (some ⟨g,0,none⟩) n cap) n (fun s=>if s=t then x else F s)∧w.grownBy (w.setCell ⟨g,t,none⟩ x) (some g):=by
 refine⟨?_,⟨rfl,rfl,rfl,a0_,fun k _ hk=>Below.heap_setCell w ⟨g,t,none⟩ _ k (fun e=>hk (by rw[e]))⟩⟩;obtain⟨h1,h2⟩:=h;rcases h2 with⟨hv,_⟩|⟨g',cap',cur,hv,hg,hh,hn,hc,hs,ht⟩
 · cases hv
 · injection hv with e1 e2 e3
   injection e1 with e1
   injection e1 with e1 _ _
   subst e1 e3;refine⟨k_,.inr ⟨g,cap,cur.setIfInBounds t x,k_,hg,?_,aY_,hc,by simpa using hs,?_⟩⟩
   · simp[World.setCell,Array.getElem?_modify,hh]
   · rw[Array.toList_setIfInBounds,List.take_set,ht];apply List.ext_getElem?;intro s;rw[List.getElem?_set];by_cases hst:t=s
     · subst hst;simp[hlt]
     · rw[if_neg hst];by_cases hs2:s<n*N
       · simp[hs2,if_neg (fun h:s=t=>hst h.symm)]
       · simp[hs2]
end

def Em(v:Value):Prop:=∃ A c,v=.slice A 0 c∧(A=none→c=0)∧c≤maxLen
theorem Em.none:Em (.slice none 0 0):=⟨_,_,rfl,fun _=>rfl,s_⟩
theorem Em.r1{α:Type}{enc:α→Value}{v:Value}(h:Em v)(w:World):R1 enc w v []:=by
 obtain⟨A,c,rfl,h1,h2⟩:=h;exact⟨A,c,rfl,⟨Nat.zero_le _,h1⟩,h2,fun h=>by simp at h⟩
theorem R1.em{α:Type}{enc:α→Value}{v:Value}{w:World}(h:R1 enc w v []):Em v:=by
 obtain⟨A,c,rfl,h1,h2,_⟩:=h;exact⟨A,c,rfl,h1.2,h2⟩

def qa6(w:World)(v:Value)(fs:List Fd):Prop:=
 ∃ F,RN 6 w v fs.length F∧∀ j (hj:j<fs.length),F (j*6)=.int .i64 fs[j].pub∧F (j*6+1)=.int .i64 fs[j].hd.len∧F (j*6+2)=.int .i64 fs[j].hd.dg∧F (j*6+3)=.int .i64 fs[j].hd.sg∧qaU w fs[j] (F (j*6+4)) (F (j*6+5))
theorem qaU.below'{w w':World}{f:Fd}{a b:Value}(h:qaU w f a b)(hb:Below w.heap.size w w'):qaU w' f a b:=⟨h.bl.below hb,h.hv.below hb⟩
theorem qa6.below{w w':World}{v:Value}{fs:List Fd}(h:qa6 w v fs)(hb:Below w.heap.size w w'):qa6 w' v fs:=by
 obtain⟨F,h1,h2⟩:=h;exact⟨F,h1.below hb,fun j hj=>⟨(h2 j hj).1,(h2 j hj).2.1,(h2 j hj).2.2.1,(h2 j hj).2.2.2.1,(h2 j hj).2.2.2.2.below' hb⟩⟩
theorem qa6.sl{w:World}{v:Value}{fs:List Fd}(h:qa6 w v fs):∃ A c,v=.slice A fs.length c:=by obtain⟨F,h1,_⟩:=h;exact h1.sl
theorem qa6.len{w:World}{v:Value}{fs:List Fd}(h:qa6 w v fs):fs.length≤maxLen:=by obtain⟨F,h1,_⟩:=h;exact h1.len
theorem qa6.at_{w:World}{A:Option Addr}{n c:Nat}{fs:List Fd}(h:qa6 w (.slice A n c) fs){j:Nat}(hj:j<fs.length):
 ∃ b o x y,A=some ⟨b,o,none⟩∧b<w.heap.size∧w.cell? ⟨b,o+j*6,none⟩=some (.int .i64 fs[j].pub)∧w.cell? ⟨b,o+j*6+1,none⟩=some (.int .i64 fs[j].hd.len)∧w.cell? ⟨b,o+j*6+2,none⟩=some (.int .i64 fs[j].hd.dg)∧w.cell? ⟨b,o+j*6+3,none⟩=some (.int .i64 fs[j].hd.sg)∧w.cell? ⟨b,o+j*6+4,none⟩=some x∧w.cell? ⟨b,o+j*6+5,none⟩=some y∧qaU w fs[j] x y:=by
 obtain⟨F,⟨A',c',he,h1,h2,h3⟩,h4⟩:=h;obtain⟨rfl,rfl,rfl⟩:A=A'∧n=fs.length∧c=c':=by injection he with a b c;exact⟨a,b,c⟩
 obtain⟨b,o,hA,hb,hc⟩:=h3 a_;obtain⟨f0,f1,f2,f3,f4⟩:=h4 j hj;refine⟨b,o,_,_,hA,hb,?_,?_,?_,?_,?_,?_,f4⟩
 · rw[hc _ a_,f0]
 · rw[Nat.add_assoc,hc _ a_,f1]
 · rw[Nat.add_assoc,hc _ a_,f2]
 · rw[Nat.add_assoc,hc _ a_,f3]
 · rw[Nat.add_assoc,hc _ a_]
 · rw[Nat.add_assoc,hc _ a_]

end Go.Proofs.YtekaaekpdebloaaGreatDoor

/- Words and walks of the law. -/
import Derived.Test.YtekaaekpdebloaaGreatDoorCB5
set_option linter.unusedVariables false
set_option linter.unusedSimpArgs false
set_option maxHeartbeats 12800000
set_option maxRecDepth 100000
namespace Go.Proofs.YtekaaekpdebloaaGreatDoor

structure Cm (x y:Wd):Prop where
 sec:y.sec=x.sec
 bad:y.bad=x.bad
 links:y.links=x.links
 asked:y.asked=x.asked
 net:y.net=x.net
 n:y.feeds.length=x.feeds.length
 f0:y.f0=x.f0
 wv:WV y
 nz:NZ x→NZ y
 same:∀ k,k<x.feeds.length→qn3 x k→y.feeds.getD k Fd.none=x.feeds.getD k Fd.none
theorem Cm.refl{x:Wd}(h:WV x):Cm x x:=⟨rfl,rfl,rfl,rfl,rfl,rfl,rfl,h,fun h=>h,fun _ _ _=>rfl⟩
theorem Cm.full{x y:Wd}(h:Cm x y){k:Nat}(hk:k<x.feeds.length)(hf:qn3 x k):qn3 y k:=by
 have e:=h.same k hk hf;exact⟨by rw[e,h.f0];exact hf.1,by rw[e];exact hf.2⟩
theorem Cm.trans{x y z:Wd}(h:Cm x y)(k:Cm y z):Cm x z:=
 ⟨k.sec.trans h.sec,k.bad.trans h.bad,k.links.trans h.links,k.asked.trans h.asked,k.net.trans h.net,k.n.trans h.n,k.f0.trans h.f0,k.wv,fun hz=>k.nz (h.nz hz),
  fun j hj hf=>(k.same j (by rw[h.n];exact hj) (h.full hj hf)).trans (h.same j hj hf)⟩
end Go.Proofs.YtekaaekpdebloaaGreatDoor
namespace Go.Proofs.YtekaaekpdebloaaGreatDoor
open Go.RowKit

theorem qaK.ge{B:Nat}{w:World}{f:Fd}{a b:Value}(h:qaK B w f a b):(∀ k,a.ownBlock=some k→B≤k∧k<w.heap.size)∧(∀ k,b.ownBlock=some k→B≤k∧k<w.heap.size):=⟨fun k hk=>h.bl.lt k hk,fun k hk=>h.hv.lt k hk⟩
theorem qa7.put{B C D g n cap j:Nat}{w:World}{fs:List Fd}{f:Fd}{vb vh:Value}(h:qa7 B C w (.slice (some ⟨g,0,none⟩) n cap) fs)(hj:j<fs.length)(hf:qaK D w f vb vh)(hC:C≤D):
 qa7 B w.heap.size ((((((w.setCell ⟨g,j*6,none⟩ (.int .i64 f.pub)).setCell ⟨g,j*6+1,none⟩ (.int .i64 f.hd.len)).setCell ⟨g,j*6+2,none⟩ (.int .i64 f.hd.dg)).setCell ⟨g,j*6+3,none⟩ (.int .i64 f.hd.sg)).setCell ⟨g,j*6+4,none⟩ vb).setCell ⟨g,j*6+5,none⟩ vh) (.slice (some ⟨g,0,none⟩) n cap) (fs.set j f)∧
  w.grownBy ((((((w.setCell ⟨g,j*6,none⟩ (.int .i64 f.pub)).setCell ⟨g,j*6+1,none⟩ (.int .i64 f.hd.len)).setCell ⟨g,j*6+2,none⟩ (.int .i64 f.hd.dg)).setCell ⟨g,j*6+3,none⟩ (.int .i64 f.hd.sg)).setCell ⟨g,j*6+4,none⟩ vb).setCell ⟨g,j*6+5,none⟩ vh) (some g):=by
 obtain⟨h0,F,h1,h2,h3,h4⟩:=h;obtain⟨_,_,he⟩:=h1.rn.sl;obtain rfl:n=fs.length:=J_;have hlt:=h1.lt g rfl;have hgC:g<C:=h0 g rfl;obtain⟨cur,hty⟩:=h1.row0 g rfl;obtain⟨G,k1,k2,g0,g1,g2,g3,g4,g5,g6⟩:=h1.put6' hj (.int .i64 f.pub) (.int .i64 f.hd.len) (.int .i64 f.hd.dg) (.int .i64 f.hd.sg) vb vh;have hsz:=k2.size;have hge:=hf.ge;have hkeep:qaA LB w _:=qaA.of_grown k2 (fun r hr=>by cases hr;exact⟨cur,_,_,hty,e_⟩);have hfo:qaK D _ f vb vh:=hf.far k2 a_;have hup:∀ k (hk:k<fs.length),Up C (F (k*6+4))∧Up C (F (k*6+5)):=fun k hk=>⟨(h2 k hk).2.2.2.2.2.1,(h2 k hk).2.2.2.2.2.2⟩
 have hCw:C≤C:=nr_ _;have hle:∀ v:Value,(∀ k,v.ownBlock=some k→B≤k∧k<w.heap.size)→Up w.heap.size v:=fun v hv k hk=>(hv k hk).2;refine⟨⟨fun k hk=>(by cases hk;exact hlt.2),G,by rw[List.length_set];exact k1,fun k hk=> ?_,fun i k hik hk b hb=> ?_,fun i k hik hk b hb=> ?_⟩,k2⟩
 · rw[List.length_set] at hk;by_cases hkj:k=j
   · subst hkj;rw[List.getElem_set_self,g0,g1,g2,g3,g4,g5];exact⟨rfl,rfl,rfl,rfl,hfo.mono a_,fun b hb=>(hge.1 b hb).2,fun b hb=>(hge.2 b hb).2⟩
   · rw[List.getElem_set_ne (Ne.symm hkj),g6 _ a_,g6 _ a_,g6 _ a_,g6 _ a_,g6 _ a_,g6 _ a_];obtain⟨f0,f1,f2,f3,f4,f5,f6⟩:=h2 k hk;exact⟨f0,f1,f2,f3,f4.keep hkeep e_ e_,hle _ f4.ge.1,hle _ f4.ge.2⟩
 · rw[List.length_set] at hk;simp only at hb ⊢;by_cases hkj:k=j
   · subst hkj;rw[g4];rw[g6 _ a_] at hb;intro he;have:=hge.1 b he;have:=(hup i a_).1 b hb;omega
   · rw[g6 _ a_];by_cases hij:i=j
     · subst hij;rw[g4] at hb;intro he;have:=hge.1 b hb;have:=(hup k hk).1 b he;omega
     · rw[g6 _ a_] at hb;exact h3 i k hik hk b hb
 · rw[List.length_set] at hk;simp only at hb ⊢;by_cases hkj:k=j
   · subst hkj;rw[g5];rw[g6 _ a_] at hb;intro he;have:=hge.2 b he;have:=(hup i a_).2 b hb;omega
   · rw[g6 _ a_];by_cases hij:i=j
     · subst hij;rw[g5] at hb;intro he;have:=hge.2 b hb;have:=(hup k hk).2 b he;omega
     · rw[g6 _ a_] at hb;exact h4 i k hik hk b hb
section
variable {B C:Nat} {w w':World} {v:Value}
theorem qct.keepT{e:TypeId}{T:List TypeId}{l:List (Int×Int)}(h:qct B C e w v l)(hk:qaA T w w')(he:e ∈ T):qct B C e w' v l:=by
 obtain⟨h0,F,h1,h2⟩:=h;exact⟨h0,F,h1.keepT hk he,h2⟩
theorem qa7.next{fs:List Fd}(h:qa7 B C w v fs)(hk:qaA LTF w w'):qa7 B C w' v fs:=by
 obtain⟨h0,F,h1,h2,h3⟩:=h;exact⟨h0,F,h1.keepT hk e_,fun j hj=>⟨(h2 j hj).1,(h2 j hj).2.1,(h2 j hj).2.2.1,(h2 j hj).2.2.2.1,(h2 j hj).2.2.2.2.1.keep hk e_ e_,(h2 j hj).2.2.2.2.2⟩,h3⟩
theorem qcA.next{ls:List (List (Int×Int))}(h:qcA B C w v ls)(hk:qaA LTA w w'):qcA B C w' v ls:=by
 obtain⟨h0,F,h1,h2,h3⟩:=h;exact⟨h0,F,h1.keepT hk e_,fun j hj=>(h2 j hj).keepT hk e_,h3⟩
theorem qbd.next{ps:List Pc}(h:qbd B C w v ps)(hk:qaA LTP w w'):qbd B C w' v ps:=by
 obtain⟨h0,F,h1,h2,h3⟩:=h;exact⟨h0,F,h1.keepT hk e_,fun j hj=>⟨(h2 j hj).1,(h2 j hj).2.1,(h2 j hj).2.2.1,(h2 j hj).2.2.2.1,(h2 j hj).2.2.2.2.1,(h2 j hj).2.2.2.2.2.1.keepT hk e_,(h2 j hj).2.2.2.2.2.2⟩,h3⟩
theorem qa7.stb{fs:List Fd}(h:qa7 B C w v fs):Stb LT2 (fun w=>qa6 w v fs) w:=fun _ hk=>(h.next (hk.mono qi1)).r
theorem qcA.stb{ls:List (List (Int×Int))}(h:qcA B C w v ls):Stb LT2 (fun w=>qdh w v ls) w:=fun _ hk=>(h.next (hk.mono qkm)).r
theorem qbd.stb{ps:List Pc}(h:qbd B C w v ps):Stb LT2 (fun w=>qbx w v ps) w:=fun _ hk=>(h.next (hk.mono qk1)).r
theorem qav.o{e:TypeId}{l:List (Int×Int)}(h:qav B e w v l):qct B w.heap.size e w v l:=by
 obtain⟨F,h1,h2⟩:=h;exact⟨h1.up_,F,h1,h2⟩
theorem qct.c{e:TypeId}{l:List (Int×Int)}(h:qct B C e w v l):qav B e w v l:=h.2
end
theorem qa7.cells{B C g n cap:Nat}{w:World}{fs:List Fd}(h:qa7 B C w (.slice (some ⟨g,0,none⟩) n cap) fs):(∃ F:Nat→Value,∀ t,t<fs.length*6→w.cell? ⟨g,t,none⟩=some (F t))∧(∀ i,w.frozen? ⟨g,i,none⟩=false):=by
 obtain⟨_,F,h1,_⟩:=h;obtain⟨_,_,he⟩:=h1.rn.sl;obtain rfl:n=fs.length:=J_;obtain⟨cur,hr⟩:=h1.row0 g rfl;exact⟨⟨F,fun t ht=>(h1.at_ a_).1⟩,fun i=>qgI hr i⟩
structure WdP (B C:Nat) (w:World) (x:Wd) (vF vL vA vN:Value):Prop where
 F:qa7 B C w vF x.feeds
 L:qct B C 99 w vL x.links
 A:qcA B C w vA x.asked
 N:qbd B C w vN x.net
section
variable {B B' C C' q o:Nat} {w w':World} {x:Wd} {vF vL vA vN:Value} {s b:Int}
theorem WdP.keep(h:WdP B C w x vF vL vA vN)(hk:qaA LT2 w w'):WdP B C w' x vF vL vA vN:=
 ⟨h.F.next (hk.mono qi1),h.L.keepT hk e_,h.A.next (hk.mono qkm),h.N.next (hk.mono qk1)⟩
theorem WdP.below(h:WdP B C w x vF vL vA vN)(hb:bB w w'):WdP B C w' x vF vL vA vN:=h.keep (qaA.of_below hb)
theorem WdP.mono(h:WdP B C w x vF vL vA vN)(hB:B'≤B)(hC:C≤C'):WdP B' C' w x vF vL vA vN:=⟨h.F.mono hB hC,h.L.mono hB hC,h.A.mono hB hC,h.N.mono hB hC⟩
theorem WdP.st(h:WdP B C w x vF vL vA vN):WdS w x vF vL vA vN:=WdS.of h.F.stb (h.L.c.stb e_) h.A.stb h.N.stb
structure BX (q o:Nat) (w:World) (s b:Int) (vF vL vA vN:Value):Prop where
 c0:w.cell? ⟨q,o,none⟩=some (.int .i64 s)
 c1:w.cell? ⟨q,o+1,none⟩=some (.int .i64 b)
 c2:w.cell? ⟨q,o+2,none⟩=some vF
 c3:w.cell? ⟨q,o+3,none⟩=some vL
 c4:w.cell? ⟨q,o+4,none⟩=some vA
 c5:w.cell? ⟨q,o+5,none⟩=some vN
 ty:∃ cur t,w.heap[q]? =some (.cells cur t (0,0))∧t ∉ LT2
theorem BX.lt(h:BX q o w s b vF vL vA vN):q<w.heap.size:=by obtain⟨_,_,h,_⟩:=h.ty;exact qai h
theorem BX.fz(h:BX q o w s b vF vL vA vN)(i:Nat):w.frozen? ⟨q,i,none⟩=false:=by obtain⟨_,_,h,_⟩:=h.ty;exact qgI h i
theorem BX.heap(h:BX q o w s b vF vL vA vN)(hq:w'.heap[q]? =w.heap[q]?):BX q o w' s b vF vL vA vN:=by
 have hc:∀ i,w'.cell? ⟨q,i,none⟩=w.cell? ⟨q,i,none⟩:=fun i=>World.cell?_of_block hq;obtain⟨cur,t,h1,h2⟩:=h.ty;exact⟨(hc _).trans h.c0,(hc _).trans h.c1,(hc _).trans h.c2,(hc _).trans h.c3,(hc _).trans h.c4,(hc _).trans h.c5,cur,t,hq.trans h1,h2⟩
theorem BX.below(h:BX q o w s b vF vL vA vN)(hb:bB w w'):BX q o w' s b vF vL vA vN:=h.heap (hb.block q h.lt)
theorem BX.grown{g:Nat}(h:BX q o w s b vF vL vA vN)(hb:w.grownBy w' (some g))(hne:q≠g):BX q o w' s b vF vL vA vN:=h.heap (hb.block q h.lt (fun e=>by cases e;exact hne rfl))
end
section
variable {T:List TypeId} {B C:Nat} {w w':World} {v:Value}
theorem qa7.nextT{fs:List Fd}(h:qa7 B C w v fs)(hk:qaA T w w')(t1:50 ∈ T)(t2:9 ∈ T)(t3:4 ∈ T):qa7 B C w' v fs:=by
 obtain⟨h0,F,h1,h2,h3⟩:=h;exact⟨h0,F,h1.keepT hk t1,fun j hj=>⟨(h2 j hj).1,(h2 j hj).2.1,(h2 j hj).2.2.1,(h2 j hj).2.2.2.1,(h2 j hj).2.2.2.2.1.keep hk t2 t3,(h2 j hj).2.2.2.2.2⟩,h3⟩
theorem qcA.nextT{ls:List (List (Int×Int))}(h:qcA B C w v ls)(hk:qaA T w w')(t1:54 ∈ T)(t2:109 ∈ T):qcA B C w' v ls:=by
 obtain⟨h0,F,h1,h2,h3⟩:=h;exact⟨h0,F,h1.keepT hk t1,fun j hj=>(h2 j hj).keepT hk t2,h3⟩
theorem qbd.nextT{ps:List Pc}(h:qbd B C w v ps)(hk:qaA T w w')(t1:57 ∈ T)(t2:3 ∈ T):qbd B C w' v ps:=by
 obtain⟨h0,F,h1,h2,h3⟩:=h;exact⟨h0,F,h1.keepT hk t1,fun j hj=>⟨(h2 j hj).1,(h2 j hj).2.1,(h2 j hj).2.2.1,(h2 j hj).2.2.2.1,(h2 j hj).2.2.2.2.1,(h2 j hj).2.2.2.2.2.1.keepT hk t2,(h2 j hj).2.2.2.2.2.2⟩,h3⟩
end
section
variable {ops:Array Oper} {rest:List Oper} {o:Oper} {a:Act} {Q:Exit→Act→World→Prop} {w:World}
theorem qkQ{n:Nat}{lo co:Operand}(hgd:o.guard=none)(ho:o.op=Op.makeSlice 24 lo co)(hl:a.eval lo=.int .i64 0)(hc:a.eval co=.int .i64 (n:Int))(hn:n≤1000000000000)
 (h:∀ v' w',qav w.heap.size 99 w' v' []→bB w w'→wpList Tryz.prog ops Q rest (a.put o.dst v') w'):wpList Tryz.prog ops Q (o::rest) a w:=by
 obtain⟨i0,hi,hz0,hz1,hz2⟩:=info_parts qfV;exact wpList_make_own w hgd lo co _ ho w.heap.size _ i0 _ 2 Tryz.underlying24 hi hz0 hz1 .i64 .i64 _ n hl hc rfl bS_ s_ (nr_ _)
  fun w' h1 h2=>h _ w' ⟨fun _=>.slice none 0 0,by unfold ON;simpa using h1,fun j hj=>an_⟩ ((bR_ _ _).grown h2 (nr_ _) (fun k hk=>bb_))
theorem qlX{n:Nat}{lo co:Operand}(hgd:o.guard=none)(ho:o.op=Op.makeSlice 54 lo co)(hl:a.eval lo=.int .i64 0)(hc:a.eval co=.int .i64 (n:Int))(hn:n≤1000000000000)
 (h:∀ v' w',qav w.heap.size 109 w' v' []→bB w w'→wpList Tryz.prog ops Q rest (a.put o.dst v') w'):wpList Tryz.prog ops Q (o::rest) a w:=by
 obtain⟨i0,hi,hz0,hz1,hz2⟩:=info_parts qhs;exact wpList_make_own w hgd lo co _ ho w.heap.size _ i0 _ 2 Tryz.underlying54 hi hz0 hz1 .i64 .i64 _ n hl hc rfl bS_ s_ (nr_ _)
  fun w' h1 h2=>h _ w' ⟨fun _=>.slice none 0 0,by unfold ON;simpa using h1,fun j hj=>an_⟩ ((bR_ _ _).grown h2 (nr_ _) (fun k hk=>bb_))
end
theorem qku(l:List (Int×Int))(v:Value)(w:World)(hv:RP w v l)(hl:l.length≤10000000000):
 Calls Tryz.prog 101 #[v] w fun e w'=>∃ A c,e=.returned (.slice A l.length c)∧qav w.heap.size 99 w' (.slice A l.length c) l∧bB w w':=by
 have HV:=hI_ hv;obtain⟨A,c,rfl,h1,h2,h3⟩:=hv;clear h3;go_enter Tryz.func101,Tryz.ntmps101
 go_wp2_with (first
  |(at_make;refine qkQ (n:=l.length) rfl rfl rfl rfl a_ ?_;intro v1 w1 hown1 hb1;have hr:=HV.out.below hb1)
  |(at_builtin;refine qaF rfl fun K hK=>qkf (base:=w.heap.size) (l:=[]) hown1 hr n_ hb1.size rfl rfl rfl (fun A2 c2 w2 ho2 hg2=>hK _ _ ?_)
    simp only[List.length_nil,Nat.zero_add,List.nil_append] at ho2 ⊢;have hb2:=hb1.grown hg2 hb1.size (fun r hr=>by obtain⟨_,q1,_⟩:=hown1;exact(q1.lt r hr).1)))
 go_ret;exact⟨_,_,rfl,ho2,hb2⟩
theorem qll(l:List (Int×Int))(v:Value)(w:World)(hv:RP w v l)(hl:l.length≤10000000000):
 Calls Tryz.prog 103 #[v] w fun e w'=>∃ A c,e=.returned (.slice A l.length c)∧qav w.heap.size 109 w' (.slice A l.length c) l∧bB w w':=by
 have HV:=hI_ hv;obtain⟨A,c,rfl,h1,h2,h3⟩:=hv;clear h3;go_enter Tryz.func103,Tryz.ntmps103
 go_wp2_with (first
  |(at_make;refine qlX (n:=l.length) rfl rfl rfl rfl a_ ?_;intro v1 w1 hown1 hb1;have hr:=HV.out.below hb1)
  |(at_builtin;refine qaF rfl fun K hK=>qml (base:=w.heap.size) (l:=[]) hown1 hr n_ hb1.size rfl rfl rfl (fun A2 c2 w2 ho2 hg2=>hK _ _ ?_)
    simp only[List.length_nil,Nat.zero_add,List.nil_append] at ho2 ⊢;have hb2:=hb1.grown hg2 hb1.size (fun r hr=>by obtain⟨_,q1,_⟩:=hown1;exact(q1.lt r hr).1)))
 go_ret;exact⟨_,_,rfl,ho2,hb2⟩
section
variable {o:Oper} {a:Act} {K:Act→World→Prop} {Q:Exit→Act→World→Prop} {w:World} {base C D:Nat} {v:Value}
theorem qnc{fs:List Fd}{f:Fd}{vb vh:Value}(hown:qa7 base C w v fs)(hf:qaK D w f vb vh)(hCD:C≤D)(hBD:base≤D)(hn:fs.length+1≤100000000000)(hbase:base≤w.heap.size)(hCs:C≤w.heap.size){s y:Operand}
 (ho:o.op=.call {callee:=.builtin .append,args:= #[s,y],argTypes:= #[23,23]}) (hs:a.eval s=v) {g:Nat} (hx:a.eval y=.slice (some ⟨g,0,none⟩) 1 1) (hg:g=w.heap.size)
 (h:∀ A c w',qa7 base w'.heap.size w' (.slice A (fs.length+1) c) (fs++[f])→w.grownBy w' v.ownBlock→K (a.put o.dst (.slice A (fs.length+1) c)) w'):
 Oper.wp Tryz.prog o a (w.alloc (.cells #[.int .i64 f.pub,.int .i64 f.hd.len,.int .i64 f.hd.dg,.int .i64 f.hd.sg,vb,vh] 50)) K Q:=by
 subst hg;obtain⟨h0,F,h1,h2,h5,h6⟩:=hown;have hup:Up w.heap.size vb∧Up w.heap.size vh:=⟨hf.bl.up_,hf.hv.up_⟩
 have hge:=hf.ge;obtain⟨i0,hi,hz0,hz1,hz2⟩:=info_parts qfU;obtain⟨bA,bc,rfl⟩:=hf.bl.sl;obtain⟨hA,hc,rfl⟩:=hf.hv.sl;have hba:bB w (w.alloc (.cells #[.int .i64 f.pub,.int .i64 f.hd.len,.int .i64 f.hd.dg,.int .i64 f.hd.sg,.slice bA f.bl.length bc,.slice hA f.hv.length hc] 50)):=(bR_ _ _).alloc (nr_ _) _;have hone:∀ t,t<1*6→((#[Value.int .i64 f.pub,.int .i64 f.hd.len,.int .i64 f.hd.dg,.int .i64 f.hd.sg,.slice bA f.bl.length bc,.slice hA f.hv.length hc]:Array Value).toList.getD t (.slice none 0 0)).oneCell'=true:=by
  intro t ht;obtain rfl|rfl|rfl|rfl|rfl|rfl:t=0∨t=1∨t=2∨t=3∨t=4∨t=5:=a_;all_goals rfl
 refine qcQ 23 50 6 80 i0 _ Tryz.underlying23 hi hz0 hz1 hz2 rfl a_ a_ (h1.below hba) (RN.box rfl) hone hn (Nat.le_trans hbase hba.size) ho hs hx fun A c w' h3 h4=> ?_;have hg:w.grownBy w' v.ownBlock:=qat (qaP hba) h4;have hk:qaA LB w w':=h1.grew hg e_;have hsz:=hg.size;refine h A c w' ⟨h3.up_,_,A_,fun j hj=> ?_,?_,?_⟩ hg
 · by_cases hlt:j<fs.length
   · rw[qaC a_,qaC a_,qaC a_,qaC a_,qaC a_,qaC a_,List.getElem_append_left hlt];obtain⟨g0,g1,g2,g3,g4,g5,g6⟩:=h2 j hlt;exact⟨g0,g1,g2,g3,g4.keep hk e_ e_,g5.mono a_,g6.mono a_⟩
   · obtain⟨rfl,he⟩:=qcx hj hlt;rw[qaD a_,qaD a_,qaD a_,qaD a_,qaD a_,qaD a_,he,Nat.sub_self,Nat.add_sub_cancel_left,Nat.add_sub_cancel_left,Nat.add_sub_cancel_left,Nat.add_sub_cancel_left,Nat.add_sub_cancel_left];exact⟨rfl,rfl,rfl,rfl,(hf.keep hk e_ e_).mono hBD,hup.1.mono hsz,hup.2.mono hsz⟩
 · rw[List.length_append];refine Dis.push (m:=D) h5 (fun j hj=>qaC a_) (fun j hj b hb=>nL_ ((h2 j hj).2.2.2.2.2.1 b hb) hCD) (fun b hb=> ?_);rw[qaD a_,Nat.add_sub_cancel_left] at hb;exact(hge.1 b hb).1
 · rw[List.length_append];refine Dis.push (m:=D) h6 (fun j hj=>qaC a_) (fun j hj b hb=>nL_ ((h2 j hj).2.2.2.2.2.2 b hb) hCD) (fun b hb=> ?_);rw[qaD a_,Nat.add_sub_cancel_left] at hb;exact(hge.2 b hb).1
theorem qnY{ls:List (List (Int×Int))}{l:List (Int×Int)}{x:Value}(hown:qcA base C w v ls)(hf:qav D 109 w x l)(hCD:C≤D)(hBD:base≤D)(hn:ls.length+1≤100000000000)(hbase:base≤w.heap.size)(hCs:C≤w.heap.size){s y:Operand}
 (ho:o.op=.call {callee:=.builtin .append,args:= #[s,y],argTypes:= #[25,25]}) (hs:a.eval s=v) {g:Nat} (hx:a.eval y=.slice (some ⟨g,0,none⟩) 1 1) (hg:g=w.heap.size)
 (h:∀ A c w',qcA base w'.heap.size w' (.slice A (ls.length+1) c) (ls++[l])→w.grownBy w' v.ownBlock→K (a.put o.dst (.slice A (ls.length+1) c)) w'):
 Oper.wp Tryz.prog o a (w.alloc (.cells #[x] 54)) K Q:=by
 subst hg;obtain⟨h0,F,h1,h2,h5⟩:=hown;have hfo:=hf.o;obtain⟨i0,hi,hz0,hz1,hz2⟩:=info_parts qeL;obtain⟨bA,bc,rfl⟩:=hf.sl;have hba:bB w (w.alloc (.cells #[.slice bA l.length bc] 54)):=(bR_ _ _).alloc (nr_ _) _;have hone:∀ t,t<1*1→((#[Value.slice bA l.length bc]:Array Value).toList.getD t (.slice none 0 0)).oneCell'=true:=by
  intro t ht;obtain rfl:t=0:=a_;rfl
 refine qcQ 25 54 1 24 i0 _ Tryz.underlying25 hi hz0 hz1 hz2 rfl a_ a_ (h1.below hba) (RN.box rfl) hone hn (Nat.le_trans hbase hba.size) ho hs hx fun A c w' h3 h4=> ?_;have hg:w.grownBy w' v.ownBlock:=qat (qaP hba) h4;have hk:qaA LQ w w':=h1.grew hg e_;have hsz:=hg.size;refine h A c w' ⟨h3.up_,_,A_,fun j hj=> ?_,?_⟩ hg
 · by_cases hlt:j<ls.length
   · rw[qaC a_,List.getElem_append_left hlt];exact((h2 j hlt).keepT hk e_).mono (nr_ _) a_
   · obtain⟨rfl,he⟩:=qcx hj hlt;rw[qaD a_,he,Nat.mul_one,Nat.sub_self];exact(hfo.keepT hk e_).mono hBD hsz
 · rw[List.length_append];refine Dis.push (m:=D) h5 (fun j hj=>qaC a_) (fun j hj b hb=>nL_ ((h2 j hj).1 b hb) hCD) (fun b hb=> ?_);rw[qaD a_,Nat.mul_one,Nat.sub_self] at hb;exact(hfo.lt b hb).1
theorem qmn{ps:List Pc}{p:Pc}{x:Value}(hown:qbd base C w v ps)(hf:O1 (Value.int .i64) D 3 w x p.prf)(hCD:C≤D)(hBD:base≤D)(hn:ps.length+1≤100000000000)(hbase:base≤w.heap.size)(hCs:C≤w.heap.size){s y:Operand}
 (ho:o.op=.call {callee:=.builtin .append,args:= #[s,y],argTypes:= #[26,26]}) (hs:a.eval s=v) {g:Nat} (hx:a.eval y=.slice (some ⟨g,0,none⟩) 1 1) (hg:g=w.heap.size)
 (h:∀ A c w',qbd base w'.heap.size w' (.slice A (ps.length+1) c) (ps++[p])→w.grownBy w' v.ownBlock→K (a.put o.dst (.slice A (ps.length+1) c)) w'):
 Oper.wp Tryz.prog o a (w.alloc (.cells #[.int .i64 p.fr,.int .i64 p.to_,.int .i64 p.len,.int .i64 p.idx,.string p.txt,x] 57)) K Q:=by
 subst hg;obtain⟨h0,F,h1,h2,h5⟩:=hown;have hup:Up w.heap.size x:=hf.up_;have hge:∀ b,x.ownBlock=some b→D≤b:=fun b hb=>(hf.lt b hb).1;obtain⟨i0,hi,hz0,hz1,hz2⟩:=info_parts qd8;obtain⟨bA,bc,rfl⟩:=hf.sl;have hba:bB w (w.alloc (.cells #[.int .i64 p.fr,.int .i64 p.to_,.int .i64 p.len,.int .i64 p.idx,.string p.txt,.slice bA p.prf.length bc] 57)):=(bR_ _ _).alloc (nr_ _) _;have hone:∀ t,t<1*6→((#[Value.int .i64 p.fr,.int .i64 p.to_,.int .i64 p.len,.int .i64 p.idx,.string p.txt,.slice bA p.prf.length bc]:Array Value).toList.getD t (.slice none 0 0)).oneCell'=true:=by
  intro t ht;obtain rfl|rfl|rfl|rfl|rfl|rfl:t=0∨t=1∨t=2∨t=3∨t=4∨t=5:=a_;all_goals rfl
 refine qcQ 26 57 6 72 i0 _ Tryz.underlying26 hi hz0 hz1 hz2 rfl a_ a_ (h1.below hba) (RN.box rfl) hone hn (Nat.le_trans hbase hba.size) ho hs hx fun A c w' h3 h4=> ?_;have hg:w.grownBy w' v.ownBlock:=qat (qaP hba) h4;have hk:qaA LP w w':=h1.grew hg e_;have hsz:=hg.size;refine h A c w' ⟨h3.up_,_,A_,fun j hj=> ?_,?_⟩ hg
 · by_cases hlt:j<ps.length
   · rw[qaC a_,qaC a_,qaC a_,qaC a_,qaC a_,qaC a_,List.getElem_append_left hlt];obtain⟨g0,g1,g2,g3,g4,g5,g6⟩:=h2 j hlt;exact⟨g0,g1,g2,g3,g4,g5.keepT hk e_,g6.mono a_⟩
   · obtain⟨rfl,he⟩:=qcx hj hlt;rw[qaD a_,qaD a_,qaD a_,qaD a_,qaD a_,qaD a_,he,Nat.sub_self,Nat.add_sub_cancel_left,Nat.add_sub_cancel_left,Nat.add_sub_cancel_left,Nat.add_sub_cancel_left,Nat.add_sub_cancel_left];exact⟨rfl,rfl,rfl,rfl,rfl,(hf.keepT hk e_).mono hBD,hup.mono hsz⟩
 · rw[List.length_append];refine Dis.push (m:=D) h5 (fun j hj=>qaC a_) (fun j hj b hb=>nL_ ((h2 j hj).2.2.2.2.2.2 b hb) hCD) (fun b hb=> ?_);rw[qaD a_,Nat.add_sub_cancel_left] at hb;exact hge b hb
end
end Go.Proofs.YtekaaekpdebloaaGreatDoor

/- Words and walks of the law. -/
import Derived.Test.YtekaaekpdebloaaGreatDoorBO5
import Derived.Test.YtekaaekpdebloaaGreatDoorBV5
import Derived.StillTail
set_option linter.unusedVariables false
set_option linter.unusedSimpArgs false
set_option maxHeartbeats 12800000
set_option maxRecDepth 100000
namespace Go.Proofs.YtekaaekpdebloaaGreatDoor
open Go

section
variable {P:Program} {md:Region.Mode} {ops:Array Oper} {Q:Exit→Act→World→Prop} {S:World→Prop} {n:Nat}
def qek(P:Program)(md:Region.Mode)(ops:Array Oper)(Q:Exit→Act→World→Prop)(S:World→Prop)(n:Nat):Nat→Array Bool→Act→World→Prop
 |0,listed,a,w=>Region.ready md ops listed=[]∧Q .normal a w
 |fuel+1,listed,a,w=>
  (Region.ready md ops listed=[]→Q .normal a w)∧
  ∀ i ∈ Region.ready md ops listed,wpOp P ops Q i (fun a' w'=>(i≠n→S w')∧qek P md ops Q S n fuel (listed.setIfInBounds i true) a' w') a w
theorem qg5:∀ (fuel:Nat) (listed:Array Bool) (a:Act) (w:World),qek P md ops Q S n fuel listed a w→wpAny P md ops Q fuel listed a w
 |0,_,_,_,h=>h
 |fuel+1,_,_,_,h=>⟨h.1,fun i hi=>wpOp_mono (fun a' w' h'=>qg5 fuel _ a' w' h'.2) (h.2 i hi)⟩
theorem qiP{i:Nat}{oi:Oper}{v:Value}(hi:ops[i]? =some oi)(hsel:∀ (j:Nat) (o:Oper) cs b,ops[j]? =some o→o.op≠.select cs b)
 (hs:Region.sinkB md ops n=true) (hc:Region.chainB md ops n=true) (hn:n<ops.size) (hin:i<n)
 (hQ:∀ c a w,Q (.panic c) (a.put oi.dst v) w→Q (.panic c) a w):
 ∀ (fuel:Nat) (listed:Array Bool) (a:Act) (w:World),HeadInv md ops n listed→
  (∀ j oj,ops[j]? =some oj→j≠i→listed.getD j true=false→(∀ e ∈ oj.after,Region.binds md e=true→e.on≠i)→oi.apart ops oj=true)→
  i ∈ Region.ready md ops listed→YieldsIf P ops S oi v a→S w→
  qek P md ops Q S n fuel (listed.setIfInBounds i true) (a.put oi.dst v) w→qek P md ops Q S n (fuel+1) listed a w:=by
 intro fuel;induction fuel with
 |zero=>
  intro listed a w inv _ hr hy hS H;refine⟨fun h=>aA_,fun j hj=> ?_⟩;by_cases hji:j=i
  · subst hji;exact hy.wpOp hi hS ⟨fun _=>hS,H⟩
  · have:=ready_mono hj hji;rw[H.1] at this;cases this
 |succ fuel ih=>
  intro listed a w inv hfree hr hy hS H;have hun:=(mem_ready.1 hr).1;refine⟨fun h=>aA_,fun j hj=> ?_⟩;have hjn:j<n:=by
    rcases Nat.lt_or_ge j n with h|h
    · exact h
    · exact absurd hj (tail_waits hs hc hn inv _ i rfl hin hun j h)
  by_cases hji:j=i
  · subst hji;exact hy.wpOp hi hS ⟨fun _=>hS,H⟩
  · have h1:=H.2 j (ready_mono hj hji);obtain⟨hjun,oj,hoj,hall⟩:=mem_ready.1 hj;have hnot:∀ e ∈ oj.after,Region.binds md e=true→e.on≠i:=fun e he hb heq=>by
      have h1:=hall e he hb;rw[heq,getD_both hun] at h1;cases h1
    have h2:=wpOp_putIf hoj (hfree j oj hoj hji hjun hnot) (fun cs b=>hsel i oi cs b hi) (fun cs b=>hsel j oj cs b hoj) hQ hy h1;have hfree':∀ k ok,ops[k]? =some ok→k≠i→(listed.setIfInBounds j true).getD k true=false→
      (∀ e ∈ ok.after,Region.binds md e=true→e.on≠i)→oi.apart ops ok=true:=fun k ok hk hki hun hno=>by
      refine hfree k ok hk hki ?_ hno;by_cases hjk:j=k
      · subst hjk;exact hjun
      · rw[getD_set_ne true hjk] at hun;exact hun
    refine wpOp_mono (fun a' w' h3=>⟨h3.2.1,ih (listed.setIfInBounds j true) a' w' (inv.set hj hjn) hfree' (ready_mono hr (Ne.symm hji)) h3.1 (h3.2.1 a_) ?_⟩) h2;rw[Array.setIfInBounds_comm _ _ hji];exact h3.2.2
theorem qaf{i:Nat}{oi:Oper}{v:Value}{fuel:Nat}{listed:Array Bool}{a:Act}{w:World}(hinv:HeadInv md ops n listed)(hi:ops[i]? =some oi)
 (hs:(Region.noSelect ops&&Region.sinkB md ops n&&Region.chainB md ops n&&decide (n<ops.size)&&decide (i<n)&&Region.free md ops listed i&&(Region.ready md ops listed).contains i)=true)
 (hQ:∀ c a w,Q (.panic c) (a.put oi.dst v) w→Q (.panic c) a w) (hy:YieldsIf P ops S oi v a) (hS:S w)
 (h:HeadInv md ops n (listed.setIfInBounds i true)→qek P md ops Q S n fuel (listed.setIfInBounds i true) (a.put oi.dst v) w):qek P md ops Q S n (fuel+1) listed a w:=by
 simp only[Bool.and_eq_true,decide_eq_true_eq] at hs;obtain⟨⟨⟨⟨⟨⟨h1,h2⟩,h3⟩,h4⟩,h5⟩,h6⟩,h7⟩:=hs;have hr:i ∈ Region.ready md ops listed:=by simpa using h7
 exact qiP hi (Region.noSelect_spec h1) h2 h3 h4 h5 hQ fuel listed a w hinv (Region.free_spec hi h6) hr hy hS (h (hinv.set hr h5))
theorem qba{i:Nat}{o:Oper}{fuel:Nat}{listed:Array Bool}{a:Act}{w:World}(hinv:HeadInv md ops n listed)(ho:ops[i]? =some o)(hr:Region.ready md ops listed=[i])(hin:i<n)
 (h:∀ K':Act→World→Prop,Shut (∀ a w,S w→(HeadInv md ops n (listed.setIfInBounds i true)→qek P md ops Q S n fuel (listed.setIfInBounds i true) a w)→K' a w)→if Region.wanted o (yielded ops a.tmps)=true then Oper.wp P o a w K' Q else K' (a.put o.dst undef) w):
 qek P md ops Q S n (fuel+1) listed a w:=by
 refine⟨fun h0=>(by rw[h0] at hr;cases hr),fun j hj=> ?_⟩;rw[hr] at hj;obtain rfl:j=i:=ae_;have hm:j ∈ Region.ready md ops listed:=by rw[hr];simp
 exact wpOp_step ho (fun K' hK=>h K' (fun a w hS hW=>hK a w ⟨fun _=>hS,hW (hinv.set hm hin)⟩))
theorem qch{o:Oper}{fuel:Nat}{listed:Array Bool}{a:Act}{w:World}(ho:ops[n]? =some o)(hr:Region.ready md ops listed=[n])(hr2:Region.ready md ops (listed.setIfInBounds n true)=[])
 (h:∀ K':Act→World→Prop,Shut (∀ a w,Q .normal a w→K' a w)→if Region.wanted o (yielded ops a.tmps)=true then Oper.wp P o a w K' Q else K' (a.put o.dst undef) w):
 qek P md ops Q S n (fuel+1) listed a w:=by
 refine⟨fun h0=>(by rw[h0] at hr;cases hr),fun j hj=> ?_⟩;rw[hr] at hj;obtain rfl:j=n:=ae_;refine wpOp_step ho (fun K' hK=>h K' (fun a w hW=>hK a w ⟨fun h=>absurd rfl h,?_⟩));cases fuel with
 |zero=>exact⟨hr2,hW⟩
 |succ f=>exact⟨fun _=>hW,by rw[hr2];simp⟩
theorem qci{id:Nat}{a:Act}{w:World}(S:World→Prop)(n:Nat)(hm:P.follows .mixedOrders=true)(hS:S w.drew)
 (h:S w.drew→HeadInv .any ops n (Array.replicate ops.size false)→qek P .any ops Q S n ops.size (Array.replicate ops.size false) a w.drew):(Code.region id ops true).wp P Q a w:=
 wp_region_any hm (qg5 _ _ _ _ (h hS ⟨k_,fun j oj _ hl=>(by rw[getD_replicate_false] at hl;cases hl),fun t _ ht=>getD_in (by simpa using ht) (getD_replicate_false _ _)⟩))
end
section
variable {P:Program} {md:Region.Mode} {ops:Array Oper} {Q:Exit→Act→World→Prop} {S:World→Prop} {b:Nat→Bool}
variable {n:Nat}
def TkT(P:Program) (md:Region.Mode) (ops:Array Oper) (Q:Exit→Act→World→Prop) (S:World→Prop) (n f:Nat) (l:Array Bool) (a:Act) (w:World):Prop:=HeadInv md ops n l→S w→qek P md ops Q S n f l a w
theorem gT_{f:Nat} {l:Array Bool} {a:Act} {w:World} (h:TkT P md ops Q S n f l a w) (x:HeadInv md ops n l) (y:S w):qek P md ops Q S n f l a w:=h x y
theorem eT_{f:Nat} {l:Array Bool} {a:Act} {w:World} (h:HeadInv md ops n l→qek P md ops Q S n f l a w):TkT P md ops Q S n f l a w:=fun x _=>h x
theorem tT_(i:Nat) {oi:Oper} {v:Value} {f:Nat} {l:Array Bool} {a:Act} {w:World} (h:TkT P md ops Q S n f (l.setIfInBounds i true) (a.put oi.dst v) w) (hi:ops[i]?=some oi:=by exact rfl) (hs:(Region.noSelect ops&&Region.sinkB md ops n&&Region.chainB md ops n&&decide (n<ops.size)&&decide (i<n)&&Region.free md ops l i&&(Region.ready md ops l).contains i)=true:=by kernel_rfl) (hQ:∀ c a w,Q (.panic c) (a.put oi.dst v) w→Q (.panic c) a w:=by exact fun _ _ _ h=>h) (hy:YieldsIf P ops S oi v a:=by refine Or.inl ⟨p_,?_⟩;intro w_ hSw;(try dsimp only at hSw);go_simp;try with_reducible rfl):TkT P md ops Q S n (f+1) l a w:=fun x y=>qaf x hi hs hQ hy y fun x=>h x y
theorem tH_(i:Nat) {oi:Oper} {v:Value} {f:Nat} {l:Array Bool} {a:Act} {w:World} (h:wpAnyH P md ops Q S f (l.setIfInBounds i true) (a.put oi.dst v) w) (hi:ops[i]?=some oi:=by exact rfl) (hs:(Region.noSelect ops&&Region.free md ops l i&&(Region.ready md ops l).contains i)=true:=by kernel_rfl) (hQ:∀ c a w,Q (.panic c) (a.put oi.dst v) w→Q (.panic c) a w:=by exact fun _ _ _ h=>h) (hy:YieldsIf P ops S oi v a:=by refine Or.inl ⟨p_,?_⟩;intro w_ hSw;(try dsimp only at hSw);go_simp;try with_reducible rfl) (y:S w:=by exact hS):wpAnyH P md ops Q S (f+1) l a w:=by
 simp only[Bool.and_eq_true] at hs;exact wpAnyH_take hi hs.1.1 hs.1.2 hs.2 hQ hy y h
end
end Go.Proofs.YtekaaekpdebloaaGreatDoor
namespace Go.Proofs.YtekaaekpdebloaaGreatDoor
open Go.RowKit

def Stb(T:List TypeId)(φ:World→Prop)(w:World):Prop:=∀ w',qaA T w w'→φ w'
section
variable {T T':List TypeId} {w w' w2:World} {φ ψ:World→Prop}
theorem Stb.self(h:Stb T φ w):φ w:=h w (qaA.refl _ _)
theorem Stb.next(h:Stb T φ w)(hk:qaA T w w'):Stb T φ w':=fun _ h2=>h _ (hk.trans h2)
theorem Stb.mono(h:Stb T φ w)(hT:∀ e ∈ T,e ∈ T'):Stb T' φ w:=fun _ h2=>h _ (h2.mono hT)
theorem Stb.imp(h:Stb T φ w)(hi:∀ w,φ w→ψ w):Stb T ψ w:=fun _ h2=>hi _ (h _ h2)
end
section
variable {α:Type} {enc:α→Value} {B:Nat} {e:TypeId} {T:List TypeId} {w w':World} {v:Value} {l:List α} {N n:Nat} {F:Nat→Value}
theorem O1.keepT(h:O1 enc B e w v l)(hk:qaA T w w')(he:e ∈ T):O1 enc B e w' v l:=by
 refine⟨h.1,?_⟩;rcases h.2 with hn|⟨g,cap,cur,hv,hg,hh,r⟩
 · exact .inl hn
 · exact .inr ⟨g,cap,cur,hv,hg,(hk.2 g _ _ _ hh he).trans hh,r⟩
theorem O1.stb(h:O1 enc B e w v l)(he:e ∈ T):Stb T (fun w=>R1 enc w v l) w:=fun _ hk=>(h.keepT hk he).r1
theorem ON.keepT(h:ON N B e w v n F)(hk:qaA T w w')(he:e ∈ T):ON N B e w' v n F:=by
 refine⟨h.1,?_⟩;rcases h.2 with hn|⟨g,cap,cur,hv,hg,hh,r⟩
 · exact .inl hn
 · exact .inr ⟨g,cap,cur,hv,hg,(hk.2 g _ _ _ hh he).trans hh,r⟩
theorem ON.stb(h:ON N B e w v n F)(he:e ∈ T):Stb T (fun w=>RN N w v n F) w:=fun _ hk=>(h.keepT hk he).rn
theorem ON.grew{T:List TypeId}(h:ON N B e w v n F)(hg:w.grownBy w' v.ownBlock)(he:e ∉ T):qaA T w w':=
 qaA.of_grown hg (fun r hr=>by obtain⟨cur,fr,hh⟩:=h.row r hr;exact⟨cur,e,fr,hh,he⟩)
end
theorem qaK.stb{B:Nat}{T:List TypeId}{w:World}{f:Fd}{a b:Value}(h:qaK B w f a b)(h1:9 ∈ T)(h2:4 ∈ T):Stb T (fun w=>qaU w f a b) w:=fun _ hk=>⟨(h.bl.keepT hk h1).r1,(h.hv.keepT hk h2).r1⟩

def LT1:List TypeId:=[9,4,3,109,99]
def LT2:List TypeId:=[9,4,3,109,99,50,54,57]
def LTF:List TypeId:=[9,4,99,50]
def LTA:List TypeId:=[109,99,54]
def LTP:List TypeId:=[3,57]
def LQ:List TypeId:=[109]
def LP:List TypeId:=[3]
def LB:List TypeId:=[9,4]
theorem qi1:∀ e ∈ LTF,e ∈ LT2:=by decide
theorem qkm:∀ e ∈ LTA,e ∈ LT2:=by decide
theorem qk1:∀ e ∈ LTP,e ∈ LT2:=by decide
theorem LBF:∀ e ∈ LB,e ∈ LTF:=by decide
theorem LQA:∀ e ∈ LQ,e ∈ LTA:=by decide
theorem LPP:∀ e ∈ LP,e ∈ LTP:=by decide

def WdS(w:World)(x:Wd)(vF vL vA vN:Value):Prop:=Stb LT2 (fun w=>WdR w x vF vL vA vN) w
theorem WdS.r{w:World}{x:Wd}{vF vL vA vN:Value}(h:WdS w x vF vL vA vN):WdR w x vF vL vA vN:=h.self
theorem WdS.keep{w w':World}{x:Wd}{vF vL vA vN:Value}(h:WdS w x vF vL vA vN)(hk:qaA LT2 w w'):WdS w' x vF vL vA vN:=h.next hk
theorem WdS.below{w w':World}{x:Wd}{vF vL vA vN:Value}(h:WdS w x vF vL vA vN)(hb:bB w w'):WdS w' x vF vL vA vN:=h.next (qaA.of_below hb)
theorem WdS.feeds{w:World}{x:Wd}{vF vL vA vN:Value}(h:WdS w x vF vL vA vN):Stb LT2 (fun w=>qa6 w vF x.feeds) w:=h.imp fun _ h=>h.feeds
theorem WdS.links{w:World}{x:Wd}{vF vL vA vN:Value}(h:WdS w x vF vL vA vN):Stb LT2 (fun w=>RP w vL x.links) w:=h.imp fun _ h=>h.links
theorem WdS.asked{w:World}{x:Wd}{vF vL vA vN:Value}(h:WdS w x vF vL vA vN):Stb LT2 (fun w=>qdh w vA x.asked) w:=h.imp fun _ h=>h.asked
theorem WdS.net{w:World}{x:Wd}{vF vL vA vN:Value}(h:WdS w x vF vL vA vN):Stb LT2 (fun w=>qbx w vN x.net) w:=h.imp fun _ h=>h.net
theorem WdS.of{w:World}{x:Wd}{vF vL vA vN:Value}(h1:Stb LT2 (fun w=>qa6 w vF x.feeds) w)(h2:Stb LT2 (fun w=>RP w vL x.links) w)(h3:Stb LT2 (fun w=>qdh w vA x.asked) w)(h4:Stb LT2 (fun w=>qbx w vN x.net) w):WdS w x vF vL vA vN:=
 fun w' hk=>⟨h1 w' hk,h2 w' hk,h3 w' hk,h4 w' hk⟩

theorem qaK.keep{B:Nat}{T:List TypeId}{w w':World}{f:Fd}{a b:Value}(h:qaK B w f a b)(hk:qaA T w w')(h1:9 ∈ T)(h2:4 ∈ T):qaK B w' f a b:=⟨h.bl.keepT hk h1,h.hv.keepT hk h2⟩
def qfC(B C:Nat)(w:World)(v:Value)(fs:List Fd):Prop:=
 ∃ F,ON 6 B 50 w v fs.length F∧B≤C∧C≤w.heap.size∧∀ j (hj:j<fs.length),F (j*6)=.int .i64 fs[j].pub∧F (j*6+1)=.int .i64 fs[j].hd.len∧F (j*6+2)=.int .i64 fs[j].hd.dg∧F (j*6+3)=.int .i64 fs[j].hd.sg∧qaK (if j=0 then B else C) w fs[j] (F (j*6+4)) (F (j*6+5))∧(j=0→Up C (F (j*6+4))∧Up C (F (j*6+5)))
def qa1(B:Nat)(w:World)(v:Value)(fs:List Fd):Prop:=∃ C,qfC B C w v fs
def qbB(B:Nat)(w:World)(v:Value)(ls:List (List (Int×Int))):Prop:=
 ∃ F,ON 1 B 54 w v ls.length F∧∀ j (hj:j<ls.length),Stb LQ (fun w=>RP w (F j) ls[j]) w
def qaW(B:Nat)(w:World)(v:Value)(ps:List Pc):Prop:=
 ∃ F,ON 6 B 57 w v ps.length F∧∀ j (hj:j<ps.length),F (j*6)=.int .i64 ps[j].fr∧F (j*6+1)=.int .i64 ps[j].to_∧F (j*6+2)=.int .i64 ps[j].len∧F (j*6+3)=.int .i64 ps[j].idx∧F (j*6+4)=.string ps[j].txt∧Stb LP (fun w=>RI w (F (j*6+5)) ps[j].prf) w
def qav(B:Nat)(e:TypeId)(w:World)(v:Value)(l:List (Int×Int)):Prop:=
 ∃ F,ON 2 B e w v l.length F∧∀ j (hj:j<l.length),F (j*2)=.int .i64 l[j].1∧F (j*2+1)=.int .i64 l[j].2
section
variable {B B':Nat} {w w':World} {v:Value} {fs:List Fd} {ls:List (List (Int×Int))} {ps:List Pc} {l:List (Int×Int)} {e:TypeId} {T:List TypeId}
theorem qfC.next{C:Nat}(h:qfC B C w v fs)(hk:qaA LTF w w'):qfC B C w' v fs:=by
 obtain⟨F,h1,h3,h4,h2⟩:=h;exact⟨F,h1.keepT hk e_,h3,Nat.le_trans h4 hk.1,fun j hj=>⟨(h2 j hj).1,(h2 j hj).2.1,(h2 j hj).2.2.1,(h2 j hj).2.2.2.1,(h2 j hj).2.2.2.2.1.keep hk e_ e_,(h2 j hj).2.2.2.2.2⟩⟩
theorem qa1.next(h:qa1 B w v fs)(hk:qaA LTF w w'):qa1 B w' v fs:=by obtain⟨C,h⟩:=h;exact⟨C,h.next hk⟩
theorem qa1.mono(h:qa1 B w v fs)(hB:B'≤B):qa1 B' w v fs:=by
 obtain⟨C,F,h1,h3,h4,h2⟩:=h;refine⟨C,F,h1.mono hB,Nat.le_trans hB h3,h4,fun j hj=>⟨(h2 j hj).1,(h2 j hj).2.1,(h2 j hj).2.2.1,(h2 j hj).2.2.2.1,(h2 j hj).2.2.2.2.1.mono ?_,(h2 j hj).2.2.2.2.2⟩⟩;split <;> omega
theorem qa1.r(h:qa1 B w v fs):qa6 w v fs:=by
 obtain⟨C,F,h1,h3,h4,h2⟩:=h;exact⟨F,h1.rn,fun j hj=>⟨(h2 j hj).1,(h2 j hj).2.1,(h2 j hj).2.2.1,(h2 j hj).2.2.2.1,(h2 j hj).2.2.2.2.1.r⟩⟩
theorem qa1.stb(h:qa1 B w v fs):Stb LT2 (fun w=>qa6 w v fs) w:=fun _ hk=>(h.next (hk.mono qi1)).r
theorem qbB.next(h:qbB B w v ls)(hk:qaA LTA w w'):qbB B w' v ls:=by
 obtain⟨F,h1,h2⟩:=h;exact⟨F,h1.keepT hk e_,fun j hj=>(h2 j hj).next (hk.mono LQA)⟩
theorem qbB.mono(h:qbB B w v ls)(hB:B'≤B):qbB B' w v ls:=by obtain⟨F,h1,h2⟩:=h;exact⟨F,h1.mono hB,h2⟩
theorem qbB.r(h:qbB B w v ls):qdh w v ls:=by obtain⟨F,h1,h2⟩:=h;exact⟨F,h1.rn,fun j hj=>(h2 j hj).self⟩
theorem qbB.stb(h:qbB B w v ls):Stb LT2 (fun w=>qdh w v ls) w:=fun _ hk=>(h.next (hk.mono qkm)).r
theorem qaW.next(h:qaW B w v ps)(hk:qaA LTP w w'):qaW B w' v ps:=by
 obtain⟨F,h1,h2⟩:=h;exact⟨F,h1.keepT hk e_,fun j hj=>⟨(h2 j hj).1,(h2 j hj).2.1,(h2 j hj).2.2.1,(h2 j hj).2.2.2.1,(h2 j hj).2.2.2.2.1,(h2 j hj).2.2.2.2.2.next (hk.mono LPP)⟩⟩
theorem qaW.mono(h:qaW B w v ps)(hB:B'≤B):qaW B' w v ps:=by obtain⟨F,h1,h2⟩:=h;exact⟨F,h1.mono hB,h2⟩
theorem qaW.r(h:qaW B w v ps):qbx w v ps:=by
 obtain⟨F,h1,h2⟩:=h;exact⟨F,h1.rn,fun j hj=>⟨(h2 j hj).1,(h2 j hj).2.1,(h2 j hj).2.2.1,(h2 j hj).2.2.2.1,(h2 j hj).2.2.2.2.1,(h2 j hj).2.2.2.2.2.self⟩⟩
theorem qaW.stb(h:qaW B w v ps):Stb LT2 (fun w=>qbx w v ps) w:=fun _ hk=>(h.next (hk.mono qk1)).r
theorem qav.next(h:qav B e w v l)(hk:qaA T w w')(he:e ∈ T):qav B e w' v l:=by obtain⟨F,h1,h2⟩:=h;exact⟨F,h1.keepT hk he,h2⟩
theorem qav.mono(h:qav B e w v l)(hB:B'≤B):qav B' e w v l:=by obtain⟨F,h1,h2⟩:=h;exact⟨F,h1.mono hB,h2⟩
theorem qav.r(h:qav B e w v l):RP w v l:=by
 obtain⟨F,h1,h2⟩:=h;obtain⟨A,c,hv,q1,q2,q3⟩:=h1.rn;refine⟨A,c,hv,q1,q2,fun hl=> ?_⟩;obtain⟨b,o,hA,hb,hc⟩:=q3 hl;refine⟨b,o,hA,hb,fun j hj=>⟨?_,?_⟩⟩
 · rw[hc _ a_,(h2 j hj).1]
 · rw[Nat.add_assoc,hc _ a_,(h2 j hj).2]
theorem qav.stb(h:qav B e w v l)(he:e ∈ T):Stb T (fun w=>RP w v l) w:=fun _ hk=>(h.next hk he).r
theorem qa1.row(h:qa1 B w v fs):∀ r,v.ownBlock=some r→B≤r∧r<w.heap.size:=by obtain⟨_,F,h1,_⟩:=h;exact h1.lt
theorem qa1.sl(h:qa1 B w v fs):∃ A c,v=.slice A fs.length c:=h.r.sl
theorem qbB.sl(h:qbB B w v ls):∃ A c,v=.slice A ls.length c:=h.r.sl
theorem qaW.sl(h:qaW B w v ps):∃ A c,v=.slice A ps.length c:=h.r.sl
theorem qav.sl(h:qav B e w v l):∃ A c,v=.slice A l.length c:=h.r.sl
theorem qa1.nil(hB:B≤w.heap.size):qa1 B w (.slice none 0 0) []:=⟨B,fun _=>.slice none 0 0,ON.nil,nr_ _,hB,fun j hj=>an_⟩
theorem qbB.nil:qbB B w (.slice none 0 0) []:=⟨fun _=>.slice none 0 0,ON.nil,fun j hj=>an_⟩
end
structure WdC (B:Nat) (w:World) (x:Wd) (vF vL vA vN:Value):Prop where
 feeds:qa1 B w vF x.feeds
 links:qav B 99 w vL x.links
 asked:qbB B w vA x.asked
 net:qaW B w vN x.net
theorem WdC.s{B:Nat}{w:World}{x:Wd}{vF vL vA vN:Value}(h:WdC B w x vF vL vA vN):WdS w x vF vL vA vN:=WdS.of h.feeds.stb (h.links.stb e_) h.asked.stb h.net.stb
theorem WdC.keep{B:Nat}{w w':World}{x:Wd}{vF vL vA vN:Value}(h:WdC B w x vF vL vA vN)(hk:qaA LT2 w w'):WdC B w' x vF vL vA vN:=
 ⟨h.feeds.next (hk.mono qi1),h.links.next hk e_,h.asked.next (hk.mono qkm),h.net.next (hk.mono qk1)⟩
theorem WdC.mono{B B':Nat}{w:World}{x:Wd}{vF vL vA vN:Value}(h:WdC B w x vF vL vA vN)(hB:B'≤B):WdC B' w x vF vL vA vN:=⟨h.feeds.mono hB,h.links.mono hB,h.asked.mono hB,h.net.mono hB⟩

def qnj(m:Nat)(F H:Nat→Value)(t:Nat):Value:=if t<m then F t else H (t-m)
theorem qaC{m t:Nat}{F H:Nat→Value}(h:t<m):qnj m F H t=F t:=by unfold qnj;rw[if_pos h]
theorem qaD{m t:Nat}{F H:Nat→Value}(h:m≤t):qnj m F H t=H (t-m):=by unfold qnj;rw[if_neg a_]
theorem ql4(a b:Nat)(F H:Nat→Value):(List.range (a+b)).map (qnj a F H)=(List.range a).map F++(List.range b).map H:=by
 rw[List.range_add,List.map_append,List.map_map];congr 1
 · exact List.map_congr_left fun t ht=>qaC (List.mem_range.1 ht)
 · refine List.map_congr_left fun t _=> ?_;show qnj a F H (a+t)=H t;rw[qaD a_,Nat.add_sub_cancel_left]
theorem qcQ{P:Program}{o:Oper}{a:Act}{K:Act→World→Prop}{Q:Exit→Act→World→Prop}{w:World}(t e size bytes:Nat)(i:TypeInfo)(z:Value)
 (ht:P.underlying t=some (.slice e)) (hi:P.info? e=some i) (hz:i.zero=some z) (hsize:i.size=size) (hby:i.bytes=bytes) (hzs:z.cells.size=size) (hsz:0<size) (hb100:bytes≤1000)
 {base n m:Nat} {v x:Value} {F H:Nat→Value} (hown:ON size base e w v n F) (hr:RN size w x m H) (h1:∀ t,t<m*size→(H t).oneCell'=true) (hn:n+m≤100000000000) (hbase:base≤w.heap.size)
 {s y:Operand} (ho:o.op=.call {callee:=.builtin .append,args:= #[s,y],argTypes:= #[t,t]}) (hs:a.eval s=v) (hx:a.eval y=x)
 (h:∀ A c w',ON size base e w' (.slice A (n+m) c) (n+m) (qnj (n*size) F H)→w.grownBy w' v.ownBlock→K (a.put o.dst (.slice A (n+m) c)) w'):Oper.wp P o a w K Q:=by
 obtain⟨A,c,rfl,h2,h3,h4⟩:=hr;have hbd:(n+m)*bytes≤100000000000*1000:=Nat.mul_le_mul hn hb100;rcases A with _|ad
 · have hc0:c=0:=h2.2 rfl;have hm0:m=0:=a_;subst hc0 hm0;have hrun:=run_append_owned_none (P:=P) (w:=w) base t o.type e i size ht hi v n _ hown;obtain⟨A,c,rfl⟩:=hown.rn.sl;unfold Oper.wp;simp[execOp,ho,resolve,invoke,builtin,hs,hx,hrun,Result.andThen];exact h A c w (hown.congr fun t ht=>(qaC ht).symm) (qii _ _)
 · refine wp_append_own w s y t ho base e i z size bytes ht hi hz hsize hby hzs hsz v n _ hs hown ad m c ((List.range (m*size)).map H) hx k_ (fun j u hu=> ?_) ?_ s_ a_ hbase ?_
   · have hj:j<m*size:=by have:=(List.getElem?_eq_some_iff.1 hu).1;simpa using this
     have hm:0<m:=by rcases Nat.eq_zero_or_pos m with h|h;(· subst h;simp at hj);exact h
     obtain⟨b,o',hA,hb,hcell⟩:=h4 hm;cases hA;have hadd:(⟨b,o',none⟩:Addr).add j=⟨b,o'+j,none⟩:=by unfold Addr.add;split <;> simp_all
     rw[hadd,hcell j hj];simp[hj] at hu;rw[hu]
   · intro u hu;obtain⟨t,ht,rfl⟩:=List.mem_map.1 hu;exact h1 t (List.mem_range.1 ht)
   · intro v' w' h5 h6 _;have h7:ON size base e w' v' (n+m) (qnj (n*size) F H):=by
      unfold ON;rw[Nat.add_mul,ql4];exact h5
     obtain⟨A',c',rfl⟩:=h7.rn.sl;exact h A' c' w' h7 h6
theorem qaF{P:Program}{ops:Array Oper}{rest:List Oper}{o:Oper}{a:Act}{Q:Exit→Act→World→Prop}{w:World}(hgd:o.guard=none)(h:∀ K:Act→World→Prop,(∀ a' w',wpList P ops Q rest a' w'→K a' w')→Oper.wp P o a w K Q):wpList P ops Q (o::rest) a w:=
 wpList_plain hgd fun K hK=>h K hK
theorem qa9{P:Program}{ops:Array Oper}{o:Oper}{a:Act}{K:Act→World→Prop}{Q:Exit→Act→World→Prop}{E:Prop}{w:World}(hgd:o.guard=none)(h:Oper.wp P o a w K Q):if Region.wanted o (yielded ops a.tmps)=true then Oper.wp P o a w K Q else E:=by
 rw[if_pos (by simp[Region.wanted,hgd])];exact h
theorem RN.box{w:World}{cur:Array Value}{e:TypeId}{N:Nat}(hN:cur.size=N):RN N (w.alloc (.cells cur e)) (.slice (some ⟨w.heap.size,0,none⟩) 1 1) 1 (fun t=>cur.toList.getD t (.slice none 0 0)):=by
 refine⟨_,_,rfl,⟨nr_ _,fun h=>aj_⟩,s_,fun _=>⟨_,0,rfl,k_,fun t ht=> ?_⟩⟩;rw[Nat.zero_add,cell_of_row _ w.heap.size t cur e (0,0) (heap_alloc_new w _)];have:t<cur.toList.length:=by simp;omega
 show cur[t]? =some (cur.toList.getD t (.slice none 0 0));rw[List.getD_eq_getElem?_getD,List.getElem?_eq_getElem this];simp
theorem R1.rn{α:Type}{enc:α→Value}{w:World}{v:Value}{l:List α}(h:R1 enc w v l):RN 1 w v l.length (fun t=>(l.map enc).getD t (.slice none 0 0)):=by
 obtain⟨A,c,hv,h1,h2,h3⟩:=h;refine⟨A,c,hv,h1,h2,fun hl=> ?_⟩;obtain⟨b,o,hA,hb,hc⟩:=h3 hl;refine⟨b,o,hA,hb,fun t ht=> ?_⟩;rw[hc t a_];show some (enc l[t])=some ((l.map enc).getD t (.slice none 0 0));rw[List.getD_eq_getElem?_getD,List.getElem?_eq_getElem n_];simp
def qjk(l:List (Int×Int))(t:Nat):Value:=if t%2=0 then .int .i64 (l.getD (t/2) (0,0)).1 else .int .i64 (l.getD (t/2) (0,0)).2
theorem qjl{l:List (Int×Int)}{j:Nat}(hj:j<l.length):qjk l (j*2)=.int .i64 l[j].1:=by unfold qjk;rw[if_pos a_,show j*2/2=j by omega,qam hj]
theorem qjm{l:List (Int×Int)}{j:Nat}(hj:j<l.length):qjk l (j*2+1)=.int .i64 l[j].2:=by unfold qjk;rw[if_neg a_,show(j*2+1)/2=j by omega,qam hj]
theorem RP.rn{w:World}{v:Value}{l:List (Int×Int)}(h:RP w v l):RN 2 w v l.length (qjk l):=by
 obtain⟨A,c,hv,h1,h2,h3⟩:=h;refine⟨A,c,hv,h1,h2,fun hl=> ?_⟩;obtain⟨b,o,hA,hb,hc⟩:=h3 hl;refine⟨b,o,hA,hb,fun t ht=> ?_⟩;obtain⟨j,rfl|rfl⟩:∃ j,t=j*2∨t=j*2+1:=⟨t/2,a_⟩
 · rw[qjl a_,(hc j a_).1]
 · rw[qjm a_,←Nat.add_assoc,(hc j a_).2]
theorem qif(l:List (Int×Int))(t:Nat):(qjk l t).oneCell'=true:=by unfold qjk;split <;> rfl
end Go.Proofs.YtekaaekpdebloaaGreatDoor
namespace Go.Proofs.YtekaaekpdebloaaGreatDoor

def qbw(a b:Int):Int×Int:=(min a b,max a b)
def qbk(x:Wd)(a b:Int):Bool:=qc8 x.links (qbw a b)
def qiS(f:Fd)(i:Int):Bool:=inB i 0 ((f.hv.length:Int)-1)&&f.hv.getD i.toNat false
def Fd.more(sec:Int)(f:Fd)(t:ByteArray):Fd:=⟨f.pub,(qbJ sec (lvs (f.bl++[t]))).1,f.bl++[t],f.hv++[true]⟩
def qd1(x:Wd)(t:ByteArray):Wd:=
 if 8<t.size∨16≤x.f0.bl.length then x else {x with feeds:=x.feeds.set 0 (x.f0.more x.sec t)}
structure qcR where
 out:List (Int×Int)
 up:Bool
 key:Int×Int
def gtL(l x:Int×Int):Bool:=decide (x.1<l.1)||(l.1==x.1&&decide (x.2<l.2))
def qeV(s:qcR)(l:Int×Int):qcR:=
 let s:=if s.up&&gtL l s.key then ⟨s.out++[s.key],false,(-1,0)⟩ else s
 if l.1==s.key.1&&l.2==s.key.2 then s else {s with out:=s.out++[l]}
def qfr(ls:List (Int×Int))(x:Int×Int)(up:Bool):List (Int×Int):=
 let s:=ls.foldl qeV ⟨[],up,x⟩
 if s.up then s.out++[s.key] else s.out
def qmd(x:Wd)(a b:Int)(up:Bool):Bool:=
 (qbw a b).1 !=(qbw a b).2&&inB (qbw a b).1 0 ((x.feeds.length:Int)-1)&&inB (qbw a b).2 0 ((x.feeds.length:Int)-1)&&(qbk x a b !=up)
def qeh(x:Wd)(a b:Int)(up:Bool):Wd:=if qmd x a b up then {x with links:=qfr x.links (qbw a b) up} else x
def Wd.feed(x:Wd)(a:Int):Fd:=x.feeds.getD a.toNat Fd.none
def Wd.asks(x:Wd)(a:Int):List (Int×Int):=x.asked.getD a.toNat []
def qet(x:Wd)(a b:Int):Fd×Int:=qc9 (x.feed b) (x.feed a).hd (qcv ((lvs x.f0.bl).take (x.feed a).hd.len.toNat) (x.feed b).hd.len)
def qdj(x:Wd)(a b:Int):Bool:=qbk x a b&&decide ((x.feed b).hd.len<(x.feed a).hd.len)
def qa0(x:Wd)(a b:Int):Wd:=
 if qdj x a b&&(qet x a b).2==0 then {x with feeds:=x.feeds.set b.toNat (qet x a b).1} else x
def qfs(l:List (Int×Int))(a:Int×Int)(end_:Bool):List (Int×Int)×Bool:=
 if qaG l&&qcB a then
  if qc8 l a||decide (3≤qcX l a.1)||decide ((if end_ then 2 else 1)≤qdL l a.2) then (l,false) else (l++[a],true)
 else ([],false)
def qhJ(l:List (Int×Int))(a:Int×Int):List (Int×Int):=
 if qaG l&&qcB a then (if qc8 l a then l.filter (fun y=>y.2 !=a.2) else l) else []
def qeg(l:List (Int×Int))(p:Int):List (Int×Int):=
 if qaG l&&inB p 0 5 then l.filter (fun y=>y.1 !=p) else []
def qgE(x:Wd)(a b c:Int):Bool:=qbk x a b&&((x.feed a).hd.len==(x.feed b).hd.len)&&qiS (x.feed b) c&& !(x.feed a).hv.getD c.toNat false
def qh2(x:Wd)(a:Int):Bool:=decide (((x.feed a).hv.length:Int)-qeG (x.feed a).hv≤2)
def qiT(x:Wd)(a b c:Int):Wd:=
 if qgE x a b c&&(qfs (x.asks a) (b,c) (qh2 x a)).2 then {x with asked:=x.asked.set a.toNat (qfs (x.asks a) (b,c) (qh2 x a)).1} else x
def qfj(x:Wd)(a b c:Int):Bool:=qbk x a b&&qc8 (x.asks a) (b,c)&&qiS (x.feed b) c&&decide (x.net.length<12)
def qdP(x:Wd)(b c:Int)(t:ByteArray):ByteArray:=if b !=x.bad then (x.feed b).bl.getD c.toNat ⟨#[]⟩ else t
def qbO(x:Wd)(a b c:Int)(t:ByteArray):Wd:=
 if qfj x a b c&&decide ((qdP x b c t).size≤8) then
  {x with net:=x.net++[⟨b,a,(x.feed b).hd.len,c,qdP x b c t,qaQ ((lvs x.f0.bl).take (x.feed b).hd.len.toNat) c⟩]} else x
def qd2(x:Wd)(p:Pc):Wd:=
 if !qc8 (x.asks p.to_) (p.fr,p.idx)||(x.feed p.to_).hd.len !=p.len then x
 else if (qes (x.feed p.to_) p.idx p.txt p.prf).2 then {x with feeds:=x.feeds.set p.to_.toNat (qes (x.feed p.to_) p.idx p.txt p.prf).1,asked:=x.asked.set p.to_.toNat (qhJ (x.asks p.to_) (p.fr,p.idx))}
 else {x with asked:=x.asked.set p.to_.toNat (qeg (x.asks p.to_) p.fr)}
def qgz(x:Wd)(k:Int)(lost:Bool):Wd:=
 if inB k 0 ((x.net.length:Int)-1) then
  (if lost then {x with net:=x.net.eraseIdx k.toNat} else qd2 {x with net:=x.net.eraseIdx k.toNat} (x.net.getD k.toNat Pc.none))
 else x
structure Ev where
 kind:Int
 a:Int
 b:Int
 c:Int
 txt:ByteArray
def wdo(x:Wd)(e:Ev):Wd:=
 if e.kind=1 then qd1 x e.txt
 else if e.kind=2 then qeh x e.a e.b true
 else if e.kind=3 then qeh x e.a e.b false
 else if e.kind=4 then qa0 x e.a e.b
 else if e.kind=5 then qiT x e.a e.b e.c
 else if e.kind=6 then qbO x e.a e.b e.c e.txt
 else if e.kind=7 then qgz x e.a false
 else if e.kind=8 then qgz x e.a true
 else x

structure WI (K:Nat) (x:Wd):Prop where
 sec:key x.sec=true
 n1:1≤x.feeds.length
 n6:x.feeds.length≤6
 na:x.asked.length=x.feeds.length
 pub:x.f0.pub=qhr x.sec
 whole:qbA x.f0.hv=true
 fv:∀ j (hj:j<x.feeds.length),qaq x.feeds[j]=true∧x.feeds[j].hd.len≤x.f0.hd.len
 links:∀ j (hj:j<x.links.length),qc5 x.feeds.length x.links[j]=true
 ask:∀ j (hj:j<x.asked.length),x.asked[j].length≤K
 nl:x.links.length≤K
 net:x.net.length≤12
 pcs:∀ j (hj:j<x.net.length),inB x.net[j].fr 0 ((x.feeds.length:Int)-1)=true∧inB x.net[j].to_ 0 ((x.feeds.length:Int)-1)=true∧x.net[j].txt.size≤8∧x.net[j].prf.length≤100
end Go.Proofs.YtekaaekpdebloaaGreatDoor
namespace Go.Proofs.YtekaaekpdebloaaGreatDoor
open Go.RowKit

theorem R1.at_{α:Type}{enc:α→Value}{w:World}{l:List α}{A:Option Addr}{c n:Nat}(h:R1 enc w (.slice A n c) l){j:Nat}(hj:j<l.length):
 ∃ b o,A=some ⟨b,o,none⟩∧b<w.heap.size∧w.cell? ⟨b,o+j,none⟩=some (enc l[j]):=by
 obtain⟨A',c',he,h1,h2,h3⟩:=h;obtain⟨rfl,rfl,rfl⟩:A=A'∧n=l.length∧c=c':=by injection he with a b c;exact⟨a,b,c⟩
 obtain⟨b,o,hA,hb,hc⟩:=h3 a_;exact⟨b,o,hA,hb,hc j hj⟩
theorem qlH{k:Nat}{l:List (Int×Int)}{a:Int×Int}(h:qc8 (l.take k) a=false)(hk:l.length≤k):qc8 l a=false:=by rwa[List.take_of_length_le hk] at h
theorem qbY(x:Wd)(a b:Int)(vF vL vA vN:Value)(w:World)(hL:RP w vL x.links):
 gV 194 #[.agg #[.int .i64 x.sec,.int .i64 x.bad,vF,vL,vA,vN],.int .i64 a,.int .i64 b] w (.bool (qbk x a b)):=by
 obtain⟨s,bd,fs,l,ks,ps⟩:=x;unfold qbk;simp only at hL ⊢;obtain⟨W0,HW0⟩:=nm_ (w.alloc (.cells #[.int .i64 s,.int .i64 bd,vF,vL,vA,vN] 28));have HB0:Hid (bB w W0):=hI_ q_;obtain⟨A,c,rfl⟩:=hL.sl;have hp:W0.heap[w.heap.size]? =some (.cells #[.int .i64 s,.int .i64 bd,vF,.slice A l.length c,vA,vN] 28 (0,0)):=by rw[←HW0.out];exact heap_alloc_new w _
 obtain⟨p0,p1,p2,p3,p4,p5,pf⟩:=qaa hp;have HV:=hI_ (hL.below HB0.out);have hm:=hL.len;unfold maxLen at hm;clear hL hp p0 p1 p2 p4 p5 pf;obtain⟨z,HK⟩:=nm_ (qbw a b);have hz1:z.1=min a b:=by rw[←HK.out];rfl
 have hz2:z.2=max a b:=by rw[←HK.out];rfl
 rw[HK.out];have hcase:(a<b∧¬ b<a∧Hid (z.1=a)∧Hid (z.2=b))∨(a=b∧Hid (z.1=a)∧Hid (z.2=a))∨(b<a∧¬ a<b∧Hid (z.1=b)∧Hid (z.2=a)):=by
  rcases Int.lt_trichotomy a b with h|h|h
  · exact .inl ⟨h,a_,hI_ a_,hI_ a_⟩
  · exact .inr (.inl ⟨h,hI_ a_,hI_ a_⟩)
  · exact .inr (.inr ⟨h,a_,hI_ a_,hI_ a_⟩)
 clear hz1 hz2;rcases hcase with⟨hab,hba,HZ1,HZ2⟩|⟨rfl,HZ1,HZ2⟩|⟨hab,hba,HZ1,HZ2⟩
 all_goals
  go_enter Tryz.func194,Tryz.ntmps194
  go_wp2
  rw[HW0.out];go_loop [7] (fun i=>∃ k:Nat,k≤l.length∧i=.int .i64 k∧qc8 (l.take k) z=false) (fun i=>l.length-(intOf i).toNat)
  case atStart=>exact⟨0,Nat.zero_le _,rfl,rfl⟩
  case round=>
   obtain⟨k,hk,rfl,hno⟩:=hrel;have HNO:=hI_ hno;clear hno;by_cases hlt:k<l.length
   case neg=>
    go_wp2
    go_ret;exact⟨qaM (qlH HNO.out a_).symm,HB0.out⟩
   obtain⟨b',o,rfl,hbs,e0,e1⟩:=HV.out.at_ hlt;have hki:(k:Int)<(l.length:Int):=a_;have hk0:(0:Int)≤(k:Int):=a_;have HSN:=hI_ (qfQ hlt z);have HAT:=hI_ (fun h=>qjo (a:=z) hlt h);generalize l[k]=y at*
   cases h1:(y.1==z.1)
   · have h1':=hI_ h1;rw[HZ1.out] at h1;go_wp2
     go_round
     case rel=>exact⟨k+1,a_,t_,by rw[HSN.out,HNO.out,h1'.out];rfl⟩
     case measure=>simp[intOf];omega
   cases h2:(y.2==z.2)
   · have h1':=hI_ h1;have h2':=hI_ h2;rw[HZ1.out,beq_iff_eq] at h1;rw[HZ2.out] at h2;go_wp2
     go_round
     case rel=>exact⟨k+1,a_,t_,by rw[HSN.out,HNO.out,h1'.out,h2'.out];rfl⟩
     case measure=>simp[intOf];omega
   · have h1':=hI_ h1;have h2':=hI_ h2;rw[HZ1.out,beq_iff_eq] at h1;rw[HZ2.out,beq_iff_eq] at h2;go_wp2
     go_ret;exact⟨qaM (HAT.out (by rw[h1'.out,h2'.out];rfl)).symm,HB0.out⟩
theorem qmM(f:Fd)(i:Int)(vb vh:Value)(w:World)(hf:RB w vh f.hv):
 gV 197 #[.agg #[.int .i64 f.pub,.int .i64 f.hd.len,.int .i64 f.hd.dg,.int .i64 f.hd.sg,vb,vh],.int .i64 i] w (.bool (qiS f i)):=by
 obtain⟨W0,HW0⟩:=nm_ (w.alloc (.cells #[.int .i64 f.pub,.int .i64 f.hd.len,.int .i64 f.hd.dg,.int .i64 f.hd.sg,vb,vh] 50));have HB0:Hid (bB w W0):=hI_ q_;obtain⟨A,c,rfl⟩:=hf.sl';have hp:W0.heap[w.heap.size]? =some (.cells #[.int .i64 f.pub,.int .i64 f.hd.len,.int .i64 f.hd.dg,.int .i64 f.hd.sg,vb,.slice A f.hv.length c] 50 (0,0)):=by rw[←HW0.out];exact heap_alloc_new w _
 obtain⟨p0,p1,p2,p3,p4,p5,pf⟩:=qaa hp;have HV:=hI_ (hf.below HB0.out);have hm:=hf.len;unfold maxLen at hm;clear hf hp p0 p1 p2 p3 p4 pf;have hup:=qap W0;obtain⟨v1,HV1⟩:=nm_ (inB i 0 ((f.hv.length:Int)-1));cases v1
 · have HR:Hid (qiS f i=false):=hI_ (by unfold qiS;rw[HV1.out];rfl);rw[HR.out];rw[←HW0.out] at p5;go_enter Tryz.func197,Tryz.ntmps197
   go_wp2_with (go_at_call 124;refine(qbG HV1 _).mono ?_;rintro e w' ⟨rfl,rfl⟩)
   go_ret;exact⟨rfl,(bR_ _ _).alloc (nr_ _) _⟩
 · obtain⟨h0,h1⟩:=qak.1 HV1.out;obtain⟨k,rfl⟩:∃ k:Nat,i=(k:Int):=⟨i.toNat,a_⟩
   have hk:k<f.hv.length:=a_;obtain⟨b',o,rfl,hbs,e0⟩:=HV.out.at_ hk;have HR:Hid (qiS f (k:Int)=f.hv[k]):=hI_ (by unfold qiS;rw[HV1.out,Int.toNat_natCast,qam hk];rfl);rw[HR.out];have hki:(k:Int)<(f.hv.length:Int):=a_;generalize f.hv[k]=r at*
   rw[←HW0.out] at p5 e0;cases r
   all_goals
    go_enter Tryz.func197,Tryz.ntmps197
    go_wp2_with (go_at_call 124;refine(qbG HV1 _).mono ?_;rintro e w' ⟨rfl,rfl⟩)
    go_ret;exact⟨rfl,(bR_ _ _).alloc (nr_ _) _⟩
theorem ON.empty{N B g:Nat}{e:TypeId}{w:World}{F:Nat→Value}(h:w.heap[g]? =some (.cells #[] e (0,0)))(hB:B≤g):ON N B e w (.slice (some ⟨g,0,none⟩) 0 0) 0 F:=
 ⟨k_,.inr ⟨g,0,#[],rfl,hB,h,nr_ _,s_,k_,k_⟩⟩
theorem qav.empty{B g:Nat}{e:TypeId}{w:World}(h:w.heap[g]? =some (.cells #[] e (0,0)))(hB:B≤g):qav B e w (.slice (some ⟨g,0,none⟩) 0 0) []:=⟨fun _=>.slice none 0 0,ON.empty h hB,fun j hj=>an_⟩
theorem qaW.empty{B g:Nat}{w:World}(h:w.heap[g]? =some (.cells #[] 57 (0,0)))(hB:B≤g):qaW B w (.slice (some ⟨g,0,none⟩) 0 0) []:=⟨fun _=>.slice none 0 0,ON.empty h hB,fun j hj=>an_⟩
section
variable {o:Oper} {a:Act} {K:Act→World→Prop} {Q:Exit→Act→World→Prop} {w:World} {base:Nat} {v:Value}
theorem qkf{l l2:List (Int×Int)}{x:Value}(hown:qav base 99 w v l)(hr:RP w x l2)(hn:l.length+l2.length≤100000000000)(hbase:base≤w.heap.size){s y:Operand}
 (ho:o.op=.call {callee:=.builtin .append,args:= #[s,y],argTypes:= #[24,24]}) (hs:a.eval s=v) (hx:a.eval y=x)
 (h:∀ A c w',qav base 99 w' (.slice A (l.length+l2.length) c) (l++l2)→w.grownBy w' v.ownBlock→K (a.put o.dst (.slice A (l.length+l2.length) c)) w'):Oper.wp Tryz.prog o a w K Q:=by
 obtain⟨F,h1,h2⟩:=hown;obtain⟨i0,hi,hz0,hz1,hz2⟩:=info_parts qfV;refine qcQ 24 99 2 16 i0 _ Tryz.underlying24 hi hz0 hz1 hz2 rfl a_ a_ h1 hr.rn (fun t _=>qif _ _) hn hbase ho hs hx fun A c w' h3 h4=>h A c w' ⟨_,A_,fun j hj=> ?_⟩ h4;by_cases hlt:j<l.length
 · rw[qaC a_,qaC a_,List.getElem_append_left hlt];exact h2 j hlt
 · have hj':j-l.length<l2.length:=by simp at hj;omega
   rw[qaD a_,qaD a_,List.getElem_append_right a_,show j*2-l.length*2=(j-l.length)*2 by omega,show j*2+1-l.length*2=(j-l.length)*2+1 by omega];exact⟨qjl hj',qjm hj'⟩
theorem qml{l l2:List (Int×Int)}{x:Value}(hown:qav base 109 w v l)(hr:RP w x l2)(hn:l.length+l2.length≤100000000000)(hbase:base≤w.heap.size){s y:Operand}
 (ho:o.op=.call {callee:=.builtin .append,args:= #[s,y],argTypes:= #[54,54]}) (hs:a.eval s=v) (hx:a.eval y=x)
 (h:∀ A c w',qav base 109 w' (.slice A (l.length+l2.length) c) (l++l2)→w.grownBy w' v.ownBlock→K (a.put o.dst (.slice A (l.length+l2.length) c)) w'):Oper.wp Tryz.prog o a w K Q:=by
 obtain⟨F,h1,h2⟩:=hown;obtain⟨i0,hi,hz0,hz1,hz2⟩:=info_parts qhs;refine qcQ 54 109 2 16 i0 _ Tryz.underlying54 hi hz0 hz1 hz2 rfl a_ a_ h1 hr.rn (fun t _=>qif _ _) hn hbase ho hs hx fun A c w' h3 h4=>h A c w' ⟨_,A_,fun j hj=> ?_⟩ h4;by_cases hlt:j<l.length
 · rw[qaC a_,qaC a_,List.getElem_append_left hlt];exact h2 j hlt
 · have hj':j-l.length<l2.length:=by simp at hj;omega
   rw[qaD a_,qaD a_,List.getElem_append_right a_,show j*2-l.length*2=(j-l.length)*2 by omega,show j*2+1-l.length*2=(j-l.length)*2+1 by omega];exact⟨qjl hj',qjm hj'⟩
theorem qcx{α:Type}{l:List α}{y:α}{j:Nat}(hj:j<(l++[y]).length)(hlt:¬ j<l.length):j=l.length∧(l++[y])[j]=y:=by
 have:j=l.length:=by simp at hj;omega
 subst this;exact⟨rfl,k_⟩
theorem qnb{fs:List Fd}{f:Fd}{vb vh:Value}{C D:Nat}(hown:qfC base C w v fs)(hf:qaK D w f vb vh)(hCD:C≤D)(hn:fs.length+1≤100000000000)(hbase:base≤w.heap.size){s y:Operand}
 (ho:o.op=.call {callee:=.builtin .append,args:= #[s,y],argTypes:= #[23,23]}) (hs:a.eval s=v) {g:Nat} (hx:a.eval y=.slice (some ⟨g,0,none⟩) 1 1) (hg:g=w.heap.size)
 (h:∀ A c w',qa1 base w' (.slice A (fs.length+1) c) (fs++[f])→w.grownBy w' v.ownBlock→K (a.put o.dst (.slice A (fs.length+1) c)) w'):
 Oper.wp Tryz.prog o a (w.alloc (.cells #[.int .i64 f.pub,.int .i64 f.hd.len,.int .i64 f.hd.dg,.int .i64 f.hd.sg,vb,vh] 50)) K Q:=by
 subst hg;obtain⟨F,h1,hBC,hCs,h2⟩:=hown;have hup:Up w.heap.size vb∧Up w.heap.size vh:=⟨hf.bl.up_,hf.hv.up_⟩
 obtain⟨i0,hi,hz0,hz1,hz2⟩:=info_parts qfU;obtain⟨bA,bc,rfl⟩:=hf.bl.sl;obtain⟨hA,hc,rfl⟩:=hf.hv.sl;have hba:bB w (w.alloc (.cells #[.int .i64 f.pub,.int .i64 f.hd.len,.int .i64 f.hd.dg,.int .i64 f.hd.sg,.slice bA f.bl.length bc,.slice hA f.hv.length hc] 50)):=(bR_ _ _).alloc (nr_ _) _;have hone:∀ t,t<1*6→((#[Value.int .i64 f.pub,.int .i64 f.hd.len,.int .i64 f.hd.dg,.int .i64 f.hd.sg,.slice bA f.bl.length bc,.slice hA f.hv.length hc]:Array Value).toList.getD t (.slice none 0 0)).oneCell'=true:=by
  intro t ht;obtain rfl|rfl|rfl|rfl|rfl|rfl:t=0∨t=1∨t=2∨t=3∨t=4∨t=5:=a_;all_goals rfl
 refine qcQ 23 50 6 80 i0 _ Tryz.underlying23 hi hz0 hz1 hz2 rfl a_ a_ (h1.below hba) (RN.box rfl) hone hn (Nat.le_trans hbase hba.size) ho hs hx fun A c w' h3 h4=> ?_;have hg:w.grownBy w' v.ownBlock:=qat (qaP hba) h4;have hk:qaA LB w w':=h1.grew hg e_;obtain⟨E,hBE,hEs,hE0,hE1⟩:∃ E,base≤E∧E≤w.heap.size∧(fs.length=0→E=w.heap.size)∧(0<fs.length→E=C):=by
  rcases Nat.eq_zero_or_pos fs.length with h0|h0
  · exact⟨w.heap.size,hbase,nr_ _,fun _=>rfl,fun h=>absurd h a_⟩
  · exact⟨C,hBC,hCs,fun h=>absurd h a_,fun _=>rfl⟩
 refine h A c w' ⟨E,_,A_,hBE,Nat.le_trans hEs hg.size,fun j hj=> ?_⟩ hg;by_cases hlt:j<fs.length
 · rw[qaC a_,qaC a_,qaC a_,qaC a_,qaC a_,qaC a_,List.getElem_append_left hlt];rw[hE1 a_];exact⟨(h2 j hlt).1,(h2 j hlt).2.1,(h2 j hlt).2.2.1,(h2 j hlt).2.2.2.1,(h2 j hlt).2.2.2.2.1.keep hk e_ e_,(h2 j hlt).2.2.2.2.2⟩
 · obtain⟨rfl,he⟩:=qcx hj hlt;rw[qaD a_,qaD a_,qaD a_,qaD a_,qaD a_,qaD a_,he,Nat.sub_self,Nat.add_sub_cancel_left,Nat.add_sub_cancel_left,Nat.add_sub_cancel_left,Nat.add_sub_cancel_left,Nat.add_sub_cancel_left];refine⟨rfl,rfl,rfl,rfl,(hf.keep hk e_ e_).mono ?_,fun h0=> ?_⟩
   · split
     · exact Nat.le_trans hBC hCD
     · rw[hE1 a_];exact hCD
   · rw[hE0 h0];exact hup
theorem qnX{ls:List (List (Int×Int))}{l:List (Int×Int)}{x:Value}(hown:qbB base w v ls)(hf:Stb LQ (fun w=>RP w x l) w)(hn:ls.length+1≤100000000000)(hbase:base≤w.heap.size){s y:Operand}
 (ho:o.op=.call {callee:=.builtin .append,args:= #[s,y],argTypes:= #[25,25]}) (hs:a.eval s=v) {g:Nat} (hx:a.eval y=.slice (some ⟨g,0,none⟩) 1 1) (hg:g=w.heap.size)
 (h:∀ A c w',qbB base w' (.slice A (ls.length+1) c) (ls++[l])→w.grownBy w' v.ownBlock→K (a.put o.dst (.slice A (ls.length+1) c)) w'):
 Oper.wp Tryz.prog o a (w.alloc (.cells #[x] 54)) K Q:=by
 subst hg;obtain⟨F,h1,h2⟩:=hown;obtain⟨i0,hi,hz0,hz1,hz2⟩:=info_parts qeL;obtain⟨bA,bc,rfl⟩:=hf.self.sl;have hba:bB w (w.alloc (.cells #[.slice bA l.length bc] 54)):=(bR_ _ _).alloc (nr_ _) _;have hone:∀ t,t<1*1→((#[Value.slice bA l.length bc]:Array Value).toList.getD t (.slice none 0 0)).oneCell'=true:=by
  intro t ht;obtain rfl:t=0:=a_;rfl
 refine qcQ 25 54 1 24 i0 _ Tryz.underlying25 hi hz0 hz1 hz2 rfl a_ a_ (h1.below hba) (RN.box rfl) hone hn (Nat.le_trans hbase hba.size) ho hs hx fun A c w' h3 h4=> ?_;have hg:w.grownBy w' v.ownBlock:=qat (qaP hba) h4;have hk:qaA LQ w w':=h1.grew hg e_;refine h A c w' ⟨_,A_,fun j hj=> ?_⟩ hg;by_cases hlt:j<ls.length
 · rw[qaC a_,List.getElem_append_left hlt];exact(h2 j hlt).next hk
 · obtain⟨rfl,he⟩:=qcx hj hlt;rw[qaD a_,he,Nat.mul_one,Nat.sub_self];exact hf.next hk
theorem qiQ{ps:List Pc}{p:Pc}{x:Value}(hown:qaW base w v ps)(hf:Stb LP (fun w=>RI w x p.prf) w)(hn:ps.length+1≤100000000000)(hbase:base≤w.heap.size){s y:Operand}
 (ho:o.op=.call {callee:=.builtin .append,args:= #[s,y],argTypes:= #[26,26]}) (hs:a.eval s=v) {g:Nat} (hx:a.eval y=.slice (some ⟨g,0,none⟩) 1 1) (hg:g=w.heap.size)
 (h:∀ A c w',qaW base w' (.slice A (ps.length+1) c) (ps++[p])→w.grownBy w' v.ownBlock→K (a.put o.dst (.slice A (ps.length+1) c)) w'):
 Oper.wp Tryz.prog o a (w.alloc (.cells #[.int .i64 p.fr,.int .i64 p.to_,.int .i64 p.len,.int .i64 p.idx,.string p.txt,x] 57)) K Q:=by
 subst hg;obtain⟨F,h1,h2⟩:=hown;obtain⟨i0,hi,hz0,hz1,hz2⟩:=info_parts qd8;obtain⟨bA,bc,rfl,_⟩:=hf.self;have hba:bB w (w.alloc (.cells #[.int .i64 p.fr,.int .i64 p.to_,.int .i64 p.len,.int .i64 p.idx,.string p.txt,.slice bA p.prf.length bc] 57)):=(bR_ _ _).alloc (nr_ _) _;have hone:∀ t,t<1*6→((#[Value.int .i64 p.fr,.int .i64 p.to_,.int .i64 p.len,.int .i64 p.idx,.string p.txt,.slice bA p.prf.length bc]:Array Value).toList.getD t (.slice none 0 0)).oneCell'=true:=by
  intro t ht;obtain rfl|rfl|rfl|rfl|rfl|rfl:t=0∨t=1∨t=2∨t=3∨t=4∨t=5:=a_;all_goals rfl
 refine qcQ 26 57 6 72 i0 _ Tryz.underlying26 hi hz0 hz1 hz2 rfl a_ a_ (h1.below hba) (RN.box rfl) hone hn (Nat.le_trans hbase hba.size) ho hs hx fun A c w' h3 h4=> ?_;have hg:w.grownBy w' v.ownBlock:=qat (qaP hba) h4;have hk:qaA LP w w':=h1.grew hg e_;refine h A c w' ⟨_,A_,fun j hj=> ?_⟩ hg;by_cases hlt:j<ps.length
 · rw[qaC a_,qaC a_,qaC a_,qaC a_,qaC a_,qaC a_,List.getElem_append_left hlt];exact⟨(h2 j hlt).1,(h2 j hlt).2.1,(h2 j hlt).2.2.1,(h2 j hlt).2.2.2.1,(h2 j hlt).2.2.2.2.1,(h2 j hlt).2.2.2.2.2.next hk⟩
 · obtain⟨rfl,he⟩:=qcx hj hlt;rw[qaD a_,qaD a_,qaD a_,qaD a_,qaD a_,qaD a_,he,Nat.sub_self,Nat.add_sub_cancel_left,Nat.add_sub_cancel_left,Nat.add_sub_cancel_left,Nat.add_sub_cancel_left,Nat.add_sub_cancel_left];exact⟨rfl,rfl,rfl,rfl,rfl,hf.next hk⟩
theorem qbj{l:List (Int×Int)}{y0 y1:Int}(hown:qav base 99 w v l)(hn:l.length+1≤100000000000)(hbase:base≤w.heap.size){s y:Operand}
 (ho:o.op=.call {callee:=.builtin .append,args:= #[s,y],argTypes:= #[24,24]}) (hs:a.eval s=v) {g:Nat} (hx:a.eval y=.slice (some ⟨g,0,none⟩) 1 1) (hg:g=w.heap.size)
 (h:∀ A c w',qav base 99 w' (.slice A (l.length+1) c) (l++[(y0,y1)])→w.grownBy w' v.ownBlock→K (a.put o.dst (.slice A (l.length+1) c)) w'):
 Oper.wp Tryz.prog o a (w.alloc (.cells #[.int .i64 y0,.int .i64 y1] 99)) K Q:=by
 subst hg;obtain⟨F,h1,h2⟩:=hown;obtain⟨i0,hi,hz0,hz1,hz2⟩:=info_parts qfV;have hba:bB w (w.alloc (.cells #[.int .i64 y0,.int .i64 y1] 99)):=(bR_ _ _).alloc (nr_ _) _;have hone:∀ t,t<1*2→((#[Value.int .i64 y0,.int .i64 y1]:Array Value).toList.getD t (.slice none 0 0)).oneCell'=true:=by
  intro t ht;obtain rfl|rfl:t=0∨t=1:=a_;all_goals rfl
 refine qcQ 24 99 2 16 i0 _ Tryz.underlying24 hi hz0 hz1 hz2 rfl a_ a_ (h1.below hba) (RN.box rfl) hone hn (Nat.le_trans hbase hba.size) ho hs hx fun A c w' h3 h4=> ?_;have hg:w.grownBy w' v.ownBlock:=qat (qaP hba) h4;refine h A c w' ⟨_,A_,fun j hj=> ?_⟩ hg;by_cases hlt:j<l.length
 · rw[qaC a_,qaC a_,List.getElem_append_left hlt];exact h2 j hlt
 · obtain⟨rfl,he⟩:=qcx hj hlt;rw[qaD a_,qaD a_,he,Nat.sub_self,Nat.add_sub_cancel_left];exact⟨rfl,rfl⟩
theorem qfB{l:List (Int×Int)}{y0 y1:Int}(hown:qav base 109 w v l)(hn:l.length+1≤100000000000)(hbase:base≤w.heap.size){s y:Operand}
 (ho:o.op=.call {callee:=.builtin .append,args:= #[s,y],argTypes:= #[54,54]}) (hs:a.eval s=v) {g:Nat} (hx:a.eval y=.slice (some ⟨g,0,none⟩) 1 1) (hg:g=w.heap.size)
 (h:∀ A c w',qav base 109 w' (.slice A (l.length+1) c) (l++[(y0,y1)])→w.grownBy w' v.ownBlock→K (a.put o.dst (.slice A (l.length+1) c)) w'):
 Oper.wp Tryz.prog o a (w.alloc (.cells #[.int .i64 y0,.int .i64 y1] 109)) K Q:=by
 subst hg;obtain⟨F,h1,h2⟩:=hown;obtain⟨i0,hi,hz0,hz1,hz2⟩:=info_parts qhs;have hba:bB w (w.alloc (.cells #[.int .i64 y0,.int .i64 y1] 109)):=(bR_ _ _).alloc (nr_ _) _;have hone:∀ t,t<1*2→((#[Value.int .i64 y0,.int .i64 y1]:Array Value).toList.getD t (.slice none 0 0)).oneCell'=true:=by
  intro t ht;obtain rfl|rfl:t=0∨t=1:=a_;all_goals rfl
 refine qcQ 54 109 2 16 i0 _ Tryz.underlying54 hi hz0 hz1 hz2 rfl a_ a_ (h1.below hba) (RN.box rfl) hone hn (Nat.le_trans hbase hba.size) ho hs hx fun A c w' h3 h4=> ?_;have hg:w.grownBy w' v.ownBlock:=qat (qaP hba) h4;refine h A c w' ⟨_,A_,fun j hj=> ?_⟩ hg;by_cases hlt:j<l.length
 · rw[qaC a_,qaC a_,List.getElem_append_left hlt];exact h2 j hlt
 · obtain⟨rfl,he⟩:=qcx hj hlt;rw[qaD a_,qaD a_,he,Nat.sub_self,Nat.add_sub_cancel_left];exact⟨rfl,rfl⟩
end
end Go.Proofs.YtekaaekpdebloaaGreatDoor

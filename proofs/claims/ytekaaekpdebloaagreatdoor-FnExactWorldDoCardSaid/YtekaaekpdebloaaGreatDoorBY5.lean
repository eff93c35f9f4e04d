/- Words and walks of the law. -/
import Derived.Test.YtekaaekpdebloaaGreatDoorBW5
import Derived.Test.YtekaaekpdebloaaGreatDoorVg5
import Derived.Deep.CutBlock
import Derived.Deep.DeepCutAuto
import Derived.Deep.DrawnRows
set_option linter.unusedVariables false
set_option linter.unusedSimpArgs false
set_option maxHeartbeats 12800000
set_option maxRecDepth 100000
namespace Go.Proofs.YtekaaekpdebloaaGreatDoor
open Go.RowKit
attribute [local go_sem ↓] Go.wp_at_zero Go.wp_at_succ

structure Sml (x:Wd):Prop where
 f:x.feeds.length≤1000000
 l:x.links.length≤1000000
 p:x.net.length≤1000000
 na:x.asked.length=x.feeds.length
 b:∀ j (hj:j<x.feeds.length),x.feeds[j].bl.length≤1000000∧x.feeds[j].hv.length≤1000000
 a:∀ j (hj:j<x.asked.length),x.asked[j].length≤1000000
 q:∀ j (hj:j<x.net.length),x.net[j].prf.length≤1000000
def qlb(w:World)(x:Wd)(e:Ending)(w':World):Prop:=
 ∃ uF uL uA uN,e=.returned (.agg #[.int .i64 x.sec,.int .i64 x.bad,uF,uL,uA,uN])∧WdC w.heap.size w' x uF uL uA uN∧bB w w'

theorem qmN{q:Prop}(p:Prop)(h:p)(k:p→q):q:=k h
theorem qau{w:World}{k:Nat}{o o':Obj}(h:w.heap[k]? =some o'):(w.alloc o).heap[k]? =some o':=by
 have hk:=(Array.getElem?_eq_some_iff.1 h).1;exact(((bR_ w.heap.size w).alloc (nr_ _) o).block k hk).trans h
theorem qbI{w:World}{k:Nat}{o':Obj}(h:w.heap[k]? =some o'):w.drew.heap[k]? =some o':=h
theorem qbu{w:World}{k:Nat}{o:Obj}(h:k=w.heap.size):(w.alloc o).heap[k]? =some o:=by subst h;exact heap_alloc_new w o
theorem at0(w:World)(o:Obj):(w.alloc o).heap[w.heap.size]? =some o:=heap_alloc_new w o
theorem at1(w:World)(a o:Obj):((w.alloc a).alloc o).heap[w.heap.size+1]? =some o:=qbu k_
theorem at2(w:World)(a b o:Obj):(((w.alloc a).alloc b).alloc o).heap[w.heap.size+1+1]? =some o:=qbu k_
theorem qcU{w:World}{q:Nat}{y0 y1 y2 y3 y4 y5:Value}{t:TypeId}(h:w.heap[q]? =some (.cells #[y0,y1,y2,y3,y4,y5] t (0,0)))(x0 x1 x2 x3 x4 x5:Value):
 ((((((w.setCell ⟨q,0,none⟩ x0).setCell ⟨q,1,none⟩ x1).setCell ⟨q,2,none⟩ x2).setCell ⟨q,3,none⟩ x3).setCell ⟨q,4,none⟩ x4).setCell ⟨q,5,none⟩ x5).heap[q]? =some (.cells #[x0,x1,x2,x3,x4,x5] t (0,0)):=by
 have a0:=qas (i:=0) h x0;have a1:=qas (i:=1) a0 x1;have a2:=qas (i:=2) a1 x2;have a3:=qas (i:=3) a2 x3;have a4:=qas (i:=4) a3 x4;have a5:=qas (i:=5) a4 x5;exact a5
theorem qaA.set6{T:List TypeId}{w:World}{q:Nat}{cur:Array Value}{e:TypeId}(h:w.heap[q]? =some (.cells cur e (0,0)))(he:e ∉ T)(x0 x1 x2 x3 x4 x5:Value):
 qaA T w ((((((w.setCell ⟨q,0,none⟩ x0).setCell ⟨q,1,none⟩ x1).setCell ⟨q,2,none⟩ x2).setCell ⟨q,3,none⟩ x3).setCell ⟨q,4,none⟩ x4).setCell ⟨q,5,none⟩ x5):=
 qaA.of_grown (row:=some q) (qat (qat (qat (qat (qat (qaR _ _ _) (qaR _ _ _)) (qaR _ _ _)) (qaR _ _ _)) (qaR _ _ _)) (qaR _ _ _)) (fun r hr=>by cases hr;exact⟨cur,e,_,h,he⟩)
theorem qaA.set1{T:List TypeId}{w:World}{q i:Nat}{cur:Array Value}{e:TypeId}{fr:Nat×Nat}(h:w.heap[q]? =some (.cells cur e fr))(he:e ∉ T)(x:Value):qaA T w (w.setCell ⟨q,i,none⟩ x):=qaA.set (p:=⟨q,i,none⟩) h he x

def qg8(q:Nat)(s b:Int)(ls:List (Int×Int))(W0 wx:World)(g gN:Nat)(vL:Value):Prop:=
 wx.heap[g]? =some (.cells #[.int .i64 s,.int .i64 b,.slice none 0 0,vL,.slice none 0 0,.slice (some ⟨gN,0,none⟩) 0 0] 28 (0,0))∧q≤g∧wx.heap[gN]? =some (.cells #[] 57 (0,0))∧q≤gN∧qav q 99 wx vL ls∧Below q W0 wx
section
variable {q g gN:Nat} {s b:Int} {ls:List (Int×Int)} {W0 w5:World} {vL:Value} {z:Array Value}
theorem qls(ho:qav q 99 w5 vL ls)(hb:Below q W0 w5)(hs:q≤w5.heap.size)(hc:w5.heap[gN]? =some (.cells #[] 57 (0,0)))(hg:q≤gN):
 ∃ g n v,Value.pointer (some ⟨w5.heap.size,0,none⟩)=.pointer (some ⟨g,0,none⟩)∧qg8 q s b ls W0 (w5.alloc (.cells #[.int .i64 s,.int .i64 b,.slice none 0 0,vL,.slice none 0 0,.slice (some ⟨gN,0,none⟩) 0 0] 28)) g n v:=
 ⟨_,gN,vL,rfl,heap_alloc_new _ _,hs,qau hc,hg,ho.next (qaA.alloc (T:=LT2) _) e_,hb.alloc hs _⟩
theorem qnB(ho:qav q 99 w5 vL ls)(hb:Below q W0 w5)(hs:q≤w5.heap.size):
 ∃ g n v,Value.pointer (some ⟨w5.heap.size+1,0,none⟩)=.pointer (some ⟨g,0,none⟩)∧qg8 q s b ls W0 ((w5.alloc (.cells #[] 57)).alloc (.cells #[.int .i64 s,.int .i64 b,.slice none 0 0,vL,.slice none 0 0,.slice (some ⟨w5.heap.size,0,none⟩) 0 0] 28)) g n v:=
 ⟨_,_,vL,rfl,qbu k_,a_,qau (heap_alloc_new _ _),hs,(ho.next (qaA.alloc (T:=LT2) _) e_).next (qaA.alloc (T:=LT2) _) e_,(hb.alloc hs _).alloc n_ _⟩
theorem qnC(ho:qav q 99 w5 vL ls)(hb:Below q W0 w5)(hs:q≤w5.heap.size):
 ∃ g n v,Value.pointer (some ⟨w5.heap.size,0,none⟩)=.pointer (some ⟨g,0,none⟩)∧qg8 q s b ls W0 ((w5.alloc (.cells #[.int .i64 s,.int .i64 b,.slice none 0 0,vL,.slice none 0 0,.slice (some ⟨w5.heap.size+1,0,none⟩) 0 0] 28)).alloc (.cells #[] 57)) g n v:=
 ⟨_,w5.heap.size+1,vL,rfl,qau (heap_alloc_new _ _),hs,qbu k_,a_,(ho.next (qaA.alloc (T:=LT2) _) e_).next (qaA.alloc (T:=LT2) _) e_,(hb.alloc hs _).alloc n_ _⟩
theorem qmD{y0 y1 y2 y3 y4 y5:Value}(ho:qav q 99 w5 vL ls)(hb:Below q W0 w5)(hs:q≤w5.heap.size)(hq:w5.heap[g]? =some (.cells #[y0,y1,y2,y3,y4,y5] 28 (0,0)))(hg:q≤g):
 ∃ g' n v,Value.pointer (some ⟨g,0,none⟩)=.pointer (some ⟨g',0,none⟩)∧qg8 q s b ls W0 ((((((((w5.alloc (.cells #[] 57)).setCell ⟨g,0,none⟩ (.int .i64 s)).setCell ⟨g,1,none⟩ (.int .i64 b)).setCell ⟨g,2,none⟩ (.slice none 0 0)).setCell ⟨g,3,none⟩ vL).setCell ⟨g,4,none⟩ (.slice none 0 0)).setCell ⟨g,5,none⟩ (.slice (some ⟨w5.heap.size,0,none⟩) 0 0))) g' n v:=by
 have h1:(w5.alloc (.cells #[] 57)).heap[g]? =_:=qau hq;have hl:=(Array.getElem?_eq_some_iff.1 hq).1;refine⟨_,w5.heap.size,vL,rfl,qcU h1 _ _ _ _ _ _,hg,(qcN a_ _ _ _ _ _ _).trans (heap_alloc_new _ _),hs,(ho.next (qaA.alloc (T:=LT2) _) e_).next (qaA.set6 (T:=LT2) h1 e_ _ _ _ _ _ _) e_,qae (hb.alloc hs _) hg _ _ _ _ _ _⟩
theorem qnD{y0 y1 y2 y3 y4 y5:Value}(ho:qav q 99 w5 vL ls)(hb:Below q W0 w5)(hs:q≤w5.heap.size)(hq:w5.heap[g]? =some (.cells #[y0,y1,y2,y3,y4,y5] 28 (0,0)))(hg:q≤g):
 ∃ g' n v,Value.pointer (some ⟨g,0,none⟩)=.pointer (some ⟨g',0,none⟩)∧qg8 q s b ls W0 ((((((((w5.setCell ⟨g,0,none⟩ (.int .i64 s)).setCell ⟨g,1,none⟩ (.int .i64 b)).setCell ⟨g,2,none⟩ (.slice none 0 0)).setCell ⟨g,3,none⟩ vL).setCell ⟨g,4,none⟩ (.slice none 0 0)).setCell ⟨g,5,none⟩ (.slice (some ⟨w5.heap.size,0,none⟩) 0 0))).alloc (.cells #[] 57)) g' n v:=by
 have hb6:=qae hb hg (.int .i64 s) (.int .i64 b) (.slice none 0 0) vL (.slice none 0 0) (.slice (some ⟨w5.heap.size,0,none⟩) 0 0);have h1:=qcU hq (.int .i64 s) (.int .i64 b) (.slice none 0 0) vL (.slice none 0 0) (.slice (some ⟨w5.heap.size,0,none⟩) 0 0);refine⟨_,w5.heap.size,vL,rfl,qau h1,hg,qbu a0_,hs,(ho.next (qaA.set6 (T:=LT2) hq e_ _ _ _ _ _ _) e_).next (qaA.alloc (T:=LT2) _) e_,hb6.alloc (by simp[World.setCell];exact hs) _⟩
theorem qhh{y0 y1 y2 y3 y4 y5:Value}(ho:qav q 99 w5 vL ls)(hb:Below q W0 w5)(hq:w5.heap[g]? =some (.cells #[y0,y1,y2,y3,y4,y5] 28 (0,0)))(hg:q≤g)(hc:w5.heap[gN]? =some (.cells #[] 57 (0,0)))(hgn:q≤gN)(hne:gN≠g):
 ∃ g' n v,Value.pointer (some ⟨g,0,none⟩)=.pointer (some ⟨g',0,none⟩)∧qg8 q s b ls W0 (((((((w5.setCell ⟨g,0,none⟩ (.int .i64 s)).setCell ⟨g,1,none⟩ (.int .i64 b)).setCell ⟨g,2,none⟩ (.slice none 0 0)).setCell ⟨g,3,none⟩ vL).setCell ⟨g,4,none⟩ (.slice none 0 0)).setCell ⟨g,5,none⟩ (.slice (some ⟨gN,0,none⟩) 0 0))) g' n v:=by
 refine⟨_,gN,vL,rfl,qcU hq _ _ _ _ _ _,hg,(qcN hne _ _ _ _ _ _).trans hc,hgn,ho.next (qaA.set6 (T:=LT2) hq e_ _ _ _ _ _ _) e_,qae hb hg _ _ _ _ _ _⟩
end
section
variable {o:Oper} {a:Act} {K:Act→World→Prop} {Q:Exit→Act→World→Prop} {w:World} {base g:Nat}
theorem qmm{l2:List (Int×Int)}{x:Value}(hh:w.heap[g]? =some (.cells #[] 99 (0,0)))(hB:base≤g)(hr:RP w x l2)(hn:l2.length≤100000000000)(hbase:base≤w.heap.size){s y:Operand}
 (ho:o.op=.call {callee:=.builtin .append,args:= #[s,y],argTypes:= #[24,24]}) (hs:a.eval s=.slice (some ⟨g,0,none⟩) 0 0) (hx:a.eval y=x)
 (h:∀ A c w',qav base 99 w' (.slice A l2.length c) l2→w.grownBy w' (some g)→K (a.put o.dst (.slice A l2.length c)) w'):Oper.wp Tryz.prog o a w K Q:=by
 refine qkf (qav.empty hh hB) hr aY_ hbase ho hs hx fun A c w' h1 h2=> ?_;simp only[List.length_nil,Nat.zero_add,List.nil_append] at h1 ⊢;exact h A c w' h1 h2
theorem qhN{l2:List (Int×Int)}{x:Value}(hh:w.heap[g]? =some (.cells #[] 109 (0,0)))(hB:base≤g)(hr:RP w x l2)(hn:l2.length≤100000000000)(hbase:base≤w.heap.size){s y:Operand}
 (ho:o.op=.call {callee:=.builtin .append,args:= #[s,y],argTypes:= #[54,54]}) (hs:a.eval s=.slice (some ⟨g,0,none⟩) 0 0) (hx:a.eval y=x)
 (h:∀ A c w',qav base 109 w' (.slice A l2.length c) l2→w.grownBy w' (some g)→K (a.put o.dst (.slice A l2.length c)) w'):Oper.wp Tryz.prog o a w K Q:=by
 refine qml (qav.empty hh hB) hr aY_ hbase ho hs hx fun A c w' h1 h2=> ?_;simp only[List.length_nil,Nat.zero_add,List.nil_append] at h1 ⊢;exact h A c w' h1 h2
end
theorem ON.nbox{N B n q:Nat}{e t:TypeId}{w:World}{v:Value}{F:Nat→Value}{cur:Array Value}{x:Nat×Nat}(h:ON N B e w v n F)(hq:w.heap[q]? =some (.cells cur t x))(ht:e≠t):v.ownBlock≠some q:=fun he=>by
 obtain⟨c,fr,hh⟩:=h.row q he;rw[hq] at hh;cases hh
 exact ht rfl
theorem qaN{B q i:Nat}{a w:World}{v:Value}(h:Below B a w)(hq:B≤q):Below B a (w.setCell ⟨q,i,none⟩ v):=h.setCell (p:=⟨q,i,none⟩) hq v
structure qce (q:Nat) (s b:Int) (x:Wd) (W0 w:World) (g:Nat) (vF vL vA vN:Value):Prop where
 box:w.heap[g]? =some (.cells #[.int .i64 s,.int .i64 b,vF,vL,vA,vN] 28 (0,0))
 gq:q≤g
 c:WdC q w x vF vL vA vN
 b:Below q W0 w
section
variable {q g:Nat} {s b:Int} {x:Wd} {W0 w w':World} {vF vL vA vN v:Value}
theorem qg8.l{gN:Nat}{ls:List (Int×Int)}(h:qg8 q s b ls W0 w g gN vL):qce q s b ⟨s,b,[],ls,[],[]⟩ W0 w g (.slice none 0 0) vL (.slice none 0 0) (.slice (some ⟨gN,0,none⟩) 0 0):=
 ⟨h.1,h.2.1,⟨qa1.nil (Nat.le_of_lt (Nat.lt_of_le_of_lt h.2.1 (Array.getElem?_eq_some_iff.1 h.1).1)),h.2.2.2.2.1,qbB.nil,qaW.empty h.2.2.1 h.2.2.2.1⟩,h.2.2.2.2.2⟩
theorem qce.lt(h:qce q s b x W0 w g vF vL vA vN):g<w.heap.size:=(Array.getElem?_eq_some_iff.1 h.box).1
theorem qce.qs(h:qce q s b x W0 w g vF vL vA vN):q≤w.heap.size:=Nat.le_of_lt (Nat.lt_of_le_of_lt h.gq h.lt)
theorem qce.below(h:qce q s b x W0 w g vF vL vA vN){B:Nat}(hb:Below B w w')(hB:B=w.heap.size):qce q s b x W0 w' g vF vL vA vN:=by
 subst hB;exact⟨(hb.block _ h.lt).trans h.box,h.gq,h.c.keep (qaA.of_below hb),h.b.trans (hb.mono h.qs)⟩
theorem qce.boxF(h:qce q s b x W0 w g vF vL vA vN)(hg:w.grownBy w' vF.ownBlock):w'.heap[g]? =some (.cells #[.int .i64 s,.int .i64 b,vF,vL,vA,vN] 28 (0,0)):=by
 obtain⟨_,F,h1,_⟩:=h.c.feeds;exact(hg.block g h.lt (fun e=>h1.nbox h.box e_ e.symm)).trans h.box
theorem qce.boxA(h:qce q s b x W0 w g vF vL vA vN)(hg:w.grownBy w' vA.ownBlock):w'.heap[g]? =some (.cells #[.int .i64 s,.int .i64 b,vF,vL,vA,vN] 28 (0,0)):=by
 obtain⟨F,h1,h2⟩:=h.c.asked;exact(hg.block g h.lt (fun e=>h1.nbox h.box e_ e.symm)).trans h.box
theorem qce.boxN(h:qce q s b x W0 w g vF vL vA vN)(hg:w.grownBy w' vN.ownBlock):w'.heap[g]? =some (.cells #[.int .i64 s,.int .i64 b,vF,vL,vA,vN] 28 (0,0)):=by
 obtain⟨F,h1,h2⟩:=h.c.net;exact(hg.block g h.lt (fun e=>h1.nbox h.box e_ e.symm)).trans h.box
theorem qce.setF{fs:List Fd}(h:qce q s b x W0 w g vF vL vA vN)(hg:w.grownBy w' vF.ownBlock)(hf:qa1 q w' v fs):qce q s b {x with feeds:=fs} W0 (w'.setCell ⟨g,2,none⟩ v) g v vL vA vN:=by
 obtain⟨_,F,h1,_⟩:=h.c.feeds;have hne:vF.ownBlock≠some g:=h1.nbox h.box e_;have hbx:w'.heap[g]? =_:=(hg.block g h.lt (fun e=>hne e.symm)).trans h.box;have hk1:qaA LTA w w':=h1.grew hg e_;have hk2:qaA LTP w w':=h1.grew hg e_;have hk:qaA LT2 w' (w'.setCell ⟨g,2,none⟩ v):=qaA.set1 hbx e_ v;exact⟨qas hbx v,h.gq,⟨hf.next (hk.mono qi1),(h.c.links.next hk1 e_).next hk e_,(h.c.asked.next hk1).next (hk.mono qkm),(h.c.net.next hk2).next (hk.mono qk1)⟩,(h.b.grown hg h.qs (fun k hk=>(h1.lt k hk).1)).setCell (p:=⟨g,2,none⟩) h.gq v⟩
theorem qce.setA{ks:List (List (Int×Int))}(h:qce q s b x W0 w g vF vL vA vN)(hg:w.grownBy w' vA.ownBlock)(hf:qbB q w' v ks):qce q s b {x with asked:=ks} W0 (w'.setCell ⟨g,4,none⟩ v) g vF vL v vN:=by
 obtain⟨F,h1,h2⟩:=h.c.asked;have hne:vA.ownBlock≠some g:=h1.nbox h.box e_;have hbx:w'.heap[g]? =_:=(hg.block g h.lt (fun e=>hne e.symm)).trans h.box;have hk1:qaA LTF w w':=h1.grew hg e_;have hk2:qaA LTP w w':=h1.grew hg e_;have hk:qaA LT2 w' (w'.setCell ⟨g,4,none⟩ v):=qaA.set1 hbx e_ v;exact⟨qas hbx v,h.gq,⟨(h.c.feeds.next hk1).next (hk.mono qi1),(h.c.links.next hk1 e_).next hk e_,hf.next (hk.mono qkm),(h.c.net.next hk2).next (hk.mono qk1)⟩,(h.b.grown hg h.qs (fun k hk=>(h1.lt k hk).1)).setCell (p:=⟨g,4,none⟩) h.gq v⟩
theorem qce.setN{ps:List Pc}(h:qce q s b x W0 w g vF vL vA vN)(hg:w.grownBy w' vN.ownBlock)(hf:qaW q w' v ps):qce q s b {x with net:=ps} W0 (w'.setCell ⟨g,5,none⟩ v) g vF vL vA v:=by
 obtain⟨F,h1,h2⟩:=h.c.net;have hne:vN.ownBlock≠some g:=h1.nbox h.box e_;have hbx:w'.heap[g]? =_:=(hg.block g h.lt (fun e=>hne e.symm)).trans h.box;have hk1:qaA LTF w w':=h1.grew hg e_;have hk2:qaA LTA w w':=h1.grew hg e_;have hk:qaA LT2 w' (w'.setCell ⟨g,5,none⟩ v):=qaA.set1 hbx e_ v;exact⟨qas hbx v,h.gq,⟨(h.c.feeds.next hk1).next (hk.mono qi1),(h.c.links.next hk1 e_).next hk e_,(h.c.asked.next hk2).next (hk.mono qkm),hf.next (hk.mono qk1)⟩,(h.b.grown hg h.qs (fun k hk=>(h1.lt k hk).1)).setCell (p:=⟨g,5,none⟩) h.gq v⟩
theorem qce.setZ{z i:Nat}{cur:Array Value}(h:qce q s b x W0 w g vF vL vA vN)(hz:w.heap[z]? =some (.cells cur 57 (0,0)))(hq:q≤z)(hN:vN.ownBlock≠some z):qce q s b x W0 (w.setCell ⟨z,i,none⟩ v) g vF vL vA vN:=by
 have hne:g≠z:=fun e=>by subst e;have:=h.box.symm.trans hz;simp at this
 have hk1:qaA LTF w (w.setCell ⟨z,i,none⟩ v):=qaA.set1 hz e_ v;have hk2:qaA LTA w (w.setCell ⟨z,i,none⟩ v):=qaA.set1 hz e_ v;have hk3:qaA LP w (w.setCell ⟨z,i,none⟩ v):=qaA.set1 hz e_ v;obtain⟨F,h1,h2⟩:=h.c.net;refine⟨(Below.heap_setCell _ _ _ _ hne).trans h.box,h.gq,⟨h.c.feeds.next hk1,h.c.links.next hk1 e_,h.c.asked.next hk2,⟨F,h1.grown (qaR _ _ _) (.inr hN),fun j hj=>⟨(h2 j hj).1,(h2 j hj).2.1,(h2 j hj).2.2.1,(h2 j hj).2.2.2.1,(h2 j hj).2.2.2.2.1,(h2 j hj).2.2.2.2.2.next hk3⟩⟩⟩,h.b.setCell (p:=⟨z,i,none⟩) hq v⟩
end
theorem qcO(x:Wd)(vF vL vA vN:Value)(w:World)(hx:WdS w x vF vL vA vN)(hm:Sml x):
 Calls Tryz.prog 53 #[.agg #[.int .i64 x.sec,.int .i64 x.bad,vF,vL,vA,vN]] w (qlb w x):=by
 obtain⟨s,b,fs,ls,ks,ps⟩:=x;have HM:=hI_ hm;obtain⟨hm1,hm2,hm3,hna,_,_,_⟩:=hm;have HNA:=hI_ hna;simp only at hm1 hm2 hm3;clear hna;obtain⟨W0,HW0⟩:=nm_ ((w.alloc (.cells #[.int .i64 s,.int .i64 b,vF,vL,vA,vN] 28)).alloc (.cells #[.int .i64 0,.int .i64 0,.slice none 0 0,.slice none 0 0,.slice none 0 0,.slice none 0 0] 28));have HB0:Hid (bB w W0):=hI_ r_;have hs0:w.heap.size+2=W0.heap.size:=by rw[←HW0.out];simp
 have HP0:Hid (W0.heap[w.heap.size]? =some (.cells #[.int .i64 s,.int .i64 b,vF,vL,vA,vN] 28 (0,0))):=hI_ M_;have HZ0:Hid (W0.heap[w.heap.size+1]? =some (.cells #[.int .i64 0,.int .i64 0,.slice none 0 0,.slice none 0 0,.slice none 0 0,.slice none 0 0] 28 (0,0))):=hI_ D_;have HX0:Hid (WdS W0 ⟨s,b,fs,ls,ks,ps⟩ vF vL vA vN):=hI_ (hx.below HB0.out);have hl0:w.heap.size<W0.heap.size:=a_;have hl1:w.heap.size+1<W0.heap.size:=a_;clear hx hs0;obtain⟨fA,fc,rfl⟩:=HX0.out.r.feeds.sl;obtain⟨aA,ac,rfl⟩:=HX0.out.r.asked.sl;obtain⟨nA,nc,rfl⟩:=HX0.out.r.net.sl;have HL0:Hid (RP W0 vL ls):=hI_ HX0.out.r.links;obtain⟨p0,p1,p2,p3,p4,p5,pf⟩:=qaa HP0.out;have hbd:bB W0 W0.drew:=qac (bR_ W0.heap.size W0);go_enter Tryz.func53,Tryz.ntmps53
 go_wp2_with fail
 rw[HW0.out];go_upto_region 1 with fail
 go_cut [3] (fun s3 wx=>∃ g n v,s3=.pointer (some ⟨g,0,none⟩)∧qg8 W0.heap.size s b ls W0 wx g n v)
 case first=>
  have hpd:W0.drew.heap[w.heap.size]? =_:=HP0.out;obtain⟨d0,d1,d2,d3,d4,d5,df⟩:=qaa hpd;clear p0 p1 p2 p3 p4 p5 pf d2 d4 d5 df;go_region_held3 (fun w'=>w'.cell? ⟨w.heap.size,0,none⟩=some (.int .i64 s)∧w'.cell? ⟨w.heap.size,1,none⟩=some (.int .i64 b)∧w'.cell? ⟨w.heap.size,3,none⟩=some vL)
   (first|with_reducible exact⟨d0,d1,d3⟩|with_reducible exact⟨e0,e1,e3⟩|(with_reducible refine⟨Eq.trans (Below.cell (B:=W0.heap.size) ?_ hl0) (qaa HP0.out).1,Eq.trans (Below.cell (B:=W0.heap.size) ?_ hl0) (qaa HP0.out).2.1,Eq.trans (Below.cell (B:=W0.heap.size) ?_ hl0) (qaa HP0.out).2.2.2.1⟩ <;> (repeat(first|with_reducible exact bR_ _ _|with_reducible exact hb5|with_reducible refine qab ?_ _|with_reducible refine qac ?_|with_reducible refine qae ?_ ?_ _ _ _ _ _ _|omega));done))
   ((refine qa9 p_ (qmm (base:=W0.heap.size) (l2:=ls) (by with_reducible repeat(first|exact at0 _ _|exact at1 _ _ _|exact at2 _ _ _ _|refine qbI ?_|refine qau ?_)) a_ (HL0.out.below (by repeat(first|exact bR_ _ _|with_reducible refine qab ?_ _|with_reducible refine qac ?_))) a_ (by simp <;> omega) rfl rfl rfl ?_)
     intro A5 c5 w5 ho5 hg5;have hb5:bB W0 w5:=Below.grown (by repeat(first|exact bR_ _ _|with_reducible refine qab ?_ _|with_reducible refine qac ?_)) hg5 (by simp <;> omega) (fun r hr=>by cases hr;omega);have hs5:=hb5.size;obtain⟨e0,e1,e2,e3,e4,e5,ef⟩:=qaa ((hb5.block _ hl0).trans HP0.out);clear e2 e4 e5 ef;try(first|(refine qmN (w5.heap[W0.heap.size]? =some (.cells #[.int .i64 0,.int .i64 0,.slice none 0 0,.slice none 0 0,.slice none 0 0,.slice none 0 0] 28 (0,0))) ?_ ?_;(focus ((refine(hg5.block _ ?_ ?_).trans ?_);(simp <;> omega);(simp <;> omega);(with_reducible repeat(first|exact at0 _ _|exact at1 _ _ _|exact at2 _ _ _ _|refine qbI ?_|refine qau ?_));done));intro hq5;obtain⟨z0,z1,z2,z3,z4,z5,zf⟩:=qaa hq5;obtain⟨y0,y1,y2,y3,y4,y5,yf⟩:=qaa (qau (o:=.cells #[] 57) hq5))|(refine qmN (w5.heap[W0.heap.size+1]? =some (.cells #[.int .i64 0,.int .i64 0,.slice none 0 0,.slice none 0 0,.slice none 0 0,.slice none 0 0] 28 (0,0))) ?_ ?_;(focus ((refine(hg5.block _ ?_ ?_).trans ?_);(simp <;> omega);(simp <;> omega);(with_reducible repeat(first|exact at0 _ _|exact at1 _ _ _|exact at2 _ _ _ _|refine qbI ?_|refine qau ?_));done));intro hq5;obtain⟨z0,z1,z2,z3,z4,z5,zf⟩:=qaa hq5;obtain⟨y0,y1,y2,y3,y4,y5,yf⟩:=qaa (qau (o:=.cells #[] 57) hq5);have hzl:=(Array.getElem?_eq_some_iff.1 hq5).1)|(refine qmN (w5.heap[W0.heap.size+1+1]? =some (.cells #[.int .i64 0,.int .i64 0,.slice none 0 0,.slice none 0 0,.slice none 0 0,.slice none 0 0] 28 (0,0))) ?_ ?_;(focus ((refine(hg5.block _ ?_ ?_).trans ?_);(simp <;> omega);(simp <;> omega);(with_reducible repeat(first|exact at0 _ _|exact at1 _ _ _|exact at2 _ _ _ _|refine qbI ?_|refine qau ?_));done));intro hq5;obtain⟨z0,z1,z2,z3,z4,z5,zf⟩:=qaa hq5;obtain⟨y0,y1,y2,y3,y4,y5,yf⟩:=qaa (qau (o:=.cells #[] 57) hq5);have hzl:=(Array.getElem?_eq_some_iff.1 hq5).1))
     try(first|(refine qmN (w5.heap[W0.heap.size]? =some (.cells #[] 57 (0,0))) ?_ ?_;(focus ((refine(hg5.block _ ?_ ?_).trans ?_);(simp <;> omega);(simp <;> omega);(with_reducible repeat(first|exact at0 _ _|exact at1 _ _ _|exact at2 _ _ _ _|refine qbI ?_|refine qau ?_));done));intro hc5)|(refine qmN (w5.heap[W0.heap.size+1]? =some (.cells #[] 57 (0,0))) ?_ ?_;(focus ((refine(hg5.block _ ?_ ?_).trans ?_);(simp <;> omega);(simp <;> omega);(with_reducible repeat(first|exact at0 _ _|exact at1 _ _ _|exact at2 _ _ _ _|refine qbI ?_|refine qau ?_));done));intro hc5)|(refine qmN (w5.heap[W0.heap.size+1+1]? =some (.cells #[] 57 (0,0))) ?_ ?_;(focus ((refine(hg5.block _ ?_ ?_).trans ?_);(simp <;> omega);(simp <;> omega);(with_reducible repeat(first|exact at0 _ _|exact at1 _ _ _|exact at2 _ _ _ _|refine qbI ?_|refine qau ?_));done));intro hc5))))
  all_goals
   go_wp2
   go_meet
  · exact qnB ho5 hb5 hs5
  · exact qnC ho5 hb5 hs5
  · exact qls ho5 hb5 hs5 hc5 a_
  · exact qhh ho5 hb5 hq5 a_ hc5 a_ a_
  · exact qnD ho5 hb5 hs5 hq5 a_
  · exact qhh ho5 hb5 hq5 a_ hc5 a_ a_
  · exact qls ho5 hb5 hs5 hc5 a_
  iterate 2
   · exact qhh ho5 hb5 hq5 a_ hc5 a_ a_
  · exact qmD ho5 hb5 hs5 hq5 a_
  iterate 2
   · exact qhh ho5 hb5 hq5 a_ hc5 a_ a_
 case rest=>
  obtain⟨g,gN,vl,rfl,hR⟩:=hcut;obtain⟨W1,rfl⟩:∃ W1,W1=wc:=⟨_,rfl⟩
  have hL1:=hR.l;clear hR p0 p1 p2 p3 p4 p5 pf hbd;have HL1:=hI_ hL1;clear hL1;go_wp2_with fail
  go_loopw [4] (fun i wr=>∃ (k:Nat) (uF uA:Value),k≤fs.length∧i=.int .i64 k∧qce W0.heap.size s b ⟨s,b,fs.take k,ls,ks.take k,[]⟩ W0 wr g uF vl uA (.slice (some ⟨gN,0,none⟩) 0 0)) (fun i _=>fs.length-(intOf i).toNat)
  case atStart=>exact⟨0,_,_,Nat.zero_le _,rfl,HL1.out⟩
  case round=>
   obtain⟨k,uF,uA,hk,rfl,hc⟩:=hrel;have HC:=hI_ hc;have hb:=hc.b;have hXr:WdS wr ⟨s,b,fs,ls,ks,ps⟩ (.slice fA fs.length fc) vL (.slice aA ks.length ac) (.slice nA ps.length nc):=HX0.out.keep (qaA.of_below hb);obtain⟨p0,p1,p2,p3,p4,p5,pf⟩:=qaa ((hb.block _ hl0).trans HP0.out);have hg2:=(qaa hc.box).2.2.1;clear hc;by_cases hlt:k<fs.length
   case neg=>
    obtain rfl:k=fs.length:=a_;have hN:qce W0.heap.size s b ⟨s,b,fs,ls,ks,[]⟩ W0 wr g uF vl uA (.slice (some ⟨gN,0,none⟩) 0 0):=by
     have h:=HC.out;have e:ks.take fs.length=ks:=by rw[←HNA.out];exact List.take_length
     rwa[List.take_length,e] at h
    have HN:=hI_ hN;clear hN hXr hg2 hb;go_wp2_with fail
    go_loopw [5] (fun i wz=>∃ (j:Nat) (uN:Value),j≤ps.length∧i=.int .i64 j∧qce W0.heap.size s b ⟨s,b,fs,ls,ks,ps.take j⟩ W0 wz g uF vl uA uN) (fun i _=>ps.length-(intOf i).toNat)
    case atStart=>exact⟨0,_,Nat.zero_le _,rfl,HN.out⟩
    case round=>
     obtain⟨j,uN,hj,rfl,hc⟩:=hrel;obtain⟨wz,rfl⟩:∃ W,W=wr:=⟨_,rfl⟩
     have HCZ:=hI_ hc;clear p0 p1 p2 p3 p4 p5 pf;have hb:=hc.b;obtain⟨p0,p1,p2,p3,p4,p5,pf⟩:=qaa ((hb.block _ hl0).trans HP0.out);obtain⟨g0,g1,g2,g3,g4,g5,gf⟩:=qaa hc.box;by_cases hltj:j<ps.length
     case neg=>
      obtain rfl:j=ps.length:=a_;have hE:qce W0.heap.size s b ⟨s,b,fs,ls,ks,ps⟩ W0 wz g uF vl uA uN:=by
       have h:=HCZ.out;rwa[List.take_length] at h
      have hz:=(hb.block _ hl1).trans HZ0.out;obtain⟨y0,y1,y2,y3,y4,y5,yf⟩:=qaa hz;have HZ:=hI_ hz;have HE:=hI_ hE;obtain⟨A1,c1,rfl⟩:=hE.c.feeds.sl;obtain⟨A2,c2,rfl⟩:=hE.c.links.sl;obtain⟨A3,c3,rfl⟩:=hE.c.asked.sl;obtain⟨A4,c4,rfl⟩:=hE.c.net.sl;clear hE hz hc hb;go_wp2_with fail
      refine bodyPost_ret (v:=.agg #[.int .i64 s,.int .i64 b,.slice A1 fs.length c1,.slice A2 ls.length c2,.slice A3 ks.length c3,.slice A4 ps.length c4]) (by simp[results,Tryz.results53,go_sem,y0,y1,y2,y3,y4,y5]) rfl ⟨_,_,_,_,rfl,?_,?_⟩
      · exact(HE.out.c.keep (qaA.set6 (T:=LT2) HZ.out e_ _ _ _ _ _ _)).mono (Nat.le_of_lt hl0)
      · exact qae (HB0.out.trans (HE.out.b.mono (Nat.le_of_lt hl0))) (Nat.le_succ _) _ _ _ _ _ _
     have hji:(j:Int)<(ps.length:Int):=a_;have hj0:(0:Int)≤(j:Int):=a_;obtain⟨b2,o2,xp,hA2,hbs2,f0,f1,f2,f3,f4,f5,hRp⟩:=HX0.out.r.net.at_ hltj;subst hA2;have hpl:=HM.out.q j hltj;simp only at hpl;have HSP:=hI_ (qaZ hltj);obtain⟨pj,HPJ⟩:=nm_ (ps[j]);rw[HPJ.out] at f0 f1 f2 f3 f4 hRp hpl HSP;have h0:=(hb.cell (p:=⟨b2,_,none⟩) hbs2).trans f0;have h1:=(hb.cell (p:=⟨b2,_,none⟩) hbs2).trans f1;have h2:=(hb.cell (p:=⟨b2,_,none⟩) hbs2).trans f2;have h3:=(hb.cell (p:=⟨b2,_,none⟩) hbs2).trans f3;have h4:=(hb.cell (p:=⟨b2,_,none⟩) hbs2).trans f4;have h5:=(hb.cell (p:=⟨b2,_,none⟩) hbs2).trans f5;have HRP:=hI_ (hRp.below hb);have HPL:=hI_ hpl;obtain⟨xA,xc,rfl⟩:=R1.sl' hRp;clear f0 f1 f2 f3 f4 f5 hb hpl hc hRp;obtain⟨fr,to_,ln,ix,tx,pf⟩:=pj;simp only at h0 h1 h2 h3 h4 h5 HRP HPL;have hO:O1 (Value.int .i64) (wz.heap.size+1) 3 ((wz.alloc (.cells #[.int .i64 fr,.int .i64 to_,.int .i64 ln,.int .i64 ix,.string tx,.slice xA pf.length xc] 57)).alloc (.cells #[] 3)) (.slice (some ⟨wz.heap.size+1,0,none⟩) 0 0) []:=by
      have:=O1.made (Value.int .i64) (wz.alloc (.cells #[.int .i64 fr,.int .i64 to_,.int .i64 ln,.int .i64 ix,.string tx,.slice xA pf.length xc] 57)) 3;simpa using this
     have HO:=hI_ hO;clear hO;have hbz:bB wz ((wz.alloc (.cells #[.int .i64 fr,.int .i64 to_,.int .i64 ln,.int .i64 ix,.string tx,.slice xA pf.length xc] 57)).alloc (.cells #[] 3)):=qab (qab (bR_ _ _) _) _;have HBZ:=hI_ hbz;clear hbz;go_wp2_with (first
      |(at_builtin;refine qdx HO.out (HRP.out.below HBZ.out) (by have:=HPL.out;simp;omega) k_ rfl rfl rfl rfl ?_;intro v7 w7 ho7 hb7;obtain⟨A7,n7,c7,rfl,hn7⟩:=ho7.sl2
        have hb7':=HBZ.out.trans (hb7.mono (Nat.le_succ _));have hz7:=(hb7.block _ (Nat.lt_succ_self _)).trans (qau (o:=.cells #[] 3) (at0 wz (.cells #[.int .i64 fr,.int .i64 to_,.int .i64 ln,.int .i64 ix,.string tx,.slice xA pf.length xc] 57)));obtain⟨z0,z1,z2,z3,z4,z5,zf⟩:=qaa hz7;have hc7:=HCZ.out.below hb7' rfl;have hc9:=hc7.setZ (i:=5) (v:=.slice A7 n7 c7) hz7 HCZ.out.qs (fun e=>by obtain⟨_,q1,_⟩:=HCZ.out.c.net;exact Nat.lt_irrefl _ (q1.lt _ e).2);have hz9:(w7.setCell ⟨wz.heap.size,5,none⟩ (.slice A7 n7 c7)).heap[wz.heap.size]? =some (.cells #[.int .i64 fr,.int .i64 to_,.int .i64 ln,.int .i64 ix,.string tx,.slice A7 n7 c7] 57 (0,0)):=qas hz7 _;obtain⟨t0,t1,t2,t3,t4,t5,tf⟩:=qaa hz9;obtain⟨s0,s1,s2,s3,s4,s5,sf⟩:=qaa hc9.box;have hst:Stb LP (fun w=>RI w (.slice A7 n7 c7) pf) (w7.setCell ⟨wz.heap.size,5,none⟩ (.slice A7 n7 c7)):=(show O1 (Value.int .i64) _ 3 w7 (.slice A7 n7 c7) pf by simpa using ho7).stb e_ |>.next (qaA.set1 hz7 e_ _))
      |(at_builtin;refine qaF rfl fun K hK=>qiQ (base:=W0.heap.size) (p:=⟨fr,to_,ln,ix,tx,pf⟩) hc9.c.net hst n_ hc9.qs rfl rfl rfl k_ (fun A10 c10 w10 ho10 hg10=>hK _ _ ?_)
        obtain⟨n10,hn10⟩:∃ n,(ps.take j).length+1=n:=⟨_,rfl⟩
        simp only[hn10] at ho10 ⊢;clear hn10;obtain⟨j0,j1,j2,j3,j4,j5,jf⟩:=qaa (hc9.boxN hg10)))
     go_roundw
     case rel=>exact⟨j+1,_,a_,t_,by rw[HSP.out];exact hc9.setN hg10 ho10⟩
     case measure=>simp[intOf];omega
   have hki:(k:Int)<(fs.length:Int):=a_;have hk0:(0:Int)≤(k:Int):=a_;obtain⟨b0,o0,xb,xh,hA,hbs,f0,f1,f2,f3,f4,f5,hF⟩:=HX0.out.r.feeds.at_ hlt;subst hA;have HF:=hI_ (hF.below' hb);have HBB:=hI_ (HM.out.b k hlt);obtain⟨fk,HFK⟩:=nm_ (fs[k]);have HSN:=hI_ (qaZ hlt);rw[HFK.out] at f0 f1 f2 f3 HF HSN;simp only at HBB;rw[HFK.out] at HBB;have HP2:=hI_ (qaa HP0.out).2.2.1;have HFC:=hI_ (And.intro f0 (And.intro f1 (And.intro f2 (And.intro f3 (And.intro f4 f5)))));have HB:=hI_ hb;clear hF f0 f1 f2 f3 f4 f5 hXr;go_upto_region 5 with fail
   go_cut [4] (fun s4 wx=>s4=.int .i64 k∧∃ uF',qce W0.heap.size s b ⟨s,b,fs.take k++[fk],ls,ks.take k,[]⟩ W0 wx g uF' vl uA (.slice (some ⟨gN,0,none⟩) 0 0))
   case first=>
    have hgd:wr.drew.cell? ⟨g,2,none⟩=some uF:=hg2;clear p0 p1 p2 p3 p4 p5 pf;have hbd:bB W0 wr.drew:=qac HB.out;have l2:=Eq.trans (Below.cell (B:=W0.heap.size) hbd hl0) HP2.out;have m0:=Eq.trans (Below.cell (B:=W0.heap.size) hbd hbs) HFC.out.1;have m1:=Eq.trans (Below.cell (B:=W0.heap.size) hbd hbs) HFC.out.2.1;have m2:=Eq.trans (Below.cell (B:=W0.heap.size) hbd hbs) HFC.out.2.2.1;have m3:=Eq.trans (Below.cell (B:=W0.heap.size) hbd hbs) HFC.out.2.2.2.1;have m4:=Eq.trans (Below.cell (B:=W0.heap.size) hbd hbs) HFC.out.2.2.2.2.1;have m5:=Eq.trans (Below.cell (B:=W0.heap.size) hbd hbs) HFC.out.2.2.2.2.2;go_region_law
     (first
       |((refine qa9 p_ (qnb (base:=W0.heap.size) (f:=fk) hc5c ho5 hCs n_ hc5.qs rfl rfl rfl rfl ?_))
         intro A6 c6 w6 ho6 hg6;obtain⟨n6,hn6⟩:∃ n,(fs.take k).length+1=n:=⟨_,rfl⟩
         simp only[hn6] at ho6 ⊢;clear hn6;have hb6:=(hc5.setF hg6 ho6).b;have hb6:bB W0 w6:=hc5.b.grown hg6 hc5.qs (fun r hr=>(hc5.c.feeds.row r hr).1);obtain⟨j0,j1,j2,j3,j4,j5,jf⟩:=qaa (hc5.boxF hg6))
       |(go_simp;go_wp2_with (first
       |(go_at_call 116;refine(qc1 fk _ _ _ (HF.out.below' (qac (bR_ _ _))) HBB.out.1 HBB.out.2).mono ?_;rintro e w5 ⟨ub,uh,rfl,ho5,hb5⟩;obtain⟨uB,ubc,rfl⟩:=ho5.bl.sl;obtain⟨uH,uhc,rfl⟩:=ho5.hv.sl;have hc5:=HC.out.below ((qac (bR_ _ wr)).trans hb5) rfl;obtain⟨CC,hCC⟩:=HC.out.c.feeds;have hc5c:=hCC.next (qaA.of_below ((qac (bR_ _ wr)).trans hb5));have hCs:CC≤wr.heap.size:=by obtain⟨_,_,_,h,_⟩:=hCC;exact h
         have hg5:=(qaa hc5.box).2.2.1;have hg5a:∀ o,(w5.alloc o).cell? ⟨g,2,none⟩=some uF:=fun o=>(qaa (qau hc5.box)).2.2.1))))
    all_goals
     go_wp2
     go_meet;exact⟨rfl,_,hc5.setF hg6 ho6⟩
   case rest=>
    obtain⟨rfl,uF',hL6⟩:=hcut;obtain⟨W6,rfl⟩:∃ W,W=wc:=⟨_,rfl⟩
    have HL6:=hI_ hL6;have hg4:=(qaa hL6.box).2.2.2.2.1;have hgd:W6.drew.cell? ⟨g,4,none⟩=some uA:=hg4;have hge:∀ o,(W6.alloc o).drew.cell? ⟨g,4,none⟩=some uA:=fun o=>(qaa (qau HL6.out.box)).2.2.2.2.1;have HB6:=hI_ hL6.b;clear hL6 p0 p1 p2 p3 p4 p5 pf hg2 hb HFC HP2;have HP4:=hI_ (qaa HP0.out).2.2.2.2.1;have hlk:k<ks.length:=by have:=HNA.out;omega
    have hkk:(k:Int)<(ks.length:Int):=a_;obtain⟨b1,o1,x1,hA1,hbs1,f0,hR⟩:=HX0.out.r.asked.at_ hlk;subst hA1;have HF4:=hI_ f0;have hkl:=HM.out.a k hlk;simp only at hkl;have HSK:=hI_ (qaZ hlk);obtain⟨kk,HKK⟩:=nm_ (ks[k]);rw[HKK.out] at hR hkl HSK;have HR:=hI_ hR;clear f0 hR;go_wp2_with fail
    have hbd:bB W0 W6.drew:=qac HB6.out;have l4:=Eq.trans (Below.cell (B:=W0.heap.size) hbd hl0) HP4.out;have m4:=Eq.trans (Below.cell (B:=W0.heap.size) hbd hbs1) HF4.out;have l4a:∀ o,(W6.alloc o).drew.cell? ⟨w.heap.size,4,none⟩=some (.slice (some ⟨b1,o1,none⟩) ks.length ac):=fun o=>Eq.trans (Below.cell (B:=W0.heap.size) (qac (qab HB6.out o)) hl0) HP4.out;have m4a:∀ o,(W6.alloc o).drew.cell? ⟨b1,o1+k,none⟩=some x1:=fun o=>Eq.trans (Below.cell (B:=W0.heap.size) (qac (qab HB6.out o)) hbs1) HF4.out;go_region_law
     (first
       |((refine qa9 p_ (qhN (base:=W0.heap.size) (l2:=kk) (by with_reducible repeat(first|exact at0 _ _|refine qbI ?_)) HL6.out.qs (HR.out.below (by with_reducible repeat(first|exact HB6.out|refine qab ?_ _|refine qac ?_))) a_ (Nat.le_trans HL6.out.qs k_) rfl rfl rfl ?_))
         intro A8 c8 w8 ho8 hg8;have hb8:bB W6 w8:=Below.grown (qac (qab (bR_ _ _) _)) hg8 k_ (fun r hr=>by cases hr;exact nr_ _);have hc8:=HL6.out.below hb8 rfl;have hg8:=(qaa hc8.box).2.2.2.2.1;have hg8a:∀ o,(w8.alloc o).cell? ⟨g,4,none⟩=some uA:=fun o=>(qaa (qau hc8.box)).2.2.2.2.1)
       |((refine qa9 p_ (qnX (base:=W0.heap.size) (l:=kk) hc8.c.asked (ho8.stb e_) n_ hc8.qs rfl rfl rfl rfl ?_))
         intro A9 c9 w9 ho9 hg9;obtain⟨n9,hn9⟩:∃ n,(ks.take k).length+1=n:=⟨_,rfl⟩
         simp only[hn9] at ho9 ⊢;clear hn9;have hb9:bB W0 w9:=hc8.b.grown hg9 hc8.qs (fun r hr=>by obtain⟨_,q1,_⟩:=hc8.c.asked;exact(q1.lt r hr).1);obtain⟨j0,j1,j2,j3,j4,j5,jf⟩:=qaa (hc8.boxA hg9)))
    all_goals
     go_wp2
     go_roundw
     case rel=>exact⟨k+1,_,_,a_,t_,by rw[HSN.out,HSK.out];exact hc8.setA hg9 ho9⟩
     case measure=>simp[intOf];omega
structure Oth (B:Nat) (X:Nat→Prop) (w w':World):Prop where
 size:B≤w'.heap.size
 block:∀ k,k<B→¬ X k→w'.heap[k]? =w.heap[k]?
section
variable {B q:Nat} {X Y:Nat→Prop} {w w' w2:World} {T:List TypeId}
theorem Oth.refl:Oth w.heap.size X w w:=⟨nr_ _,fun _ _ _=>rfl⟩
theorem Oth.below(h:Oth B X w w')(hb:bB w' w2):Oth B X w w2:=⟨Nat.le_trans h.size hb.size,fun k hk hx=>(hb.block k (nL_ hk h.size)).trans (h.block k hk hx)⟩
theorem Oth.alloc(h:Oth B X w w')(o:Obj):Oth B X w (w'.alloc o):=h.below ((bR_ _ _).alloc (nr_ _) o)
theorem Oth.grown{row:Option Nat}(h:Oth B X w w')(hg:w'.grownBy w2 row)(hr:∀ r,row=some r→B≤r∨X r):Oth B X w w2:=
 ⟨Nat.le_trans h.size hg.size,fun k hk hx=>(hg.block k (nL_ hk h.size) (fun e=>by rcases hr k e.symm with h|h;(· omega);exact hx h)).trans (h.block k hk hx)⟩
theorem Oth.set(h:Oth B X w w')(hq:B≤q∨X q)(i:Nat)(u:Value):Oth B X w (w'.setCell ⟨q,i,none⟩ u):=h.grown (qaR _ _ _) (fun r hr=>by cases hr;exact hq)
theorem Oth.mono(h:Oth B X w w')(hX:∀ k,X k→Y k):Oth B Y w w':=⟨h.size,fun k hk hy=>h.block k hk (fun hx=>hy (hX k hx))⟩
theorem Oth.keep(h:Oth w.heap.size X w w')(hX:∀ k cur e fr,X k→w.heap[k]? =some (.cells cur e fr)→e ∉ T):qaA T w w':=
 ⟨h.size,fun k cur e fr hk he=>h.block k (Array.getElem?_eq_some_iff.1 hk).1 (fun hx=>hX k cur e fr hx hk he)⟩
end
theorem qai{w:World}{k:Nat}{o:Obj}(h:w.heap[k]? =some o):k<w.heap.size:=(Array.getElem?_eq_some_iff.1 h).1
theorem qaB(w:World)(o:Obj):w.heap.size<(w.alloc o).heap.size:=by simp
theorem qb6{a b c:World}(h:bB a b)(k:bB b c):bB a c:=h.trans (k.mono h.size)
def qdM(B:Nat)(w:World)(v:Value)(fs:List Fd)(x:Nat):Prop:=
 ∃ F,ON 6 B 50 w v fs.length F∧∀ j (hj:j<fs.length),j≠x→F (j*6)=.int .i64 fs[j].pub∧F (j*6+1)=.int .i64 fs[j].hd.len∧F (j*6+2)=.int .i64 fs[j].hd.dg∧F (j*6+3)=.int .i64 fs[j].hd.sg∧Stb LB (fun w=>qaU w fs[j] (F (j*6+4)) (F (j*6+5))) w
section
variable {B g x n cap:Nat} {w w':World} {v:Value} {fs:List Fd}
theorem ON.put6'{e:TypeId}{F:Nat→Value}(h:ON 6 B e w (.slice (some ⟨g,0,none⟩) n cap) n F)(hx:x<n)(x0 x1 x2 x3 x4 x5:Value):
 ∃ G:Nat→Value,ON 6 B e ((((((w.setCell ⟨g,x*6,none⟩ x0).setCell ⟨g,x*6+1,none⟩ x1).setCell ⟨g,x*6+2,none⟩ x2).setCell ⟨g,x*6+3,none⟩ x3).setCell ⟨g,x*6+4,none⟩ x4).setCell ⟨g,x*6+5,none⟩ x5) (.slice (some ⟨g,0,none⟩) n cap) n G∧
  w.grownBy ((((((w.setCell ⟨g,x*6,none⟩ x0).setCell ⟨g,x*6+1,none⟩ x1).setCell ⟨g,x*6+2,none⟩ x2).setCell ⟨g,x*6+3,none⟩ x3).setCell ⟨g,x*6+4,none⟩ x4).setCell ⟨g,x*6+5,none⟩ x5) (some g)∧
  G (x*6)=x0∧G (x*6+1)=x1∧G (x*6+2)=x2∧G (x*6+3)=x3∧G (x*6+4)=x4∧G (x*6+5)=x5∧∀ t,t/6≠x→G t=F t:=by
 obtain⟨h3,h4⟩:=h.put6 hx x0 x1 x2 x3 x4 x5;refine⟨_,h3,h4,k_,k_,k_,k_,k_,k_,fun t ht=> ?_⟩;rw[if_neg a_,if_neg a_,if_neg a_,if_neg a_,if_neg a_,if_neg a_]
theorem qdM.next(h:qdM B w v fs x)(hk:qaA LTF w w'):qdM B w' v fs x:=by
 obtain⟨F,h1,h2⟩:=h;exact⟨F,h1.keepT hk e_,fun j hj hne=>⟨(h2 j hj hne).1,(h2 j hj hne).2.1,(h2 j hj hne).2.2.1,(h2 j hj hne).2.2.2.1,(h2 j hj hne).2.2.2.2.next (hk.mono LBF)⟩⟩
theorem qa1.toX(h:qa1 B w v fs)(x:Nat):qdM B w v fs x:=by
 obtain⟨C,F,h1,_,_,h2⟩:=h;exact⟨F,h1,fun j hj _=>⟨(h2 j hj).1,(h2 j hj).2.1,(h2 j hj).2.2.1,(h2 j hj).2.2.2.1,(h2 j hj).2.2.2.2.1.stb e_ e_⟩⟩
theorem qa1.form(h:qa1 B w v fs)(hn:0<fs.length):∃ g cap,v=.slice (some ⟨g,0,none⟩) fs.length cap∧B≤g∧g<w.heap.size:=by
 obtain⟨C,F,h1,_⟩:=h;exact h1.form hn
theorem qbB.form{ls:List (List (Int×Int))}(h:qbB B w v ls)(hn:0<ls.length):∃ g cap,v=.slice (some ⟨g,0,none⟩) ls.length cap∧B≤g∧g<w.heap.size:=by
 obtain⟨F,h1,_⟩:=h;exact h1.form hn
theorem ON.row0{N:Nat}{e:TypeId}{F:Nat→Value}(h:ON N B e w v n F):∀ r,v.ownBlock=some r→∃ cur,w.heap[r]? =some (.cells cur e (0,0)):=fun r hr=>by
 rcases h.2 with⟨rfl,_⟩|⟨g,cap,cur,rfl,hg,hh,_⟩
 · cases hr
 · cases hr;exact⟨cur,hh⟩
theorem qgI{q:Nat}{cur:Array Value}{e:TypeId}(h:w.heap[q]? =some (.cells cur e (0,0)))(i:Nat):w.frozen? ⟨q,i,none⟩=false:=by simp[World.frozen?,h]
theorem qa1.ty(h:qa1 B w (.slice (some ⟨g,0,none⟩) n cap) fs):∃ cur,w.heap[g]? =some (.cells cur 50 (0,0)):=by
 obtain⟨C,F,h1,_⟩:=h;exact h1.row0 g rfl
theorem qbB.ty{ls:List (List (Int×Int))}(h:qbB B w (.slice (some ⟨g,0,none⟩) n cap) ls):∃ cur,w.heap[g]? =some (.cells cur 54 (0,0)):=by
 obtain⟨F,h1,_⟩:=h;exact h1.row0 g rfl
theorem qdM.put(h:qdM B w (.slice (some ⟨g,0,none⟩) n cap) fs x)(hx:x<fs.length){f:Fd}{vb vh:Value}(hf:Stb LB (fun w=>qaU w f vb vh) w):
 Stb LT2 (fun w=>qa6 w (.slice (some ⟨g,0,none⟩) n cap) (fs.set x f)) ((((((w.setCell ⟨g,x*6,none⟩ (.int .i64 f.pub)).setCell ⟨g,x*6+1,none⟩ (.int .i64 f.hd.len)).setCell ⟨g,x*6+2,none⟩ (.int .i64 f.hd.dg)).setCell ⟨g,x*6+3,none⟩ (.int .i64 f.hd.sg)).setCell ⟨g,x*6+4,none⟩ vb).setCell ⟨g,x*6+5,none⟩ vh):=by
 obtain⟨F,h1,h2⟩:=h;obtain⟨_,_,he⟩:=h1.rn.sl;obtain rfl:n=fs.length:=J_;obtain⟨G,h3,h4,k0,k1,k2,k3,k4,k5,k6⟩:=h1.put6' hx (.int .i64 f.pub) (.int .i64 f.hd.len) (.int .i64 f.hd.dg) (.int .i64 f.hd.sg) vb vh;obtain⟨cur,fr,hty⟩:=h1.row g rfl;have hk:qaA LB w _:=qaA.of_grown h4 (fun r hr=>by cases hr;exact⟨cur,_,fr,hty,e_⟩);intro w2 hk2;have h5:=h3.keepT hk2 e_;refine⟨G,be_,fun j hj=> ?_⟩;rw[List.length_set] at hj;by_cases hjx:j=x
 · subst hjx;rw[List.getElem_set_self,k0,k1,k2,k3,k4,k5];exact⟨rfl,rfl,rfl,rfl,(hf.next hk) w2 (hk2.mono e_)⟩
 · rw[List.getElem_set_ne (Ne.symm hjx),k6 _ a_,k6 _ a_,k6 _ a_,k6 _ a_,k6 _ a_,k6 _ a_];obtain⟨g0,g1,g2,g3,g4⟩:=h2 j hj hjx;exact⟨g0,g1,g2,g3,(g4.next hk) w2 (hk2.mono e_)⟩
theorem qbB.put{ls:List (List (Int×Int))}(h:qbB B w (.slice (some ⟨g,0,none⟩) n cap) ls)(hx:x<ls.length){l:List (Int×Int)}{u:Value}(hf:Stb LQ (fun w=>RP w u l) w):
 Stb LT2 (fun w=>qdh w (.slice (some ⟨g,0,none⟩) n cap) (ls.set x l)) (w.setCell ⟨g,x,none⟩ u):=by
 obtain⟨F,h1,h2⟩:=h;obtain⟨_,_,he⟩:=h1.rn.sl;obtain rfl:n=ls.length:=J_;obtain⟨h3,h4⟩:=h1.setAt (t:=x) a_ u;obtain⟨cur,fr,hty⟩:=h1.row g rfl;have hk:qaA LQ w _:=qaA.of_grown h4 (fun r hr=>by cases hr;exact⟨cur,_,fr,hty,e_⟩);intro w2 hk2;have h5:=h3.keepT hk2 e_;refine⟨_,be_,fun j hj=> ?_⟩;rw[List.length_set] at hj;by_cases hjx:j=x
 · subst hjx;rw[List.getElem_set_self];have:=(hf.next hk) w2 (hk2.mono e_);simpa using this
 · rw[List.getElem_set_ne (Ne.symm hjx)];have:=((h2 j hj).next hk) w2 (hk2.mono e_);simpa[hjx] using this
theorem qa1.zero(h:qa1 B w (.slice (some ⟨g,0,none⟩) n cap) fs)(hn:0<fs.length):
 ∃ a b,w.cell? ⟨g,0,none⟩=some (.int .i64 fs[0].pub)∧w.cell? ⟨g,1,none⟩=some (.int .i64 fs[0].hd.len)∧w.cell? ⟨g,2,none⟩=some (.int .i64 fs[0].hd.dg)∧w.cell? ⟨g,3,none⟩=some (.int .i64 fs[0].hd.sg)∧w.cell? ⟨g,4,none⟩=some a∧w.cell? ⟨g,5,none⟩=some b∧
  qaK B w fs[0] a b∧∀ w',Oth w.heap.size (fun k=>a.ownBlock=some k∨b.ownBlock=some k) w w'→qdM B w' (.slice (some ⟨g,0,none⟩) n cap) fs 0:=by
 obtain⟨C,F,h1,hBC,hCs,h2⟩:=h;obtain⟨_,_,he⟩:=h1.rn.sl;obtain rfl:n=fs.length:=J_;obtain⟨f0,f1,f2,f3,f4,f5⟩:=h2 0 hn;obtain⟨hu1,hu2⟩:=f5 rfl;refine⟨F 4,F 5,?_,?_,?_,?_,?_,?_,by simpa using f4,fun w' ho=>⟨F,?_,fun j hj hj0=> ?_⟩⟩
 · rw[(h1.at_ (t:=0) a_).1];exact congrArg some f0
 · rw[(h1.at_ (t:=1) a_).1];exact congrArg some f1
 · rw[(h1.at_ (t:=2) a_).1];exact congrArg some f2
 · rw[(h1.at_ (t:=3) a_).1];exact congrArg some f3
 · exact(h1.at_ (t:=4) a_).1
 · exact(h1.at_ (t:=5) a_).1
 · have hk:qaA [50] w w':=ho.keep (fun k cur e fr hx hk=>by
    rcases hx with hx|hx
    · obtain⟨c2,fr2,h5⟩:=f4.bl.row k hx;rw[hk] at h5;cases h5;decide
    · obtain⟨c2,fr2,h5⟩:=f4.hv.row k hx;rw[hk] at h5;cases h5;decide)
   exact h1.keepT hk e_
 · obtain⟨g0,g1,g2,g3,g4,_⟩:=h2 j hj;rw[if_neg hj0] at g4;have hkeep:∀ k,C≤k→k<w.heap.size→w'.heap[k]? =w.heap[k]? :=fun k hC hk=>ho.block k hk (fun hx=>by
    rcases hx with hx|hx
    · have:=hu1 k hx;omega
    · have:=hu2 k hx;omega)
   have hb:O1 Value.string C 9 w' (F (j*6+4)) fs[j].bl:=by
    refine⟨g4.bl.1,?_⟩;rcases g4.bl.2 with hn|⟨g',cap',cur,hv,hg,hh,r⟩
    · exact .inl hn
    · exact .inr ⟨g',cap',cur,hv,hg,(hkeep g' hg (Array.getElem?_eq_some_iff.1 hh).1).trans hh,r⟩
   have hv:O1 Value.bool C 4 w' (F (j*6+5)) fs[j].hv:=by
    refine⟨g4.hv.1,?_⟩;rcases g4.hv.2 with hn|⟨g',cap',cur,hv,hg,hh,r⟩
    · exact .inl hn
    · exact .inr ⟨g',cap',cur,hv,hg,(hkeep g' hg (Array.getElem?_eq_some_iff.1 hh).1).trans hh,r⟩
   exact⟨g0,g1,g2,g3,(qaK.mk hb hv).stb e_ e_⟩
end
theorem qdM.cells{B g n cap x:Nat}{w:World}{fs:List Fd}(h:qdM B w (.slice (some ⟨g,0,none⟩) n cap) fs x):(∃ F:Nat→Value,∀ t,t<fs.length*6→w.cell? ⟨g,t,none⟩=some (F t))∧(∀ i,w.frozen? ⟨g,i,none⟩=false)∧∃ cur,w.heap[g]? =some (.cells cur 50 (0,0)):=by
 obtain⟨F,h1,h2⟩:=h;obtain⟨_,_,he⟩:=h1.rn.sl;obtain rfl:n=fs.length:=J_;obtain⟨cur,hr⟩:=h1.row0 g rfl;exact⟨⟨F,fun t ht=>(h1.at_ ht).1⟩,fun i=>qgI hr i,cur,hr⟩
theorem qeZ{B q o:Nat}{a w:World}(h:Below B a w)(hq:B≤q)(x0 x1 x2 x3 x4 x5:Value):Below B a ((((((w.setCell ⟨q,o,none⟩ x0).setCell ⟨q,o+1,none⟩ x1).setCell ⟨q,o+2,none⟩ x2).setCell ⟨q,o+3,none⟩ x3).setCell ⟨q,o+4,none⟩ x4).setCell ⟨q,o+5,none⟩ x5):=
 (((((h.setCell (p:=⟨q,o,none⟩) hq _).setCell (p:=⟨q,o+1,none⟩) hq _).setCell (p:=⟨q,o+2,none⟩) hq _).setCell (p:=⟨q,o+3,none⟩) hq _).setCell (p:=⟨q,o+4,none⟩) hq _).setCell (p:=⟨q,o+5,none⟩) hq _
theorem Oth.put6{B q o:Nat}{X:Nat→Prop}{a w:World}(h:Oth B X a w)(hq:B≤q∨X q)(x0 x1 x2 x3 x4 x5:Value):Oth B X a ((((((w.setCell ⟨q,o,none⟩ x0).setCell ⟨q,o+1,none⟩ x1).setCell ⟨q,o+2,none⟩ x2).setCell ⟨q,o+3,none⟩ x3).setCell ⟨q,o+4,none⟩ x4).setCell ⟨q,o+5,none⟩ x5):=
 (((((h.set hq o _).set hq (o+1) _).set hq (o+2) _).set hq (o+3) _).set hq (o+4) _).set hq (o+5) _
def qnq(B:Nat)(W wx:World)(h:Hd)(v:Value):Prop:=∃ y,v=.pointer (some ⟨y,0,none⟩)∧wx.heap[y]? =some (.cells #[.int .i64 h.len,.int .i64 h.dg,.int .i64 h.sg] 46 (0,0))∧Below B W wx∧B≤y
theorem qnH{B:Nat}{W w:World}{h:Hd}(hb:Below B W w)(hB:B≤w.heap.size):qnq B W (w.alloc (.cells #[.int .i64 h.len,.int .i64 h.dg,.int .i64 h.sg] 46)) h (.pointer (some ⟨w.heap.size,0,none⟩)):=
 ⟨_,rfl,heap_alloc_new _ _,hb.alloc hB _,hB⟩
theorem qlK{B g:Nat}{W w:World}{h:Hd}{x0 x1 x2:Value}(hb:Below B W w)(hg:w.heap[g]? =some (.cells #[x0,x1,x2] 46 (0,0)))(hB:B≤g):
 qnq B W (((w.setCell ⟨g,0,none⟩ (.int .i64 h.len)).setCell ⟨g,1,none⟩ (.int .i64 h.dg)).setCell ⟨g,2,none⟩ (.int .i64 h.sg)) h (.pointer (some ⟨g,0,none⟩)):=
 ⟨_,rfl,qas (i:=2) (qas (i:=1) (qas (i:=0) hg _) _) _,((hb.setCell (p:=⟨g,0,none⟩) hB _).setCell (p:=⟨g,1,none⟩) hB _).setCell (p:=⟨g,2,none⟩) hB _,hB⟩
def qhd(w:World)(x':Wd)(e:Ending)(w':World):Prop:=
 ∃ uF uL uA uN,e=.returned (.agg #[.int .i64 x'.sec,.int .i64 x'.bad,uF,uL,uA,uN])∧WdS w' x' uF uL uA uN∧bB w w'
theorem WdS.set6{w:World}{q:Nat}{cur:Array Value}{x:Wd}{vF vL vA vN:Value}(h:WdS w x vF vL vA vN)(hq:w.heap[q]? =some (.cells cur 28 (0,0)))(x0 x1 x2 x3 x4 x5:Value):
 WdS ((((((w.setCell ⟨q,0,none⟩ x0).setCell ⟨q,1,none⟩ x1).setCell ⟨q,2,none⟩ x2).setCell ⟨q,3,none⟩ x3).setCell ⟨q,4,none⟩ x4).setCell ⟨q,5,none⟩ x5) x vF vL vA vN:=h.keep (qaA.set6 (T:=LT2) hq e_ _ _ _ _ _ _)
end Go.Proofs.YtekaaekpdebloaaGreatDoor
namespace Go.Proofs.YtekaaekpdebloaaGreatDoor

theorem qjU{l:List (Int×Int)}{a:Int×Int}(h:qc8 l a=true):a ∈ l:=by
 unfold qc8 at h;obtain⟨y,hy,h1⟩:=List.any_eq_true.1 h;simp only[Bool.and_eq_true,beq_iff_eq] at h1;obtain rfl:y=a:=Prod.ext h1.1 h1.2;exact hy
section
variable {K:Nat} {x:Wd}
theorem WI.f0_(h:WI K x):x.f0=x.feeds[0]'(by have:=h.n1;omega):=qam (by have:=h.n1;omega) _
theorem WI.v0(h:WI K x):qaq x.f0=true:=by rw[h.f0_];exact(h.fv 0 _).1
theorem WI.len0(h:WI K x):x.f0.bl.length=x.f0.hv.length∧x.f0.bl.length≤16∧(x.f0.bl.length:Int)=x.f0.hd.len:=qax h.v0
theorem WI.txt(h:WI K x):∀ t ∈ x.f0.bl,t.size≤8:=qbH h.v0
theorem WI.lenj(h:WI K x){j:Nat}(hj:j<x.feeds.length):x.feeds[j].bl.length=x.feeds[j].hv.length∧x.feeds[j].bl.length≤16∧(x.feeds[j].bl.length:Int)=x.feeds[j].hd.len:=qax (h.fv j hj).1
theorem WI.hd(h:WI K x){j:Nat}(hj:j<x.feeds.length):∃ n:Nat,x.feeds[j].hd.len=n∧n≤x.f0.bl.length∧n≤16∧x.feeds[j].bl.length=n∧x.feeds[j].hv.length=n:=by
 have h1:=h.lenj hj;have h2:=(h.fv j hj).2;have h3:=h.len0;exact⟨x.feeds[j].bl.length,a_,a_,a_,rfl,a_⟩
theorem WI.sml(h:WI K x)(hK:K≤1000000):Sml x:=by
 refine⟨by have:=h.n6;omega,by have:=h.nl;omega,by have:=h.net;omega,h.na,fun j hj=> ?_,fun j hj=>by have:=h.ask j hj;omega,fun j hj=>by have:=(h.pcs j hj).2.2.2;omega⟩;have:=h.lenj hj;omega
theorem WI.lk(h:WI K x){a b:Int}(hl:qbk x a b=true):∃ i j:Nat,a=i∧b=j∧i<x.feeds.length∧j<x.feeds.length:=by
 obtain⟨k,hk,he⟩:=List.mem_iff_getElem.1 (qjU hl);have h1:=h.links k hk;rw[he] at h1;unfold qc5 at h1;rw[Bool.and_eq_true,qak,qak] at h1;obtain⟨⟨h2,h3⟩,h4,h5⟩:=h1;unfold qbw at h2 h3 h4 h5;simp only at h2 h3 h4 h5;exact⟨a.toNat,b.toNat,a_,a_,a_,a_⟩
theorem WI.fd(h:WI K x){j:Nat}(hj:j<x.feeds.length):x.feed j=x.feeds[j]:=by unfold Wd.feed;rw[Int.toNat_natCast,qam hj]
theorem WI.as_(h:WI K x){j:Nat}(hj:j<x.feeds.length):x.asks j=x.asked[j]'(by rw[h.na];exact hj):=by unfold Wd.asks;rw[Int.toNat_natCast,qam (by rw[h.na];exact hj)]
end
end Go.Proofs.YtekaaekpdebloaaGreatDoor

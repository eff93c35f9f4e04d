/- Words and walks of the law. -/
import Derived.Test.YtekaaekpdebloaaGreatDoorCY5
import Derived.ArgAppend
import Derived.Laws.IdiomCopy
set_option linter.unusedVariables false
set_option linter.unusedSimpArgs false
set_option maxHeartbeats 12800000
set_option maxRecDepth 100000
namespace Go.Proofs.YtekaaekpdebloaaGreatDoor

theorem qtR{k:Int×Int}:∀ (l:List (Int×Int)) (i:Nat),i≤l.length→(∀ t (ht:t<l.length),t<i→gtL l[t] k=false)→(∀ t (ht:t<l.length),i≤t→gtL l[t] k=true)→qlN l k=l.take i++k::l.drop i
 |[],i,_,_,_=>by simp[qlN]
 |a::l,0,_,_,h2=>by
  have h0:gtL a k=true:=h2 0 k_ (nr_ _);unfold qlN;rw[if_pos h0];simp
 |a::l,i+1,hi,h1,h2=>by
  have h0:gtL a k=false:=h1 0 k_ a_;unfold qlN;rw[if_neg (by rw[h0];simp),qtR l i (by simpa using hi) (fun t ht hti=>h1 (t+1) (by simpa using ht) a_) (fun t ht hti=>h2 (t+1) (by simpa using ht) a_)];simp
theorem qsF{k:Int×Int}:∀ (l:List (Int×Int)),k ∉ l→l.filter (fun y=> !(y.1==k.1&&y.2==k.2))=l
 |[],_=>rfl
 |a::l,h=>by
  rw[List.mem_cons,not_or] at h;have h0:(a.1==k.1&&a.2==k.2)=false:=by
    rw[Bool.eq_false_iff];intro e;simp only[Bool.and_eq_true,beq_iff_eq] at e;exact h.1 (Prod.ext e.1.symm e.2.symm)
  rw[List.filter_cons_of_pos (by simp[h0]),qsF l h.2]
theorem qsE{k:Int×Int}:∀ (l:List (Int×Int)) (i:Nat) (hi:i<l.length),l[i]=k→l.Nodup→l.filter (fun y=> !(y.1==k.1&&y.2==k.2))=l.eraseIdx i
 |[],i,hi,_,_=>by simp at hi
 |a::l,0,_,he,hn=>by
  have ha:a=k:=he;subst ha;rw[List.nodup_cons] at hn;rw[List.filter_cons_of_neg k_,qsF l hn.1];rfl
 |a::l,i+1,hi,he,hn=>by
  rw[List.nodup_cons] at hn;have he':l[i]'(by simpa using hi)=k:=he;have hne:a≠k:=fun e=>hn.1 (by rw[e,←he'];exact List.getElem_mem _);have h0:(a.1==k.1&&a.2==k.2)=false:=by
    rw[Bool.eq_false_iff];intro e;simp only[Bool.and_eq_true,beq_iff_eq] at e;exact hne (Prod.ext e.1 e.2)
  rw[List.filter_cons_of_pos (by simp[h0]),qsE l i (by simpa using hi) he' hn.2,List.eraseIdx_cons_succ]
end Go.Proofs.YtekaaekpdebloaaGreatDoor
namespace Go.Proofs.YtekaaekpdebloaaGreatDoor
open Go.RowKit

section
variable {B B' C q o:Nat} {w w' w2:World} {x y:Wd} {vF vL vA vN v:Value} {s b:Int}
theorem BX.set_ty(h:BX q o w s b vF vL vA vN)(i:Nat)(v:Value):∃ cur t,(w.setCell ⟨q,i,none⟩ v).heap[q]? =some (.cells cur t (0,0))∧t ∉ LT2:=by
 obtain⟨cur,t,h1,h2⟩:=h.ty;exact⟨_,t,qas h1 v,h2⟩
theorem BX.set3(h:BX q o w s b vF vL vA vN)(v:Value):BX q o (w.setCell ⟨q,o+3,none⟩ v) s b vF v vA vN:=
 ⟨(World.cell?_setCell_other _ _ _ _ k_).trans h.c0,(World.cell?_setCell_other _ _ _ _ k_).trans h.c1,(World.cell?_setCell_other _ _ _ _ k_).trans h.c2,World.cell?_setCell_same _ _ _ h.c3,(World.cell?_setCell_other _ _ _ _ k_).trans h.c4,(World.cell?_setCell_other _ _ _ _ k_).trans h.c5,h.set_ty _ _⟩
theorem BX.set5(h:BX q o w s b vF vL vA vN)(v:Value):BX q o (w.setCell ⟨q,o+5,none⟩ v) s b vF vL vA v:=
 ⟨(World.cell?_setCell_other _ _ _ _ k_).trans h.c0,(World.cell?_setCell_other _ _ _ _ k_).trans h.c1,(World.cell?_setCell_other _ _ _ _ k_).trans h.c2,(World.cell?_setCell_other _ _ _ _ k_).trans h.c3,(World.cell?_setCell_other _ _ _ _ k_).trans h.c4,World.cell?_setCell_same _ _ _ h.c5,h.set_ty _ _⟩
theorem BX.keep2(h:BX q o w s b vF vL vA vN)(i:Nat)(v:Value):qaA LT2 w (w.setCell ⟨q,i,none⟩ v):=by
 obtain⟨cur,t,h1,h2⟩:=h.ty;exact qaA.set1 h1 h2 v
structure MI (B q o:Nat) (x:Wd) (w:World) (vF vL vA vN:Value):Prop where
 bx:BX q o w x.sec x.bad vF vL vA vN
 p:WdP B w.heap.size w x vF vL vA vN
 bq:B≤q
theorem MI.below(h:MI B q o x w vF vL vA vN)(hb:bB w w'):MI B q o x w' vF vL vA vN:=⟨h.bx.below hb,(h.p.below hb).mono (nr_ _) hb.size,h.bq⟩
theorem MI.lt(h:MI B q o x w vF vL vA vN):q<w.heap.size:=h.bx.lt
theorem MI.bs(h:MI B q o x w vF vL vA vN):B≤w.heap.size:=Nat.le_of_lt (Nat.lt_of_le_of_lt h.bq h.lt)
theorem MI.mkL{ls:List (Int×Int)}(hb:BX q o w x.sec x.bad vF vL vA vN)(hF:qa7 B w.heap.size w vF x.feeds)(hA:qcA B w.heap.size w vA x.asked)(hN:qbd B w.heap.size w vN x.net)(hv:qct B w.heap.size 99 w v ls)(bq:B≤q):
 MI B q o {x with links:=ls} (w.setCell ⟨q,o+3,none⟩ v) vF v vA vN:=
 ⟨hb.set3 v,(by
  rw[World.size_setCell];exact(WdP.keep (x:={x with links:=ls}) ⟨hF,hv,hA,hN⟩ (hb.keep2 (o+3) v))),bq⟩
theorem MI.mkN{ps:List Pc}(hb:BX q o w x.sec x.bad vF vL vA vN)(hF:qa7 B w.heap.size w vF x.feeds)(hL:qct B w.heap.size 99 w vL x.links)(hA:qcA B w.heap.size w vA x.asked)(hv:qbd B w.heap.size w v ps)(bq:B≤q):
 MI B q o {x with net:=ps} (w.setCell ⟨q,o+5,none⟩ v) vF vL vA v:=
 ⟨hb.set5 v,(by
  rw[World.size_setCell];exact(WdP.keep (x:={x with net:=ps}) ⟨hF,hL,hA,hv⟩ (hb.keep2 (o+5) v))),bq⟩
theorem BX.row{g:Nat}{cur:Array Value}{e:TypeId}{fr:Nat×Nat}(h:BX q o w s b vF vL vA vN)(hr:w.heap[g]? =some (.cells cur e fr))(he:e ∈ LT2):q≠g:=fun e0=>by
 subst e0;obtain⟨cur',t,h1,h2⟩:=h.ty;rw[h1] at hr;cases hr
 exact h2 he
def qrH(B q o:Nat)(w:World)(y:Wd)(e:Ending)(w':World):Prop:=
 e=.returned (.tuple #[])∧∃ vF vL vA vN,MI B q o y w' vF vL vA vN∧Below B w w'∧∀ i,i<o→w'.cell? ⟨q,i,none⟩=w.cell? ⟨q,i,none⟩
theorem qrH.same(h:MI B q o x w vF vL vA vN)(hb:bB w w'):qrH B q o w x (.returned (.tuple #[])) w':=
 ⟨rfl,_,_,_,_,h.below hb,hb.mono h.bs,fun i _=>World.cell?_of_block (hb.block q h.lt)⟩
end
end Go.Proofs.YtekaaekpdebloaaGreatDoor
namespace Go.Proofs.YtekaaekpdebloaaGreatDoor
open Go.RowKit
attribute [local go_sem ↓] Go.wp_at_zero Go.wp_at_succ

theorem qsI(a1 a2 b1 b2:Int)(w:World):
 (binOp .eql 99 (.agg #[.int .i64 a1,.int .i64 a2]) (.agg #[.int .i64 b1,.int .i64 b2])).run Tryz.prog w=.ok (.bool (a1==b1&&a2==b2)) w:=by
 rw[run_eql_struct,run_equalIn_agg _ _ _ _ _ d_ d_];by_cases h1:a1=b1 <;> by_cases h2:a2=b2 <;> simp[go_sem,h1,h2]
theorem qtq(l:List (Int×Int))(a:Int×Int)(v:Value)(w:World)(hv:RP w v l):Calls Tryz.prog 244 #[v,.agg #[.int .i64 a.1,.int .i64 a.2]] w fun e w'=>(∃ r:Int,e=.returned (.int .i64 r)∧ -1≤r∧(0≤r↔qc8 l a=true))∧bB w w':=by
 obtain⟨W0,HW0⟩:=nm_ (w.alloc (.cells #[.int .i64 a.1,.int .i64 a.2] 99));have HB0:Hid (bB w W0):=hI_ q_;have hp:W0.heap[w.heap.size]? =some (.cells #[.int .i64 a.1,.int .i64 a.2] 99 (0,0)):=by rw[←HW0.out];exact heap_alloc_new w _
 have lp:=(Array.getElem?_eq_some_iff.1 hp).1;have p0:W0.cell? ⟨w.heap.size,0,none⟩=some (.int .i64 a.1):=cell_of_row _ _ 0 _ _ _ hp;have p1:W0.cell? ⟨w.heap.size,1,none⟩=some (.int .i64 a.2):=cell_of_row _ _ 1 _ _ _ hp;have HP0:=hI_ p0;have HP1:=hI_ p1;have HV:=hI_ (hv.below HB0.out);have hm:=hv.len;obtain⟨A,c,rfl⟩:=hv.sl;unfold maxLen at hm;clear hv hp p0 p1;go_enter Tryz.func244,Tryz.ntmps244
 go_wp2
 rw[HW0.out];go_loopw [8] (fun i wr=>∃ k:Nat,k≤l.length∧i=.int .i64 k∧qc8 (l.take k) a=false∧bB W0 wr) (fun i _=>l.length-(intOf i).toNat)
 case atStart=>exact⟨0,Nat.zero_le _,rfl,rfl,bR_ _ _⟩
 case round=>
  obtain⟨k,hk,rfl,hno,hbw⟩:=hrel;have HNO:=hI_ hno;clear hno;by_cases hlt:k<l.length
  · obtain⟨b,o,rfl,hbs,e0,e1⟩:=(HV.out.below hbw).at_ hlt;have p0:=(hbw.cell (p:=⟨w.heap.size,0,none⟩) lp).trans HP0.out;have p1:=(hbw.cell (p:=⟨w.heap.size,1,none⟩) lp).trans HP1.out;have lpr:=nL_ lp hbw.size;have HS:=hI_ (qfQ hlt a);have HAT:Hid ((l[k].1==a.1&&l[k].2==a.2)=true→qc8 l a=true):=hI_ (qjo hlt);have hki:(k:Int)<(l.length:Int):=a_;have hk0:(0:Int)≤(k:Int):=a_;have HBW:=hI_ hbw;clear hbw;generalize l[k]=x at*
    obtain⟨r,HR⟩:=nm_ ((x.1==a.1&&x.2==a.2));have heq:∀ w:World,(binOp .eql 99 (.agg #[.int .i64 a.1,.int .i64 a.2]) (.agg #[.int .i64 x.1,.int .i64 x.2])).run Tryz.prog w=.ok (.bool r) w:=fun w=>by rw[qsI,←HR.out,BEq.comm (a:=a.1),BEq.comm (a:=a.2)]
    have hup:=qap wr;cases r
    · go_wp2
      refine qoH ?_;repeat(go_big_quiet_step (fail))
      refine wq_ fun w1 hb1=>?_;clear hup heq;go_wp2
      go_roundw
      case rel=>exact⟨k+1,a_,t_,by rw[HS.out,HNO.out,HR.out];rfl,HBW.out.trans (hb1.mono HBW.out.size)⟩
      case measure=>simp[intOf];omega
    · go_wp2
      refine qoH ?_;repeat(go_big_quiet_step (fail))
      refine wq_ fun w1 hb1=>?_;clear hup heq;go_wp2
      go_ret;exact⟨⟨k,rfl,a_,fun _=>HAT.out HR.out,fun _=>hk0⟩,HB0.out.trans ((HBW.out.trans (hb1.mono HBW.out.size)).mono HB0.out.size)⟩
  · obtain rfl:k=l.length:=a_;have hno:=HNO.out;rw[List.take_length] at hno;have HNO':=hI_ hno;clear hno;have HBW:=hI_ hbw;clear hbw;go_wp2
    go_ret;exact⟨⟨-1,rfl,a_,fun h=>a_,fun h=>by rw[HNO'.out] at h;cases h⟩,HB0.out.trans (HBW.out.mono HB0.out.size)⟩
theorem qst(l:List (Int×Int))(a:Int×Int)(v:Value)(w:World)(hv:RP w v l):gV 187 #[v,.agg #[.int .i64 a.1,.int .i64 a.2]] w (.bool (qc8 l a)):=by
 have hb:=(bR_ w.heap.size w).alloc (nr_ _) (.cells #[.int .i64 a.1,.int .i64 a.2] 99);have HB:=hI_ hb;have HV:=hI_ (hv.below hb);clear hb;go_enter Tryz.func187,Tryz.ntmps187
 go_wp2_with fail
 refine(qtq l a _ _ HV.out).mono ?_;rintro e w1 ⟨⟨r,rfl,h1,h2⟩,hb1⟩;have HH:Hid (decide (0≤r)=qc8 l a):=hI_ (by rw[Bool.eq_iff_iff,decide_eq_true_eq];exact h2);have HB1:=hI_ (HB.out.trans (hb1.mono HB.out.size));clear h1 h2 hb1;go_wp2
 go_ret;exact⟨qaM HH.out,HB1.out⟩
theorem qsW{l:List (Int×Int)}{a:Int×Int}{b:Bool}(h:Hid (qc8 l a=b))(v:Value)(w:World)(hv:RP w v l):gV 187 #[v,.agg #[.int .i64 a.1,.int .i64 a.2]] w (.bool b):=by
 rw[←h.out];exact qst l a v w hv

theorem qts(a b:Int)(w:World):gV 183 #[.int .i64 a,.int .i64 b] w (.agg #[.int .i64 (qbw a b).1,.int .i64 (qbw a b).2]):=by
 have HB:=hI_ ((bR_ w.heap.size w).alloc (nr_ _) (.cells #[.int .i64 a,.int .i64 b] 99));have HB2:=hI_ ((bR_ w.heap.size w).alloc (nr_ _) (.cells #[.int .i64 b,.int .i64 a] 99));rcases Int.lt_trichotomy a b with h|h|h
 · have hn:¬ b<a:=a_;have HK:Hid (qbw a b=(a,b)):=hI_ (by unfold qbw;rw[Int.min_eq_left a_,Int.max_eq_right a_]);rw[HK.out];go_enter Tryz.func183,Tryz.ntmps183
   go_wp2
   refine bodyPost_ret (v:=.agg #[.int .i64 a,.int .i64 b]) b7_ rfl ⟨rfl,HB.out⟩
 · subst h;have HK:Hid (qbw a a=(a,a)):=hI_ (by unfold qbw;rw[Int.min_eq_left a_,Int.max_eq_right a_]);rw[HK.out];go_enter Tryz.func183,Tryz.ntmps183
   go_wp2
   refine bodyPost_ret (v:=.agg #[.int .i64 a,.int .i64 a]) b7_ rfl ⟨rfl,HB.out⟩
 · have hn:¬ a<b:=a_;have HK:Hid (qbw a b=(b,a)):=hI_ (by unfold qbw;rw[Int.min_eq_right a_,Int.max_eq_left a_]);rw[HK.out];go_enter Tryz.func183,Tryz.ntmps183
   go_wp2
   refine bodyPost_ret (v:=.agg #[.int .i64 b,.int .i64 a]) b7_ rfl ⟨rfl,HB2.out⟩
theorem qte{a b:Int}{k:Int×Int}(h:Hid (qbw a b=k))(w:World):gV 183 #[.int .i64 a,.int .i64 b] w (.agg #[.int .i64 k.1,.int .i64 k.2]):=by
 rw[←h.out];exact qts a b w
theorem qsV{r:Bool}(x:Wd)(a b:Int)(q o:Nat)(vL:Value)(w:World)(h:Hid (qbk x a b=r))(t3:w.cell? ⟨q,o+3,none⟩=some vL)(hq:q<w.heap.size)(hL:RP w vL x.links):
 gV 111 #[.pointer (some ⟨q,o,none⟩),.int .i64 a,.int .i64 b] w (.bool r):=by
 obtain⟨k,HK⟩:=nm_ (qbw a b);have HR:Hid (qc8 x.links k=r):=hI_ (by rw[←HK.out];exact h.out);obtain⟨A,c,rfl⟩:=hL.sl;have HL:=hI_ hL;clear hL;go_enter Tryz.func111,Tryz.ntmps111
 go_wp2
 have hup:=qap w;refine qoH ?_;repeat(go_big_quiet_step (first
  |(go_at_call 183;exact qal (qte HK _))
  |(go_at_call 187;exact qal (qsW HR _ _ (HL.out.below (qao _ _))))))
 refine wq_ fun w1 hb1=>?_;clear hup;go_wp2
 go_ret;exact⟨rfl,hb1⟩
theorem qsu{r:Bool}(l:List Bool)(i:Nat)(v:Value)(w:World)(hv:RB w v l)(h:Hid (l.getD i false=r)):
 gS 245 #[v,.int .i64 (i:Int)] w (.bool r):=by
 have hm:=hv.len;obtain⟨A,c,rfl⟩:=hv.sl';unfold maxLen at hm;by_cases hlt:i<l.length
 · obtain⟨b,o,rfl,hbs,e0⟩:=hv.at_ hlt;rw[qam hlt] at h;have hi:(i:Int)<(l.length:Int):=a_;have hi0:(0:Int)≤(i:Int):=a_;rw[h.out] at e0;clear hv;go_enter Tryz.func245,Tryz.ntmps245
   go_wp2
   go_ret;exact⟨rfl,rfl⟩
 · have hi:¬ (i:Int)<(l.length:Int):=a_;have HR:Hid (r=false):=hI_ (by rw[←h.out,List.getD_eq_getElem?_getD,List.getElem?_eq_none a_];rfl);clear hv;go_enter Tryz.func245,Tryz.ntmps245
   go_wp2
   go_ret;exact⟨qaM HR.out.symm,rfl⟩
end Go.Proofs.YtekaaekpdebloaaGreatDoor
namespace Go.Proofs.YtekaaekpdebloaaGreatDoor
open Go.RowKit

section
variable {N B n m g cap:Nat} {e:TypeId} {w:World} {F:Nat→Value} {A:Option Addr}
def putF(o:Nat)(xs:List Value)(F:Nat→Value)(t:Nat):Value:=if o≤t∧t<o+xs.length then xs.getD (t-o) (.slice none 0 0) else F t
theorem ON.setCells:∀ (xs:List Value) (o:Nat) (w:World) (F:Nat→Value),ON N B e w (.slice (some ⟨g,0,none⟩) n cap) n F→o+xs.length≤n*N→
 ON N B e (w.setCells g o xs) (.slice (some ⟨g,0,none⟩) n cap) n (putF o xs F)∧w.grownBy (w.setCells g o xs) (some g)
 |[],o,w,F,h,_=>⟨h.congr fun t _=>by unfold putF;rw[if_neg (by simp only[List.length_nil];omega)],qii _ _⟩
 |x::xs,o,w,F,h,hl=>by
  simp only[List.length_cons] at hl;obtain⟨h1,g1⟩:=h.setAt (t:=o) a_ x;obtain⟨h2,g2⟩:=ON.setCells xs (o+1) _ _ h1 a_;refine⟨h2.congr fun t ht=> ?_,qat g1 g2⟩;unfold putF;simp only[List.length_cons];by_cases ht0:t=o
  · subst ht0;rw[if_neg a_,if_pos rfl,if_pos ⟨nr_ _,a_⟩,Nat.sub_self];rfl
  · by_cases h3:o+1≤t∧t<o+1+xs.length
    · rw[if_pos h3,if_pos ⟨a_,a_⟩,show t-o=(t-(o+1))+1 by omega,List.getD_cons_succ]
    · rw[if_neg h3,if_neg ht0,if_neg a_]
theorem ON.take_(h:ON N B e w (.slice A n cap) n F)(hm:m≤n):ON N B e w (.slice A m cap) m F:=by
 have hmn:m*N≤n*N:=Nat.mul_le_mul_right N hm;refine⟨k_,?_⟩;rcases h.2 with⟨h0,h1⟩|⟨k,c,cur,hv,hk,hh,q1,q2,q3,q4⟩
 · cases h0
   obtain rfl:m=0:=a_;exact .inl ⟨rfl,k_⟩
 · cases hv
   refine .inr ⟨k,cap,cur,rfl,hk,hh,a_,q2,q3,?_⟩;have:=congrArg (List.take (m*N)) q4;rw[List.take_take,Nat.min_eq_left hmn] at this;rw[this,←List.map_take];congr 1;rw[List.take_range,Nat.min_eq_left hmn]
theorem ON.room(h:ON N B e w (.slice (some ⟨g,0,none⟩) n cap) n F):∃ F',(∀ t,t<n*N→F' t=F t)∧ON N B e w (.slice (some ⟨g,0,none⟩) cap cap) cap F':=by
 rcases h.2 with⟨h0,h1⟩|⟨k,c,cur,hv,hk,hh,q1,q2,q3,q4⟩
 · cases h0
 · cases hv
   refine⟨fun t=>cur.toList.getD t (.slice none 0 0),fun t ht=> ?_,k_,.inr ⟨g,cap,cur,rfl,hk,hh,nr_ _,q2,q3,?_⟩⟩
   · have hl:t<cur.toList.length:=by
      have:=Nat.mul_le_mul_right N q1;simp only[Array.length_toList];omega
     have h1:(cur.toList.take (n*N))[t]? =((List.range (n*N)).map F)[t]? :=by rw[q4]
     rw[List.getElem?_take_of_lt ht] at h1;show cur.toList.getD t _=F t;rw[List.getD_eq_getElem?_getD,h1];simp[ht]
   · rw[List.take_of_length_le (by simp only[Array.length_toList];omega)];apply List.ext_getElem n_;intro s h1 h2;simp only[List.getElem_map,List.getElem_range];rw[qam h1]
end
theorem RP.one{w:World}{g:Nat}{a:Int×Int}{t:TypeId}(h:w.heap[g]? =some (.cells #[.int .i64 a.1,.int .i64 a.2] t (0,0))):RP w (.slice (some ⟨g,0,none⟩) 1 1) [a]:=by
 refine⟨_,1,rfl,⟨k_,fun h=>aj_⟩,s_,fun _=>⟨g,0,rfl,qai h,fun j hj=> ?_⟩⟩;obtain rfl:j=0:=ae_;obtain⟨c0,c1,_⟩:=qaH h;exact⟨c0,c1⟩
section
variable {P:Program} {o:Oper} {a:Act} {K:Act→World→Prop} {Q:Exit→Act→World→Prop}
theorem qth(w:World)(d s:Operand)(t t':TypeId)(ho:o.op=.call {callee:=.builtin .copy,args:= #[d,s],argTypes:= #[t,t']})(v u:Value)(hd:a.eval d=v)(hs:a.eval s=u){v':Value}{w':World}
 (hr:(Builtin.copy_ #[t,t'] o.type #[v,u]).run P w=.ok v' w') (h:K (a.put o.dst v') w'):o.wp P a w K Q:=by
 unfold Oper.wp execOp;simp only[ho,resolve,invoke,builtin,Sem.run_bind,Sem.run_pure,Result.andThen_ok,List.map_toArray,List.map_cons,List.map_nil,hd,hs,hr];exact h
theorem qtX(w:World)(s x:Operand)(t t':TypeId)(ho:o.op=.call {callee:=.builtin .append,args:= #[s,x],argTypes:= #[t,t']})(v u:Value)(hs:a.eval s=v)(hx:a.eval x=u){v':Value}{w':World}
 (hr:(Builtin.append_ #[t,t'] o.type #[v,u]).run P w=.ok v' w') (h:K (a.put o.dst v') w'):o.wp P a w K Q:=by
 unfold Oper.wp execOp;simp only[ho,resolve,invoke,builtin,Sem.run_bind,Sem.run_pure,Result.andThen_ok,List.map_toArray,List.map_cons,List.map_nil,hs,hx,hr];exact h
theorem qr2(w:World)(dT sT ty e:TypeId)(i:TypeInfo)(b oo dLen dCap:Nat)(ad:Addr)(sLen sCap:Nat)(cs:List Value)
 (hu:P.underlying dT=some (.slice e)) (hi:P.info? e=some i) (hn:cs.length=Nat.min sLen dLen*i.size)
 (hsrc:∀ j v,cs[j]? =some v→w.cell? (ad.add j)=some v) (hc:∀ j,j<cs.length→(w.cell? ⟨b,oo+j,none⟩).isSome=true) (hf:∀ j,j<cs.length→w.frozen? ⟨b,oo+j,none⟩=false) (h1:∀ v ∈ cs,v.oneCell'=true):
 (Builtin.copy_ #[dT,sT] ty #[.slice (some ⟨b,oo,none⟩) dLen dCap,.slice (some ad) sLen sCap]).run P w=.ok (goInt (Nat.min sLen dLen)) (w.setCells b oo cs):=by
 have hl:=run_loadCells_list (P:=P) w ad cs hsrc;rw[hn] at hl;have hst:=run_storeCells_cells (P:=P) b oo cs 0 w (by simpa using hc) (by simpa using hf) h1;simp only[Nat.add_zero] at hst;simp[Builtin.copy_,run_underlying hu,Builtin.lenOf,Builtin.firstCells,sizeOf,typeInfo,hi,hl,hst]
theorem qr4(w:World)(t e ty:TypeId)(z:Value)(ht:P.underlying t=some (.slice e))(hv:∀ w,(zeroValue e).run P w=.ok z w)(b oo k c:Nat)(hk:0<k)(zs:List Value)(hz:(Builtin.zeroCells z.cells k).toList=zs)(h1:∀ v ∈ zs,v.oneCell'=true)
 (hc:∀ j,j<zs.length→(w.cell? ⟨b,oo+j,none⟩).isSome=true) (hf:∀ j,j<zs.length→w.frozen? ⟨b,oo+j,none⟩=false):
 (Builtin.clear_ #[t] ty #[.slice (some ⟨b,oo,none⟩) k c]).run P w=.ok (.tuple #[]) (w.setCells b oo zs):=by
 have hst:=run_storeCells_cells (P:=P) b oo zs 0 w (by simpa using hc) (by simpa using hf) h1;simp only[Nat.add_zero] at hst;obtain⟨m,rfl⟩:∃ m,k=m+1:=⟨k-1,a_⟩
 simp[Builtin.clear_,run_underlying ht,hv,hz,hst]
end
end Go.Proofs.YtekaaekpdebloaaGreatDoor

/- Words and walks of the law. -/
import Derived.Test.YtekaaekpdebloaaGreatDoorCK5
import Derived.Shelf.Abstract
set_option linter.unusedVariables false
set_option linter.unusedSimpArgs false
set_option maxHeartbeats 12800000
set_option maxRecDepth 100000
namespace Go.Proofs.YtekaaekpdebloaaGreatDoor
open Go.RowKit
attribute [local go_sem ↓] Go.wp_at_zero Go.wp_at_succ

theorem qsS(l:List (Int×Int))(a:Int×Int)(en:Bool)(v:Value)(w:World)(hv:RP w v l)(hl:l.length≤1000000):
 Calls Tryz.prog 246 #[v,.agg #[.int .i64 a.1,.int .i64 a.2],.bool en] w (qhV (qfs l a en).1 (qfs l a en).2 w):=by
 obtain⟨W0,HW0⟩:=nm_ (w.alloc (.cells #[.int .i64 a.1,.int .i64 a.2] 109));have HB0:Hid (bB w W0):=hI_ q_;have hp:W0.heap[w.heap.size]? =some (.cells #[.int .i64 a.1,.int .i64 a.2] 109 (0,0)):=by rw[←HW0.out];exact heap_alloc_new w _
 have lp:=(Array.getElem?_eq_some_iff.1 hp).1;have HP:=hI_ hp;have HV0:Hid (RP W0 v l):=hI_ (hv.below HB0.out);obtain⟨A,c,rfl⟩:=hv.sl;have HL:=hI_ hl;clear hv hp hl;obtain⟨b1,H1⟩:=nm_ (qaG l);obtain⟨b2,H2⟩:=nm_ (qcB a);have HBAD:Hid (∀ W,(b1&&b2)=false→bB w W→qhV (qfs l a en).1 (qfs l a en).2 w (.returned (.tuple #[.slice none 0 0,.bool false])) W):=hI_ (by
  intro W hb hB;rw[qm2 aQ_];exact⟨_,rfl,⟨fun _=>.slice none 0 0,ON.nil,fun j hj=>an_⟩,hB⟩)
 obtain⟨p0,p1,pf⟩:=qaH HP.out;cases b1
 · go_enter Tryz.func246,Tryz.ntmps246
   go_wp2_with fail
   rw[HW0.out];go_wp2_with (go_at_call 66;refine(qgu H1 _ _ HV0.out).mono ?_;rintro e w1 ⟨rfl,hb1⟩;have HB1:=hI_ (HB0.out.trans (hb1.mono HB0.out.size));clear hb1)
   go_ret2
   exact HBAD.out _ rfl HB1.out
 cases b2
 · go_enter Tryz.func246,Tryz.ntmps246
   go_wp2_with fail
   rw[HW0.out];go_wp2_with (first
    |(go_at_call 66;refine(qgu H1 _ _ HV0.out).mono ?_;rintro e w1 ⟨rfl,hb1⟩;obtain⟨p0,p1,pf⟩:=qaH ((hb1.block _ lp).trans HP.out);have HB1:=hI_ (HB0.out.trans (hb1.mono HB0.out.size));clear hb1)
    |(go_at_call 146;refine(qdl H2 _).mono ?_;rintro e w2 ⟨rfl,hb2⟩;have HB2:=hI_ (HB1.out.trans (hb2.mono HB1.out.size));clear hb2))
   go_ret2
   exact HBAD.out _ rfl HB2.out
 clear HBAD;obtain⟨b3,H3⟩:=nm_ (qc8 l a);obtain⟨n4,H4⟩:=nm_ (qcX l a.1);obtain⟨n5,H5⟩:=nm_ (qdL l a.2);have HR:Hid (qfs l a en=if b3||decide (3≤n4)||decide ((if en then 2 else 1)≤n5) then (l,false) else (l++[a],true)):=hI_ (by rw[qnT aJ_,H3.out,H4.out,H5.out]);have HNO:Hid (∀ v' W,(b3||decide (3≤n4)||decide ((if en then 2 else 1)≤n5))=true→qav w.heap.size 109 W v' l→bB w W→qhV (qfs l a en).1 (qfs l a en).2 w (.returned (.tuple #[v',.bool false])) W):=hI_ (by
  intro v' W h1 h2 h3;rw[HR.out,h1];exact⟨_,rfl,h2,h3⟩)
 have HYES:Hid (∀ v' W,(b3||decide (3≤n4)||decide ((if en then 2 else 1)≤n5))=false→qav w.heap.size 109 W v' (l++[a])→bB w W→qhV (qfs l a en).1 (qfs l a en).2 w (.returned (.tuple #[v',.bool true])) W):=hI_ (by
  intro v' W h1 h2 h3;rw[HR.out,h1];exact⟨_,rfl,h2,h3⟩)
 clear HR;have hcase:(b3=true∧Hid ((b3||decide (3≤n4)||decide ((if en then 2 else 1)≤n5))=true))∨(b3=false∧(3:Int)≤(n4:Int)∧Hid ((b3||decide (3≤n4)||decide ((if en then 2 else 1)≤n5))=true))∨
  (b3=false∧¬ (3:Int)≤(n4:Int)∧(if en then (2:Int) else 1)≤(n5:Int)∧Hid ((b3||decide (3≤n4)||decide ((if en then 2 else 1)≤n5))=true))∨
  (b3=false∧¬ (3:Int)≤(n4:Int)∧¬ (if en then (2:Int) else 1)≤(n5:Int)∧Hid ((b3||decide (3≤n4)||decide ((if en then 2 else 1)≤n5))=false)):=by
  cases b3
  · by_cases h4:3≤n4
    · exact .inr (.inl ⟨rfl,a_,hI_ (by simp[h4])⟩)
    · by_cases h5:(if en then 2 else 1)≤n5
      · refine .inr (.inr (.inl ⟨rfl,a_,?_,hI_ (by simp[h5])⟩));cases en <;> simp at h5 ⊢ <;> omega
      · refine .inr (.inr (.inr ⟨rfl,a_,?_,hI_ (by simp only[h4,h5];rfl)⟩));cases en <;> simp at h5 ⊢ <;> omega
  · exact .inl ⟨rfl,hI_ rfl⟩
 have hl:=HL.out;cases en <;> simp only[Bool.false_eq_true,if_false,if_true] at hcase
 all_goals
  rcases hcase with⟨rfl,HC⟩|⟨rfl,h4,HC⟩|⟨rfl,h4,h5,HC⟩|⟨rfl,h4,h5,HC⟩
  all_goals
   go_enter Tryz.func246,Tryz.ntmps246
   go_wp2_with fail
   rw[HW0.out];go_wp2_with (first
    |(go_at_call 66;refine(qgu H1 _ _ HV0.out).mono ?_;rintro e w1 ⟨rfl,hb1⟩;obtain⟨p0,p1,pf⟩:=qaH ((hb1.block _ lp).trans HP.out);have HB1:=hI_ hb1;clear hb1)
    |(go_at_call 146;refine(qdl H2 _).mono ?_;rintro e w2 ⟨rfl,hb2⟩;have HB2:Hid (bB W0 w2):=hI_ (HB1.out.trans (hb2.mono HB1.out.size));obtain⟨p0,p1,pf⟩:=qaH ((HB2.out.block _ lp).trans HP.out);clear hb2)
    |(go_at_call 147;refine(qdn H3 _ _ (HV0.out.below HB2.out)).mono ?_;rintro e w3 ⟨rfl,hb3⟩
      have HB3:Hid (bB W0 w3):=hI_ (HB2.out.trans (hb3.mono HB2.out.size));obtain⟨p0,p1,pf⟩:=qaH ((HB3.out.block _ lp).trans HP.out);clear hb3)
    |(go_at_call 68;refine(qeS H4 _ _ (HV0.out.below HB3.out)).mono ?_;rintro e w4 ⟨rfl,hb4⟩
      have HB4:Hid (bB W0 w4):=hI_ (HB3.out.trans (hb4.mono HB3.out.size));obtain⟨p0,p1,pf⟩:=qaH ((HB4.out.block _ lp).trans HP.out);clear hb4)
    |(go_at_call 148;refine(qdo H5 _ _ (HV0.out.below HB4.out)).mono ?_;rintro e w5 ⟨rfl,hb5⟩
      have HB5:Hid (bB W0 w5):=hI_ (HB4.out.trans (hb5.mono HB4.out.size));obtain⟨p0,p1,pf⟩:=qaH ((HB5.out.block _ lp).trans HP.out);clear hb5))
   try(
    go_wp2_with (go_at_call 103;first
     |(refine(qll l _ _ (HV0.out.below HB5.out) a_).mono ?_;rintro e w6 ⟨A6,c6,rfl,ho6,hb6⟩;have HO6:=hI_ (ho6.mono (Nat.le_trans HB0.out.size HB5.out.size));have HB6:=hI_ (HB5.out.trans (hb6.mono HB5.out.size)))
     |(refine(qll l _ _ (HV0.out.below HB4.out) a_).mono ?_;rintro e w6 ⟨A6,c6,rfl,ho6,hb6⟩;have HO6:=hI_ (ho6.mono (Nat.le_trans HB0.out.size HB4.out.size));have HB6:=hI_ (HB4.out.trans (hb6.mono HB4.out.size)))
     |(refine(qll l _ _ (HV0.out.below HB3.out) a_).mono ?_;rintro e w6 ⟨A6,c6,rfl,ho6,hb6⟩;have HO6:=hI_ (ho6.mono (Nat.le_trans HB0.out.size HB3.out.size));have HB6:=hI_ (HB3.out.trans (hb6.mono HB3.out.size))))
    go_ret2
    exact HNO.out _ _ HC.out HO6.out (HB0.out.trans (HB6.out.mono HB0.out.size)))
 all_goals
  go_region_law
   (first
     |((refine qa9 p_ (qml (base:=w.heap.size) (l:=l) (l2:=[a]) (by first|with_reducible exact HO6.out|with_reducible exact HO6.out.below (qab (bR_ _ _) _)) (by first|exact RP.one (heap_alloc_new _ _)|exact RP.one HX6.out) n_ (by first|exact Nat.le_trans HB0.out.size HB6.out.size|exact Nat.le_trans (Nat.le_trans HB0.out.size HB6.out.size) (Nat.le_of_lt (qaB _ _))) p_ p_ p_ ?_))
       intro A7 c7 w7 ho7 hg7;have hb07:bB w w7:=(HB0.out.trans (Below.mono (B:=W0.heap.size) (by with_reducible repeat(first|exact HB6.out|refine qab ?_ _|refine qac ?_)) HB0.out.size)).grown hg7 (by first|exact Nat.le_trans HB0.out.size HB6.out.size|exact Nat.le_trans (Nat.le_trans HB0.out.size HB6.out.size) (Nat.le_of_lt (qaB _ _))) (fun r hr=>(HO6.out.lt' r hr).1);have HB7:=hI_ hb07;have HO7:=hI_ ho7;clear hb07 ho7 hg7)
     |(go_simp;go_wp2_with (first
      |(go_at_call 103;refine(qll l _ _ (HV0.out.below ag_) a_).mono ?_;rintro e w6 ⟨A6,c6,rfl,ho6,hb6⟩
        have HB6:Hid (bB W0 w6):=hI_ (qb6 ag_ hb6);have HO6:Hid (qav w.heap.size 109 w6 (.slice A6 l.length c6) l):=hI_ (ho6.mono (Nat.le_trans HB0.out.size (Below.size (B:=W0.heap.size) ag_)));try(have HX6:=hI_ ((hb6.block _ (qaB _ _)).trans (heap_alloc_new _ _)))
        obtain⟨p0,p1,pf⟩:=qaH ((HB6.out.block _ lp).trans HP.out);clear ho6 hb6))))
  all_goals
   go_wp2
   go_ret2
   exact HYES.out _ _ HC.out HO7.out HB7.out
def qt9(p:Int×Int→Bool)(l:List (Int×Int)):Int:=match l.findIdx? p with|some i=>i|none=> -1
theorem qtd{p:Int×Int→Bool}{l:List (Int×Int)}{k:Nat}(hk:k<l.length)(hp:p l[k]=true)(hno:∀ j (hj:j<k),p (l[j]'(by omega))=false):qt9 p l=k:=by
 unfold qt9;have:l.findIdx? p=some k:=by
  rw[List.findIdx?_eq_some_iff_getElem];exact⟨hk,hp,fun j hj=>by rw[hno j hj];simp⟩
 rw[this]
theorem qtQ{p:Int×Int→Bool}{l:List (Int×Int)}(hno:∀ j (hj:j<l.length),p l[j]=false):qt9 p l= -1:=by
 unfold qt9;have:l.findIdx? p=none:=by
  rw[List.findIdx?_eq_none_iff];intro x hx;obtain⟨j,hj,rfl⟩:=List.getElem_of_mem hx;exact hno j hj
 rw[this]
def qt1(g:Nat)(lb:Array Value)(p:Int×Int→Bool)(cb:Nat)(w:World):Prop:=
 ∀ (W:World) (x:Int×Int),W.heap[cb]? =w.heap[cb]? →Calls Tryz.prog g (#[.agg #[.int .i64 x.1,.int .i64 x.2]]++lb) W fun e w'=>e=.returned (.bool (p x))∧bB W w'
theorem qsv(g:Nat)(lb:Array Value)(p:Int×Int→Bool)(cb:Nat)(l:List (Int×Int))(v:Value)(w:World)(hv:RP w v l)(eg:∀ args w,(callFunc g args).run Tryz.prog w=.ok (.enter g args) w)(hp:qt1 g lb p cb w)(hcb:cb<w.heap.size):
 gV 272 #[v,.func (.func g) #[] lb] w (.int .i64 (qt9 p l)):=by
 have HV:=hI_ hv;have HPR:=hI_ hp;have hm:=hv.len;obtain⟨A,c,rfl⟩:=hv.sl;unfold maxLen at hm;clear hv hp;go_enter Tryz.func272,Tryz.ntmps272
 go_wp2
 go_loopw [8] (fun i wr=>∃ k:Nat,k≤l.length∧i=.int .i64 k∧(∀ j (hj:j<k) (hl:j<l.length),p l[j]=false)∧bB w wr) (fun i _=>l.length-(intOf i).toNat)
 case atStart=>exact⟨0,Nat.zero_le _,rfl,fun j hj=>a_,bR_ _ _⟩
 case round=>
  obtain⟨k,hk,rfl,hno,hb⟩:=hrel;have HNO:=hI_ hno;have HB:=hI_ hb;clear hno;by_cases hlt:k<l.length
  · obtain⟨b,o,rfl,hbs,e0,e1⟩:=(HV.out.below hb).at_ hlt;have hki:(k:Int)<(l.length:Int):=a_;have hk0:(0:Int)≤(k:Int):=a_;have hcall:=HPR.out wr l[k] (hb.block cb hcb);have HAT:Hid (p l[k]=true→qt9 p l=k):=hI_ fun h=>qtd hlt h (fun j hj=>HNO.out j hj a_);have HSN:Hid (p l[k]=false→∀ j (hj:j<k+1) (hl:j<l.length),p l[j]=false):=hI_ fun h j hj hl=>by
     rcases Nat.lt_or_ge j k with h1|h1
     · exact HNO.out j h1 hl
     · obtain rfl:j=k:=a_;exact h
    generalize l[k]=x at*
    obtain⟨r,HR⟩:=nm_ (p x);rw[HR.out] at hcall HAT HSN;have HCL:=hI_ hcall;clear hcall hb HR;cases r
    · go_wp2_with fail
      refine HCL.out.mono ?_;rintro e w1 ⟨rfl,hb1⟩;have HB1:=hI_ (HB.out.trans (hb1.mono HB.out.size));clear hb1;go_wp2
      go_roundw
      case rel=>exact⟨k+1,a_,t_,HSN.out (by first|trivial|rfl),HB1.out⟩
      case measure=>simp[intOf];omega
    · go_wp2_with fail
      refine HCL.out.mono ?_;rintro e w1 ⟨rfl,hb1⟩;have HB1:=hI_ (HB.out.trans (hb1.mono HB.out.size));clear hb1;go_wp2
      go_ret;exact⟨qfp (HAT.out (by first|trivial|rfl)).symm,HB1.out⟩
  · obtain rfl:k=l.length:=a_;have HE:Hid (qt9 p l= -1):=hI_ (qtQ fun j hj=>HNO.out j hj hj);clear hb;go_wp2
    go_ret;exact⟨qfp HE.out.symm,HB.out⟩
theorem qav.put{B g n cap k:Nat}{e:TypeId}{w:World}{l:List (Int×Int)}(h:qav B e w (.slice (some ⟨g,0,none⟩) n cap) l)(hk:k<l.length)(x:Int×Int):
 qav B e ((w.setCell ⟨g,k*2,none⟩ (.int .i64 x.1)).setCell ⟨g,k*2+1,none⟩ (.int .i64 x.2)) (.slice (some ⟨g,0,none⟩) n cap) (l.set k x)∧w.grownBy ((w.setCell ⟨g,k*2,none⟩ (.int .i64 x.1)).setCell ⟨g,k*2+1,none⟩ (.int .i64 x.2)) (some g):=by
 obtain⟨F,h1,h2⟩:=h;obtain⟨_,_,he⟩:=h1.rn.sl;obtain rfl:n=l.length:=J_;obtain⟨h3,h4⟩:=h1.put2 hk (.int .i64 x.1) (.int .i64 x.2);refine⟨⟨_,by rw[List.length_set];exact h3,fun j hj=> ?_⟩,h4⟩;rw[List.length_set] at hj;by_cases hjk:j=k
 · subst hjk;rw[if_neg a_,if_pos rfl,if_pos rfl,List.getElem_set_self];exact⟨rfl,rfl⟩
 · rw[if_neg a_,if_neg a_,if_neg a_,if_neg a_,List.getElem_set_ne (Ne.symm hjk)];exact h2 j hj
theorem qav.at_{B g n cap k:Nat}{e:TypeId}{w:World}{l:List (Int×Int)}(h:qav B e w (.slice (some ⟨g,0,none⟩) n cap) l)(hk:k<l.length):
 w.cell? ⟨g,k*2,none⟩=some (.int .i64 l[k].1)∧w.cell? ⟨g,k*2+1,none⟩=some (.int .i64 l[k].2)∧w.frozen? ⟨g,k*2,none⟩=false∧w.frozen? ⟨g,k*2+1,none⟩=false:=by
 obtain⟨F,h1,h2⟩:=h;obtain⟨_,_,he⟩:=h1.rn.sl;obtain rfl:n=l.length:=J_;have a0:=h1.at_ (t:=k*2) a_;have a1:=h1.at_ (t:=k*2+1) a_;rw[(h2 k hk).1] at a0;rw[(h2 k hk).2] at a1;exact⟨a0.1,a1.1,a0.2,a1.2⟩
theorem qav.len{B:Nat}{e:TypeId}{w:World}{v:Value}{l:List (Int×Int)}(h:qav B e w v l):l.length≤maxLen:=by obtain⟨F,h1,_⟩:=h;exact h1.rn.len
def qta(k:Nat):List Value:=(Builtin.zeroCells (Value.agg #[.int .i64 0,.int .i64 0]).cells k).toList
theorem qr3(k:Nat):(qta k).length=k*2:=by unfold qta;simp[Builtin.zeroCells,Value.cells]
theorem qti(k:Nat):∀ v ∈ qta k,v.oneCell'=true:=by
 unfold qta;intro v hv;simp[Builtin.zeroCells,Value.cells] at hv;obtain⟨i,_,rfl⟩:=hv;have h2:i%2<2:=Nat.mod_lt _ e_;generalize i%2=j at h2
 obtain rfl|rfl:j=0∨j=1:=a_;all_goals rfl
theorem quh(w:World):(zeroValue 109).run Tryz.prog w=.ok (.agg #[.int .i64 0,.int .i64 0]) w:=by kernel_rfl
theorem qav.cut{B g n cap k:Nat}{e:TypeId}{w:World}{l:List (Int×Int)}(h:qav B e w (.slice (some ⟨g,0,none⟩) n cap) l)(hk:k≤l.length):
 qav B e (w.setCells g (k*2) (qta (n-k))) (.slice (some ⟨g,0,none⟩) k cap) (l.take k)∧w.grownBy (w.setCells g (k*2) (qta (n-k))) (some g):=by
 obtain⟨F,h1,h2⟩:=h;obtain⟨_,_,he⟩:=h1.rn.sl;obtain rfl:n=l.length:=J_;obtain⟨h3,h4⟩:=h1.setCells (qta (l.length-k)) (k*2) _ _ (by rw[qr3];omega);have h5:=h3.take_ hk;refine⟨⟨_,by rw[List.length_take,Nat.min_eq_left hk];exact h5,fun j hj=> ?_⟩,h4⟩;rw[List.length_take,Nat.min_eq_left hk] at hj;unfold putF;rw[if_neg a_,if_neg a_,List.getElem_take];exact h2 j a_
theorem qav.cells2{B g n cap:Nat}{e:TypeId}{w:World}{l:List (Int×Int)}(h:qav B e w (.slice (some ⟨g,0,none⟩) n cap) l):(∀ t,t<n*2→(w.cell? ⟨g,t,none⟩).isSome=true)∧∀ t,w.frozen? ⟨g,t,none⟩=false:=by
 obtain⟨F,h1,h2⟩:=h;obtain⟨_,_,he⟩:=h1.rn.sl;obtain rfl:n=l.length:=J_;obtain⟨cur,hr⟩:=h1.row0 g rfl;exact⟨fun t ht=>by rw[(h1.at_ ht).1];rfl,fun t=>qgI hr t⟩
theorem qtJ{p:Int×Int→Bool}{l:List (Int×Int)}{i:Nat}(hi:i<l.length)(hp:p l[i]=true)(hmin:∀ j (hj:j<i),p (l[j]'(by omega))=false):l.take i=(l.take (i+1)).filter (fun x=> !p x):=by
 rw[qaZ hi,List.filter_append];have h1:(l.take i).filter (fun x=> !p x)=l.take i:=List.filter_eq_self.2 fun x hx=>by
  obtain⟨j,hj,rfl⟩:=List.getElem_of_mem hx;rw[List.length_take] at hj;rw[List.getElem_take,hmin j a_];rfl
 rw[h1];simp[hp]
theorem qt5{p:Int×Int→Bool}{l:List (Int×Int)}{j:Nat}(hj:j<l.length)(hp:p l[j]=true):(l.take (j+1)).filter (fun x=> !p x)=(l.take j).filter (fun x=> !p x):=by
 rw[qaZ hj,List.filter_append];simp[hp]
theorem qt4{p:Int×Int→Bool}{l:List (Int×Int)}{j:Nat}(hj:j<l.length)(hp:p l[j]=false):(l.take (j+1)).filter (fun x=> !p x)=(l.take j).filter (fun x=> !p x)++[l[j]]:=by
 rw[qaZ hj,List.filter_append];simp[hp]
theorem qt7{l m:List (Int×Int)}{j:Nat}(h:l.drop j=m.drop j)(hl:j<l.length)(hm:j<m.length):l[j]=m[j]:=by
 have:=congrArg (fun z=>z[0]?) h;simp only[List.getElem?_drop,Nat.add_zero] at this;rw[List.getElem?_eq_getElem hl,List.getElem?_eq_getElem hm] at this;exact Option.some.inj this
theorem quc{l:List (Int×Int)}{i:Nat}(hi:i<l.length)(x:Int×Int):(l.set i x).take (i+1)=l.take i++[x]:=by
 rw[qaZ (by rw[List.length_set];exact hi),List.getElem_set_self,List.take_set_of_le (nr_ i)]
structure quJ (p:Int×Int→Bool) (l:List (Int×Int)) (B cb g c:Nat) (w:World) (i j:Nat) (cur:List (Int×Int)) (wr:World):Prop where
 ij:i<j
 jl:j≤l.length
 n:cur.length=l.length
 t:cur.take i=(l.take j).filter (fun x=> !p x)
 d:cur.drop j=l.drop j
 o:qav B 109 wr (.slice (some ⟨g,0,none⟩) l.length c) cur
 b:Below B w wr
 h:wr.heap[cb]? =w.heap[cb]?
theorem qrZ(g:Nat)(lb:Array Value)(p:Int×Int→Bool)(cb B:Nat)(l:List (Int×Int))(v:Value)(w:World)(hv:qav B 109 w v l)(eg:∀ args w,(callFunc g args).run Tryz.prog w=.ok (.enter g args) w)(hp:qt1 g lb p cb w)(hcb:cb<B)(hB:B≤w.heap.size):
 Calls Tryz.prog 251 #[v,.func (.func g) #[] lb] w fun e w'=>∃ v',e=.returned v'∧qav B 109 w' v' (l.filter fun x=> !p x)∧Below B w w':=by
 have HV:=hI_ hv;have HPR:=hI_ hp;have hm:=hv.len;have hidx:=qsv g lb p cb l v w hv.r eg hp (nL_ hcb hB);have HI:=hI_ hidx;obtain⟨A,c,rfl⟩:=hv.r.sl;unfold maxLen at hm;have hcap:l.length≤c∧c≤9223372036854775807:=by
  obtain⟨_,_,h0,h1,h2,_⟩:=hv.r;cases h0
  unfold maxLen at h2;exact⟨h1.1,h2⟩
 obtain⟨hc1,hc2⟩:=hcap;clear hv hp hidx;go_enter Tryz.func251,Tryz.ntmps251
 go_wp2_with fail
 refine HI.out.mono ?_;rintro e w1 ⟨rfl,hb1⟩;have HB1:=hI_ hb1;clear hb1 HI;cases hfi:l.findIdx? p with
 |none=>
  rw[List.findIdx?_eq_none_iff] at hfi;have HE:Hid (qt9 p l= -1):=hI_ (qtQ fun j hj=>hfi _ (List.getElem_mem hj));have HF:Hid (l.filter (fun x=> !p x)=l):=hI_ (List.filter_eq_self.2 fun x hx=>by rw[hfi x hx];rfl);rw[HE.out];clear hfi;go_wp2
  go_ret;exact⟨_,rfl,by rw[HF.out];exact HV.out.below HB1.out,HB1.out.mono hB⟩
 |some i0=>
  rw[List.findIdx?_eq_some_iff_getElem] at hfi;obtain⟨hi0,hp0,hmin⟩:=hfi;have hmin':∀ j (hj:j<i0),p (l[j]'(by omega))=false:=fun j hj=>by rw[Bool.eq_false_iff];exact hmin j hj
  have HE:Hid (qt9 p l=i0):=hI_ (qtd hi0 hp0 hmin');have HT:=hI_ (qtJ hi0 hp0 hmin');rw[HE.out];obtain⟨F,hN,-⟩:=HV.out;obtain⟨gr,cap,hA,hgB,hgs⟩:=hN.form a_;cases hA;have hi1:(i0:Int)<(l.length:Int):=a_;have hi2:(0:Int)≤(i0:Int):=a_;have hne:((i0:Int)== -1)=false:=by rw[beq_eq_false_iff_ne];omega
  clear hp0 hmin hmin' hN HE;go_wp2
  go_loopw [5,6] (fun si sj wr=>∃ (i j:Nat) (cur:List (Int×Int)),si=.int .i64 i∧sj=.int .i64 j∧quJ p l B cb gr c w i j cur wr) (fun _ sj _=>l.length-(intOf sj).toNat)
  case atStart=>exact⟨i0,i0+1,l,rfl,t_,⟨a_,a_,rfl,HT.out,rfl,HV.out.below HB1.out,HB1.out.mono hB,HB1.out.block cb (nL_ hcb hB)⟩⟩
  case round=>
    obtain⟨i,j,cur,rfl,rfl,hd⟩:=hrel;have hij:=hd.ij;have hjl:=hd.jl;have HD:=hI_ hd;clear hd;by_cases hlt:j<l.length
    · have hji:(j:Int)<(l.length:Int):=a_;have hj0:(0:Int)≤(j:Int):=a_;have hii:(i:Int)<(l.length:Int):=a_;have hi0':(0:Int)≤(i:Int):=a_;have hjc:j<cur.length:=by rw[HD.out.n];exact hlt
      have hic:i<cur.length:=by rw[HD.out.n];omega
      obtain⟨e0,e1,-,-⟩:=HD.out.o.at_ hjc;have HX:Hid (cur[j]=l[j]):=hI_ (qt7 HD.out.d hjc hlt);rw[HX.out] at e0 e1;obtain⟨x,HXX⟩:=nm_ (l[j]);rw[HXX.out] at e0 e1;obtain⟨W1,HW1⟩:=nm_ (wr.alloc (.cells #[.int .i64 x.1,.int .i64 x.2] 109));have hba:bB wr W1:=by rw[←HW1.out];exact qab (bR_ _ _) _
      have hq:W1.heap[wr.heap.size]? =some (.cells #[.int .i64 x.1,.int .i64 x.2] 109 (0,0)):=by rw[←HW1.out];exact heap_alloc_new wr _
      have hbr:B≤wr.heap.size:=Nat.le_trans hB HD.out.b.size;have HCL:=hI_ (HPR.out W1 x ((hba.block cb (nL_ hcb hbr)).trans HD.out.h));obtain⟨r,HR⟩:=nm_ (p x);rw[HR.out] at HCL;have HQ:=hI_ hq;have HBA:=hI_ hba;have HBR:=hI_ hbr;obtain⟨q0,q1,qf⟩:=qaH hq;clear hba hbr hq;go_wp2_with fail
      rw[HW1.out];go_wp2_with fail
      refine HCL.out.mono ?_;rintro e w2 ⟨rfl,hb2⟩;have hb02:=qa3 HBA.out hb2;have HO2:=hI_ (HD.out.o.below hb02);have HB2:Hid (Below B w w2):=hI_ (HD.out.b.trans (hb02.mono HBR.out));have HH2:Hid (w2.heap[cb]? =w.heap[cb]?):=hI_ ((hb02.block cb (nL_ hcb HBR.out)).trans HD.out.h);have hq2:=(hb2.block _ (qai HQ.out)).trans HQ.out;clear q0 q1 qf e0 e1 hb2 hb02;cases r
      · obtain⟨q0,q1,qf⟩:=qaH hq2;obtain⟨s0,s1,sf0,sf1⟩:=HO2.out.at_ hic;have hput:=HO2.out.put hic x;obtain⟨W3,HW3⟩:=nm_ ((w2.setCell ⟨gr,i*2,none⟩ (.int .i64 x.1)).setCell ⟨gr,i*2+1,none⟩ (.int .i64 x.2));rw[HW3.out] at hput;have HP:=hI_ hput;clear hput hq2;go_wp2_with fail
        rw[HW3.out];go_roundw
        case rel=>
         refine⟨i+1,j+1,cur.set i x,t_,t_,⟨a_,a_,by rw[List.length_set];exact HD.out.n,?_,?_,HP.out.1,?_,?_⟩⟩
         · rw[quc hic,HD.out.t,qt4 hlt (by rw[HXX.out];exact HR.out),HXX.out]
         · rw[List.drop_set_of_lt a_,←List.drop_drop,HD.out.d,List.drop_drop]
         · exact HB2.out.grown HP.out.2 (Nat.le_trans hB HB2.out.size) (fun k hk=>by cases hk;exact hgB)
         · exact(HP.out.2.block cb (nL_ hcb (Nat.le_trans hB HB2.out.size)) (fun e=>by cases e;omega)).trans HH2.out
        case measure=>simp[intOf];omega
      · clear hq2;go_wp2
        go_roundw
        case rel=>exact⟨i,j+1,cur,rfl,t_,⟨a_,a_,HD.out.n,by rw[HD.out.t,qt5 hlt (by rw[HXX.out];exact HR.out)],by rw[←List.drop_drop,HD.out.d,List.drop_drop],HO2.out,HB2.out,HH2.out⟩⟩
        case measure=>simp[intOf];omega
    · obtain rfl:j=l.length:=a_;have hic:i≤cur.length:=by rw[HD.out.n];omega
      have hic2:i≤c:=a_;obtain⟨hcs,hfz⟩:=HD.out.o.cells2;obtain⟨h1,h2⟩:=HD.out.o.cut hic;have hrun:=qr4 (P:=Tryz.prog) wr 54 109 0 (.agg #[.int .i64 0,.int .i64 0]) Tryz.underlying54 quh gr (i*2) (l.length-i) (c-i) a_ (qta (l.length-i)) rfl (qti _) (fun t ht=>hcs _ (by rw[qr3] at ht;omega)) (fun t ht=>hfz _);have HC:=hI_ h1;have HG:=hI_ h2;clear h1 h2 hcs hfz;go_wp2
      go_ret;have hf:=HD.out.t;rw[List.take_length] at hf;refine⟨_,rfl,?_,?_⟩
      · rw[←hf];exact HC.out
      · exact HD.out.b.grown HG.out (Nat.le_trans hB HD.out.b.size) (fun k hk=>by cases hk;exact hgB)
theorem quo(cb:Nat)(a:Int×Int)(w:World)(h:w.heap[cb]? =some (.cells #[.int .i64 a.1,.int .i64 a.2] 109 (0,0))):qt1 253 #[.pointer (some ⟨cb,0,none⟩)] (fun x=>x.2==a.2) cb w:=by
 intro W x hW;have hh:=hW.trans h;obtain⟨q0,q1,qf⟩:=qaH hh;have hl:=qai hh;have HB:=hI_ (qab (bR_ W.heap.size W) (.cells #[.int .i64 x.1,.int .i64 x.2] 109));clear hh h hW;show Calls Tryz.prog 253 #[.agg #[.int .i64 x.1,.int .i64 x.2],.pointer (some ⟨cb,0,none⟩)] W _;go_enter Tryz.func253,Tryz.ntmps253
 go_wp2
 go_ret;exact⟨rfl,HB.out⟩
theorem qt6(cb:Nat)(p:Int)(w:World)(h:w.heap[cb]? =some (.cells #[.int .i64 p] 3 (0,0))):qt1 252 #[.pointer (some ⟨cb,0,none⟩)] (fun x=>x.1==p) cb w:=by
 intro W x hW;have hh:=hW.trans h;have q0:W.cell? ⟨cb,0,none⟩=some (.int .i64 p):=cell_of_row _ _ 0 _ _ _ hh;have hl:=qai hh;have HB:=hI_ (qab (bR_ W.heap.size W) (.cells #[.int .i64 x.1,.int .i64 x.2] 109));clear hh h hW;show Calls Tryz.prog 252 #[.agg #[.int .i64 x.1,.int .i64 x.2],.pointer (some ⟨cb,0,none⟩)] W _;go_enter Tryz.func252,Tryz.ntmps252
 go_wp2
 go_ret;exact⟨rfl,HB.out⟩
end Go.Proofs.YtekaaekpdebloaaGreatDoor
namespace Go.Proofs.YtekaaekpdebloaaGreatDoor
open Go.RowKit Go.Shelf
attribute [local go_sem ↓] Go.wp_at_zero Go.wp_at_succ

theorem qav.nil_{B:Nat}{e:TypeId}{w:World}:qav B e w (.slice none 0 0) []:=⟨fun _=>.slice none 0 0,ON.nil,fun j hj=>an_⟩
theorem qsT(l:List (Int×Int))(a:Int×Int)(v:Value)(w:World)(hv:RP w v l)(hl:l.length≤1000000):
 Calls Tryz.prog 193 #[v,.agg #[.int .i64 a.1,.int .i64 a.2]] w (qgC (qhJ l a) w):=by
 obtain⟨W0,HW0⟩:=nm_ (w.alloc (.cells #[.int .i64 a.1,.int .i64 a.2] 109));have HB0:Hid (bB w W0):=hI_ q_;have hp:W0.heap[w.heap.size]? =some (.cells #[.int .i64 a.1,.int .i64 a.2] 109 (0,0)):=by rw[←HW0.out];exact heap_alloc_new w _
 have lp:=(Array.getElem?_eq_some_iff.1 hp).1;have HP:=hI_ hp;have HV0:Hid (RP W0 v l):=hI_ (hv.below HB0.out);obtain⟨A,c,rfl⟩:=hv.sl;have HL:=hI_ hl;clear hv hp hl;have hmf:∀ (fn:Fn) (first cap:Array Value) (w:World),(Instr.makeFunc fn first cap).run Tryz.prog w=.ok (.func fn first cap) w:=fun _ _ _ _=>rfl;obtain⟨b1,H1⟩:=nm_ (qaG l);obtain⟨b2,H2⟩:=nm_ (qcB a);have HBAD:Hid (∀ W,(b1&&b2)=false→bB w W→qgC (qhJ l a) w (.returned (.tuple #[.slice none 0 0,.int .i64 (-1)])) W):=hI_ (by
  intro W hb hB;unfold qhJ;rw[H1.out,H2.out,hb];exact⟨_,_,rfl,qav.nil_,hB⟩)
 obtain⟨p0,p1,pf⟩:=qaH HP.out;cases b1
 · go_enter Tryz.func193,Tryz.ntmps193
   go_wp2_with fail
   rw[HW0.out];go_wp2_with (go_at_call 66;refine(qgu H1 _ _ HV0.out).mono ?_;rintro e w1 ⟨rfl,hb1⟩;have HB1:=hI_ (HB0.out.trans (hb1.mono HB0.out.size));clear hb1)
   go_ret2
   exact HBAD.out _ rfl HB1.out
 cases b2
 · go_enter Tryz.func193,Tryz.ntmps193
   go_wp2_with fail
   rw[HW0.out];go_wp2_with (first
    |(go_at_call 66;refine(qgu H1 _ _ HV0.out).mono ?_;rintro e w1 ⟨rfl,hb1⟩;obtain⟨p0,p1,pf⟩:=qaH ((hb1.block _ lp).trans HP.out);have HB1:=hI_ (HB0.out.trans (hb1.mono HB0.out.size));clear hb1)
    |(go_at_call 146;refine(qdl H2 _).mono ?_;rintro e w2 ⟨rfl,hb2⟩;have HB2:=hI_ (HB1.out.trans (hb2.mono HB1.out.size));clear hb2))
   go_ret2
   exact HBAD.out _ rfl HB2.out
 clear HBAD;obtain⟨b3,H3⟩:=nm_ (qc8 l a);have HR:Hid (qhJ l a=if b3 then l.filter (fun y=>y.2 !=a.2) else l):=hI_ (by unfold qhJ;rw[H1.out,H2.out,H3.out];rfl);have hl:=HL.out;cases b3
 · go_enter Tryz.func193,Tryz.ntmps193
   go_wp2_with fail
   rw[HW0.out];go_wp2_with (first
    |(go_at_call 66;refine(qgu H1 _ _ HV0.out).mono ?_;rintro e w1 ⟨rfl,hb1⟩;obtain⟨p0,p1,pf⟩:=qaH ((hb1.block _ lp).trans HP.out);have HB1:=hI_ hb1;clear hb1)
    |(go_at_call 146;refine(qdl H2 _).mono ?_;rintro e w2 ⟨rfl,hb2⟩;have HB2:Hid (bB W0 w2):=hI_ (HB1.out.trans (hb2.mono HB1.out.size));obtain⟨p0,p1,pf⟩:=qaH ((HB2.out.block _ lp).trans HP.out);clear hb2)
    |(go_at_call 147;refine(qdn H3 _ _ (HV0.out.below HB2.out)).mono ?_;rintro e w3 ⟨rfl,hb3⟩
      have HB3:Hid (bB W0 w3):=hI_ (HB2.out.trans (hb3.mono HB2.out.size));obtain⟨p0,p1,pf⟩:=qaH ((HB3.out.block _ lp).trans HP.out);clear hb3)
    |(go_at_call 103;refine(qll l _ _ (HV0.out.below HB3.out) a_).mono ?_;rintro e w6 ⟨A6,c6,rfl,ho6,hb6⟩
      have HO6:=hI_ (ho6.mono (Nat.le_trans HB0.out.size HB3.out.size));have HB6:Hid (bB W0 w6):=hI_ (HB3.out.trans (hb6.mono HB3.out.size));clear ho6 hb6))
   go_ret2
   exact⟨_,_,rfl,by rw[HR.out];exact HO6.out,HB0.out.trans (HB6.out.mono HB0.out.size)⟩
 · have eg:∀ args w,(callFunc 253 args).run Tryz.prog w=.ok (.enter 253 args) w:=enters_of Tryz.func253 d_ rfl;go_enter Tryz.func193,Tryz.ntmps193
   go_wp2_with fail
   rw[HW0.out];go_wp2_with (first
    |(go_at_call 66;refine(qgu H1 _ _ HV0.out).mono ?_;rintro e w1 ⟨rfl,hb1⟩;obtain⟨p0,p1,pf⟩:=qaH ((hb1.block _ lp).trans HP.out);have HB1:=hI_ hb1;clear hb1)
    |(go_at_call 146;refine(qdl H2 _).mono ?_;rintro e w2 ⟨rfl,hb2⟩;have HB2:Hid (bB W0 w2):=hI_ (HB1.out.trans (hb2.mono HB1.out.size));obtain⟨p0,p1,pf⟩:=qaH ((HB2.out.block _ lp).trans HP.out);clear hb2)
    |(go_at_call 147;refine(qdn H3 _ _ (HV0.out.below HB2.out)).mono ?_;rintro e w3 ⟨rfl,hb3⟩
      have HB3:Hid (bB W0 w3):=hI_ (HB2.out.trans (hb3.mono HB2.out.size));obtain⟨p0,p1,pf⟩:=qaH ((HB3.out.block _ lp).trans HP.out);clear hb3)
    |(go_at_call 103;refine(qll l _ _ (HV0.out.below HB3.out) a_).mono ?_;rintro e w6 ⟨A6,c6,rfl,ho6,hb6⟩
      have HO6:=hI_ (ho6.mono HB3.out.size);have HB6:Hid (bB W0 w6):=hI_ (HB3.out.trans (hb6.mono HB3.out.size));clear ho6 hb6)
    |(go_at_call 251
      refine(qrZ _ _ (fun x=>x.2==a.2) w.heap.size W0.heap.size l _ w6 HO6.out eg (quo _ a w6 ((HB6.out.block _ lp).trans HP.out)) lp HB6.out.size).mono ?_;rintro e w7 ⟨v7,rfl,ho7,hb7⟩;obtain⟨A7,c7,rfl⟩:=ho7.r.sl;have hlf:(l.filter fun x=> !(x.2==a.2)).length≤l.length:=List.length_filter_le _ _;have HO7:=hI_ (ho7.mono HB0.out.size);have HB7:Hid (bB W0 w7):=hI_ (HB6.out.trans hb7);clear ho7 hb7))
   go_ret2
   exact⟨_,_,rfl,by rw[HR.out];exact HO7.out,HB0.out.trans (HB7.out.mono HB0.out.size)⟩
theorem qsD(l:List (Int×Int))(p:Int)(v:Value)(w:World)(hv:RP w v l)(hl:l.length≤1000000):
 Calls Tryz.prog 192 #[v,.int .i64 p] w (qgC (qeg l p) w):=by
 obtain⟨W0,HW0⟩:=nm_ (w.alloc (.cells #[.int .i64 p] 3));have HB0:Hid (bB w W0):=hI_ q_;have hp:W0.heap[w.heap.size]? =some (.cells #[.int .i64 p] 3 (0,0)):=by rw[←HW0.out];exact heap_alloc_new w _
 have lp:=(Array.getElem?_eq_some_iff.1 hp).1;have HP:=hI_ hp;have HV0:Hid (RP W0 v l):=hI_ (hv.below HB0.out);obtain⟨A,c,rfl⟩:=hv.sl;have HL:=hI_ hl;clear hv hp hl;have hmf:∀ (fn:Fn) (first cap:Array Value) (w:World),(Instr.makeFunc fn first cap).run Tryz.prog w=.ok (.func fn first cap) w:=fun _ _ _ _=>rfl;obtain⟨b1,H1⟩:=nm_ (qaG l);obtain⟨b2,H2⟩:=nm_ (inB p 0 5);have HPE:Hid (∀ W:World,Calls Tryz.prog 67 #[.int .i64 p] W fun e w'=>e=.returned (.bool b2)∧W=w'):=hI_ fun W=>by
  have:=qgK p W;rwa[H2.out] at this
 have HBAD:Hid (∀ W,(b1&&b2)=false→bB w W→qgC (qeg l p) w (.returned (.tuple #[.slice none 0 0,.int .i64 (-1)])) W):=hI_ (by
  intro W hb hB;unfold qeg;rw[H1.out,H2.out,hb];exact⟨_,_,rfl,qav.nil_,hB⟩)
 have p0:W0.cell? ⟨w.heap.size,0,none⟩=some (.int .i64 p):=cell_of_row _ _ 0 _ _ _ HP.out;cases b1
 · go_enter Tryz.func192,Tryz.ntmps192
   go_wp2_with fail
   rw[HW0.out];go_wp2_with (go_at_call 66;refine(qgu H1 _ _ HV0.out).mono ?_;rintro e w1 ⟨rfl,hb1⟩;have HB1:=hI_ (HB0.out.trans (hb1.mono HB0.out.size));clear hb1)
   go_ret2
   exact HBAD.out _ rfl HB1.out
 cases b2
 · go_enter Tryz.func192,Tryz.ntmps192
   go_wp2_with fail
   rw[HW0.out];go_wp2_with (first
    |(go_at_call 66;refine(qgu H1 _ _ HV0.out).mono ?_;rintro e w1 ⟨rfl,hb1⟩;have p0:w1.cell? ⟨w.heap.size,0,none⟩=some (.int .i64 p):=cell_of_row _ _ 0 _ _ _ ((hb1.block _ lp).trans HP.out);have HB1:=hI_ (HB0.out.trans (hb1.mono HB0.out.size));clear hb1)
    |(go_at_call 67;refine(HPE.out _).mono ?_;rintro e w2 ⟨rfl,rfl⟩))
   go_ret2
   exact HBAD.out _ rfl HB1.out
 clear HBAD;have HR:Hid (qeg l p=l.filter (fun y=>y.1 !=p)):=hI_ (by unfold qeg;rw[H1.out,H2.out];rfl);have hl:=HL.out;have eg:∀ args w,(callFunc 252 args).run Tryz.prog w=.ok (.enter 252 args) w:=enters_of Tryz.func252 d_ rfl;go_enter Tryz.func192,Tryz.ntmps192
 go_wp2_with fail
 rw[HW0.out];go_wp2_with (first
  |(go_at_call 66;refine(qgu H1 _ _ HV0.out).mono ?_;rintro e w1 ⟨rfl,hb1⟩;have p0:w1.cell? ⟨w.heap.size,0,none⟩=some (.int .i64 p):=cell_of_row _ _ 0 _ _ _ ((hb1.block _ lp).trans HP.out);have HB1:=hI_ hb1;clear hb1)
  |(go_at_call 67;refine(HPE.out _).mono ?_;rintro e w2 ⟨rfl,rfl⟩)
  |(go_at_call 103;refine(qll l _ _ (HV0.out.below HB1.out) a_).mono ?_;rintro e w6 ⟨A6,c6,rfl,ho6,hb6⟩
    have HO6:=hI_ (ho6.mono HB1.out.size);have HB6:Hid (bB W0 w6):=hI_ (HB1.out.trans (hb6.mono HB1.out.size));clear ho6 hb6)
  |(go_at_call 251
    refine(qrZ _ _ (fun x=>x.1==p) w.heap.size W0.heap.size l _ w6 HO6.out eg (qt6 _ p w6 ((HB6.out.block _ lp).trans HP.out)) lp HB6.out.size).mono ?_;rintro e w7 ⟨v7,rfl,ho7,hb7⟩;obtain⟨A7,c7,rfl⟩:=ho7.r.sl;have hlf:(l.filter fun x=> !(x.1==p)).length≤l.length:=List.length_filter_le _ _;have HO7:=hI_ (ho7.mono HB0.out.size);have HB7:Hid (bB W0 w7):=hI_ (HB6.out.trans hb7);clear ho7 hb7))
 go_ret2
 exact⟨_,_,rfl,by rw[HR.out];exact HO7.out,HB0.out.trans (HB7.out.mono HB0.out.size)⟩
theorem qsa{a b k:Int×Int}(h:a=b∨ltL a b=true):qmz a k<0∨0≤qmz b k:=by
 rcases h with rfl|h
 · omega
 · unfold ltL at h;rw[decide_eq_true_eq] at h;unfold qmz;split <;> split <;> omega
def qul(ls:List (Int×Int)):Prop:=∀ i j (hi:i<ls.length) (hj:j<ls.length),i<j→ltL ls[i] ls[j]=true
structure BsI (ls:List (Int×Int)) (k:Int×Int) (i j:Nat):Prop where
 ij:i≤j
 jl:j≤ls.length
 lo:∀ t (ht:t<ls.length),t<i→qmz ls[t] k<0
 hi:∀ t (ht:t<ls.length),j≤t→0≤qmz ls[t] k
theorem BsI.up{ls:List (Int×Int)}{k:Int×Int}{i j h:Nat}(hs:qul ls)(b:BsI ls k i j)(h1:i≤h)(h2:h<j)(hl:h<ls.length)(hc:qmz ls[h] k<0):BsI ls k (h+1) j:=
 ⟨a_,b.jl,fun t ht hth=>by
  rcases Nat.lt_or_ge t h with h3|h3
  · have:=qsa (k:=k) (.inr (hs t h ht hl h3));omega
  · obtain rfl:t=h:=a_;exact hc,b.hi⟩
theorem BsI.down{ls:List (Int×Int)}{k:Int×Int}{i j h:Nat}(hs:qul ls)(b:BsI ls k i j)(h1:i≤h)(h2:h<j)(hl:h<ls.length)(hc:0≤qmz ls[h] k):BsI ls k i h:=
 ⟨h1,a_,b.lo,fun t ht hth=>by
  rcases Nat.lt_or_ge h t with h3|h3
  · have:=qsa (k:=k) (.inr (hs h t hl ht h3));omega
  · obtain rfl:t=h:=a_;exact hc⟩
def Bnd(n:Nat)(a:Int×Int):Prop:=0≤a.1∧a.1<n∧0≤a.2∧a.2<n
def quv(ls:List (Int×Int))(k:Int×Int)(w:World)(e:Ending)(w':World):Prop:=
 ∃ (i:Nat) (f:Bool),e=.returned (.tuple #[.int .i64 i,.bool f])∧BsI ls k i i∧(f=true↔∃ hi:i<ls.length,qmz ls[i] k=0)∧bB w w'
theorem qsU(ls:List (Int×Int))(k:Int×Int)(n:Nat)(v:Value)(w:World)(hv:RP w v ls)(hl:ls.length≤1000000)(hn:n≤maxLen)(hs:qul ls)(hb:∀ t (ht:t<ls.length),Bnd n ls[t])(hk:Bnd n k):
 Calls Tryz.prog 184 #[v,.agg #[.int .i64 k.1,.int .i64 k.2],.func (.func 153) #[] #[]] w (quv ls k w):=by
 obtain⟨W0,HW0⟩:=nm_ (w.alloc (.cells #[.int .i64 k.1,.int .i64 k.2] 99));have HB0:Hid (bB w W0):=hI_ q_;have hp:W0.heap[w.heap.size]? =some (.cells #[.int .i64 k.1,.int .i64 k.2] 99 (0,0)):=by rw[←HW0.out];exact heap_alloc_new w _
 have lp:=qai hp;have HP:=hI_ hp;have HV0:Hid (RP W0 v ls):=hI_ (hv.below HB0.out);have HS:=hI_ hs;have HBD:=hI_ hb;have HK:=hI_ hk;obtain⟨A,c,rfl⟩:=hv.sl;have eg:∀ args w,(callFunc 153 args).run Tryz.prog w=.ok (.enter 153 args) w:=enters_of Tryz.func153 d_ rfl;clear hv hp hs hb hk;go_enter Tryz.func184,Tryz.ntmps184
 go_wp2
 rw[HW0.out];go_loopw [9,10] (fun si sj wr=>∃ (i j:Nat),si=.int .i64 i∧sj=.int .i64 j∧BsI ls k i j∧bB W0 wr) (fun si sj _=>(intOf sj).toNat-(intOf si).toNat)
 case atStart=>exact⟨0,ls.length,rfl,rfl,⟨Nat.zero_le _,nr_ _,fun t ht h=>a_,fun t ht h=>a_⟩,bR_ _ _⟩
 case round=>
  obtain⟨i,j,rfl,rfl,hbs,hbw⟩:=hrel;have hij:=hbs.ij;have hjl:=hbs.jl;have HBS:=hI_ hbs;have HBW:=hI_ hbw;clear hbs hbw;by_cases hlt:i<j
  · have hlt':(i:Int)<(j:Int):=a_;obtain⟨h,hh1,hh2,HH⟩:∃ h:Nat,i≤h∧h<j∧Hid (((i:Int)+(j:Int))/2=(h:Int)):=⟨(i+j)/2,a_,a_,hI_ a_⟩
    have hhl:h<ls.length:=a_;have hki:(h:Int)<(ls.length:Int):=a_;have hk0:(0:Int)≤(h:Int):=a_;obtain⟨b,o,rfl,hbs,e0,e1⟩:=(HV0.out.below HBW.out).at_ hhl;obtain⟨p0,p1,pf⟩:=qaH ((HBW.out.block _ lp).trans HP.out);have lpr:=nL_ lp HBW.out.size;have HBD1:=hI_ (HBD.out h hhl);have HUP:=hI_ (fun hc=>HBS.out.up HS.out hh1 hh2 hhl hc);have HDN:=hI_ (fun hc=>HBS.out.down HS.out hh1 hh2 hhl hc);generalize ls[h]=x at*
    obtain⟨r,HR⟩:=nm_ (qmz x k);rw[HR.out] at HUP HDN;go_wp2_with fail
    rw[HH.out];have hup:=qap wr;by_cases hr:r<0
    · refine qoH ?_;repeat(go_big_quiet_step ((go_at_fn 153;exact qal (qh8 HR n _ hn HBD1.out HK.out))))
      refine wq_ fun w1 hb1=>?_;clear hup;have HB1:=hI_ (HBW.out.trans (hb1.mono HBW.out.size));clear hb1;go_wp2
      go_roundw
      case rel=>exact⟨h+1,j,t_,rfl,HUP.out hr,HB1.out⟩
      case measure=>simp[intOf];omega
    · refine qoH ?_;repeat(go_big_quiet_step ((go_at_fn 153;exact qal (qh8 HR n _ hn HBD1.out HK.out))))
      refine wq_ fun w1 hb1=>?_;clear hup;have HB1:=hI_ (HBW.out.trans (hb1.mono HBW.out.size));clear hb1;go_wp2
      go_roundw
      case rel=>exact⟨i,h,rfl,rfl,HDN.out a_,HB1.out⟩
      case measure=>simp[intOf];omega
  · obtain rfl:i=j:=a_;have hup:=qap wr;have lpr:=nL_ lp HBW.out.size;obtain⟨p0,p1,pf⟩:=qaH ((HBW.out.block _ lp).trans HP.out);have HBF:=hI_ (HB0.out.trans (HBW.out.mono HB0.out.size));by_cases hil:i<ls.length
    · have hki:(i:Int)<(ls.length:Int):=a_;have hk0:(0:Int)≤(i:Int):=a_;obtain⟨b,o,rfl,hbs,e0,e1⟩:=(HV0.out.below HBW.out).at_ hil;have HBD1:=hI_ (HBD.out i hil);have HFI:Hid (∀ f:Bool,(f=true↔qmz ls[i] k=0)→(f=true↔∃ hi:i<ls.length,qmz ls[i] k=0)):=hI_ (fun f h=>h.trans ⟨fun h=>⟨hil,h⟩,fun⟨_,h⟩=>h⟩);generalize ls[i]=x at*
      obtain⟨r,HR⟩:=nm_ (qmz x k);rw[HR.out] at HFI;go_wp2_with fail
      refine qoH ?_;repeat(go_big_quiet_step ((go_at_fn 153;exact qal (qh8 HR n _ hn HBD1.out HK.out))))
      refine wq_ fun w1 hb1=>?_;clear hup;have HB1:=hI_ (HBF.out.trans (hb1.mono HBF.out.size));clear hb1;go_wp2
      go_ret2
      exact⟨i,r==0,rfl,HBS.out,HFI.out _ k_,HB1.out⟩
    · have hki:¬ (i:Int)<(ls.length:Int):=a_;go_wp2_with fail
      refine qoH ?_;repeat(go_big_quiet_step (fail))
      refine wq_ fun w1 hb1=>?_;clear hup;have HB1:=hI_ (HBF.out.trans (hb1.mono HBF.out.size));clear hb1;go_wp2
      go_ret2
      exact⟨i,false,rfl,HBS.out,⟨fun h=>aj_,fun⟨h,_⟩=>absurd h hil⟩,HB1.out⟩
end Go.Proofs.YtekaaekpdebloaaGreatDoor
namespace Go.Proofs.YtekaaekpdebloaaGreatDoor
open Go.RowKit
attribute [local go_sem ↓] Go.wp_at_zero Go.wp_at_succ

def qrI(l:List (Int×Int)):List Value:=l.flatMap fun x=>[.int .i64 x.1,.int .i64 x.2]
theorem qrJ(l:List (Int×Int)):(qrI l).length=l.length*2:=by
 induction l with
 |nil=>rfl
 |cons a l ih=>unfold qrI at *;simp only[List.flatMap_cons,List.length_append,ih,List.length_cons,List.length_nil];omega
theorem qrU:∀ (l:List (Int×Int)) (j:Nat) (hj:j<l.length),(qrI l)[j*2]? =some (.int .i64 l[j].1)∧(qrI l)[j*2+1]? =some (.int .i64 l[j].2)
 |a::l,0,_=>⟨rfl,rfl⟩
 |a::l,j+1,hj=>by
  have ih:=qrU l j ae_;have e:qrI (a::l)=.int .i64 a.1::.int .i64 a.2::qrI l:=rfl;rw[e,show(j+1)*2=j*2+1+1 by omega,List.getElem?_cons_succ,List.getElem?_cons_succ,show j*2+1+1+1=(j*2+1)+1+1 by omega,List.getElem?_cons_succ,List.getElem?_cons_succ];exact ih
theorem qrV(l:List (Int×Int)):∀ v ∈ qrI l,v.oneCell'=true:=by
 intro v hv;unfold qrI at hv;rw[List.mem_flatMap] at hv;obtain⟨x,_,hx⟩:=hv;simp only[List.mem_cons,List.not_mem_nil,or_false] at hx;rcases hx with rfl|rfl <;> rfl
theorem qrR{w:World}{g o:Nat}{l:List (Int×Int)}(h:∀ j (hj:j<l.length),w.cell? ⟨g,o+j*2,none⟩=some (.int .i64 l[j].1)∧w.cell? ⟨g,o+j*2+1,none⟩=some (.int .i64 l[j].2)):
 ∀ j v,(qrI l)[j]? =some v→w.cell? ((⟨g,o,none⟩:Addr).add j)=some v:=by
 intro j v hv;have hl:j<l.length*2:=by rw[←qrJ];exact(List.getElem?_eq_some_iff.1 hv).1
 rw[Addr.add_lit];have hj:j/2<l.length:=a_;obtain⟨h0,h1⟩:=h (j/2) hj;obtain⟨g0,g1⟩:=qrU l (j/2) hj;rcases Nat.mod_two_eq_zero_or_one j with hm|hm
 · have e:j/2*2=j:=a_;rw[e] at h0 g0;rw[h0,←g0,hv]
 · have e:j/2*2+1=j:=a_;rw[e] at g1;rw[Nat.add_assoc,e] at h1;rw[h1,←g1,hv]
theorem qav.over{B g n cap k:Nat}{e:TypeId}{w:World}{l m:List (Int×Int)}(h:qav B e w (.slice (some ⟨g,0,none⟩) n cap) l)(hk:k+m.length≤l.length):
 qav B e (w.setCells g (k*2) (qrI m)) (.slice (some ⟨g,0,none⟩) n cap) (l.take k++m++l.drop (k+m.length))∧w.grownBy (w.setCells g (k*2) (qrI m)) (some g):=by
 obtain⟨F,h1,h2⟩:=h;obtain⟨_,_,he⟩:=h1.rn.sl;obtain rfl:n=l.length:=J_;obtain⟨h3,h4⟩:=h1.setCells (qrI m) (k*2) _ _ (by rw[qrJ];omega);have hlen:(l.take k++m++l.drop (k+m.length)).length=l.length:=by simp only[List.length_append,List.length_take,List.length_drop];omega
 refine⟨⟨_,by rw[hlen];exact h3,fun j hj=> ?_⟩,h4⟩;rw[hlen] at hj;unfold putF;rw[qrJ];by_cases h5:j<k
 · rw[if_neg a_,if_neg a_];rw[List.getElem_append_left n_,List.getElem_append_left n_,List.getElem_take];exact h2 j hj
 · by_cases h6:j<k+m.length
   · obtain⟨g0,g1⟩:=qrU m (j-k) a_;rw[if_pos a_,if_pos a_,List.getD_eq_getElem?_getD,List.getD_eq_getElem?_getD,show j*2-k*2=(j-k)*2 by omega,show j*2+1-k*2=(j-k)*2+1 by omega,g0,g1];rw[List.getElem_append_left n_,List.getElem_append_right n_];simp only[List.length_take,Nat.min_eq_left (show k≤l.length by omega)];exact⟨rfl,rfl⟩
   · rw[if_neg a_,if_neg a_];rw[List.getElem_append_right n_,List.getElem_drop];have e:k+m.length+(j-(l.take k++m).length)=j:=by simp only[List.length_append,List.length_take,Nat.min_eq_left (show k≤l.length by omega)];omega
     simp only[e];exact h2 j hj
theorem qtZ(w:World):(zeroValue 99).run Tryz.prog w=.ok (.agg #[.int .i64 0,.int .i64 0]) w:=by kernel_rfl
theorem qsX(ls:List (Int×Int))(i B:Nat)(v:Value)(w:World)(hv:qav B 99 w v ls)(hi:i<ls.length):
 Calls Tryz.prog 186 #[v,.int .i64 (i:Int),.int .i64 ((i:Int)+1)] w fun e w'=>∃ v',e=.returned v'∧qav B 99 w' v' (ls.eraseIdx i)∧w.grownBy w' v.ownBlock:=by
 have HV:=hI_ hv;have hm:=hv.len;unfold maxLen at hm;obtain⟨g,c,rfl,hgB,hgs⟩:∃ g cap,v=.slice (some ⟨g,0,none⟩) ls.length cap∧B≤g∧g<w.heap.size:=by obtain⟨F,h1,_⟩:=hv;exact h1.form a_
 have hcap:ls.length≤c∧c≤9223372036854775807:=by
  obtain⟨_,_,h0,h1,h2,_⟩:=hv.r;cases h0
  unfold maxLen at h2;exact⟨h1.1,h2⟩
 obtain⟨hc1,hc2⟩:=hcap;obtain⟨m,HM⟩:∃ m,Hid (ls.length=i+1+m):=⟨ls.length-(i+1),hI_ a_⟩
 rw[HM.out] at hc1 hm ⊢;have hne:((i:Int)==(i:Int)+1)=false:=by rw[beq_eq_false_iff_ne];omega
 have hic:i≤c:=a_;have hi1:i+1≤i+1+m:=a_;have hms:i+1+m-(i+m)=1:=a_;have hq0:(i:Int)≤(i:Int)+1:=a_;have hq1:(0:Int)≤(i:Int)+1:=a_;have hq2:(i:Int)+1≤(i:Int)+1+(m:Int):=a_;obtain⟨hcs,hfz⟩:=hv.cells2;have hdl:(ls.drop (i+1)).length=m:=by rw[List.length_drop,HM.out];omega
 obtain⟨i0,hi0,hz0,hz1,hz2⟩:=info_parts qfV;have hrun:∀ (ad:Addr) (c2:Nat),(m=0∨ad=⟨g,(i+1)*2,none⟩)→(Builtin.append_ #[24,24] 24 #[.slice (some ⟨g,0,none⟩) i c,.slice (some ad) m c2]).run Tryz.prog w.drew=.ok (.slice (some ⟨g,0,none⟩) (i+m) c) (w.drew.setCells g (i*2) (qrI (ls.drop (i+1)))):=fun ad c2 hor=>by
  have:=run_append_room_cells (P:=Tryz.prog) w.drew 24 24 99 i0 Tryz.underlying24 hi0 g 0 i c ad m c2 (qrI (ls.drop (i+1))) (by rw[qrJ,hdl,hz1]) (fun j u hj=> ?_) (qrV _) a_ (fun j hj=>by rw[qrJ,hdl] at hj;rw[hz1,Nat.zero_add];exact hcs _ S_) (fun j hj=>hfz _)
  · rw[hz1,Nat.zero_add] at this;exact this
  · rcases hor with h0|rfl
    · have:=(List.getElem?_eq_some_iff.1 hj).1;rw[qrJ,hdl,h0] at this;omega
    · refine qrR (w:=w.drew) (fun j hj=> ?_) j u hj;rw[List.getElem_drop];have:=HV.out.at_ (k:=i+1+j) (by rw[hdl] at hj;rw[HM.out];omega);rw[show(i+1)*2+j*2=(i+1+j)*2 by omega];exact⟨this.1,this.2.1⟩
 have hover:=HV.out.next (T:=[99]) (qaA.of_below (qac (bR_ w.heap.size w))) k_ |>.over (m:=ls.drop (i+1)) (k:=i) (by rw[hdl,HM.out];omega);obtain⟨W1,HW1⟩:=nm_ (w.drew.setCells g (i*2) (qrI (ls.drop (i+1))));rw[HW1.out] at hover;have hl1:(ls.take i++ls.drop (i+1)++ls.drop (i+(ls.drop (i+1)).length)).length=i+1+m:=by
  simp only[List.length_append,List.length_take,List.length_drop,HM.out];omega
 have ht1:(ls.take i++ls.drop (i+1)++ls.drop (i+(ls.drop (i+1)).length)).take (i+m)=ls.eraseIdx i:=by
  rw[List.take_append_of_le_length (by simp only[List.length_append,List.length_take,List.length_drop,HM.out];omega),List.take_of_length_le (by simp only[List.length_append,List.length_take,List.length_drop,HM.out];omega),List.eraseIdx_eq_take_drop_succ]
 obtain⟨hcs1,hfz1⟩:=hover.1.cells2;have hcut:=hover.1.cut (k:=i+m) (by rw[hl1];omega);rw[ht1,HM.out,hms] at hcut;have hclear:=qr4 (P:=Tryz.prog) W1 24 99 0 (.agg #[.int .i64 0,.int .i64 0]) Tryz.underlying24 qtZ g ((i+m)*2) 1 (c-(i+m)) a_ (qta 1) rfl (qti _) (fun t ht=>hcs1 _ (by rw[qr3] at ht;rw[HM.out];omega)) (fun t ht=>hfz1 _);have HCUT:=hI_ hcut;have HG1:=hI_ hover.2;have HRUN:=hI_ hrun;clear hv hcs hfz hrun hover hcut hcs1 hfz1 hl1 ht1 hdl;by_cases hm0:m=0
 · subst hm0;have HD:Hid (w.drew=W1):=hI_ (by rw[←HW1.out,List.drop_of_length_le S_];rfl);simp only[Nat.add_zero] at hclear;by_cases hce:c=i+1
   · subst hce;have hii:i+1-i=1:=a_;simp only[hii] at hclear;clear hii;go_enter Tryz.func186,Tryz.ntmps186
     go_wp2_with fail
     go_region_law (fail)
     rw[HD.out];go_wp2
     go_ret;exact⟨_,rfl,HCUT.out.1,qat (qat (qaP (qac (bR_ _ _))) HG1.out) HCUT.out.2⟩
   · skip
     go_enter Tryz.func186,Tryz.ntmps186
     go_wp2_with fail
     go_region_law (fail)
     rw[HD.out];go_wp2
     go_ret;exact⟨_,rfl,HCUT.out.1,qat (qat (qaP (qac (bR_ _ _))) HG1.out) HCUT.out.2⟩
 · have hce:¬ c=i+1:=a_;go_enter Tryz.func186,Tryz.ntmps186
   go_wp2_with fail
   go_region_law ((refine qa9 p_ (qtX _ _ _ _ _ p_ _ _ p_ p_ (HRUN.out _ _ (Or.inr rfl)) ?_)))
   rw[HW1.out];go_wp2
   go_ret;exact⟨_,rfl,HCUT.out.1,qat (qat (qaP (qac (bR_ _ _))) HG1.out) HCUT.out.2⟩
end Go.Proofs.YtekaaekpdebloaaGreatDoor

/- Words and walks of the law. -/
import Derived.Test.YtekaaekpdebloaaGreatDoorCL5
import Derived.Lib.Overlaps
set_option linter.unusedVariables false
set_option linter.unusedSimpArgs false
set_option maxHeartbeats 12800000
set_option maxRecDepth 100000
namespace Go.Proofs.YtekaaekpdebloaaGreatDoor
open Go.RowKit
attribute [local go_sem ↓] Go.wp_at_zero Go.wp_at_succ

def qsR(B n:Nat)(e:TypeId)(w:World)(v:Value)(l:List (Int×Int)):Prop:=l.length≤n∧∃ F,ON 2 B e w v n F∧∀ j (hj:j<l.length),F (j*2)=.int .i64 l[j].1∧F (j*2+1)=.int .i64 l[j].2
section
variable {B n g cap k:Nat} {e:TypeId} {w w':World} {l m:List (Int×Int)} {v:Value}
theorem qsR.full(h:qsR B n e w v l)(hn:l.length=n):qav B e w v l:=by obtain⟨_,F,h1,h2⟩:=h;exact⟨F,by rw[hn];exact h1,h2⟩
theorem qsR.cut(h:qsR B n e w (.slice (some ⟨g,0,none⟩) n cap) l){n':Nat}(hn:n'≤n)(hl:l.length≤n'):qsR B n' e w (.slice (some ⟨g,0,none⟩) n' cap) l:=by obtain⟨_,F,h1,h2⟩:=h;exact⟨hl,F,h1.take_ hn,h2⟩
theorem qsR.of(h:qav B e w (.slice (some ⟨g,0,none⟩) n cap) l):qsR B cap e w (.slice (some ⟨g,0,none⟩) cap cap) l:=by
 obtain⟨F,h1,h2⟩:=h;obtain⟨_,_,he⟩:=h1.rn.sl;obtain rfl:n=l.length:=J_;obtain⟨F',h3,h4⟩:=h1.room;obtain⟨A,c,h5,h6,h7,_⟩:=h1.rn;cases h5
 exact⟨h6.1,F',h4,fun j hj=>by rw[h3 _ a_,h3 _ a_];exact h2 j hj⟩
theorem qsR.at_(h:qsR B n e w (.slice (some ⟨g,0,none⟩) n cap) l)(hk:k<l.length):w.cell? ⟨g,k*2,none⟩=some (.int .i64 l[k].1)∧w.cell? ⟨g,k*2+1,none⟩=some (.int .i64 l[k].2):=by
 obtain⟨hl,F,h1,h2⟩:=h;have a0:=h1.at_ (t:=k*2) a_;have a1:=h1.at_ (t:=k*2+1) a_;rw[(h2 k hk).1] at a0;rw[(h2 k hk).2] at a1;exact⟨a0.1,a1.1⟩
theorem qsR.cells2(h:qsR B n e w (.slice (some ⟨g,0,none⟩) n cap) l):(∀ t,t<n*2→(w.cell? ⟨g,t,none⟩).isSome=true)∧∀ t,w.frozen? ⟨g,t,none⟩=false:=by
 obtain⟨_,F,h1,_⟩:=h;obtain⟨cur,hr⟩:=h1.row0 g rfl;exact⟨fun t ht=>by rw[(h1.at_ ht).1];rfl,fun t=>qgI hr t⟩
theorem qsR.below(h:qsR B n e w v l)(hb:bB w w'):qsR B n e w' v l:=by obtain⟨h0,F,h1,h2⟩:=h;exact⟨h0,F,h1.below hb,h2⟩
theorem qsR.over(h:qsR B n e w (.slice (some ⟨g,0,none⟩) n cap) l)(hk:k≤l.length)(hm:k+m.length≤n):
 qsR B n e (w.setCells g (k*2) (qrI m)) (.slice (some ⟨g,0,none⟩) n cap) (l.take k++m++l.drop (k+m.length))∧w.grownBy (w.setCells g (k*2) (qrI m)) (some g):=by
 obtain⟨hl,F,h1,h2⟩:=h;obtain⟨h3,h4⟩:=h1.setCells (qrI m) (k*2) _ _ (by rw[qrJ];omega);have hlen:(l.take k++m++l.drop (k+m.length)).length=k+m.length+(l.length-(k+m.length)):=by simp only[List.length_append,List.length_take,List.length_drop];omega
 refine⟨⟨by rw[hlen];omega,_,h3,fun j hj=> ?_⟩,h4⟩;rw[hlen] at hj;unfold putF;rw[qrJ];by_cases h5:j<k
 · rw[if_neg a_,if_neg a_];rw[List.getElem_append_left n_,List.getElem_append_left n_,List.getElem_take];exact h2 j a_
 · by_cases h6:j<k+m.length
   · obtain⟨g0,g1⟩:=qrU m (j-k) a_;rw[if_pos a_,if_pos a_,List.getD_eq_getElem?_getD,List.getD_eq_getElem?_getD,show j*2-k*2=(j-k)*2 by omega,show j*2+1-k*2=(j-k)*2+1 by omega,g0,g1];rw[List.getElem_append_left n_,List.getElem_append_right n_];simp only[List.length_take,Nat.min_eq_left hk];exact⟨rfl,rfl⟩
   · rw[if_neg a_,if_neg a_];rw[List.getElem_append_right n_,List.getElem_drop];have e:k+m.length+(j-(l.take k++m).length)=j:=by simp only[List.length_append,List.length_take,Nat.min_eq_left hk];omega
     simp only[e];exact h2 j a_
end
def qss(B:Nat)(l:List (Int×Int))(v:Value)(w:World)(e:Ending)(w':World):Prop:=∃ v',e=.returned v'∧qav B 99 w' v' l∧w.grownBy w' v.ownBlock
theorem qs1(ls:List (Int×Int))(k:Int×Int)(gx B:Nat)(v:Value)(w:World)(hv:qav B 99 w v ls)(hx:w.heap[gx]? =some (.cells #[.int .i64 k.1,.int .i64 k.2] 99 (0,0)))(hl:ls.length≤1000)(hB:B≤w.heap.size):
 Calls Tryz.prog 185 #[v,.int .i64 (ls.length:Int),.slice (some ⟨gx,0,none⟩) 1 1] w (qss B (ls++[k]) v w):=by
 have HV:=hI_ hv;have HX:=hI_ hx;obtain⟨A,c,rfl⟩:=hv.r.sl;have hcap:ls.length≤c∧c≤9223372036854775807:=by
  obtain⟨_,_,h0,h1,h2,_⟩:=hv.r;cases h0
  unfold maxLen at h2;exact⟨h1.1,h2⟩
 obtain⟨hc1,hc2⟩:=hcap;clear hv hx;by_cases hce:c=ls.length
 · subst hce;go_enter Tryz.func185,Tryz.ntmps185
   go_wp2_with (at_builtin;refine qaF rfl fun K hK=>qkf (base:=B) (l:=ls) (l2:=[k]) HV.out (RP.one HX.out) n_ hB rfl rfl rfl (fun A2 c2 w2 ho2 hg2=>hK _ _ ?_);have HO:=hI_ ho2;have HG:=hI_ hg2;clear ho2 hg2)
   go_ret;exact⟨_,rfl,HO.out,HG.out⟩
 · skip
   go_enter Tryz.func185,Tryz.ntmps185
   go_wp2_with (at_builtin;refine qaF rfl fun K hK=>qkf (base:=B) (l:=ls) (l2:=[k]) HV.out (RP.one HX.out) n_ hB rfl rfl rfl (fun A2 c2 w2 ho2 hg2=>hK _ _ ?_);have HO:=hI_ ho2;have HG:=hI_ hg2;clear ho2 hg2)
   go_ret;exact⟨_,rfl,HO.out,HG.out⟩
theorem qsH(ls:List (Int×Int))(k:Int×Int)(i gx g c B:Nat)(w:World)(hv:qav B 99 w (.slice (some ⟨g,0,none⟩) ls.length c) ls)(hx:w.heap[gx]? =some (.cells #[.int .i64 k.1,.int .i64 k.2] 99 (0,0)))(hgx:gx≠g)(hi:i<ls.length)(hl:ls.length≤1000)(hc:ls.length<c):
 Calls Tryz.prog 185 #[.slice (some ⟨g,0,none⟩) ls.length c,.int .i64 (i:Int),.slice (some ⟨gx,0,none⟩) 1 1] w (qss B (ls.take i++k::ls.drop i) (.slice (some ⟨g,0,none⟩) ls.length c) w):=by
 have HV:=hI_ hv;have HX:=hI_ hx;have hcm:c≤9223372036854775807:=by
  obtain⟨_,_,h0,h1,h2,_⟩:=hv.r;cases h0
  unfold maxLen at h2;exact h2
 obtain⟨m,HM⟩:∃ m,Hid (ls.length=i+m):=⟨ls.length-i,hI_ a_⟩
 have hm0:0<m:=by have:=HM.out;omega
 have hpre:=qsR.of hv;rw[HM.out] at hc hl ⊢;clear hv hx hi;obtain⟨cur,hrow⟩:∃ cur,w.heap[g]? =some (.cells cur 99 (0,0))∧cur.size=c*2:=by
  obtain⟨_,F,h1,_⟩:=hpre;rcases h1.2 with⟨h0,_⟩|⟨k',c',cur,hv',hk,hh,q1,q2,q3,q4⟩
  · cases h0
  · cases hv';exact⟨cur,hh,q3⟩
 have hov:∀ lb cb,(callFunc 242 #[.slice (some ⟨gx,0,none⟩) 1 1,.slice (some ⟨g,(i+1)*2,none⟩) lb cb]).run Tryz.prog w=.ok (.value (.bool false)) w:=fun lb cb=>by
  rw[run_callFunc_extern Tryz.func242 d_ d_ d_ (e:=Extern.SlicesOverlaps.overlaps #[24,24] #[4]) d_,
   Lib.run_overlaps_apart w 24 4 99 Tryz.underlying24 2 (fun w=>d_) ⟨gx,0,none⟩ ⟨g,(i+1)*2,none⟩ 1 1 lb cb hgx 99 99 2 (c*2) (by simp[World.shape?,HX.out]) (by simp[World.shape?,hrow.1,hrow.2]) a_ (by simp[World.frozen?,HX.out]) (by simp[World.frozen?,HX.out])]
  rfl
 obtain⟨i0,hi0,hz0,hz1,hz2⟩:=info_parts qfV;obtain⟨hcs,hfz⟩:=hpre.cells2;have hdl:(ls.drop i).length=m:=by rw[List.length_drop,HM.out];omega
 have hcp1:∀ ty dc sn sc,m≤sn→(Builtin.copy_ #[24,24] ty #[.slice (some ⟨g,(i+1)*2,none⟩) m dc,.slice (some ⟨g,i*2,none⟩) sn sc]).run Tryz.prog w.drew=.ok (goInt (Nat.min sn m)) (w.drew.setCells g ((i+1)*2) (qrI (ls.drop i))):=fun ty dc sn sc hsn=>
  qr2 w.drew _ _ ty 99 i0 g ((i+1)*2) m dc ⟨g,i*2,none⟩ sn sc (qrI (ls.drop i)) Tryz.underlying24 hi0 (by rw[qrJ,hdl,hz1];show m*2=min sn m*2;rw[Nat.min_eq_right hsn])
   (qrR (w:=w.drew) fun j hj=>by
     rw[hdl] at hj;rw[List.getElem_drop];have:=HV.out.at_ (k:=i+j) S_;rw[show i*2+j*2=(i+j)*2 by omega];exact⟨this.1,this.2.1⟩)
   (fun j hj=>hcs _ (by rw[qrJ,hdl] at hj;omega)) (fun j hj=>hfz _) (qrV _)
 have hov1:=(hpre.below (qac (bR_ w.heap.size w))).over (m:=ls.drop i) (k:=i+1) S_ (by rw[hdl];omega);obtain⟨W1,HW1⟩:=nm_ (w.drew.setCells g ((i+1)*2) (qrI (ls.drop i)));rw[HW1.out] at hov1;have hl1:ls.take (i+1)++ls.drop i++ls.drop (i+1+(ls.drop i).length)=ls.take (i+1)++ls.drop i:=by
  rw[List.drop_of_length_le (l:=ls) (i:=i+1+(ls.drop i).length) (by rw[hdl,HM.out];omega),List.append_nil]
 rw[hl1] at hov1;obtain⟨hcs1,hfz1⟩:=hov1.1.cells2;have hx1:W1.heap[gx]? =some (.cells #[.int .i64 k.1,.int .i64 k.2] 99 (0,0)):=(hov1.2.block gx (qai HX.out) (fun e=>by cases e;exact hgx rfl)).trans HX.out;have hcp2:∀ ty dn dc,1≤dn→(Builtin.copy_ #[24,24] ty #[.slice (some ⟨g,i*2,none⟩) dn dc,.slice (some ⟨gx,0,none⟩) 1 1]).run Tryz.prog W1=.ok (goInt (Nat.min 1 dn)) (W1.setCells g (i*2) (qrI [k])):=fun ty dn dc hdn=>
  qr2 W1 _ _ ty 99 i0 g (i*2) dn dc ⟨gx,0,none⟩ 1 1 (qrI [k]) Tryz.underlying24 hi0 (by rw[qrJ,hz1];show 1*2=min 1 dn*2;rw[Nat.min_eq_left hdn])
   (qrR (w:=W1) fun j hj=>by
     obtain rfl:j=0:=ae_;obtain⟨c0,c1,_⟩:=qaH hx1;exact⟨c0,c1⟩)
   (fun j hj=>hcs1 _ (by rw[qrJ] at hj;simp at hj;omega)) (fun j hj=>hfz1 _) (qrV _)
 have hov2:=hov1.1.over (m:=[k]) (k:=i) (by simp only[List.length_append,List.length_take,HM.out,hdl];omega) n_;have hl2:(ls.take (i+1)++ls.drop i).take i++[k]++(ls.take (i+1)++ls.drop i).drop (i+[k].length)=ls.take i++k::ls.drop i:=by
  have ht:(ls.take (i+1)).length=i+1:=by rw[List.length_take,HM.out];omega
  rw[List.take_append_of_le_length (by rw[ht];omega),List.take_take,Nat.min_eq_left a_,List.drop_append_of_le_length (by rw[ht];exact nr_ _),List.drop_of_length_le (by rw[ht];exact nr_ _)];simp
 rw[hl2] at hov2;have hlen:(ls.take i++k::ls.drop i).length=i+m+1:=by simp only[List.length_append,List.length_take,List.length_cons,HM.out,hdl];omega
 have HFIN:=hI_ ((hov2.1.cut (n':=i+m+1) a_ (by rw[hlen];exact nr_ _)).full hlen);have HGF:Hid (w.grownBy (W1.setCells g (i*2) (qrI [k])) (some g)):=hI_ (qat (qat (qaP (qac (bR_ _ _))) hov1.2) hov2.2);have HCP1:=hI_ hcp1;have HCP2:=hI_ hcp2;clear hpre hrow hcs hfz hdl hcp1 hov1 hl1 hcs1 hfz1 hx1 hcp2 hov2 hl2 hlen;have hq0:(i:Int)≤(i:Int)+1:=a_;have hq1:(0:Int)≤(i:Int)+1:=a_;have hq2:(i:Int)+1≤(i:Int)+(m:Int)+1:=a_;have hq3:(i:Int)≤(i:Int)+(m:Int)+1:=a_;have hq4:¬ c=i:=a_;have hq5:¬ c=i+1:=a_;have hw1:IntKind.i64.wrap ((i:Int)+1)=(i:Int)+1:=by rw[IntKind.wrap_i64];omega
 have htn:((i:Int)+1).toNat=i+1:=a_;go_enter Tryz.func185,Tryz.ntmps185
 go_wp2_with (simp only[hov])
 go_region_law (go_loud (refine qa9 p_ (qth w.drew (.tmp 73) (.tmp 76) 24 24 rfl _ _ (by simp[Act.eval,Act.put];rfl) (by simp[Act.eval,Act.put];exact⟨rfl,rfl⟩) (HCP1.out _ _ _ _ a_) ?_)))
 rw[HW1.out];have hcp2e:=HCP2.out 3 (i+m+1-i) (c-i) a_;go_wp2
 go_ret;exact⟨_,rfl,HFIN.out,HGF.out⟩
theorem quu(k:Nat):qta k=List.replicate (k*2) (.int .i64 0):=by
 rw[List.eq_replicate_iff];refine⟨qr3 k,fun v hv=> ?_⟩;unfold qta at hv;simp[Builtin.zeroCells,Value.cells] at hv;obtain⟨i,_,rfl⟩:=hv;have h2:i%2<2:=Nat.mod_lt _ e_;generalize i%2=j at h2
 obtain rfl|rfl:j=0∨j=1:=a_;all_goals rfl
theorem qs2(k:Nat):qrI (List.replicate k (0,0))=qta k:=by
 rw[quu,List.eq_replicate_iff];refine⟨by rw[qrJ,List.length_replicate],fun v hv=> ?_⟩;unfold qrI at hv;rw[List.mem_flatMap] at hv;obtain⟨x,hx,hv⟩:=hv;rw[List.eq_of_mem_replicate hx] at hv;simpa using hv
theorem qsw(a b:List (Int×Int)):qrI (a++b)=qrI a++qrI b:=by unfold qrI;rw[List.flatMap_append]
theorem qav.fresh{B g cap:Nat}{e:TypeId}{w:World}{l:List (Int×Int)}{xs:List Value}(hh:w.heap[g]? =some (.cells (qrI l++xs).toArray e (0,0)))(hB:B≤g)(hc:l.length≤cap)(hm:cap≤maxLen)(hs:(qrI l++xs).length=cap*2):
 qav B e w (.slice (some ⟨g,0,none⟩) l.length cap) l:=by
 refine⟨fun t=>(qrI l).getD t (.slice none 0 0),⟨k_,.inr ⟨g,cap,_,rfl,hB,hh,hc,hm,by simpa using hs,?_⟩⟩,fun j hj=> ?_⟩
 · have hl:(qrI l).length=l.length*2:=qrJ l;show List.take (l.length*2) (qrI l++xs)=_;rw[←hl,List.take_left];apply List.ext_getElem k_;intro s h1 h2;simp only[List.getElem_map,List.getElem_range];rw[qam h1]
 · obtain⟨g0,g1⟩:=qrU l j hj;show(qrI l).getD (j*2) _=_∧(qrI l).getD (j*2+1) _=_;rw[List.getD_eq_getElem?_getD,List.getD_eq_getElem?_getD,g0,g1];exact⟨rfl,rfl⟩
theorem qsG(ls:List (Int×Int))(k:Int×Int)(i gx g B:Nat)(w:World)(hv:qav B 99 w (.slice (some ⟨g,0,none⟩) ls.length ls.length) ls)(hx:w.heap[gx]? =some (.cells #[.int .i64 k.1,.int .i64 k.2] 99 (0,0)))(hi:i<ls.length)(hl:ls.length≤1000)(hB:B≤w.heap.size):
 Calls Tryz.prog 185 #[.slice (some ⟨g,0,none⟩) ls.length ls.length,.int .i64 (i:Int),.slice (some ⟨gx,0,none⟩) 1 1] w (qss B (ls.take i++k::ls.drop i) (.slice (some ⟨g,0,none⟩) ls.length ls.length) w):=by
 have HV:=hI_ hv;have HX:=hI_ hx;obtain⟨m,HM⟩:∃ m,Hid (ls.length=i+m):=⟨ls.length-i,hI_ a_⟩
 have hm0:0<m:=by have:=HM.out;omega
 obtain⟨m1,hm1⟩:∃ m1,m1=m+1:=⟨_,rfl⟩
 obtain⟨q,HQ⟩:=nm_ w.heap.size;obtain⟨i0,hi0,hz0,hz1,hz2⟩:=info_parts qfV;obtain⟨cap,HCAP⟩:=nm_ (grownCap w (i+m1) (i+m) 99);have hge:i+m1≤cap:=by rw[←HCAP.out];exact grownCap_ge _ _ _ _
 have hcm:cap≤maxLen:=by rw[←HCAP.out];exact grownCap_le_maxLen _ _ _ _ (by have:=HM.out;unfold maxLen;omega)
 have hdl:(ls.drop i).length=m:=by rw[List.length_drop,HM.out];omega
 have htl:(ls.take i).length=i:=by rw[List.length_take,HM.out];omega
 obtain⟨W1,HW1⟩:=nm_ (w.drew.alloc (.cells (qrI (ls.take i++List.replicate m1 (0,0))++qta (cap-(i+m1))).toArray 99));have happ:(Builtin.append_ #[24,3] 24 #[.slice (some ⟨g,0,none⟩) i (i+m),.int .i64 (m1:Int)]).run Tryz.prog w=.ok (.slice (some ⟨q,0,none⟩) (i+m1) cap) W1:=by
  have hl1:(qrI (ls.take i)).length=i*2:=by rw[qrJ,htl]
  have hold:(Builtin.firstCells i0.size i (.slice (some ⟨g,0,none⟩) i (i+m))).run Tryz.prog w.drew=.ok (qrI (ls.take i)).toArray w.drew:=by
   have:=run_loadCells_list (P:=Tryz.prog) w.drew ⟨g,0,none⟩ (qrI (ls.take i)) (qrR (w:=w.drew) fun j hj=>by
    rw[htl] at hj;rw[List.getElem_take,Nat.zero_add];have:=HV.out.at_ (k:=j) S_;exact⟨this.1,this.2.1⟩)
   rw[hl1] at this;simpa[Builtin.firstCells,hz1] using this
  have hr:=Lib.run_append_grow_zeros (P:=Tryz.prog) w 24 3 24 99 i0 (.agg #[.int .i64 0,.int .i64 0]) .i64 .i64 Tryz.underlying24 Tryz.underlying3 hi0 hz0 (some ⟨g,0,none⟩) i (i+m) (qrI (ls.take i)) hold m1 a_ a_ a_ (by have:=HM.out;omega) (by rw[hz2];have:=HM.out;omega) (growslice_fits a_ (by rw[hz2];have:=HM.out;omega));rw[HCAP.out,HQ.out] at hr;rw[hr,←HW1.out,qsw,qs2];congr 3;simp[qta]
 have hB1:bB w W1:=by rw[←HW1.out];exact qab (qac (bR_ _ _)) _
 have hrow:W1.heap[q]? =some (.cells (qrI (ls.take i++List.replicate m1 (0,0))++qta (cap-(i+m1))).toArray 99 (0,0)):=by rw[←HW1.out,←HQ.out];exact heap_alloc_new w.drew _
 have hl0:(ls.take i++List.replicate m1 ((0:Int),(0:Int))).length=i+m1:=by simp only[List.length_append,List.length_replicate,htl]
 have hp0:=qav.fresh (B:=q) (cap:=cap) hrow (nr_ _) (by rw[hl0];exact hge) hcm (by rw[List.length_append,qrJ,qr3,hl0];omega);rw[hl0] at hp0;obtain⟨hcs0,hfz0⟩:=hp0.cells2;have hx1:W1.heap[gx]? =some (.cells #[.int .i64 k.1,.int .i64 k.2] 99 (0,0)):=(hB1.block gx (qai HX.out)).trans HX.out;have hcp1:∀ ty dn dc,1≤dn→(Builtin.copy_ #[24,24] ty #[.slice (some ⟨q,i*2,none⟩) dn dc,.slice (some ⟨gx,0,none⟩) 1 1]).run Tryz.prog W1=.ok (goInt (Nat.min 1 dn)) (W1.setCells q (i*2) (qrI [k])):=fun ty dn dc hdn=>
  qr2 W1 _ _ ty 99 i0 q (i*2) dn dc ⟨gx,0,none⟩ 1 1 (qrI [k]) Tryz.underlying24 hi0 (by rw[qrJ,hz1];show 1*2=min 1 dn*2;rw[Nat.min_eq_left hdn])
   (qrR (w:=W1) fun j hj=>by
     obtain rfl:j=0:=ae_;obtain⟨c0,c1,_⟩:=qaH hx1;exact⟨c0,c1⟩)
   (fun j hj=>hcs0 _ (by rw[qrJ] at hj;simp at hj;omega)) (fun j hj=>hfz0 _) (qrV _)
 have hov1:=hp0.over (m:=[k]) (k:=i) (by rw[hl0];show i+1≤_;omega);obtain⟨W2,HW2⟩:=nm_ (W1.setCells q (i*2) (qrI [k]));rw[HW2.out] at hov1 hcp1;have he1:(ls.take i++List.replicate m1 ((0:Int),(0:Int))).take i++[k]++(ls.take i++List.replicate m1 ((0:Int),(0:Int))).drop (i+[k].length)=ls.take i++[k]++List.replicate m (0,0):=by
  rw[List.take_append_of_le_length (by rw[htl];exact nr_ _),List.take_take,Nat.min_self,List.drop_append,htl,List.drop_of_length_le (by rw[htl];simp),hm1];simp
 rw[he1] at hov1;have hov1d:=hov1.1.next (T:=[99]) (qaA.of_below (qac (bR_ W2.heap.size W2))) k_;obtain⟨hcs1,hfz1⟩:=hov1d.cells2;have hBq:bB w W2:=hB1.grown hov1.2 hB1.size (fun r hr=>by cases hr;rw[HQ.out];exact nr_ _);have hvg:qav B 99 W2.drew (.slice (some ⟨g,0,none⟩) ls.length ls.length) ls:=HV.out.below (qac hBq);have hcp2:∀ ty dc sn sc,m≤sn→(Builtin.copy_ #[24,24] ty #[.slice (some ⟨q,(i+1)*2,none⟩) m dc,.slice (some ⟨g,i*2,none⟩) sn sc]).run Tryz.prog W2.drew=.ok (goInt (Nat.min sn m)) (W2.drew.setCells q ((i+1)*2) (qrI (ls.drop i))):=fun ty dc sn sc hsn=>
  qr2 W2.drew _ _ ty 99 i0 q ((i+1)*2) m dc ⟨g,i*2,none⟩ sn sc (qrI (ls.drop i)) Tryz.underlying24 hi0 (by rw[qrJ,hdl,hz1];show m*2=min sn m*2;rw[Nat.min_eq_right hsn])
   (qrR (w:=W2.drew) fun j hj=>by
     rw[hdl] at hj;rw[List.getElem_drop];have:=hvg.at_ (k:=i+j) S_;rw[show i*2+j*2=(i+j)*2 by omega];exact⟨this.1,this.2.1⟩)
   (fun j hj=>hcs1 _ (by rw[qrJ,hdl] at hj;omega)) (fun j hj=>hfz1 _) (qrV _)
 have hl2:(ls.take i++[k]++List.replicate m ((0:Int),(0:Int))).length=i+m1:=by simp only[List.length_append,List.length_replicate,htl,List.length_singleton];omega
 have hov2:=hov1d.over (m:=ls.drop i) (k:=i+1) (by rw[hl2,hdl];omega);have he2:(ls.take i++[k]++List.replicate m ((0:Int),(0:Int))).take (i+1)++ls.drop i++(ls.take i++[k]++List.replicate m ((0:Int),(0:Int))).drop (i+1+(ls.drop i).length)=ls.take i++k::ls.drop i:=by
  rw[List.drop_of_length_le (l:=ls.take i++[k]++List.replicate m ((0:Int),(0:Int))) (i:=i+1+(ls.drop i).length) (by rw[hl2,hdl];omega),List.take_append_of_le_length (by simp only[List.length_append,htl,List.length_singleton];omega),List.take_of_length_le (by simp only[List.length_append,htl,List.length_singleton];omega)];simp
 rw[he2] at hov2;have HFIN:=hI_ (hov2.1.mono (show B≤q by rw[←HQ.out];exact hB));have HGF:Hid (w.grownBy (W2.drew.setCells q ((i+1)*2) (qrI (ls.drop i))) (some g)):=hI_ (qaP ((qac hBq).grown hov2.2 (qac hBq).size (fun r hr=>by cases hr;rw[HQ.out];exact nr_ _)));have HAPP:=hI_ happ;have HCP1:=hI_ hcp1;have HCP2:=hI_ hcp2;rw[HM.out] at hl ⊢;clear hv hx hi happ hB1 hrow hl0 hp0 hcs0 hfz0 hx1 hcp1 hov1 he1 hov1d hcs1 hfz1 hBq hvg hcp2 hl2 hov2 he2 hdl htl;unfold maxLen at hcm;have hsb:(i:Int)+(m:Int)+1-(i:Int)=(m1:Int):=a_;have hsb2:i+m1-(i+1)=m:=a_;have hq6:(i:Int)+1≤(i:Int)+(m1:Int):=a_;have hq7:¬ m=0:=a_;have hq8:(i:Int)≤(i:Int)+(m1:Int):=a_;have hq9:(i:Int)≤(i:Int)+(m:Int):=a_;have h1m:1≤m1:=a_;clear hm1;have hq0:(i:Int)≤(i:Int)+1:=a_;have hq1:(0:Int)≤(i:Int)+1:=a_;have hq2:(i:Int)+1≤(i:Int)+(m:Int)+1:=a_;have hq3:(i:Int)≤(i:Int)+(m:Int)+1:=a_;have hq4:¬ cap=i:=a_;have hq5:¬ cap=i+1:=a_;have hw1:IntKind.i64.wrap ((i:Int)+1)=(i:Int)+1:=by rw[IntKind.wrap_i64];omega
 have htn:((i:Int)+1).toNat=i+1:=a_;have hcpe:=HCP1.out 3 m1 (cap-i) h1m;go_enter Tryz.func185,Tryz.ntmps185
 go_wp2_with (at_builtin;refine Lib.wpList_append_run _ rfl _ _ _ _ rfl _ _ rfl rfl _ _ HAPP.out ?_)
 go_region_law ((refine qa9 p_ (qth W2.drew (.tmp 50) (.tmp 53) 24 24 rfl _ _ (by simp[Act.eval,Act.put];rfl) (by simp[Act.eval,Act.put];first|done|exact⟨rfl,rfl⟩) (HCP2.out _ _ _ _ a_) ?_)))
 go_wp2
 go_ret;exact⟨_,rfl,HFIN.out,HGF.out⟩
theorem qtH{ls:List (Int×Int)}(hs:qul ls)(k:Int×Int):∃ i,BsI ls k i i:=by
 refine⟨ls.findIdx (fun y=>decide (0≤qmz y k)),nr_ _,List.findIdx_le_length,fun t ht hti=> ?_,fun t ht hti=> ?_⟩
 · have:=List.not_of_lt_findIdx hti;rw[decide_eq_false_iff_not] at this;omega
 · have hl:ls.findIdx (fun y=>decide (0≤qmz y k))<ls.length:=a_;have h0:=List.findIdx_getElem (w:=hl);rw[decide_eq_true_eq] at h0;rcases Nat.lt_or_ge (ls.findIdx (fun y=>decide (0≤qmz y k))) t with h|h
   · have:=qsa (k:=k) (.inr (hs _ t hl ht h));omega
   · have e:ls.findIdx (fun y=>decide (0≤qmz y k))=t:=a_;simp only[e] at h0;exact h0
theorem BsI.uniq{ls:List (Int×Int)}{k:Int×Int}{i j:Nat}(hi:BsI ls k i i)(hj:BsI ls k j j):i=j:=by
 have a:=hi.jl;have b:=hj.jl;rcases Nat.lt_trichotomy i j with h|h|h
 · have h1:=hj.lo i a_ h;have h2:=hi.hi i a_ (nr_ _);omega
 · exact h
 · have h1:=hi.lo j a_ h;have h2:=hj.hi j a_ (nr_ _);omega
theorem qr1{a b:Int×Int}:qmz a b=0↔a=b:=by
 unfold qmz;constructor
 · intro h;split at h
   · exact Prod.ext (by assumption) a_
   · exact absurd h a_
 · rintro rfl;rw[if_pos rfl];omega
theorem BsI.found{ls:List (Int×Int)}{k:Int×Int}{i:Nat}(hs:qul ls)(h:BsI ls k i i):(∃ hi:i<ls.length,qmz ls[i] k=0)↔qc8 ls k=true:=by
 rw[qd6];constructor
 · rintro⟨hi,h0⟩;rw[←qr1.1 h0];exact List.getElem_mem hi
 · intro hm;obtain⟨t,ht,rfl⟩:=List.getElem_of_mem hm;have h0:qmz ls[t] ls[t]=0:=qr1.2 rfl;have h1:i≤t:=by
    rcases Nat.lt_or_ge t i with h2|h2
    · have:=h.lo t ht h2;omega
    · exact h2
   refine⟨a_,?_⟩;rcases Nat.lt_or_ge i t with h2|h2
   · have h3:=qlm (ls[i]'(by omega)) ls[t];rw[hs i t a_ ht h2] at h3;have h4:=h.hi i a_ (nr_ _);have h5:=of_decide_eq_true h3.symm;omega
   · obtain rfl:i=t:=a_;exact h0
theorem qtI{ls:List (Int×Int)}{k:Int×Int}{i:Nat}{f:Bool}(hi:Hid (BsI ls k i i))(hf:Hid (qc8 ls k=f))(n:Nat)(v:Value)(w:World)(hv:RP w v ls)(hl:ls.length≤1000000)(hn:n≤maxLen)(hs:qul ls)(hb:∀ t (ht:t<ls.length),Bnd n ls[t])(hk:Bnd n k):
 gV 184 #[v,.agg #[.int .i64 k.1,.int .i64 k.2],.func (.func 153) #[] #[]] w (.tuple #[.int .i64 i,.bool f]):=by
 refine(qsU ls k n v w hv hl hn hs hb hk).mono fun e w' ⟨j,f',he,hj,hf',hb⟩=> ?_;obtain rfl:=hi.out.uniq hj;refine⟨?_,hb⟩;rw[he];have:f'=f:=by
  rw[Bool.eq_iff_iff,hf',hj.found hs,hf.out]
 rw[this]
theorem qs0(ls:List (Int×Int))(k:Int×Int)(i gx B:Nat)(v:Value)(w:World)(hv:qav B 99 w v ls)(hx:w.heap[gx]? =some (.cells #[.int .i64 k.1,.int .i64 k.2] 99 (0,0)))(hgx:v.ownBlock≠some gx)(hi:i≤ls.length)(hl:ls.length≤1000)(hB:B≤w.heap.size):
 Calls Tryz.prog 185 #[v,.int .i64 (i:Int),.slice (some ⟨gx,0,none⟩) 1 1] w (qss B (ls.take i++k::ls.drop i) v w):=by
 rcases Nat.eq_or_lt_of_le hi with rfl|h
 · have:=qs1 ls k gx B v w hv hx hl hB;rwa[List.take_length,List.drop_length]
 · obtain⟨g,c,rfl,_,_⟩:∃ g cap,v=.slice (some ⟨g,0,none⟩) ls.length cap∧B≤g∧g<w.heap.size:=by obtain⟨F,h1,_⟩:=hv;exact h1.form a_
   have hc:ls.length≤c:=by obtain⟨_,_,h0,h1,_⟩:=hv.r;cases h0;exact h1.1
   rcases Nat.eq_or_lt_of_le hc with rfl|hc
   · exact qsG ls k i gx g B w hv hx h hl hB
   · exact qsH ls k i gx g c B w hv hx (fun e=>hgx ca_) h hl hc
theorem qs3{n:Nat}{ls:List (Int×Int)}(h:qcE n ls=true):qul ls∧∀ t (ht:t<ls.length),Bnd n ls[t]:=by
 obtain⟨h1,h2⟩:=qc6.1 h;rw[List.pairwise_iff_getElem] at h2;refine⟨fun i j hi hj hij=>h2 i j hi hj hij,fun t ht=> ?_⟩;have:=h1 _ (List.getElem_mem ht);unfold qc5 inB at this;simp only[Bool.and_eq_true,decide_eq_true_eq] at this;unfold Bnd;omega
theorem qtO{l k:Int×Int}:gtL l k=decide (0<qmz l k):=by
 unfold gtL qmz;rw[Bool.eq_iff_iff];simp only[Bool.or_eq_true,Bool.and_eq_true,decide_eq_true_eq,beq_iff_eq];split <;> omega
theorem qus{ls:List (Int×Int)}{k:Int×Int}{i n:Nat}(h:qcE n ls=true)(hb:BsI ls k i i)(hf:qc8 ls k=false):qfr ls k true=ls.take i++k::ls.drop i:=by
 have hnm:k ∉ ls:=fun hm=>by rw[qd6.2 hm] at hf;cases hf
 rw[qm0 (fun y hy=>by
  obtain⟨t,ht,rfl⟩:=List.getElem_of_mem hy;exact((qs3 h).2 t ht).1) hnm]
 refine qtR ls i hb.jl (fun t ht hti=> ?_) (fun t ht hti=> ?_)
 · rw[qtO,decide_eq_false_iff_not];have:=hb.lo t ht hti;omega
 · rw[qtO,decide_eq_true_eq];have h1:=hb.hi t ht hti;have h2:qmz ls[t] k≠0:=fun e=>hnm (by rw[←qr1.1 e];exact List.getElem_mem ht);omega
theorem qtU{ls:List (Int×Int)}{k:Int×Int}{i n:Nat}(h:qcE n ls=true)(hb:BsI ls k i i)(hf:qc8 ls k=true):i<ls.length∧qfr ls k false=ls.eraseIdx i:=by
 obtain⟨hi,h0⟩:=(hb.found (qs3 h).1).2 hf;refine⟨hi,?_⟩;rw[qkX];refine qsE ls i hi (qr1.1 h0) ?_;have:=(qc6.1 h).2;refine this.imp fun{a b} hab e=> ?_;subst e;unfold ltL at hab;rw[decide_eq_true_eq] at hab;omega
end Go.Proofs.YtekaaekpdebloaaGreatDoor
namespace Go.Proofs.YtekaaekpdebloaaGreatDoor
open Go.RowKit Go.Shelf
attribute [local go_sem ↓] Go.wp_at_zero Go.wp_at_succ

theorem quB(x:Wd)(a b:Int)(up:Bool)(q o B:Nat)(vF vL vA vN:Value)(w:World)(h:MI B q o x w vF vL vA vN)(hv:WV x)(hm:qmd x a b up= !(qbk x a b==up))(hka:Bnd x.feeds.length (qbw a b)):
 Calls Tryz.prog 110 #[.pointer (some ⟨q,o,none⟩),.int .i64 a,.int .i64 b,.bool up] w (qrH B q o w (qeh x a b up)):=by
 have hwi:=hv.wi;obtain⟨hrise,hbnd⟩:=qs3 hv.ln;obtain⟨k,HK⟩:=nm_ (qbw a b);rw[HK.out] at hka;obtain⟨i,hbs⟩:=qtH hrise k;obtain⟨f,HFD⟩:=nm_ (qc8 x.links k);have HBS:=hI_ hbs;have HRS:=hI_ hrise;have HBN:=hI_ hbnd;have HKA:=hI_ hka;have hil:=hbs.jl;have hl40:x.links.length≤40:=hwi.nl;have hnm:x.feeds.length≤maxLen:=by have:=hwi.n6;unfold maxLen;omega
 have HTU:Hid (f=false→up=true→qeh x a b up={x with links:=x.links.take i++k::x.links.drop i}):=hI_ (by
  rintro rfl rfl;have hl:qbk x a b=false:=by unfold qbk;rw[HK.out];exact HFD.out
  unfold qeh;rw[hm,hl,if_pos p_,HK.out,qus hv.ln hbs HFD.out])
 have HTD:Hid (f=true→up=false→i<x.links.length∧qeh x a b up={x with links:=x.links.eraseIdx i}):=hI_ (by
  rintro rfl rfl;have hl:qbk x a b=true:=by unfold qbk;rw[HK.out];exact HFD.out
  have ht:=qtU hv.ln hbs HFD.out;refine⟨ht.1,?_⟩;unfold qeh;rw[hm,hl,if_pos p_,HK.out,ht.2])
 have HTN:Hid (f=up→qeh x a b up=x):=hI_ (by
  rintro rfl;have hl:qbk x a b=f:=by unfold qbk;rw[HK.out];exact HFD.out
  unfold qeh;rw[hm,hl];cases f <;> rfl)
 have HM0:=hI_ h;obtain⟨LA,Lc,rfl⟩:=h.p.L.r.sl;clear hm hv hwi hrise hbnd hbs hka h;go_enter Tryz.func110,Tryz.ntmps110
 go_wp2_with fail
 refine(qte HK w).mono ?_;rintro e w1 ⟨rfl,hb1⟩;obtain⟨y,HY⟩:=nm_ w1.heap.size;obtain⟨W1,HW1⟩:=nm_ (w1.alloc (.cells #[.int .i64 k.1,.int .i64 k.2] 99));have hB1:bB w W1:=by rw[←HW1.out];exact qab hb1 _
 have hy1:W1.heap[y]? =some (.cells #[.int .i64 k.1,.int .i64 k.2] 99 (0,0)):=by rw[←HW1.out,←HY.out];exact heap_alloc_new _ _
 have HM1:=hI_ (HM0.out.below hB1);have HB1:=hI_ hB1;have HY1:=hI_ hy1;have t3:=HM1.out.bx.c3;have hql:=HM1.out.lt;have hyl:=qai hy1;have HL1:Hid (RP W1 (.slice LA x.links.length Lc) x.links):=hI_ HM1.out.p.L.r;obtain⟨y0,y1,yf⟩:=qaH hy1;have HYS:Hid (w.heap.size≤y):=hI_ (by rw[←HY.out];exact hb1.size);have hw:w1.heap.size=y:=HY.out;clear hb1 hB1 hy1;go_upto_region 1 with fail
 clear hw;rw[HW1.out];have hup:=qap W1;go_wp2_with fail
 refine qoH ?_;repeat(go_big_quiet_step ((go_at_call 184;exact qal (qtI HBS HFD x.feeds.length _ _ (HL1.out.below (qao _ _)) a_ hnm HRS.out HBN.out HKA.out))))
 refine wpQuiet_nil ?_;intro w2 hw2;have hb2:=qay hw2;have HM2:=hI_ (HM1.out.below hb2);have HY2:=hI_ ((hb2.block _ (qai HY1.out)).trans HY1.out);have HB2:=hI_ (HB1.out.trans (hb2.mono HB1.out.size));clear hw2 hup hb2 t3 y0 y1 yf hql hyl;have HQK:Hid (∀ w4,w2.grownBy w4 (Value.slice LA x.links.length Lc).ownBlock→w4.heap[q]? =w2.heap[q]? ∧w4.heap[y]? =w2.heap[y]?):=hI_ (fun w4 hg=>by
  refine⟨hg.block q HM2.out.lt (fun e=> ?_),hg.block y (qai HY2.out) (fun e=> ?_)⟩
  · obtain⟨_,F,h1,_⟩:=HM2.out.p.L;obtain⟨cur,fr,hh⟩:=h1.row q e.symm;exact HM2.out.bx.row hh e_ rfl
  · have h1:=(HM0.out.p.L.lt y e.symm).2;have h2:=HYS.out;omega)
 have HPL:=hI_ (HM2.out.p.L.c);have HFZ:Hid (∀ w4:World,w4.heap[q]? =w2.heap[q]? →w4.frozen? ⟨q,o+3,none⟩=false):=hI_ (fun w4 h4=>by
  obtain⟨cur,e',hh,_⟩:=HM2.out.bx.ty;exact qgI (h4.trans hh) _)
 have HSAME:Hid (f=up→qrH B q o w (qeh x a b up) (.returned (.tuple #[])) w2):=hI_ (fun he=>by
  rw[HTN.out he];exact qrH.same HM0.out HB2.out)
 have HFIN:Hid (∀ (ls:List (Int×Int)) (v:Value) (w4:World),qeh x a b up={x with links:=ls}→w2.grownBy w4 (Value.slice LA x.links.length Lc).ownBlock→qav B 99 w4 v ls→qrH B q o w (qeh x a b up) (.returned (.tuple #[])) (w4.setCell ⟨q,o+3,none⟩ v)):=hI_ (fun ls v w4 he hg hp=>by
  rw[he];have hrow:∀ r,(Value.slice LA x.links.length Lc).ownBlock=some r→∃ cur e fr,w2.heap[r]? =some (.cells cur e fr)∧e=99:=fun r hr=>by
   obtain⟨_,F,h1,_⟩:=HM2.out.p.L;obtain⟨cur,fr,hh⟩:=h1.row r hr;exact⟨cur,_,fr,hh,rfl⟩
  have hk:qaA NL w2 w4:=qaA.of_grown hg (fun r hr=>by obtain⟨cur,e,fr,hh,rfl⟩:=hrow r hr;exact⟨cur,_,fr,hh,e_⟩);have hqk:=(HQK.out _ hg).1;have hs:=hg.size;have hbb:Below B w w4:=Below.grown (HB2.out.mono HM0.out.bs) hg HM2.out.bs (fun r hr=>(HM2.out.p.L.lt r hr).1);refine⟨rfl,_,_,_,_,MI.mkL (HM2.out.bx.heap hqk) ((HM2.out.p.F.nextT hk e_ e_ e_).mono (nr_ _) hs) ((HM2.out.p.A.nextT hk e_ e_).mono (nr_ _) hs) ((HM2.out.p.N.nextT hk e_ e_).mono (nr_ _) hs) ?_ HM0.out.bq,qaN hbb HM0.out.bq,fun j hj=> ?_⟩
  · obtain⟨F,h1,h2⟩:=hp;exact⟨h1.up_,F,h1,h2⟩
  · rw[World.cell?_setCell_other _ _ _ _ (by simp <;> omega),World.cell?_of_block hqk];exact World.cell?_of_block (HB2.out.block q HM0.out.lt))
 have t3:=HM2.out.bx.c3;have hql:=HM2.out.lt;have hyl:=qai HY2.out;obtain⟨y0,y1,yf⟩:=qaH HY2.out;cases f <;> cases up
 · go_wp2_with fail
   refine bodyPost_end (results_none Tryz.results110 _ _ _) rfl ?_;exact HSAME.out k_
 · go_upto_region 3 with fail
   have z3:w2.drew.cell? ⟨q,o+3,none⟩=_:=t3;have z0:w2.drew.cell? ⟨y,0,none⟩=_:=y0;have z1:w2.drew.cell? ⟨y,1,none⟩=_:=y1;refine qci (fun w'=>w'.cell? ⟨q,o+3,none⟩=some (.slice LA x.links.length Lc)∧w'.cell? ⟨y,0,none⟩=some (.int .i64 k.1)∧w'.cell? ⟨y,1,none⟩=some (.int .i64 k.2)) 11 d_ ⟨z3,z0,z1⟩ (fun hS hT=> ?_);refine gT_ ?_ hT hS;clear hT;refine tT_ 0 ?_;refine tT_ 1 ?_;refine tT_ 2 ?_;refine tT_ 3 ?_;refine tT_ 4 ?_;refine tT_ 5 ?_;refine tT_ 6 ?_;refine eT_ fun hT=>?_;have hb20:bB w2 (w2.alloc (.cells #[.int .i64 k.1,.int .i64 k.2] 99)).drew:=qac (qab (bR_ _ _) _);have hgl:w2.heap.size<(w2.alloc (.cells #[.int .i64 k.1,.int .i64 k.2] 99)).drew.heap.size:=by show _<(w2.heap.push _).size;simp
   refine qba (i:=7) hT rfl d_ a_ (fun K1 hK1=> ?_);go_simp;refine hK1.out _ _ ⟨(hb20.cell (p:=⟨q,o+3,none⟩) hql).trans t3,(hb20.cell (p:=⟨y,0,none⟩) hyl).trans y0,(hb20.cell (p:=⟨y,1,none⟩) hyl).trans y1⟩ (fun hT=> ?_);refine qba (i:=8) hT rfl d_ a_ (fun K2 hK2=> ?_);go_simp;have hpl:qav B 99 w2 (.slice LA x.links.length Lc) x.links:=HPL.out;go_at_call 185
   refine(qs0 x.links k i w2.heap.size B _ _ (hpl.below hb20) (heap_alloc_new _ _) (fun e=>Nat.lt_irrefl _ ((HM2.out.p.L.lt _ e).2)) hil a_ (Nat.le_trans HM2.out.bs hb20.size)).mono ?_;rintro e w4 ⟨v4,rfl,hp4,hg4⟩;obtain⟨A4,n4,c4,rfl⟩:∃ A n c,v4=Value.slice A n c:=by obtain⟨A,c,h⟩:=hp4.r.sl;exact⟨A,_,c,h⟩
   have hg24:w2.grownBy w4 (Value.slice LA x.links.length Lc).ownBlock:=qat (qaP hb20) hg4;obtain⟨hq4,hy4⟩:=HQK.out _ hg24;refine hK2.out _ _ ⟨(World.cell?_of_block hq4).trans t3,(World.cell?_of_block hy4).trans y0,(World.cell?_of_block hy4).trans y1⟩ (fun hT=> ?_);have t34:w4.cell? ⟨q,o+3,none⟩=_:=(World.cell?_of_block hq4).trans t3;refine qba (i:=9) hT rfl d_ a_ (fun K3 hK3=> ?_);go_simp;refine hK3.out _ _ ⟨t34,(World.cell?_of_block hy4).trans y0,(World.cell?_of_block hy4).trans y1⟩ (fun hT=> ?_);refine qba (i:=10) hT rfl d_ a_ (fun K4 hK4=> ?_);go_simp;refine hK4.out _ _ ⟨t34,(World.cell?_of_block hy4).trans y0,(World.cell?_of_block hy4).trans y1⟩ (fun hT=> ?_);refine qch rfl d_ d_ (fun K5 hK5=> ?_);have f4:w4.frozen? ⟨q,o+3,none⟩=false:=HFZ.out _ hq4;go_simp;refine hK5.out _ _ ?_;go_wp2_with fail
   refine bodyPost_end (results_none Tryz.results110 _ _ _) rfl ?_;exact HFIN.out _ _ _ (HTU.out k_ k_) hg24 hp4
 · have hpl:qav B 99 w2 (.slice LA x.links.length Lc) x.links:=HPL.out;have hb20:bB w2 w2:=bR_ _ _;obtain⟨hix,hwt⟩:=HTD.out k_ k_;go_wp2_with (go_at_call 186;refine(qsX x.links i B _ _ (hpl.below hb20) hix).mono ?_;rintro e w4 ⟨v4,rfl,hp4,hg4⟩;obtain⟨A4,c4,rfl⟩:=hp4.r.sl;have hg24:w2.grownBy w4 (Value.slice LA x.links.length Lc).ownBlock:=qat (qaP hb20) hg4;obtain⟨hq4,hy4⟩:=HQK.out _ hg24;have t34:=(World.cell?_of_block hq4).trans t3;have f4:w4.frozen? ⟨q,o+3,none⟩=false:=HFZ.out _ hq4)
   refine bodyPost_end (results_none Tryz.results110 _ _ _) rfl ?_;exact HFIN.out _ _ _ hwt hg24 hp4
 · go_wp2_with fail
   refine bodyPost_end (results_none Tryz.results110 _ _ _) rfl ?_;exact HSAME.out k_
end Go.Proofs.YtekaaekpdebloaaGreatDoor

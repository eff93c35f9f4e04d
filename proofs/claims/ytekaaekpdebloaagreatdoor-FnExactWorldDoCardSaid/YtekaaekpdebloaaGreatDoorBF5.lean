/- Words and walks of the law. -/
import Derived.Test.YtekaaekpdebloaaGreatDoorBE5
import Derived.Deep.Draws
import Derived.Deep.OwnRows
set_option linter.unusedVariables false
set_option linter.unusedSimpArgs false
set_option maxHeartbeats 12800000
set_option maxRecDepth 100000
namespace Go.Proofs.YtekaaekpdebloaaGreatDoor
open Go.RowKit

theorem qbH{f:Fd}(h:qaq f=true):∀ s ∈ f.bl,s.size≤8:=by
 simp only[qaq,Bool.and_eq_true,beq_iff_eq] at h;obtain⟨⟨⟨⟨_,h1⟩,h2⟩,h3⟩,_⟩:=h;exact qcT a_ h3
theorem qax{f:Fd}(h:qaq f=true):f.bl.length=f.hv.length∧f.bl.length≤16∧(f.bl.length:Int)=f.hd.len:=by
 simp only[qaq,Bool.and_eq_true,beq_iff_eq,Bool.or_eq_true] at h;obtain⟨⟨⟨⟨⟨_,h0⟩,h1⟩,h2⟩,h3⟩,_⟩:=h;refine⟨a_,?_,h1⟩;rcases h0 with h0|h0
 · simp only[Hd.isZero,Bool.and_eq_true,beq_iff_eq] at h0;omega
 · simp only[qbE,Bool.and_eq_true] at h0;have:=qak.1 h0.1.1.1.2;omega
theorem qbp{f:Fd}{b:Bool}(hb:Hid (qaq f=b))(vb vh:Value)(w:World)(hf:qaU w f vb vh):
 gV 70 #[.agg #[.int .i64 f.pub,.int .i64 f.hd.len,.int .i64 f.hd.dg,.int .i64 f.hd.sg,vb,vh]] w (.bool b):=by
 rw[←hb.out];exact qiW f vb vh w hf
theorem qbD{f:Fd}{b:Bool}(hb:Hid (qaq f=b))(vb vh:Value)(w:World)(hf:qaU w f vb vh):
 gV 56 #[.agg #[.int .i64 f.pub,.int .i64 f.hd.len,.int .i64 f.hd.dg,.int .i64 f.hd.sg,vb,vh]] w (.bool b):=by
 rw[←hb.out];exact qiX f vb vh w hf

end Go.Proofs.YtekaaekpdebloaaGreatDoor
namespace Go.Proofs.YtekaaekpdebloaaGreatDoor

theorem qiG(l:List Int)(i:Nat):∀ k,qb0 i 0 (l.getD i 0) (qgd l i k)=qbU l k (i/2 ^ k*2 ^ k)
 |0=>by simp[qgd,qb0,qbU]
 |k+1=>by
  have hl:(qgd l i k).length=k:=by simp[qgd]
  rw[qge,qec,qiG l i k,hl,Nat.zero_add];have e:i/2 ^ (k+1)=i/2 ^ k/2:=by rw[Nat.pow_succ,Nat.div_div_eq_div_mul]
  have e2:(2:Nat) ^ (k+1)=2*2 ^ k:=by rw[Nat.pow_succ,Nat.mul_comm]
  rw[e,e2]
  conv=>rhs;unfold qbU
  unfold sib;generalize i/2 ^ k=a
  generalize 2 ^ k=m
  by_cases h:a%2=0
  · rw[if_pos h,if_pos h];have:a/2*(2*m)=a*m:=by rw[←Nat.mul_assoc];congr 1;omega
    rw[this]
  · rw[if_neg h,if_neg h];have h1:a*m=a/2*(2*m)+m:=by
      rw[←Nat.mul_assoc];have:a=a/2*2+1:=by omega
      calc a*m=(a/2*2+1)*m:=by rw[←this]
       _=a/2*2*m+m:=by rw[Nat.add_mul,Nat.one_mul]
    rw[h1,Nat.add_sub_cancel]
theorem qjd{l:List Int}(hl:l.length≤16){i:Nat}(hi:i<l.length):qbl (qdI l.length (qdX l)) l.length i (l.getD i 0) (qcg l i)=true:=by
 obtain⟨p1,p2,p3,p4,p5,p6,p7,p8,p9⟩:=qhA l.length (by omega) i hi;have hs:(qgd l i (lev l.length i)).length=lev l.length i:=by simp[qgd]
 have ho:(others l i).length=(qaz 0 l.length).length-1:=by simp[others,List.length_eraseIdx,p1]
 have hroot:qbU l (lev l.length i) (i/2 ^ lev l.length i*2 ^ lev l.length i)=qdK l (pkT l.length i):=by
  unfold qdK;show _=qbU l (lev l.length i) _;congr 1;rw[←p2,p9];congr 1;have hpos:0<(pkT l.length i).2:=by omega
  generalize(pkT l.length i).1=a at*
  generalize(pkT l.length i).2=s at*
  have h1:a/s*s≤i:=by omega
  have h2:i<a/s*s+s:=by omega
  apply Nat.le_antisymm
  · have:=Nat.div_lt_of_lt_mul (m:=i) (n:=s) (k:=a/s+1) (by rw[Nat.mul_add,Nat.mul_one,Nat.mul_comm];exact h2);omega
  · exact(Nat.le_div_iff_mul_le hpos).2 h1
 unfold qbl qcg;rw[List.length_append,hs,ho,List.take_left' hs,List.drop_left' hs,qiG,hroot];have hpk:(qaz 0 l.length)[qbM l.length i]=pkT l.length i:=by unfold pkT;rw[List.getD_eq_getElem?_getD,List.getElem?_eq_getElem p1];rfl
 have e:(others l i).take (qbM l.length i)++[qdK l (pkT l.length i)]++(others l i).drop (qbM l.length i)=qdX l:=by
  unfold others qdX;rw[List.eraseIdx_eq_take_drop_succ,List.map_append,←hpk];have hlen:(List.map (qdK l) (List.take (qbM l.length i) (qaz 0 l.length))).length=qbM l.length i:=by simp;omega
  rw[List.take_left' hlen,List.drop_left' hlen];have:=List.take_append_drop (qbM l.length i) (qaz 0 l.length);rw[List.drop_eq_getElem_cons p1] at this
  conv=>rhs;rw[←this,List.map_append,List.map_cons]
  rw[List.append_assoc];rfl
 rw[e];simp
theorem qeI{l:List Int}{i:Int}(hl:qaE l=true)(hi:inB i 0 ((l.length:Int)-1)=true)(hd:dig (l.getD i.toNat 0)=true)(hp:qb7 (qaQ l i)=true):
 qaT (qbN l) l.length i (l.getD i.toNat 0) (qaQ l i)=true:=by
 have h1:=(qaJ.1 hl).1;have h2:=qak.1 hi;unfold qaT;have hn:((l.length:Int)).toNat=l.length:=by simp
 rw[hn,hd,hp,hi,qak.2 (show(1:Int)≤(l.length:Int)∧(l.length:Int)≤16 by omega)];unfold qbN qaQ;rw[hl,hi];simp only[if_true,Bool.true_and,Bool.and_self];exact qjd h1 (by omega)
theorem qjC{l:List Int}(hl:l.length≤16)(hd:qb7 l=true){i:Nat}(hi:i<l.length):qb7 (qcg l i)=true:=by
 have hk:=ql7 l.length (by omega) i hi;unfold qb7 qcg;rw[List.all_append,Bool.and_eq_true];constructor
 · unfold qgd;rw[List.all_map,List.all_eq_true];intro j hj;have hj':=List.mem_range.1 hj;exact qdr hd _ _ (hk j hj')
 · unfold others;rw[List.all_map,List.all_eq_true];intro t ht;exact qiM hd hl (Nat.zero_le _) (List.mem_of_mem_eraseIdx ht)
theorem qga{l:List Int}(i:Int):qb7 (qaQ l i)=true:=by
 unfold qaQ;split
 · rename_i h
   simp only[Bool.and_eq_true] at h;have h1:=qaJ.1 h.1;have h2:=qak.1 h.2;exact qjC h1.1 h1.2 (by omega)
 · rfl
theorem qlW{bl:List ByteArray}{i:Nat}(hi:i<bl.length):(lvs bl).getD i 0=qbi bl[i].data.toList:=by
 unfold lvs;rw[List.getD_eq_getElem?_getD,List.getElem?_map,List.getElem?_eq_getElem hi];rfl
def Fd.put(f:Fd)(i:Nat)(t:ByteArray):Fd:={f with bl:=f.bl.set i t,hv:=f.hv.set i true}
def Fd.zero:Fd:=⟨0,⟨0,0,0⟩,[],[]⟩
def qbR(f:Fd)(i:Int)(t:ByteArray)(proof:List Int):Bool:=
 inB i 0 ((f.bl.length:Int)-1)&& !(f.hv.getD i.toNat false)&&qaT f.hd.dg f.hd.len i (qbi t.data.toList) proof
def qes(f:Fd)(i:Int)(t:ByteArray)(proof:List Int):Fd×Bool:=
 if qaq f&&decide (t.size≤8) then
  if qbR f i t proof&&qaq (f.put i.toNat t) then (f.put i.toNat t,true) else (f,false)
 else (Fd.zero,false)
theorem qfO{f:Fd}{i:Int}{t:ByteArray}{proof:List Int}(h:(qes f i t proof).2=true):qaq f=true∧t.size≤8∧qbR f i t proof=true∧qaq (f.put i.toNat t)=true∧(qes f i t proof).1=f.put i.toNat t:=by
 unfold qes at*;split at h
 · rename_i h1
   rw[if_pos h1];split at h
   · rename_i h2
     rw[if_pos h2];simp only[Bool.and_eq_true,decide_eq_true_eq] at h1 h2;exact⟨h1.1,h1.2,h2.1,h2.2,rfl⟩
   · cases h
 · cases h
end Go.Proofs.YtekaaekpdebloaaGreatDoor
namespace Go.Proofs.YtekaaekpdebloaaGreatDoor
open Go.RowKit

theorem qnF(l:List Int)(va vb:Value)(w:World)(ha:R1 (Value.int .i64) w va l)(hb:R1 (Value.int .i64) w vb l):
 gV 233 #[va,vb] w (.bool true):=by
 have HA:=hI_ ha;have HB:=hI_ hb;have hm:=ha.len;obtain⟨A,c,rfl,h1,h2,h3⟩:=ha;obtain⟨A2,c2,rfl,q1,q2,q3⟩:=hb;unfold maxLen at hm;clear h3 q3 h1 q1 h2 q2;have hnn:((l.length:Int)!=(l.length:Int))=false:=k_;go_enter Tryz.func233,Tryz.ntmps233
 go_wp2
 go_loopw [5] (fun i wr=>∃ k:Nat,k≤l.length∧i=.int .i64 k∧bB w wr) (fun i _=>l.length-(intOf i).toNat)
 case atStart=>exact⟨0,Nat.zero_le _,rfl,bR_ _ _⟩
 case round=>
  obtain⟨k,hk,rfl,hbw⟩:=hrel;by_cases hlt:k<l.length
  · obtain⟨_,_,hA,_,_,hc⟩:=HA.out.below hbw;cases hA;obtain⟨b,o,rfl,hbs,hc⟩:=hc a_;have e1:=hc k hlt;obtain⟨_,_,hA,_,_,hc2⟩:=HB.out.below hbw;cases hA;obtain⟨b',o',rfl,hbs',hc2⟩:=hc2 a_;have e2:=hc2 k hlt;clear hc hc2;generalize l[k]=x at*
    have hup:=qap wr;have hki:(k:Int)<(l.length:Int):=a_;have hk0:(0:Int)≤(k:Int):=a_;go_wp2
    refine qoH ?_;repeat(go_big_quiet_step (fail))
    refine wq_ fun w1 hb1=>?_;clear hup;go_wp2
    go_roundw
    case rel=>exact⟨k+1,a_,t_,hbw.trans (hb1.mono hbw.size)⟩
    case measure=>simp[intOf];omega
  · go_wp2
    go_ret;exact⟨rfl,hbw⟩

theorem qgv(l:List ByteArray)(va vb:Value)(w:World)(ha:R1 (Value.string) w va l)(hb:R1 (Value.string) w vb l):
 gV 230 #[va,vb] w (.bool true):=by
 have HA:=hI_ ha;have HB:=hI_ hb;have hm:=ha.len;obtain⟨A,c,rfl,h1,h2,h3⟩:=ha;obtain⟨A2,c2,rfl,q1,q2,q3⟩:=hb;unfold maxLen at hm;clear h3 q3 h1 q1 h2 q2;have hnn:((l.length:Int)!=(l.length:Int))=false:=k_;go_enter Tryz.func230,Tryz.ntmps230
 go_wp2
 go_loopw [5] (fun i wr=>∃ k:Nat,k≤l.length∧i=.int .i64 k∧bB w wr) (fun i _=>l.length-(intOf i).toNat)
 case atStart=>exact⟨0,Nat.zero_le _,rfl,bR_ _ _⟩
 case round=>
  obtain⟨k,hk,rfl,hbw⟩:=hrel;by_cases hlt:k<l.length
  · obtain⟨_,_,hA,_,_,hc⟩:=HA.out.below hbw;cases hA;obtain⟨b,o,rfl,hbs,hc⟩:=hc a_;have e1:=hc k hlt;obtain⟨_,_,hA,_,_,hc2⟩:=HB.out.below hbw;cases hA;obtain⟨b',o',rfl,hbs',hc2⟩:=hc2 a_;have e2:=hc2 k hlt;clear hc hc2;generalize l[k]=x at*
    have hup:=qap wr;have hki:(k:Int)<(l.length:Int):=a_;have hk0:(0:Int)≤(k:Int):=a_;go_wp2
    refine qoH ?_;repeat(go_big_quiet_step (fail))
    refine wq_ fun w1 hb1=>?_;clear hup;go_wp2
    go_roundw
    case rel=>exact⟨k+1,a_,t_,hbw.trans (hb1.mono hbw.size)⟩
    case measure=>simp[intOf];omega
  · go_wp2
    go_ret;exact⟨rfl,hbw⟩

theorem qid(l:List Bool)(va vb:Value)(w:World)(ha:R1 (Value.bool) w va l)(hb:R1 (Value.bool) w vb l):
 gV 231 #[va,vb] w (.bool true):=by
 have HA:=hI_ ha;have HB:=hI_ hb;have hm:=ha.len;obtain⟨A,c,rfl,h1,h2,h3⟩:=ha;obtain⟨A2,c2,rfl,q1,q2,q3⟩:=hb;unfold maxLen at hm;clear h3 q3 h1 q1 h2 q2;have hnn:((l.length:Int)!=(l.length:Int))=false:=k_;go_enter Tryz.func231,Tryz.ntmps231
 go_wp2
 go_loopw [5] (fun i wr=>∃ k:Nat,k≤l.length∧i=.int .i64 k∧bB w wr) (fun i _=>l.length-(intOf i).toNat)
 case atStart=>exact⟨0,Nat.zero_le _,rfl,bR_ _ _⟩
 case round=>
  obtain⟨k,hk,rfl,hbw⟩:=hrel;by_cases hlt:k<l.length
  · obtain⟨_,_,hA,_,_,hc⟩:=HA.out.below hbw;cases hA;obtain⟨b,o,rfl,hbs,hc⟩:=hc a_;have e1:=hc k hlt;obtain⟨_,_,hA,_,_,hc2⟩:=HB.out.below hbw;cases hA;obtain⟨b',o',rfl,hbs',hc2⟩:=hc2 a_;have e2:=hc2 k hlt;clear hc hc2;generalize l[k]=x at*
    have hup:=qap wr;have hki:(k:Int)<(l.length:Int):=a_;have hk0:(0:Int)≤(k:Int):=a_;go_wp2
    refine qoH ?_;repeat(go_big_quiet_step (fail))
    refine wq_ fun w1 hb1=>?_;clear hup;go_wp2
    go_roundw
    case rel=>exact⟨k+1,a_,t_,hbw.trans (hb1.mono hbw.size)⟩
    case measure=>simp[intOf];omega
  · go_wp2
    go_ret;exact⟨rfl,hbw⟩

theorem qjh(a b c:Int)(w:World):gV 229 #[.agg #[.int .i64 a,.int .i64 b,.int .i64 c],.agg #[.int .i64 a,.int .i64 b,.int .i64 c]] w (.bool true):=by
 go_enter Tryz.func229,Tryz.ntmps229
 go_wp2
 go_ret;exact⟨rfl,((bR_ _ _).alloc (nr_ _) _).alloc k_ _⟩
theorem qnE(f:Fd)(va vb ua ub:Value)(w:World)(ha:qaU w f va vb)(hb:qaU w f ua ub):
 gV 164 #[.agg #[.int .i64 f.pub,.int .i64 f.hd.len,.int .i64 f.hd.dg,.int .i64 f.hd.sg,va,vb],.agg #[.int .i64 f.pub,.int .i64 f.hd.len,.int .i64 f.hd.dg,.int .i64 f.hd.sg,ua,ub]] w (.bool true):=by
 have HA:=hI_ ((ha.alloc (.cells #[.int .i64 f.pub,.int .i64 f.hd.len,.int .i64 f.hd.dg,.int .i64 f.hd.sg,va,vb] 50)).alloc (.cells #[.int .i64 f.pub,.int .i64 f.hd.len,.int .i64 f.hd.dg,.int .i64 f.hd.sg,ua,ub] 50));have HB:=hI_ ((hb.alloc (.cells #[.int .i64 f.pub,.int .i64 f.hd.len,.int .i64 f.hd.dg,.int .i64 f.hd.sg,va,vb] 50)).alloc (.cells #[.int .i64 f.pub,.int .i64 f.hd.len,.int .i64 f.hd.dg,.int .i64 f.hd.sg,ua,ub] 50));go_enter Tryz.func164,Tryz.ntmps164
 go_wp2_with (first
  |(go_at_call 229;refine(qjh _ _ _ _).mono ?_;rintro e w1 ⟨rfl,hb1⟩;have hcc1:=qeY hb1)
  |(go_at_call 230;refine(qgv f.bl _ _ _ (HA.out.below hb1).bl (HB.out.below hb1).bl).mono ?_;rintro e w2 ⟨rfl,hb2⟩;have hb12:=qa3 hb1 hb2;have hcc2:=qeY hb12)
  |(go_at_call 231;refine(qid f.hv _ _ _ (HA.out.below hb12).hv (HB.out.below hb12).hv).mono ?_;rintro e w3 ⟨rfl,hb3⟩;have hb13:=qa3 hb12 hb3))
 go_ret;exact⟨rfl,(((bR_ _ _).alloc (nr_ _) _).alloc k_ _).trans (hb13.mono n_)⟩
def Rdr(w:World)(g P:Nat):Prop:=
 ∃ (bs:List UInt8) (A:Option Addr) (c p:Nat),w.heap[g]? =some (.cells #[.slice A bs.length c,.int .i64 p] 133 (0,0))∧p≤P∧bs.length≤2000∧bs.length≤c∧
  (0<bs.length→∃ b o,A=some ⟨b,o,none⟩∧b<g∧∀ j (hj:j<bs.length),w.cell? ⟨b,o+j,none⟩=some (.int .u8 (bs[j].toNat:Int)))
theorem Rdr.mono{w:World}{g P Q:Nat}(h:Rdr w g P)(hPQ:P≤Q):Rdr w g Q:=by
 obtain⟨bs,A,c,p,h1,h2,h3,h4,h5⟩:=h;exact⟨bs,A,c,p,h1,a_,h3,h4,h5⟩
theorem Rdr.lt{w:World}{g P:Nat}(h:Rdr w g P):g<w.heap.size:=by
 obtain⟨bs,A,c,p,h1,_⟩:=h;exact(Array.getElem?_eq_some_iff.1 h1).1
theorem Rdr.keep{w w':World}{g P:Nat}(h:Rdr w g P)(hb:∀ k,k≤g→w'.heap[k]? =w.heap[k]?):Rdr w' g P:=by
 obtain⟨bs,A,c,p,h1,h2,h3,h4,h5⟩:=h;refine⟨bs,A,c,p,(hb g (nr_ _)).trans h1,h2,h3,h4,fun hl=> ?_⟩;obtain⟨b,o,hA,hbg,hc⟩:=h5 hl;exact⟨b,o,hA,hbg,fun j hj=>(World.cell?_of_block (hb b a_)).trans (hc j hj)⟩
theorem Rdr.below{w w':World}{g P:Nat}(h:Rdr w g P)(hb:bB w w'):Rdr w' g P:=h.keep fun k hk=>hb.block k (by have:=h.lt;omega)
abbrev qbb (g:Nat) (w w':World):Prop:=w.grownBy w' (some g)
theorem qbb.refl(g:Nat)(w:World):qbb g w w:=⟨rfl,rfl,rfl,nr_ _,fun _ _ _=>rfl⟩
theorem qbb.trans{g:Nat}{a b c:World}(h:qbb g a b)(k:qbb g b c):qbb g a c:=
 ⟨k.os.trans h.os,k.tape.trans h.tape,k.output.trans h.output,Nat.le_trans h.size k.size,fun i hi hne=>(k.block i (nL_ hi h.size) hne).trans (h.block i hi hne)⟩
theorem qbb.of_below{g:Nat}{a b:World}(h:bB a b):qbb g a b:=⟨h.os,h.tape,h.output,h.size,fun i hi _=>h.block i hi⟩
theorem qbb.thenB{g:Nat}{a b c:World}(h:qbb g a b)(k:bB b c):qbb g a c:=h.trans (qbb.of_below k)
theorem qbb.below{g B:Nat}{a b:World}(h:qbb g a b)(hB:B≤g)(hs:g<a.heap.size):Below B a b:=⟨h.os,h.tape,h.output,h.size,fun k hk=>h.block k a_ (fun e=>by have:k=g:=Option.some.inj e;omega)⟩
theorem O1.only{α:Type}{enc:α→Value}{B:Nat}{e:TypeId}{w w':World}{v:Value}{l:List α}{g:Nat}(h:O1 enc B e w v l)(hb:qbb g w w')(hg:g<B):O1 enc B e w' v l:=by
 refine⟨h.1,?_⟩;rcases h.2 with hn|⟨k,cap,cur,hv,hk,hh,r⟩
 · exact .inl hn
 · exact .inr ⟨k,cap,cur,hv,hk,(hb.block k (Array.getElem?_eq_some_iff.1 hh).1 (fun e=>by have:k=g:=Option.some.inj e;omega)).trans hh,r⟩

structure Mid (B1 B2:Nat) (w w':World):Prop where
 os:w'.os=w.os
 tape:w'.tape=w.tape
 output:w'.output=w.output
 size:w.heap.size≤w'.heap.size
 block:∀ k,k<w.heap.size→(k<B1∨B2≤k)→w'.heap[k]? =w.heap[k]?
theorem Mid.refl(B1 B2:Nat)(w:World):Mid B1 B2 w w:=⟨rfl,rfl,rfl,nr_ _,fun _ _ _=>rfl⟩
theorem Mid.trans{B1 B2:Nat}{a b c:World}(h:Mid B1 B2 a b)(k:Mid B1 B2 b c):Mid B1 B2 a c:=
 ⟨k.os.trans h.os,k.tape.trans h.tape,k.output.trans h.output,Nat.le_trans h.size k.size,fun i hi hd=>(k.block i (nL_ hi h.size) hd).trans (h.block i hi hd)⟩
theorem Mid.of_below{B1 B2:Nat}{a b:World}(h:bB a b):Mid B1 B2 a b:=⟨h.os,h.tape,h.output,h.size,fun k hk _=>h.block k hk⟩
theorem Mid.below{B1 B2 B:Nat}{a b:World}(h:Mid B1 B2 a b)(hB:B≤B1)(hs:B≤a.heap.size):Below B a b:=⟨h.os,h.tape,h.output,h.size,fun k hk=>h.block k a_ (.inl a_)⟩
theorem O1.grown{α:Type}{enc:α→Value}{B:Nat}{e:TypeId}{w w':World}{v:Value}{l:List α}{row:Option Nat}(h:O1 enc B e w v l)(hb:w.grownBy w' row)(hne:v.ownBlock=none∨v.ownBlock≠row):O1 enc B e w' v l:=World.ownsRow.kept h hb hne
theorem O1.ne_{α β:Type}{e1:α→Value}{e2:β→Value}{B1 B2:Nat}{t1 t2:TypeId}{w:World}{v1 v2:Value}{l1:List α}{l2:List β}(h1:O1 e1 B1 t1 w v1 l1)(h2:O1 e2 B2 t2 w v2 l2)(ht:t1≠t2):v1.ownBlock=none∨v1.ownBlock≠v2.ownBlock:=by
 rcases h1.2 with⟨rfl,_⟩|⟨k,cap,cur,rfl,hk,hh,r⟩
 · exact .inl rfl
 · refine .inr fun he=> ?_;rcases h2.2 with⟨rfl,_⟩|⟨k2,cap2,cur2,rfl,hk2,hh2,r2⟩
   · simp[Value.ownBlock] at he
   · simp only[Value.ownBlock,Option.some.injEq] at he;subst he;rw[hh] at hh2;injection hh2 with hh2
     injection hh2 with _ h3
     exact ht h3
theorem O1.lt{α:Type}{enc:α→Value}{B:Nat}{e:TypeId}{w:World}{v:Value}{l:List α}(h:O1 enc B e w v l):∀ k,v.ownBlock=some k→B≤k∧k<w.heap.size:=World.ownsRow.lt h

theorem qfy:(Tryz.prog.info? 9).map (fun i=>(i.zero,i.size,i.bytes))=some (some (.string ⟨#[]⟩),1,16):=by kernel_rfl
theorem qeM:(Tryz.prog.info? 4).map (fun i=>(i.zero,i.size,i.bytes))=some (some (.bool false),1,1):=by kernel_rfl

end Go.Proofs.YtekaaekpdebloaaGreatDoor

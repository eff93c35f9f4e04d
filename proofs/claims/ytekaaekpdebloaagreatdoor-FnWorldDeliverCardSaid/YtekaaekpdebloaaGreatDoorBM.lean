/- Words and walks of the law. -/
import Derived.Test.YtekaaekpdebloaaGreatDoorBL
set_option linter.unusedVariables false
set_option linter.unusedSimpArgs false
namespace Go.Proofs.YtekaaekpdebloaaGreatDoor
open Go.RowKit

theorem qmR(bl:List ByteArray)(n:Nat):lvs (bl.take n)=(lvs bl).take n:=by simp[lvs,List.map_take]
theorem qa6.at0{w:World}{A:Option Addr}{n c:Nat}{fs:List Fd}(h:qa6 w (.slice A n c) fs)(hj:0<fs.length):
 ∃ b o x y,A=some ⟨b,o,none⟩∧b<w.heap.size∧w.cell? ⟨b,o,none⟩=some (.int .i64 (fs.getD 0 Fd.none).pub)∧w.cell? ⟨b,o+1,none⟩=some (.int .i64 (fs.getD 0 Fd.none).hd.len)∧w.cell? ⟨b,o+2,none⟩=some (.int .i64 (fs.getD 0 Fd.none).hd.dg)∧w.cell? ⟨b,o+3,none⟩=some (.int .i64 (fs.getD 0 Fd.none).hd.sg)∧w.cell? ⟨b,o+4,none⟩=some x∧w.cell? ⟨b,o+5,none⟩=some y∧qaU w (fs.getD 0 Fd.none) x y:=by
 obtain⟨b,o,x,y,h1,h2,h3⟩:=h.at_ hj;rw[Nat.zero_mul,Nat.add_zero] at h3;rw[qam hj];exact⟨b,o,x,y,h1,h2,h3⟩
set_option maxHeartbeats 800000 in
theorem qc3(fs:List Fd)(n:Nat)(s b:Int)(vF vL vA vN:Value)(w:World)(hF:qa6 w vF fs)(h0:0<fs.length)(hn:n≤(fs.getD 0 Fd.none).bl.length)(h16:(fs.getD 0 Fd.none).bl.length≤16)(hs:∀ t ∈ (fs.getD 0 Fd.none).bl,t.size≤8):
 Calls Tryz.prog 134 #[.agg #[.int .i64 s,.int .i64 b,vF,vL,vA,vN],.int .i64 n] w fun e w'=>∃ v',e=.returned v'∧O1 (Value.int .i64) w.heap.size 3 w' v' ((lvs (fs.getD 0 Fd.none).bl).take n)∧Below w.heap.size w w':=by
 obtain⟨W0,HW0⟩:=nm_ (w.alloc (.cells #[.int .i64 s,.int .i64 b,vF,vL,vA,vN] 28));have HB0:Hid (Below w.heap.size w W0):=hI_ q_;obtain⟨A,c,rfl⟩:=hF.sl;have hp:W0.heap[w.heap.size]? =some (.cells #[.int .i64 s,.int .i64 b,.slice A fs.length c,vL,vA,vN] 28 (0,0)):=by rw[←HW0.out];exact heap_alloc_new w _
 obtain⟨b0,o,x,y,rfl,hbs,c0,c1,c2,c3,c4,c5,c6⟩:=(hF.below HB0.out).at0 h0;obtain⟨p0,p1,p2,p3,p4,p5,pf⟩:=qaa hp;have hm:=hF.len;unfold maxLen at hm;generalize fs.getD 0 Fd.none=f at*
 have h0i:(0:Int)<(fs.length:Int):=a_;have HT:=c6.bl;obtain⟨xA,xc,rfl⟩:=HT.sl';have hcap:f.bl.length≤xc∧xc≤9223372036854775807:=by
  obtain⟨_,_,e0,h1,h2,_⟩:=HT;cases e0
  unfold maxLen at h2;exact⟨h1.1,h2⟩
 obtain⟨hc1,hc2⟩:=hcap;have hnc:n≤xc:=a_;have HTT:=hI_ (HT.take hn);have HS:=hI_ (fun t ht=>Nat.le_trans (hs t (List.mem_of_mem_take ht)) (by unfold maxLen;omega:8≤maxLen):∀ t ∈ f.bl.take n,t.size≤maxLen);clear HT hF hp c6 hs;rw[←HW0.out] at c4;go_enter Tryz.func134,Tryz.ntmps134
 go_wp2_with fail
 rw[HW0.out];refine(qdC (f.bl.take n) _ W0 HTT.out n_ HS.out).mono ?_;rintro e w1 ⟨v',rfl,ho,hb1⟩;rw[qmR] at ho;go_wp2
 go_ret;exact⟨v',rfl,ho.mono HB0.out.size,HB0.out.trans (hb1.mono HB0.out.size)⟩
theorem qcp{n k:Nat}{l:List (Int×Int)}(h:k<l.length)(hp:qdV n l k=false):qcE n l=false:=qdi h hp
set_option maxHeartbeats 3200000 in
theorem qkK(s b:Int)(n cF:Nat)(AF:Option Addr)(l:List (Int×Int))(vL vA vN:Value)(w:World)(hL:RP w vL l)(hn:n≤maxLen):
 Calls Tryz.prog 58 #[.agg #[.int .i64 s,.int .i64 b,.slice AF n cF,vL,vA,vN]] w fun e w'=>e=.returned (.bool (qcE n l))∧Below w.heap.size w w':=by
 obtain⟨W0,HW0⟩:=nm_ (w.alloc (.cells #[.int .i64 s,.int .i64 b,.slice AF n cF,vL,vA,vN] 28));have HB0:Hid (Below w.heap.size w W0):=hI_ q_;obtain⟨A,c,rfl⟩:=hL.sl;have hp:W0.heap[w.heap.size]? =some (.cells #[.int .i64 s,.int .i64 b,.slice AF n cF,.slice A l.length c,vA,vN] 28 (0,0)):=by rw[←HW0.out];exact heap_alloc_new w _
 have lp:=(Array.getElem?_eq_some_iff.1 hp).1;have HP:=hI_ hp;have HV:=hI_ (hL.below HB0.out);have hm:=hL.len;unfold maxLen at hm hn;clear hL hp;go_enter Tryz.func58,Tryz.ntmps58
 go_wp2
 rw[HW0.out];go_loopw [3] (fun i wr=>∃ k:Nat,k≤l.length∧i=.int .i64 k∧qdv k (qdV n l)=true∧Below W0.heap.size W0 wr) (fun i _=>l.length-(intOf i).toNat)
 case atStart=>exact⟨0,Nat.zero_le _,rfl,qb9,bR_ _ _⟩
 case round=>
  obtain⟨k,hk,rfl,hno,hbw⟩:=hrel;have HNO:=hI_ hno;have HBW:=hI_ hbw;obtain⟨p0,p1,p2,p3,p4,p5,pf⟩:=qaa ((hbw.block _ lp).trans HP.out);have lpr:=nL_ lp hbw.size;clear hno hbw;by_cases hlt:k<l.length
  case neg=>
   obtain rfl:k=l.length:=a_;go_wp2
   go_ret;exact⟨qaM HNO.out.symm,HB0.out.trans (HBW.out.mono HB0.out.size)⟩
  obtain⟨b',o,rfl,hbs,e0,e1⟩:=(HV.out.below HBW.out).at_ hlt;have hki:(k:Int)<(l.length:Int):=a_;have hk0:(0:Int)≤(k:Int):=a_;obtain⟨y,HYE⟩:=nm_ (l[k]);obtain⟨bp,HPR⟩:=nm_ ((k==0||ltL (l.getD (k-1) (0,0)) y));have HAT:Hid (qdV n l k=(inB y.1 0 ((n:Int)-1)&&inB y.2 (y.1+1) ((n:Int)-1)&&bp)):=hI_ (by unfold qdV qc5;rw[qam hlt,HYE.out,HPR.out]);rw[HYE.out] at e0 e1;obtain⟨W1,HW1⟩:=nm_ (wr.alloc (.cells #[.int .i64 y.1,.int .i64 y.2] 99));have HBU:Hid (Below W0.heap.size W0 W1):=hI_ aF_;have hq:W1.heap[wr.heap.size]? =some (.cells #[.int .i64 y.1,.int .i64 y.2] 99 (0,0)):=by rw[←HW1.out];exact heap_alloc_new wr _
  have q0:W1.cell? ⟨wr.heap.size,0,none⟩=some (.int .i64 y.1):=cell_of_row _ _ 0 _ _ _ hq;have q1:W1.cell? ⟨wr.heap.size,1,none⟩=some (.int .i64 y.2):=cell_of_row _ _ 1 _ _ _ hq;have lq:wr.heap.size<W1.heap.size:=(Array.getElem?_eq_some_iff.1 hq).1;obtain⟨u0,u1,u2,u3,u4,u5,uf⟩:=qaa ((HBU.out.block _ lp).trans HP.out);have lpu:=nL_ lp HBU.out.size;obtain⟨_,_,hAe,hbs1,f0,f1⟩:=(HV.out.below HBU.out).at_ hlt;cases hAe
  rw[HYE.out] at f0 f1;clear hq;cases h1:inB y.1 0 ((n:Int)-1)
  · rw[h1] at HAT;go_wp2_with (go_at_call 124;refine(qaV _ _ _ _).mono ?_;rintro e w' ⟨rfl,rfl⟩)
    go_ret;exact⟨qaM (qcp hlt aP_).symm,HB0.out.trans ((HBW.out.alloc HBW.out.size _).mono HB0.out.size)⟩
  obtain⟨hy0,hy1⟩:=qak.1 h1;cases h2:inB y.2 (y.1+1) ((n:Int)-1)
  · rw[h1,h2] at HAT;go_wp2_with (go_at_call 124;refine(qaV _ _ _ _).mono ?_;rintro e w' ⟨rfl,rfl⟩)
    go_ret;exact⟨qaM (qcp hlt aP_).symm,HB0.out.trans ((HBW.out.alloc HBW.out.size _).mono HB0.out.size)⟩
  rw[h1,h2] at HAT;go_wp2_with (go_at_call 124;refine(qaV _ _ _ _).mono ?_;rintro e w' ⟨rfl,rfl⟩)
  rw[HW1.out];clear p0 p1 p2 p3 p4 p5 pf e0 e1;have hup:=qap W1;by_cases hk00:k=0
  · subst hk00;go_wp2
    refine qoH ?_;repeat(go_big_quiet_step (fail))
    refine wq_ fun w1 hb1=>?_;clear hup;go_wp2
    go_roundw
    case rel=>exact⟨0+1,a_,t_,qbh HNO.out (by rw[HAT.out,←HPR.out];rfl),HBU.out.trans (hb1.mono HBU.out.size)⟩
    case measure=>simp[intOf];omega
  have hkp:(0:Int)<(k:Int):=a_;have hkn:0<k:=a_;obtain⟨m,hkm⟩:∃ m:Nat,(k:Int)-1=(m:Int):=⟨k-1,a_⟩
  have hmk:m<l.length:=a_;obtain⟨_,_,hAe,_,g0,g1⟩:=(HV.out.below HBU.out).at_ hmk;cases hAe
  have hm0:(0:Int)≤(m:Int):=a_;have hmi:(m:Int)<(l.length:Int):=a_;have HPZ:Hid (bp=ltL l[m] y):=hI_ (by rw[←HPR.out,show k-1=m by omega,qam hmk];simp[hk00]);generalize l[m]=z at*
  by_cases h3:y.1<z.1
  · have HBP:Hid (bp=false):=hI_ aN_;go_wp2
    refine qoH ?_;repeat(go_big_quiet_step (fail))
    refine wq_ fun w1 hb1=>?_;clear hup;go_wp2
    go_ret;exact⟨qaM (qcp hlt a1_).symm,HB0.out.trans ((HBU.out.trans (hb1.mono HBU.out.size)).mono HB0.out.size)⟩
  have d3:decide (y.1<z.1)=false:=by rw[decide_eq_false_iff_not];omega
  by_cases h4:z.1=y.1
  case neg=>
   have HBP:Hid (bp=true):=hI_ aN_;have d4:(z.1==y.1)=false:=by rw[beq_eq_false_iff_ne];exact h4
   go_wp2
   refine qoH ?_;repeat(go_big_quiet_step (fail))
   refine wq_ fun w1 hb1=>?_;clear hup;go_wp2
   go_roundw
   case rel=>exact⟨k+1,a_,t_,qbh HNO.out a1_,HBU.out.trans (hb1.mono HBU.out.size)⟩
   case measure=>simp[intOf];omega
  by_cases h5:y.2≤z.2
  · have HBP:Hid (bp=false):=hI_ aN_;go_wp2
    refine qoH ?_;repeat(go_big_quiet_step (fail))
    refine wq_ fun w1 hb1=>?_;clear hup;go_wp2
    go_ret;exact⟨qaM (qcp hlt a1_).symm,HB0.out.trans ((HBU.out.trans (hb1.mono HBU.out.size)).mono HB0.out.size)⟩
  have d5:decide (y.2≤z.2)=false:=by rw[decide_eq_false_iff_not];omega
  have HBP:Hid (bp=true):=hI_ aN_;go_wp2
  refine qoH ?_;repeat(go_big_quiet_step (fail))
  refine wq_ fun w1 hb1=>?_;clear hup;go_wp2
  go_roundw
  case rel=>exact⟨k+1,a_,t_,qbh HNO.out a1_,HBU.out.trans (hb1.mono HBU.out.size)⟩
  case measure=>simp[intOf];omega
end Go.Proofs.YtekaaekpdebloaaGreatDoor
